/- Shapes: what the program computes as 'surely ahead' is the document's. -/
import Derived.Test.YtcoelecaigkfcaaPureK3
namespace Go.Proofs.Ytcoelecaigkfcaa.Pure
open Go.RowKit Go.Proofs.Ytcoelecaigkfcaa.K Go.Proofs.YtcoelecaigkfcaaW.PrintWords Go.Proofs.YtcoelecaigkfcaaW.PrintLast
section
variable {E : List S38} {S : List Int}
def prE (E : List S38) (i : Nat) : Int := (rd_T38 E (i : Int)).f0
def stS (S : List Int) (p : Int) : Int := rd S p
theorem good_of_valid (v : Valid E S) : Good E.length (prE E) (stS S) := by
  refine ⟨fun i hi => (v.okL i hi).pr0, fun i j hij hj => ?_, fun i hi h0 => ?_⟩
  · have key : ∀ d, i + d < E.length → prE E i ≤ prE E (i + d) := by
      intro d
      induction d with
      | zero => intro _; exact Int.le_refl _
      | succ d ih =>
        intro h
        have a := ih (by omega)
        have b := (v.okL (i + (d + 1)) h).ord (by omega)
        have e : i + (d + 1) - 1 = i + d := by omega
        rw [e] at b
        unfold prE at a ⊢
        omega
    have := key (j - i) (by omega)
    rwa [show i + (j - i) = j by omega] at this
  · have o := v.okL i hi
    have hp : prE E i = (((prE E i).toNat : Nat) : Int) := (Int.toNat_of_nonneg o.pr0).symm
    have hs := v.okS (prE E i).toNat (by have := o.prS; have := o.pr0; unfold prE; omega)
    have e : sg S (prE E i).toNat = stS S (prE E i) := rfl
    unfold OkS at hs
    rw [e] at hs
    rcases hs with hs | ⟨a, b, c, d⟩
    · omega
    · refine ⟨b, ?_⟩
      have hst : stS S (prE E i) = (((stS S (prE E i)).toNat : Nat) : Int) := (Int.toNat_of_nonneg a).symm
      rw [hst] at c d
      have := ((v.okL (stS S (prE E i)).toNat (by omega)).go c).1
      unfold prE at *
      omega
/-- An edge, as the program sets it. -/
def ed (E : List S38) (S : List Int) (i j : Nat) : Bool := if (rd_T38 E (i : Int)).f0 = (rd_T38 E (j : Int)).f0 then (if i < j then true else (rd S (rd_T38 E (j : Int)).f0 == (i : Int))) else (rd S (rd_T38 E (j : Int)).f0 == (i : Int))
theorem ed_edge {i j : Nat} (hj : j < E.length) : ed E S i j = true ↔ Edge E.length (prE E) (stS S) i j := by
  unfold ed Edge prE stS
  by_cases c1 : (rd_T38 E (i : Int)).f0 = (rd_T38 E (j : Int)).f0
  · rw [if_pos c1]
    by_cases c2 : i < j
    · rw [if_pos c2]
      exact ⟨fun _ => ⟨hj, .inl ⟨c1, c2⟩⟩, fun _ => rfl⟩
    · rw [if_neg c2]
      simp only [beq_iff_eq]
      exact ⟨fun h => ⟨hj, .inr h⟩, fun h => h.2.elim (fun x => absurd x.2 c2) id⟩
  · rw [if_neg c1]
    simp only [beq_iff_eq]
    exact ⟨fun h => ⟨hj, .inr h⟩, fun h => h.2.elim (fun x => absurd x.1 c1) id⟩
theorem g_put2 {M : List (List Bool)} (i j : Nat) (v : Bool) (hi : i < M.length) (hj : j < (row M i).length) (a b : Nat) : g (put M i j v) a b = if a = i ∧ b = j then v else g M a b := by
  unfold g Pure.put
  rw [row_set M i a _ hi]
  by_cases e : a = i
  · subst e
    rw [if_pos rfl, getD_set _ j b v hj]
    by_cases e2 : b = j
    · simp [e2]
    · simp [e2]
  · rw [if_neg e, if_neg (fun h => e h.1)]
theorem row_put {M : List (List Bool)} (i j : Nat) (v : Bool) (hi : i < M.length) (a : Nat) : (row (put M i j v) a).length = (row M a).length := by
  unfold Pure.put
  rw [row_set M i a _ hi]
  by_cases e : a = i
  · rw [if_pos e, List.length_set, e]
  · rw [if_neg e]
theorem a1_step (v : Valid E S) {M : List (List Bool)} {i j : Nat} (hj : j < E.length) (hi : i < M.length) (hR : j < (row M i).length) (f : Nat) (a b c : Int) :
    shape_Ahead.l1 (f + 1) M i E E.length i E E.length j E S (rd_T38 E (i : Int)).f0 a b c = shape_Ahead.l1 f (put M i j (ed E S i j)) i E E.length i E E.length ((j + 1 : Nat) : Int) E S (rd_T38 E (i : Int)).f0 a b c := by
  have o := v.okL j hj
  have o1 := o.pr0
  have o2 := o.prS
  have n40 := v.n40
  have e1 := wrap_up hj (by omega : E.length ≤ 60)
  have hr : rd_L3 M (i : Int) = row M i := rfl
  simp only [shape_Ahead.l1, e1]
  rw [if_pos (by omega), if_pos (by omega), if_pos (by omega), if_pos (by omega), if_pos (by omega)]
  unfold Pure.put ed
  by_cases c1 : (rd_T38 E (i : Int)).f0 = (rd_T38 E (j : Int)).f0
  · rw [if_pos c1, if_pos c1]
    by_cases c2 : i < j
    · rw [if_pos c2, if_pos (by omega), if_pos (by rw [hr]; omega)]
      rfl
    · rw [if_neg c2, if_neg (by omega), if_pos o1, if_pos o2, if_pos (by rw [hr]; omega)]
      rfl
  · rw [if_neg c1, if_neg c1, if_pos o1, if_pos o2, if_pos (by rw [hr]; omega)]
    rfl
structure Part (E : List S38) (S : List Int) (M : List (List Bool)) (i : Nat) : Prop where
  len : M.length = E.length
  rows : ∀ a, a < i → (row M a).length = E.length
  eds : ∀ a b, a < i → b < E.length → g M a b = ed E S a b
theorem a1_from (v : Valid E S) {i : Nat} (hi : i < E.length) (x y z : Int) : ∀ (d j : Nat) (M : List (List Bool)), j + d = E.length → Part E S M i → (row M i).length = E.length → (∀ b, b < j → g M i b = ed E S i b) →
    ∃ M', Part E S M' (i + 1) ∧ ∀ r, Ev (fun f => shape_Ahead.l0 f M' E E.length ((i + 1 : Nat) : Int) E S) r → Ev (fun f => shape_Ahead.l1 f M i E E.length i E E.length j E S (rd_T38 E (i : Int)).f0 x y z) r := by
  intro d
  induction d with
  | zero =>
    intro j M hj h hl hb
    refine ⟨M, ⟨h.len, fun a ha => ?_, fun a b ha hb' => ?_⟩, fun r hr => Ev.step (f := fun f => shape_Ahead.l0 f M E E.length ((i + 1 : Nat) : Int) E S) (fun f => ?_) hr⟩
    · rcases Nat.lt_succ_iff_lt_or_eq.1 ha with ha | rfl
      · exact h.rows a ha
      · exact hl
    · rcases Nat.lt_succ_iff_lt_or_eq.1 ha with ha | rfl
      · exact h.eds a b ha hb'
      · exact hb b (by omega)
    · have n40 := v.n40
      have e1 := wrap_up hi (by omega : E.length ≤ 60)
      simp only [shape_Ahead.l1, e1]
      rw [if_neg (by omega)]
  | succ d ih =>
    intro j M hj h hl hb
    have hj' : j < E.length := by omega
    have hM : i < M.length := by rw [h.len]; exact hi
    obtain ⟨M', h1, h2⟩ := ih (j + 1) (put M i j (ed E S i j)) (by omega) ⟨by unfold Pure.put; rw [List.length_set, h.len], fun a ha => by rw [row_put i j _ hM, h.rows a ha], fun a b ha hb' => by rw [g_put2 i j _ hM (by omega), if_neg (by omega), h.eds a b ha hb']⟩ (by rw [row_put i j _ hM, hl]) (fun b hb' => by
      rw [g_put2 i j _ hM (by omega)]
      by_cases e : b = j
      · rw [if_pos ⟨rfl, e⟩, e]
      · rw [if_neg (fun h => e h.2), hb b (by omega)])
    exact ⟨M', h1, fun r hr => Ev.step (fun f => a1_step v hj' hM (by omega) f x y z) (h2 r hr)⟩
theorem a0_from (v : Valid E S) : ∀ (d i : Nat) (M : List (List Bool)), i + d = E.length → Part E S M i →
    ∃ M', Sq E.length M' ∧ (∀ a b, a < E.length → b < E.length → g M' a b = ed E S a b) ∧ ∀ r, Ev (fun f => rank_Closure.f f M') r → Ev (fun f => shape_Ahead.l0 f M E E.length i E S) r := by
  have n40 := v.n40
  intro d
  induction d with
  | zero =>
    intro i M hi h
    obtain rfl : i = E.length := by omega
    refine ⟨M, ⟨h.len, h.rows⟩, h.eds, fun r hr => Ev.step (f := fun f => rank_Closure.f f M) (fun f => ?_) hr⟩
    simp only [shape_Ahead.l0]
    rw [if_neg (by omega)]
    simp
  | succ d ih =>
    intro i M hi h
    have hi' : i < E.length := by omega
    have hM : i < M.length := by rw [h.len]; exact hi'
    obtain ⟨M1, a1, a2⟩ := a1_from v hi' (rd_T38 E (i : Int)).f1 (rd_T38 E (i : Int)).f2 (rd_T38 E (i : Int)).f3 E.length 0 (M.set i (List.replicate E.length false)) (by omega)
      ⟨by rw [List.length_set, h.len], fun a ha => by rw [row_set M i a _ hM, if_neg (by omega), h.rows a ha], fun a b ha hb => by unfold g; rw [row_set M i a _ hM, if_neg (by omega)]; exact h.eds a b ha hb⟩
      (by rw [row_set M i i _ hM, if_pos rfl, List.length_replicate]) (fun b hb => absurd hb (by omega))
    obtain ⟨M', b1, b2, b3⟩ := ih (i + 1) M1 (by omega) a1
    refine ⟨M', b1, b2, fun r hr => Ev.step (fun f => ?_) (a2 r (b3 r hr))⟩
    simp only [shape_Ahead.l0]
    rw [if_pos (by omega), if_pos (by omega), if_pos (by omega), if_pos (by omega), if_pos (by omega), if_pos (by omega)]
    rfl
theorem ahead_ev (v : Valid E S) : ∃ A, Ev (fun f => shape_Ahead.f f E S) A ∧ Sq E.length A ∧ ∀ a b, a < E.length → b < E.length → (g A a b = true ↔ Ah E.length (prE E) (stS S) a b) := by
  have n40 := v.n40
  have gd := good_of_valid v
  obtain ⟨M, m1, m2, m3⟩ := a0_from v E.length 0 (List.replicate E.length []) (by omega) ⟨List.length_replicate, fun a ha => absurd ha (by omega), fun a b ha _ => absurd ha (by omega)⟩
  obtain ⟨A, c1, c2, c3, c4⟩ := closure_ev n40 m1
  refine ⟨A, ?_, c2, fun a b ha hb => ⟨fun h => ?_, fun h => ?_⟩⟩
  · refine Ev.congr (f := fun f => (shape_Check.f f E S).bind fun t128 => (if t128 = 0 then (if 0 ≤ (E.length : Int) then (if ((E.length : Int) : Int).toNat ≤ 11728124029610 then (shape_Ahead.l0 f (List.replicate ((E.length : Int) : Int).toNat []) E (E.length : Int) 0 E S) else (none)) else (none)) else (some ([] : List (List Bool))))) (fun f => rfl) ?_
    refine Ev.bind (check_ev.1 v) ?_
    refine Ev.congr (f := fun f => shape_Ahead.l0 f (List.replicate E.length []) E (E.length : Int) ((0 : Nat) : Int) E S) (fun f => ?_) (m3 A c1)
    rw [if_pos rfl, if_pos (by omega), if_pos (by omega)]
    rfl
  · refine c4 (Ah E.length (prE E) (stS S)) (fun _ _ _ x y => x.trans gd y) (fun a b h => ?_) a b h
    obtain ⟨x, y⟩ := g_range m1 h
    rw [m2 a b x y] at h
    exact ((ed_edge y).1 h).ah gd
  · refine c3 a b ha hb ?_
    have := Ah.reach (T := fun i j => i < E.length ∧ j < E.length ∧ P (fun i j => g M i j = true) E.length i j) (fun i j h => ?_) (fun i m j x y => ⟨x.1, y.2.1, P_trans E.length m y.1 i j x.2.2 y.2.2⟩) h
    · exact this.2.2
    · have hi : i < E.length := by
        have := (h.ah gd).lt gd
        have := h.1
        omega
      refine ⟨hi, h.1, P_edge ?_ _⟩
      rw [m2 i j hi h.1]
      exact (ed_edge h.1).2 h
end
end Go.Proofs.Ytcoelecaigkfcaa.Pure
