/- Shapes: the document's answers, and the program's lists. -/
import Derived.Test.YtcoelecaigkfcaaPureK5
import Derived.Test.YtcoelecaigkfcaaKx9
import Derived.Test.YtcoelecaigkfcaaKx10
import Derived.Test.YtcoelecaigkfcaaKx11
import Derived.Test.YtcoelecaigkfcaaKx12
namespace Go.Proofs.Ytcoelecaigkfcaa.Pure
open Go.RowKit Go.Proofs.Ytcoelecaigkfcaa.K Go.Proofs.YtcoelecaigkfcaaW.PrintWords Go.Proofs.YtcoelecaigkfcaaW.PrintLast
section
variable {E : List S38} {S : List Int}
/-- The document's Ahead, read off. -/
theorem ref_ahead (v : Valid E S) {a : Nat} (ha : a < E.length) : ∀ N b : Nat, b < N → b < E.length → ∃ x, Ev (fun f => fathomref27_Ahead.f f E S a b) x ∧ (x = true ↔ Ah E.length (prE E) (stS S) a b) := by
  intro N
  induction N with
  | zero => intro b hb; omega
  | succ N ih =>
    intro b hbN hb
    have gd := good_of_valid v
    have o := v.okL b hb
    have o1 := o.pr0
    have o2 := o.prS
    by_cases c1 : (rd_T38 E (a : Int)).f0 = (rd_T38 E (b : Int)).f0
    · refine ⟨decide (a < b), Ev.step (f := fun _ => some (decide (a < b))) (fun f => ?_) (Ev.now _), ?_⟩
      · simp only [fathomref27_Ahead.f]
        rw [if_pos (by omega), if_pos (by omega), if_pos (by omega), if_pos (by omega), if_pos c1]
        congr 1
        exact decide_eq_decide.2 (by omega)
      · rw [decide_eq_true_eq]
        exact ⟨fun h => .same h hb c1, fun h => (h.lt gd).1⟩
    · have c1' : prE E a ≠ prE E b := c1
      by_cases c2 : rd S (rd_T38 E (b : Int)).f0 ≥ 0
      · obtain ⟨s1, s2⟩ := gd.starts b hb c2
        have es : rd S (rd_T38 E (b : Int)).f0 = (((stS S (prE E b)).toNat : Nat) : Int) := (Int.toNat_of_nonneg c2).symm
        generalize hm : (stS S (prE E b)).toNat = m at es s2
        have hm' : stS S (prE E b) = (m : Int) := es
        have hmn : m < E.length := by rw [hm'] at s1; omega
        have hmb : m < b := by
          rcases Nat.lt_or_ge m b with h | h
          · exact h
          · rcases Nat.eq_or_lt_of_le h with e | h
            · subst e; omega
            · have := gd.rise b m h hmn; omega
        by_cases c3 : m = a
        · refine ⟨true, Ev.step (f := fun _ => some true) (fun f => ?_) (Ev.now _), ?_⟩
          · simp only [fathomref27_Ahead.f]
            rw [if_pos (by omega), if_pos (by omega), if_pos (by omega), if_pos (by omega), if_neg c1, if_pos o1, if_pos o2, if_pos c2, if_pos (by omega)]
          · exact ⟨fun _ => .go hb c1' (by rw [hm', c3]), fun _ => rfl⟩
        · obtain ⟨x, hx, hx2⟩ := ih m (by omega) hmn
          refine ⟨x, Ev.step (f := fun f => (fathomref27_Ahead.f f E S a m).bind fun t => some t) (fun f => ?_) (Ev.bind hx (Ev.now _)), hx2.trans ⟨fun h => .far hb c1' hm' h, fun h => ?_⟩⟩
          · simp only [fathomref27_Ahead.f]
            rw [if_pos (by omega), if_pos (by omega), if_pos (by omega), if_pos (by omega), if_neg c1, if_pos o1, if_pos o2, if_pos c2, if_neg (by omega), es]
          · cases h with
            | same _ _ e => exact absurd e c1'
            | go _ _ e => rw [hm'] at e; omega
            | @far _ m' _ _ e h' =>
              have : m' = m := by rw [hm'] at e; omega
              rwa [this] at h'
      · refine ⟨false, Ev.step (f := fun _ => some false) (fun f => ?_) (Ev.now _), ?_⟩
        · simp only [fathomref27_Ahead.f]
          rw [if_pos (by omega), if_pos (by omega), if_pos (by omega), if_pos (by omega), if_neg c1, if_pos o1, if_pos o2, if_neg c2]
        · refine ⟨fun h => (by cases h), fun h => ?_⟩
          exfalso
          cases h with
          | same _ _ e => exact c1' e
          | go _ _ e => exact c2 (by have : stS S (prE E b) = rd S (rd_T38 E (b : Int)).f0 := rfl; omega)
          | far _ _ e _ => exact c2 (by have : stS S (prE E b) = rd S (rd_T38 E (b : Int)).f0 := rfl; omega)
/-- A square that tells what is surely ahead. -/
structure Tells (E : List S38) (S : List Int) (A : List (List Bool)) : Prop where
  sq : Sq E.length A
  iff : ∀ a b, a < E.length → b < E.length → (g A a b = true ↔ Ah E.length (prE E) (stS S) a b)
theorem Tells.ref (v : Valid E S) {A : List (List Bool)} (t : Tells E S A) {a b : Nat} (ha : a < E.length) (hb : b < E.length) : Ev (fun f => fathomref27_Ahead.f f E S a b) (g A a b) := by
  obtain ⟨x, hx, h⟩ := ref_ahead v ha (b + 1) b (by omega) hb
  have e : x = g A a b := by
    have := h.trans (t.iff a b ha hb).symm
    cases x <;> cases hg : g A a b <;> simp_all
  rwa [e] at hx
/-! ### What feeds -/
def fd (a b : Int) : Bool := (fathomref27_Feeds.f a b).getD false
theorem fd_ref (a b : Int) : fathomref27_Feeds.f a b = some (fd a b) := by
  unfold fd fathomref27_Feeds.f
  repeat' split
  all_goals rfl
theorem fd_ev (a b : Int) : Ev (fun f => shape_feeds.f f a b) (fd a b) := by
  have hj : ∀ (c : Bool) (r : Bool), ((if c = true then (if a = 4 then (some true) else (if a = 5 then (some true) else (some (a == 6)))) else (if b = 10 then (some (a == 9)) else (some false))) = some r) → Ev (fun f => shape_feeds.j0 f a b c) r := by
    intro c r h
    refine Ev.step (f := fun _ => some r) (fun f => ?_) (Ev.now _)
    simp only [shape_feeds.j0]
    exact h
  have hr := fd_ref a b
  unfold fathomref27_Feeds.f at hr
  unfold shape_feeds.f
  by_cases c1 : b = 1
  · simp only [if_pos c1] at hr ⊢
    rw [hr]
    exact Ev.now _
  · simp only [if_neg c1] at hr ⊢
    by_cases c3 : b = 3
    · simp only [if_pos c3] at hr ⊢
      rw [if_neg (by omega)] at hr
      refine hj _ _ ?_
      rw [beq_iff_eq.2 c3, if_pos rfl]
      exact hr
    · simp only [if_neg c3] at hr ⊢
      by_cases c5 : b = 5
      · simp only [if_pos c5] at hr ⊢
        rw [if_neg (by omega)] at hr
        refine hj _ _ ?_
        rw [beq_iff_eq.2 c5, if_pos rfl]
        exact hr
      · simp only [if_neg c5] at hr ⊢
        refine hj _ _ ?_
        by_cases c6 : b = 6
        · rw [beq_iff_eq.2 c6, if_pos rfl]
          rw [if_neg (by omega), if_pos c6] at hr
          exact hr
        · have : (b == 6) = false := by simpa using c6
          rw [this, if_neg (by decide)]
          rw [if_neg c6] at hr
          exact hr
/-! ### Sources -/
def sv (E : List S38) (A : List (List Bool)) (e i : Nat) : Bool := ! decide (i = e) && (decide ((rd_T38 E (i : Int)).f3 = (rd_T38 E (e : Int)).f3) && (fd (rd_T38 E (i : Int)).f2 (rd_T38 E (e : Int)).f2 && ! g A e i))
def svs (E : List S38) (A : List (List Bool)) (e d j : Nat) : List Int := ((List.range' j d).filter (sv E A e)).map (fun x : Nat => (x : Int))
theorem sv_from (n40 : E.length ≤ 40) {A : List (List Bool)} (h : Sq E.length A) {e : Nat} (he : e < E.length) : ∀ (d j : Nat) (acc : List Int), j + d = E.length → acc.length ≤ j →
    Ev (fun f => shape_Sources.l0 f e acc A E E.length j E S) (acc ++ svs E A e d j) := by
  have hre : (rd_L3 A (e : Int)).length = E.length := h.rows e he
  have hl := h.len
  intro d
  induction d with
  | zero =>
    intro j acc hj ha
    refine Ev.step (f := fun _ => some (acc ++ svs E A e 0 j)) (fun f => ?_) (Ev.now _)
    simp only [shape_Sources.l0]
    rw [if_neg (by omega)]
    simp [svs]
  | succ d ih =>
    intro j acc hj ha
    have hj' : j < E.length := by omega
    have e1 := wrap_up hj' (by omega : E.length ≤ 60)
    have eq : ∀ b : Bool, sv E A e j = b → acc ++ svs E A e (d + 1) j = (if b = true then acc ++ [(j : Int)] else acc) ++ svs E A e d (j + 1) := by
      rintro b rfl
      unfold svs
      rw [List.range'_succ]
      by_cases c : sv E A e j = true
      · rw [if_pos c, List.filter_cons_of_pos c, List.map_cons, List.append_assoc]; rfl
      · rw [if_neg c, List.filter_cons_of_neg c]
    have hno := ih (j + 1) acc (by omega) (by omega)
    by_cases c1 : j = e
    · rw [eq false (by unfold sv; rw [decide_eq_true c1]; rfl)]
      refine Ev.step (f := fun f => shape_Sources.l0 f e acc A E E.length ((j + 1 : Nat) : Int) E S) (fun f => ?_) hno
      simp only [shape_Sources.l0, e1]
      rw [if_pos (by omega), if_pos (by omega), if_pos (by omega), if_pos (by omega)]
    · by_cases c2 : (rd_T38 E (j : Int)).f3 = (rd_T38 E (e : Int)).f3
      · refine Ev.step (f := fun f => (shape_feeds.f f ((rd_T38 E (j : Int)).f2) ((rd_T38 E (e : Int)).f2)).bind fun t237 => (if t237 = true then (if (e : Int) < (A.length : Int) then (if (j : Int) < ((rd_L3 A (e : Int)).length : Int) then (if (rdOf false (rd_L3 A (e : Int)) (j : Int) = true) then (shape_Sources.l0 f e acc A E E.length ((j + 1 : Nat) : Int) E S) else (if acc.length < 17592186044416 then (shape_Sources.l0 f e (acc ++ [(j : Int)]) A E E.length ((j + 1 : Nat) : Int) E S) else (none))) else (none)) else (none)) else (shape_Sources.l0 f e acc A E E.length ((j + 1 : Nat) : Int) E S))) (fun f => ?_) ?_
        · simp only [shape_Sources.l0, e1]
          rw [if_pos (by omega), if_pos (by omega), if_pos (by omega), if_neg (by omega), if_pos (by omega), if_pos (by omega), if_pos c2]
        · refine Ev.bind (fd_ev _ _) ?_
          have gej : rdOf false (rd_L3 A (e : Int)) (j : Int) = g A e j := rfl
          by_cases c3 : fd (rd_T38 E (j : Int)).f2 (rd_T38 E (e : Int)).f2 = true
          · by_cases c4 : g A e j = true
            · rw [eq false (by unfold sv; rw [c4]; simp)]
              refine Ev.congr (f := fun f => shape_Sources.l0 f e acc A E E.length ((j + 1 : Nat) : Int) E S) (fun f => ?_) hno
              rw [if_pos c3, if_pos (by omega), if_pos (by omega), gej, if_pos c4]
            · rw [eq true (by unfold sv; rw [decide_eq_false c1, decide_eq_true c2, c3]; simpa using c4)]
              refine Ev.congr (f := fun f => shape_Sources.l0 f e (acc ++ [(j : Int)]) A E E.length ((j + 1 : Nat) : Int) E S) (fun f => ?_) (ih (j + 1) _ (by omega) (by rw [List.length_append, List.length_singleton]; omega))
              rw [if_pos c3, if_pos (by omega), if_pos (by omega), gej, if_neg c4, if_pos (by omega)]
          · rw [eq false (by unfold sv; simp [c3])]
            refine Ev.congr (f := fun f => shape_Sources.l0 f e acc A E E.length ((j + 1 : Nat) : Int) E S) (fun f => ?_) hno
            rw [if_neg c3]
      · rw [eq false (by unfold sv; rw [decide_eq_false c2]; simp)]
        refine Ev.step (f := fun f => shape_Sources.l0 f e acc A E E.length ((j + 1 : Nat) : Int) E S) (fun f => ?_) hno
        simp only [shape_Sources.l0, e1]
        rw [if_pos (by omega), if_pos (by omega), if_pos (by omega), if_neg (by omega), if_pos (by omega), if_pos (by omega), if_neg c2]
end
end Go.Proofs.Ytcoelecaigkfcaa.Pure
