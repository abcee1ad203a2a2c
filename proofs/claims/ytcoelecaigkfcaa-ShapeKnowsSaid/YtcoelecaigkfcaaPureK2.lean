/- Shapes: the program's Check tells just those that may be. -/
import Derived.Test.YtcoelecaigkfcaaPureK1
namespace Go.Proofs.Ytcoelecaigkfcaa.Pure
open Go.RowKit Go.Proofs.Ytcoelecaigkfcaa.K Go.Proofs.YtcoelecaigkfcaaW.PrintWords Go.Proofs.YtcoelecaigkfcaaW.PrintLast
section
variable {E : List S38} {S : List Int}
/-! ### Equal lists -/
theorem equal_from (a b : List Int) (hl : a.length = b.length) (h60 : a.length ≤ 60) : ∀ d i : Nat, i + d = a.length → ((∀ q, i ≤ q → q < a.length → rd a (q : Int) = rd b (q : Int)) → Ev (fun k => slices_Equal_int_int.l0 k a b (a.length : Int) i) true) ∧ (¬ (∀ q, i ≤ q → q < a.length → rd a (q : Int) = rd b (q : Int)) → Ev (fun k => slices_Equal_int_int.l0 k a b (a.length : Int) i) false) := by
  intro d
  induction d with
  | zero =>
    intro i hi
    refine ⟨fun _ => Ev.step (f := fun _ => some true) (fun k => ?_) (Ev.now _), fun h => absurd (fun q x y => by omega) h⟩
    simp only [slices_Equal_int_int.l0]
    rw [if_neg (by omega)]
  | succ d ih =>
    intro i hi
    have e1 := wrap_up (i := i) (n := a.length) (by omega) h60
    obtain ⟨i1, i2⟩ := ih (i + 1) (by omega)
    have hst : ∀ k, slices_Equal_int_int.l0 (k + 1) a b (a.length : Int) i = if rd a (i : Int) = rd b (i : Int) then slices_Equal_int_int.l0 k a b (a.length : Int) ((i + 1 : Nat) : Int) else some false := by
      intro k
      simp only [slices_Equal_int_int.l0, e1]
      rw [if_pos (by omega), if_pos (by omega), if_pos (by omega), if_pos (by omega)]
    by_cases h : rd a (i : Int) = rd b (i : Int)
    · simp only [if_pos h] at hst
      refine ⟨fun hall => Ev.step hst (i1 (fun q x y => hall q (by omega) y)), fun hno => Ev.step hst (i2 (fun hq => hno (fun q x y => ?_)))⟩
      by_cases e : q = i
      · subst e; exact h
      · exact hq q (by omega) y
    · simp only [if_neg h] at hst
      exact ⟨fun hall => absurd (hall i (Nat.le_refl _) (by omega)) h, fun _ => Ev.step (f := fun _ => some false) hst (Ev.now _)⟩
theorem list_ext_rd (a b : List Int) (hl : a.length = b.length) (h : ∀ q, q < a.length → rd a (q : Int) = rd b (q : Int)) : a = b := by
  apply List.ext_getElem hl
  intro i h1 h2
  have := h i h1
  simpa [rd, List.getD_eq_getElem?_getD, List.getElem?_eq_getElem h1, List.getElem?_eq_getElem h2] using this
theorem equal_ev (a b : List Int) (h60 : a.length ≤ 60) : (a = b → Ev (fun k => slices_Equal_int_int.f k a b) true) ∧ (a ≠ b → Ev (fun k => slices_Equal_int_int.f k a b) false) := by
  unfold slices_Equal_int_int.f
  by_cases hl : a.length = b.length
  · simp only [if_pos (show (a.length : Int) = (b.length : Int) by omega)]
    obtain ⟨i1, i2⟩ := equal_from a b hl h60 a.length 0 (by omega)
    exact ⟨fun e => i1 (fun q _ _ => by rw [e]), fun e => i2 (fun hq => e (list_ext_rd a b hl (fun q y => hq q (by omega) y)))⟩
  · simp only [if_neg (show ¬ (a.length : Int) = (b.length : Int) by omega)]
    exact ⟨fun e => absurd (by rw [e]) hl, fun _ => Ev.now _⟩
/-! ### One event -/
structure OkC (E : List S38) (S st : List Int) (pa pb : Int) (i : Nat) : Prop where
  up : pa ≤ (rd_T38 E (i : Int)).f0
  prS : (rd_T38 E (i : Int)).f0 < S.length
  kd1 : 1 ≤ (rd_T38 E (i : Int)).f2
  kd11 : (rd_T38 E (i : Int)).f2 ≤ 11
  go : (rd_T38 E (i : Int)).f2 = 11 → (rd_T38 E (i : Int)).f0 < (rd_T38 E (i : Int)).f3 ∧ (rd_T38 E (i : Int)).f3 < S.length
  other : (rd_T38 E (i : Int)).f2 ≠ 11 → 0 ≤ (rd_T38 E (i : Int)).f3 ∧ (rd_T38 E (i : Int)).f3 < 12
  ins : 0 ≤ (rd_T38 E (i : Int)).f1
  ord : (rd_T38 E (i : Int)).f0 = pa → pb < (rd_T38 E (i : Int)).f1
  new : (rd_T38 E (i : Int)).f2 = 11 → rd st (rd_T38 E (i : Int)).f3 < 0
def nextSt (E : List S38) (st : List Int) (i : Nat) : List Int := if (rd_T38 E (i : Int)).f2 = 11 then st.set (rd_T38 E (i : Int)).f3.toNat i else st
theorem check_step {st : List Int} {pa pb pc pd : Int} {i : Nat} (hi : i < E.length) (hn : E.length ≤ 60) (hs : st.length = S.length) (h0 : 0 ≤ pa) :
    (OkC E S st pa pb i → ∀ k, shape_Check.l1 (k + 3) st E E.length i E S pa pb pc pd = shape_Check.l1 k (nextSt E st i) E E.length ((i + 1 : Nat) : Int) E S (rd_T38 E (i : Int)).f0 (rd_T38 E (i : Int)).f1 (rd_T38 E (i : Int)).f2 (rd_T38 E (i : Int)).f3) ∧
    (¬ OkC E S st pa pb i → ∀ k, shape_Check.l1 (k + 3) st E E.length i E S pa pb pc pd = some 1) := by
  have e1 := wrap_up hi hn
  generalize hx : rd_T38 E (i : Int) = x
  constructor
  · intro h k
    obtain ⟨a1, a2, a3, a4, a5, a6, a7, a8, a9⟩ := h
    rw [hx] at a1 a2 a3 a4 a5 a6 a7 a8 a9
    simp only [shape_Check.l1, shape_Check.j3, shape_Check.j4, e1, hx]
    rw [if_pos (by omega), if_pos (by omega), if_pos (by omega), if_neg (by omega), if_neg (by omega), if_neg (by omega), if_neg (by omega)]
    have hob : shape_object.f E S x.f0 x.f1 x.f2 x.f3 = some true := by
      unfold shape_object.f
      by_cases c : x.f2 = 11
      · rw [if_pos c, if_pos (by have := a5 c; omega), decide_eq_true (by have := a5 c; omega)]
      · rw [if_neg c, if_pos (by have := a6 c; omega), decide_eq_true (by have := a6 c; omega)]
    rw [hob]
    simp only [Option.bind_some, Bool.not_true, Bool.false_eq_true, if_false]
    rw [if_neg (by omega)]
    unfold nextSt
    rw [hx]
    have tail : (if x.f2 = 11 then if 0 ≤ x.f3 then if x.f3 < (st.length : Int) then if rd st x.f3 ≥ 0 then some 1 else shape_Check.l1 k (st.set x.f3.toNat i) E E.length ((i + 1 : Nat) : Int) E S x.f0 x.f1 x.f2 x.f3 else none else none else shape_Check.l1 k st E E.length ((i + 1 : Nat) : Int) E S x.f0 x.f1 x.f2 x.f3) = shape_Check.l1 k (if x.f2 = 11 then st.set x.f3.toNat i else st) E E.length ((i + 1 : Nat) : Int) E S x.f0 x.f1 x.f2 x.f3 := by
      by_cases c : x.f2 = 11
      · have := a5 c
        have := a9 c
        rw [if_pos c, if_pos (by omega), if_pos (by omega), if_neg (by omega), if_pos c]
      · rw [if_neg c, if_neg c]
    by_cases c : x.f0 = pa
    · rw [if_pos c, decide_eq_false (by have := a8 c; omega), if_neg Bool.false_ne_true]
      exact tail
    · rw [if_neg c]
      exact tail
  · intro hno k
    simp only [shape_Check.l1, shape_Check.j3, shape_Check.j4, e1, hx]
    rw [if_pos (by omega), if_pos (by omega), if_pos (by omega)]
    by_cases b1 : x.f0 < pa
    · rw [if_pos b1, if_pos True.intro]
    rw [if_neg b1]
    by_cases b2 : x.f0 ≥ (S.length : Int)
    · rw [if_pos b2, if_pos True.intro]
    rw [if_neg b2]
    by_cases b3 : x.f2 < 1
    · rw [if_pos b3, if_pos True.intro]
    rw [if_neg b3]
    by_cases b4 : x.f2 > 11
    · rw [if_pos b4, if_pos True.intro]
    rw [if_neg b4]
    by_cases b5 : (x.f2 = 11 → x.f0 < x.f3 ∧ x.f3 < S.length) ∧ (x.f2 ≠ 11 → 0 ≤ x.f3 ∧ x.f3 < 12)
    · have hob : shape_object.f E S x.f0 x.f1 x.f2 x.f3 = some true := by
        unfold shape_object.f
        by_cases c : x.f2 = 11
        · rw [if_pos c, if_pos (by have := b5.1 c; omega), decide_eq_true (by have := b5.1 c; omega)]
        · rw [if_neg c, if_pos (by have := b5.2 c; omega), decide_eq_true (by have := b5.2 c; omega)]
      rw [hob]
      simp only [Option.bind_some, Bool.not_true, Bool.false_eq_true, if_false]
      by_cases b6 : x.f1 < 0
      · rw [if_pos b6, if_pos True.intro]
      rw [if_neg b6]
      have tail : (x.f0 = pa → pb < x.f1) → (if x.f2 = 11 then if 0 ≤ x.f3 then if x.f3 < (st.length : Int) then if rd st x.f3 ≥ 0 then some 1 else shape_Check.l1 k (st.set x.f3.toNat i) E E.length ((i + 1 : Nat) : Int) E S x.f0 x.f1 x.f2 x.f3 else none else none else shape_Check.l1 k st E E.length ((i + 1 : Nat) : Int) E S x.f0 x.f1 x.f2 x.f3) = some 1 := by
        intro hord
        by_cases c : x.f2 = 11
        · have := b5.1 c
          rw [if_pos c, if_pos (by omega), if_pos (by omega)]
          by_cases c2 : rd st x.f3 ≥ 0
          · rw [if_pos c2]
          · exact absurd (show OkC E S st pa pb i from ⟨by rw [hx]; omega, by rw [hx]; omega, by rw [hx]; omega, by rw [hx]; omega, by rw [hx]; exact b5.1, by rw [hx]; exact b5.2, by rw [hx]; omega, by rw [hx]; exact hord, by rw [hx]; intro _; omega⟩) hno
        · exact absurd (show OkC E S st pa pb i from ⟨by rw [hx]; omega, by rw [hx]; omega, by rw [hx]; omega, by rw [hx]; omega, by rw [hx]; exact b5.1, by rw [hx]; exact b5.2, by rw [hx]; omega, by rw [hx]; exact hord, by rw [hx]; intro h; exact absurd h c⟩) hno
      by_cases c : x.f0 = pa
      · rw [if_pos c]
        by_cases c2 : x.f1 ≤ pb
        · rw [decide_eq_true c2, if_pos rfl]
        · rw [decide_eq_false c2, if_neg Bool.false_ne_true]
          exact tail (fun _ => by omega)
      · rw [if_neg c]
        exact tail (fun h => absurd h c)
    · have hob : shape_object.f E S x.f0 x.f1 x.f2 x.f3 = some false := by
        unfold shape_object.f
        by_cases c : x.f2 = 11
        · rw [if_pos c]
          by_cases c1 : x.f3 > x.f0
          · rw [if_pos c1, decide_eq_false (fun h => b5 ⟨fun _ => ⟨by omega, h⟩, fun h' => absurd c h'⟩)]
          · rw [if_neg c1]
        · rw [if_neg c]
          by_cases c1 : x.f3 ≥ 0
          · rw [if_pos c1, decide_eq_false (fun h => b5 ⟨fun h' => absurd h' c, fun _ => ⟨by omega, h⟩⟩)]
          · rw [if_neg c1]
      rw [hob]
      simp only [Option.bind_some, Bool.not_false, if_true]
/-! ### All events -/
def GoAt (E : List S38) (j : Nat) (p : Nat) : Prop := (rd_T38 E (j : Int)).f2 = 11 ∧ (rd_T38 E (j : Int)).f3 = p
structure Inv (E : List S38) (S st : List Int) (i : Nat) : Prop where
  len : st.length = S.length
  cell : ∀ p : Nat, p < S.length → (rd st (p : Int) = -1 ∧ ∀ j, j < i → ¬ GoAt E j p) ∨ (∃ j, j < i ∧ rd st (p : Int) = j ∧ GoAt E j p ∧ ∀ j', j' < i → GoAt E j' p → j' = j)
theorem rd_set_same (st : List Int) (p : Nat) (v : Int) (h : p < st.length) : rd (st.set p v) (p : Int) = v := by
  simp [rd, List.getD_eq_getElem?_getD, h]
theorem rd_set_other (st : List Int) (p q : Nat) (v : Int) (h : p ≠ q) : rd (st.set p v) (q : Int) = rd st (q : Int) := by
  simp [rd, List.getD_eq_getElem?_getD, List.getElem?_set_ne h]
theorem inv_next {st : List Int} {pa pb : Int} {i : Nat} (h : Inv E S st i) (hc : OkC E S st pa pb i) (h0 : 0 ≤ pa) : Inv E S (nextSt E st i) (i + 1) := by
  unfold nextSt
  by_cases c : (rd_T38 E (i : Int)).f2 = 11
  · rw [if_pos c]
    have hgo := hc.go c
    have hnew := hc.new c
    have hup := hc.up
    obtain ⟨q, hq⟩ : ∃ q : Nat, (rd_T38 E (i : Int)).f3 = q := ⟨(rd_T38 E (i : Int)).f3.toNat, by omega⟩
    rw [hq] at hnew hgo ⊢
    have hqS : q < S.length := by omega
    refine ⟨by rw [List.length_set, h.len], fun p hp => ?_⟩
    rw [Int.toNat_natCast]
    by_cases e : q = p
    · subst e
      refine .inr ⟨i, by omega, rd_set_same st q i (by rw [h.len]; exact hqS), ⟨c, hq⟩, fun j' hj' hg => ?_⟩
      rcases h.cell q hp with ⟨_, hn⟩ | ⟨j, hj, hv, _, _⟩
      · rcases Nat.lt_succ_iff_lt_or_eq.1 hj' with x | x
        · exact absurd hg (hn j' x)
        · exact x
      · omega
    · rw [rd_set_other st q p i e]
      have hni : ¬ GoAt E i p := by
        rintro ⟨_, h2⟩
        rw [hq] at h2
        exact e (by omega)
      rcases h.cell p hp with ⟨hv, hn⟩ | ⟨j, hj, hv, hg, hu⟩
      · refine .inl ⟨hv, fun j hj => ?_⟩
        rcases Nat.lt_succ_iff_lt_or_eq.1 hj with x | x
        · exact hn j x
        · subst x; exact hni
      · refine .inr ⟨j, by omega, hv, hg, fun j' hj' hg' => ?_⟩
        rcases Nat.lt_succ_iff_lt_or_eq.1 hj' with x | x
        · exact hu j' x hg'
        · subst x; exact absurd hg' hni
  · rw [if_neg c]
    refine ⟨h.len, fun p hp => ?_⟩
    have hni : ¬ GoAt E i p := fun h => c h.1
    rcases h.cell p hp with ⟨hv, hn⟩ | ⟨j, hj, hv, hg, hu⟩
    · refine .inl ⟨hv, fun j hj => ?_⟩
      rcases Nat.lt_succ_iff_lt_or_eq.1 hj with x | x
      · exact hn j x
      · subst x; exact hni
    · refine .inr ⟨j, by omega, hv, hg, fun j' hj' hg' => ?_⟩
      rcases Nat.lt_succ_iff_lt_or_eq.1 hj' with x | x
      · exact hu j' x hg'
      · subst x; exact absurd hg' hni
structure Prev (E : List S38) (pa pb : Int) (i : Nat) : Prop where
  first : i = 0 → pa = 0 ∧ pb = -1
  later : 0 < i → pa = (rd_T38 E ((i - 1 : Nat) : Int)).f0 ∧ pb = (rd_T38 E ((i - 1 : Nat) : Int)).f1
theorem okL_of_okC {st : List Int} {pa pb : Int} {i : Nat} (hc : OkC E S st pa pb i) (hp : Prev E pa pb i) (h0 : 0 ≤ pa) : OkL E S i := by
  have h1 := hc.up
  refine ⟨by omega, hc.prS, hc.ins, hc.kd1, hc.kd11, ?_, fun hi => ?_, hc.go, fun h => (hc.other h).2⟩
  · by_cases c : (rd_T38 E (i : Int)).f2 = 11
    · have := hc.go c; omega
    · exact (hc.other c).1
  · obtain ⟨e1, e2⟩ := hp.later hi
    rw [← e1, ← e2]
    by_cases e : (rd_T38 E (i : Int)).f0 = pa
    · exact .inr ⟨e.symm, hc.ord e⟩
    · exact .inl (by omega)
theorem okC_of_valid {st : List Int} {pa pb : Int} {i : Nat} (v : Valid E S) (hi : i < E.length) (h : Inv E S st i) (hp : Prev E pa pb i) : OkC E S st pa pb i := by
  have hl := v.okL i hi
  have a1 := hl.pr0
  have a2 := hl.ins
  have hup : pa ≤ (rd_T38 E (i : Int)).f0 ∧ ((rd_T38 E (i : Int)).f0 = pa → pb < (rd_T38 E (i : Int)).f1) := by
    rcases Nat.eq_zero_or_pos i with z | z
    · obtain ⟨e1, e2⟩ := hp.first z
      exact ⟨by omega, fun _ => by omega⟩
    · obtain ⟨e1, e2⟩ := hp.later z
      have := hl.ord z
      rw [← e1, ← e2] at this
      exact ⟨by omega, fun _ => by omega⟩
  refine ⟨hup.1, hl.prS, hl.kd1, hl.kd11, hl.go, fun h => ⟨hl.ob0, hl.other h⟩, hl.ins, hup.2, fun c => ?_⟩
  have hgo := hl.go c
  have hb := hl.ob0
  obtain ⟨q, hq⟩ : ∃ q : Nat, (rd_T38 E (i : Int)).f3 = q := ⟨(rd_T38 E (i : Int)).f3.toNat, by omega⟩
  rw [hq] at hgo ⊢
  rcases h.cell q (by omega) with ⟨hv, _⟩ | ⟨j, hj, hv, hg, _⟩
  · omega
  · have e1 := v.okG j (by omega) hg.1
    have e2 := v.okG i hi c
    rw [hg.2] at e1
    rw [hq] at e2
    omega
theorem check_from (hn : E.length ≤ 40) (hS1 : 1 ≤ S.length) (hS : S.length ≤ 6) : ∀ (d i : Nat) (st : List Int) (pa pb pc pd : Int), i + d = E.length → Inv E S st i → (∀ j, j < i → OkL E S j) → Prev E pa pb i → 0 ≤ pa →
    (Valid E S → Ev (fun k => shape_Check.l1 k st E E.length i E S pa pb pc pd) 0) ∧ (¬ Valid E S → Ev (fun k => shape_Check.l1 k st E E.length i E S pa pb pc pd) 1) := by
  intro d
  induction d with
  | zero =>
    intro i st pa pb pc pd hi hinv hok hprev h0
    have hin : i = E.length := by omega
    have hst : ∀ k, shape_Check.l1 (k + 1) st E E.length i E S pa pb pc pd = (slices_Equal_int_int.f k st S).bind fun t => if t = true then some 0 else some 1 := by
      intro k
      simp only [shape_Check.l1]
      rw [if_neg (by omega)]
    obtain ⟨i1, i2⟩ := equal_ev st S (by rw [hinv.len]; omega)
    constructor
    · intro v
      have e : st = S := by
        refine list_ext_rd st S hinv.len (fun p hp => ?_)
        rw [hinv.len] at hp
        rcases hinv.cell p hp with ⟨hv, hno⟩ | ⟨j, hj, hv, hg, _⟩
        · rw [hv]
          rcases v.okS p hp with x | ⟨x1, x2, x3, x4⟩
          · exact x.symm
          · refine absurd ?_ (hno (sg S p).toNat (by omega))
            unfold GoAt
            rw [Int.toNat_of_nonneg x1]
            exact ⟨x3, x4⟩
        · rw [hv]
          have := v.okG j (by omega) hg.1
          rw [hg.2] at this
          exact this.symm
      refine Ev.step hst (Ev.bind (f := fun _ t => if t = true then some 0 else some 1) (i1 e) ?_)
      exact Ev.now _
    · intro hv
      have e : st ≠ S := by
        intro e
        subst e
        refine hv ⟨hn, hS1, hS, fun j hj => hok j (by omega), fun j hj hgo => ?_, fun p hp => ?_⟩
        · have hl := hok j (by omega)
          have h3 := hl.go hgo
          have h4 := hl.ob0
          obtain ⟨q, hq⟩ : ∃ q : Nat, (rd_T38 E (j : Int)).f3 = q := ⟨(rd_T38 E (j : Int)).f3.toNat, by omega⟩
          rw [hq] at h3 ⊢
          rcases hinv.cell q (by omega) with ⟨_, hno⟩ | ⟨j', hj', hv', _, hu⟩
          · exact absurd ⟨hgo, hq⟩ (hno j (by omega))
          · rw [hv', hu j (by omega) ⟨hgo, hq⟩]
        · rcases hinv.cell p hp with ⟨hv', _⟩ | ⟨j, hj, hv', hg, _⟩
          · exact .inl hv'
          · have hv'' : sg st p = j := hv'
            refine .inr ⟨by omega, by omega, ?_, ?_⟩
            · rw [hv'']; exact hg.1
            · rw [hv'']; exact hg.2
      refine Ev.step hst (Ev.bind (f := fun _ t => if t = true then some 0 else some 1) (i2 e) ?_)
      exact Ev.now _
  | succ d ih =>
    intro i st pa pb pc pd hi hinv hok hprev h0
    obtain ⟨s1, s2⟩ := check_step (E := E) (S := S) (st := st) (pa := pa) (pb := pb) (pc := pc) (pd := pd) (i := i) (by omega) (by omega) hinv.len h0
    by_cases hc : OkC E S st pa pb i
    · have hl := okL_of_okC hc hprev h0
      obtain ⟨i1, i2⟩ := ih (i + 1) (nextSt E st i) (rd_T38 E (i : Int)).f0 (rd_T38 E (i : Int)).f1 (rd_T38 E (i : Int)).f2 (rd_T38 E (i : Int)).f3 (by omega) (inv_next hinv hc h0) (fun j hj => by
        rcases Nat.lt_succ_iff_lt_or_eq.1 hj with x | x
        · exact hok j x
        · subst x; exact hl) ⟨fun h => by omega, fun _ => ⟨rfl, rfl⟩⟩ hl.pr0
      exact ⟨fun v => Ev.step3 (s1 hc) (i1 v), fun v => Ev.step3 (s1 hc) (i2 v)⟩
    · exact ⟨fun v => absurd (okC_of_valid v (by omega) hinv hprev) hc, fun _ => Ev.step3 (f := fun _ => some 1) (s2 hc) (Ev.now _)⟩
theorem fill_from (hS : S.length ≤ 6) (r : Int) : ∀ d i : Nat, i + d = S.length → Ev (fun k => shape_Check.l1 k (List.replicate S.length (-1)) E E.length 0 E S 0 (-1) 0 0) r → Ev (fun k => shape_Check.l0 k (List.replicate i (-1) ++ List.replicate d 0) S.length i E S) r := by
  intro d
  induction d with
  | zero =>
    intro i hi h
    refine Ev.step (f := fun k => shape_Check.l1 k (List.replicate S.length (-1)) E E.length 0 E S 0 (-1) 0 0) (fun k => ?_) h
    simp only [shape_Check.l0]
    rw [if_neg (by omega), show i = S.length by omega]
    simp
  | succ d ih =>
    intro i hi h
    refine Ev.step (f := fun k => shape_Check.l0 k (List.replicate (i + 1) (-1) ++ List.replicate d 0) S.length ((i + 1 : Nat) : Int) E S) (fun k => ?_) (ih (i + 1) (by omega) h)
    have e1 := wrap_up (i := i) (n := S.length) (by omega) (by omega)
    simp only [shape_Check.l0, e1]
    rw [if_pos (by omega), if_pos (by omega), if_pos (by rw [List.length_append, List.length_replicate, List.length_replicate]; omega)]
    congr 1
    rw [Int.toNat_natCast, List.set_append_right _ _ (by simp)]
    simp only [List.length_replicate, Nat.sub_self, List.replicate_succ (n := d), List.set_cons_zero, List.replicate_succ' (n := i), List.append_assoc, List.singleton_append]
theorem check_ev : (Valid E S → Ev (fun k => shape_Check.f k E S) 0) ∧ (¬ Valid E S → Ev (fun k => shape_Check.f k E S) 1) := by
  have hbad : ∀ b : Bool, b = true → Ev (fun k => shape_Check.j0 k b E S) 1 := by
    rintro b rfl
    refine Ev.step (f := fun _ => some 1) (fun k => ?_) (Ev.now _)
    simp only [shape_Check.j0, if_true]
  unfold shape_Check.f
  by_cases h1 : (E.length : Int) > 40
  · simp only [if_pos h1]
    exact ⟨fun v => absurd v.n40 (by omega), fun _ => hbad _ rfl⟩
  simp only [if_neg h1]
  by_cases h2 : (S.length : Int) < 1
  · simp only [if_pos h2]
    exact ⟨fun v => absurd v.s1 (by omega), fun _ => hbad _ rfl⟩
  simp only [if_neg h2]
  by_cases h3 : (S.length : Int) > 6
  · rw [decide_eq_true h3]
    exact ⟨fun v => absurd v.s6 (by omega), fun _ => hbad _ rfl⟩
  rw [decide_eq_false h3]
  have hst : ∀ k, shape_Check.j0 (k + 1) false E S = shape_Check.l0 k (List.replicate 0 (-1) ++ List.replicate S.length 0) S.length ((0 : Nat) : Int) E S := by
    intro k
    simp only [shape_Check.j0, if_neg Bool.false_ne_true]
    rw [if_pos (by omega), if_pos (by omega)]
    simp
  have hinv : Inv E S (List.replicate S.length (-1)) 0 := ⟨List.length_replicate, fun p hp => .inl ⟨by simp [rd, List.getD_eq_getElem?_getD, hp], fun j hj => absurd hj (Nat.not_lt_zero _)⟩⟩
  obtain ⟨i1, i2⟩ := check_from (E := E) (S := S) (by omega) (by omega) (by omega) E.length 0 (List.replicate S.length (-1)) 0 (-1) 0 0 (by omega) hinv (fun j hj => absurd hj (Nat.not_lt_zero _)) ⟨fun _ => ⟨rfl, rfl⟩, fun h => absurd h (Nat.lt_irrefl _)⟩ (Int.le_refl _)
  exact ⟨fun v => Ev.step hst (fill_from (by omega) 0 S.length 0 (by omega) (i1 v)), fun v => Ev.step hst (fill_from (by omega) 1 S.length 0 (by omega) (i2 v))⟩
end
end Go.Proofs.Ytcoelecaigkfcaa.Pure
