/- Shapes: the square of what is surely ahead, by Warshall's rounds, is the document's. -/
import Derived.Test.YtcoelecaigkfcaaPureK2
namespace Go.Proofs.Ytcoelecaigkfcaa.Pure
open Go.RowKit Go.Proofs.Ytcoelecaigkfcaa.K Go.Proofs.YtcoelecaigkfcaaW.PrintWords Go.Proofs.YtcoelecaigkfcaaW.PrintLast
/-! ### Squares -/
def row (M : List (List Bool)) (i : Nat) : List Bool := M.getD i []
def g (M : List (List Bool)) (i j : Nat) : Bool := (row M i).getD j false
theorem rd_row (M : List (List Bool)) (i : Nat) : rd_L3 M (i : Int) = row M i := rfl
theorem rd_g (M : List (List Bool)) (i j : Nat) : rdOf false (row M i) (j : Int) = g M i j := rfl
structure Sq (n : Nat) (M : List (List Bool)) : Prop where
  len : M.length = n
  rows : ∀ i, i < n → (row M i).length = n
def put (M : List (List Bool)) (i j : Nat) (v : Bool) : List (List Bool) := M.set i ((row M i).set j v)
theorem row_set (M : List (List Bool)) (i a : Nat) (r : List Bool) (hi : i < M.length) : row (M.set i r) a = if a = i then r else row M a := by
  unfold row
  by_cases e : a = i
  · subst e; simp [List.getD_eq_getElem?_getD, hi]
  · rw [if_neg e]; simp [List.getD_eq_getElem?_getD, List.getElem?_set_ne (Ne.symm e)]
theorem getD_set (r : List Bool) (j b : Nat) (v : Bool) (hj : j < r.length) : (r.set j v).getD b false = if b = j then v else r.getD b false := by
  by_cases e : b = j
  · subst e; simp [List.getD_eq_getElem?_getD, hj]
  · rw [if_neg e]; simp [List.getD_eq_getElem?_getD, List.getElem?_set_ne (Ne.symm e)]
theorem Sq.put {n : Nat} {M : List (List Bool)} (h : Sq n M) (i j : Nat) (v : Bool) (hi : i < n) : Sq n (put M i j v) := by
  refine ⟨by unfold Pure.put; rw [List.length_set, h.len], fun a ha => ?_⟩
  unfold Pure.put
  rw [row_set M i a _ (by rw [h.len]; exact hi)]
  by_cases e : a = i
  · rw [if_pos e, List.length_set, h.rows i hi]
  · rw [if_neg e, h.rows a ha]
theorem g_put {n : Nat} {M : List (List Bool)} (h : Sq n M) (i j : Nat) (v : Bool) (hi : i < n) (hj : j < n) (a b : Nat) : g (put M i j v) a b = if a = i ∧ b = j then v else g M a b := by
  unfold g Pure.put
  rw [row_set M i a _ (by rw [h.len]; exact hi)]
  by_cases e : a = i
  · subst e
    rw [if_pos rfl, getD_set _ j b v (by rw [h.rows a hi]; exact hj)]
    by_cases e2 : b = j
    · simp [e2]
    · simp [e2]
  · rw [if_neg e, if_neg (fun h => e h.1)]
theorem g_range {n : Nat} {M : List (List Bool)} (h : Sq n M) {a b : Nat} (hg : g M a b = true) : a < n ∧ b < n := by
  constructor
  · rcases Nat.lt_or_ge a n with x | x
    · exact x
    · have : row M a = [] := by unfold row; rw [List.getD_eq_getElem?_getD, List.getElem?_eq_none (by rw [h.len]; exact x)]; rfl
      unfold g at hg
      rw [this] at hg
      simp at hg
  · rcases Nat.lt_or_ge a n with x | x
    · rcases Nat.lt_or_ge b n with y | y
      · exact y
      · unfold g at hg
        rw [List.getD_eq_getElem?_getD, List.getElem?_eq_none (by rw [h.rows a x]; exact y)] at hg
        simp at hg
    · have : row M a = [] := by unfold row; rw [List.getD_eq_getElem?_getD, List.getElem?_eq_none (by rw [h.len]; exact x)]; rfl
      unfold g at hg
      rw [this] at hg
      simp at hg
/-! ### Warshall's rounds -/
structure Grown (n : Nat) (M M' : List (List Bool)) : Prop where
  sq : Sq n M'
  up : ∀ a b, g M a b = true → g M' a b = true
  sound : ∀ T : Nat → Nat → Prop, (∀ a m b, T a m → T m b → T a b) → (∀ a b, g M a b = true → T a b) → ∀ a b, g M' a b = true → T a b
theorem Grown.refl {n : Nat} {M : List (List Bool)} (h : Sq n M) : Grown n M M := ⟨h, fun _ _ h => h, fun _ _ h => h⟩
theorem Grown.trans {n : Nat} {A B C : List (List Bool)} (h : Grown n A B) (k : Grown n B C) : Grown n A C :=
  ⟨k.sq, fun a b x => k.up a b (h.up a b x), fun T hT hA => k.sound T hT (h.sound T hT hA)⟩
theorem l3_step {n : Nat} (hn : n ≤ 40) {M : List (List Bool)} (h : Sq n M) {k i j : Nat} (hk : k < n) (hi : i < n) (hj : j < n) (f : Nat) :
    rank_Closure.l3 (f + 1) M k i n k n i n j = rank_Closure.l3 f (put M i j (g M i j || (g M i k && g M k j))) k i n k n i n ((j + 1 : Nat) : Int) := by
  have e1 := wrap_up hj (by omega : n ≤ 60)
  simp only [rank_Closure.l3, e1, rd_row, rd_g]
  rw [if_pos (by omega), if_pos (by omega), if_pos (by rw [h.len]; omega), if_pos (by omega), if_pos (by rw [h.rows i hi]; omega), Int.toNat_natCast, Int.toNat_natCast]
  unfold put
  by_cases c1 : g M i j = true
  · rw [if_pos c1, c1, Bool.true_or]
  · rw [if_neg c1, if_pos (by omega), if_pos (by rw [h.rows i hi]; omega)]
    have c1' : g M i j = false := by simpa using c1
    by_cases c2 : g M i k = true
    · rw [if_pos c2, if_pos (by rw [h.len]; omega), if_pos (by rw [h.rows k hk]; omega), c1', c2, Bool.false_or, Bool.true_and]
    · have c2' : g M i k = false := by simpa using c2
      rw [if_neg c2, c1', c2', Bool.false_or, Bool.false_and]
theorem grown_put {n : Nat} {M : List (List Bool)} (h : Sq n M) {k i j : Nat} (hi : i < n) (hj : j < n) : Grown n M (put M i j (g M i j || (g M i k && g M k j))) := by
  refine ⟨h.put i j _ hi, fun a b x => ?_, fun T hT hM a b x => ?_⟩
  · rw [g_put h i j _ hi hj]
    by_cases e : a = i ∧ b = j
    · rw [if_pos e, ← e.1, ← e.2, x, Bool.true_or]
    · rw [if_neg e]; exact x
  · rw [g_put h i j _ hi hj] at x
    by_cases e : a = i ∧ b = j
    · rw [if_pos e] at x
      rw [e.1, e.2]
      simp only [Bool.or_eq_true, Bool.and_eq_true] at x
      rcases x with x | ⟨x, y⟩
      · exact hM i j x
      · exact hT i k j (hM i k x) (hM k j y)
    · rw [if_neg e] at x
      exact hM a b x
theorem l3_from {n : Nat} (hn : n ≤ 40) {k i : Nat} (hk : k < n) (hi : i < n) : ∀ (d j : Nat) (M : List (List Bool)), j + d = n → Sq n M →
    ∃ M', Grown n M M' ∧ (∀ b, j ≤ b → b < n → g M i k = true → g M k b = true → g M' i b = true) ∧ ∀ r, Ev (fun f => rank_Closure.l2 f M' k n k n ((i + 1 : Nat) : Int)) r → Ev (fun f => rank_Closure.l3 f M k i n k n i n j) r := by
  intro d
  induction d with
  | zero =>
    intro j M hj h
    refine ⟨M, Grown.refl h, fun b h1 h2 => by omega, fun r hr => Ev.step (f := fun f => rank_Closure.l2 f M k n k n ((i + 1 : Nat) : Int)) (fun f => ?_) hr⟩
    have e1 := wrap_up hi (by omega : n ≤ 60)
    simp only [rank_Closure.l3, e1]
    rw [if_neg (by omega)]
  | succ d ih =>
    intro j M hj h
    have hj' : j < n := by omega
    have hg := grown_put (k := k) h hi hj'
    obtain ⟨M', h1, h2, h3⟩ := ih (j + 1) _ (by omega) hg.sq
    refine ⟨M', hg.trans h1, fun b hb1 hb2 x y => ?_, fun r hr => Ev.step (fun f => l3_step hn h hk hi hj' f) (h3 r hr)⟩
    by_cases e : b = j
    · subst e
      refine h1.up i b ?_
      rw [g_put h i b _ hi hj', if_pos ⟨rfl, rfl⟩, x, y]
      simp
    · exact h2 b (by omega) hb2 (hg.up i k x) (hg.up k b y)
theorem l2_from {n : Nat} (hn : n ≤ 40) {k : Nat} (hk : k < n) : ∀ (d i : Nat) (M : List (List Bool)), i + d = n → Sq n M →
    ∃ M', Grown n M M' ∧ (∀ a b, i ≤ a → a < n → b < n → g M a k = true → g M k b = true → g M' a b = true) ∧ ∀ r, Ev (fun f => rank_Closure.l1 f M' n ((k + 1 : Nat) : Int)) r → Ev (fun f => rank_Closure.l2 f M k n k n i) r := by
  intro d
  induction d with
  | zero =>
    intro i M hi h
    refine ⟨M, Grown.refl h, fun a b h1 h2 => by omega, fun r hr => Ev.step (f := fun f => rank_Closure.l1 f M n ((k + 1 : Nat) : Int)) (fun f => ?_) hr⟩
    have e1 := wrap_up hk (by omega : n ≤ 60)
    simp only [rank_Closure.l2, e1]
    rw [if_neg (by omega)]
  | succ d ih =>
    intro i M hi h
    have hi' : i < n := by omega
    obtain ⟨M1, g1, g2, g3⟩ := l3_from hn hk hi' n 0 M (by omega) h
    obtain ⟨M', h1, h2, h3⟩ := ih (i + 1) M1 (by omega) g1.sq
    refine ⟨M', g1.trans h1, fun a b hb1 hb2 hb3 x y => ?_, fun r hr => ?_⟩
    · by_cases e : a = i
      · subst e
        exact h1.up a b (g2 b (by omega) hb3 x y)
      · exact h2 a b (by omega) hb2 hb3 (g1.up a k x) (g1.up k b y)
    · refine Ev.step (f := fun f => rank_Closure.l3 f M k i n k n i n ((0 : Nat) : Int)) (fun f => ?_) (g3 r (h3 r hr))
      simp only [rank_Closure.l2, h.len]
      rw [if_pos (by omega)]
      rfl
theorem l1_from {n : Nat} (hn : n ≤ 40) (R : Nat → Nat → Prop) : ∀ (d k : Nat) (M : List (List Bool)), k + d = n → Sq n M → (∀ a b, a < n → b < n → P R k a b → g M a b = true) →
    ∃ M', Grown n M M' ∧ (∀ a b, a < n → b < n → P R n a b → g M' a b = true) ∧ Ev (fun f => rank_Closure.l1 f M n k) M' := by
  intro d
  induction d with
  | zero =>
    intro k M hk h hP
    obtain rfl : k = n := by omega
    refine ⟨M, Grown.refl h, hP, Ev.step (f := fun _ => some M) (fun f => ?_) (Ev.now _)⟩
    simp only [rank_Closure.l1]
    rw [if_neg (by omega)]
  | succ d ih =>
    intro k M hk h hP
    have hk' : k < n := by omega
    obtain ⟨M1, g1, g2, g3⟩ := l2_from hn hk' n 0 M (by omega) h
    obtain ⟨M', h1, h2, h3⟩ := ih (k + 1) M1 (by omega) g1.sq (fun a b ha hb x => by
      rcases x with x | ⟨x, y⟩
      · exact g1.up a b (hP a b ha hb x)
      · exact g2 a b (by omega) ha hb (hP a k ha hk' x) (hP k b hk' hb y))
    refine ⟨M', g1.trans h1, h2, Ev.step (f := fun f => rank_Closure.l2 f M k n k n ((0 : Nat) : Int)) (fun f => ?_) (g3 M' h3)⟩
    simp only [rank_Closure.l1, h.len]
    rw [if_pos (by omega)]
    rfl
theorem l0_from {n : Nat} (hn : n ≤ 40) {M : List (List Bool)} (h : Sq n M) (r : List (List Bool)) (hr : Ev (fun f => rank_Closure.l1 f M n ((0 : Nat) : Int)) r) : ∀ d i : Nat, i + d = n → Ev (fun f => rank_Closure.l0 f (M.take i) M n i) r := by
  intro d
  induction d with
  | zero =>
    intro i hi
    refine Ev.step (f := fun f => rank_Closure.l1 f M n ((0 : Nat) : Int)) (fun f => ?_) hr
    simp only [rank_Closure.l0]
    rw [if_neg (by omega), List.take_of_length_le (by rw [h.len]; omega), h.len]
    rfl
  | succ d ih =>
    intro i hi
    refine Ev.step (f := fun f => rank_Closure.l0 f (M.take (i + 1)) M n ((i + 1 : Nat) : Int)) (fun f => ?_) (ih (i + 1) (by omega))
    have e1 := wrap_up (show i < n by omega) (by omega : n ≤ 60)
    have hr2 : rd_L3 M (i : Int) = row M i := rfl
    simp only [rank_Closure.l0, e1, slices_Clone_bool_bool.f]
    rw [if_pos (by omega), if_pos (by omega), if_pos (by rw [h.len]; omega), if_pos (by rw [hr2, h.rows i (by omega)]; omega)]
    simp only [Option.bind_some]
    rw [if_pos (by rw [List.length_take, h.len]; omega), hr2]
    have hi2 : i < M.length := by rw [h.len]; omega
    have e2 : row M i = M[i] := by unfold row; rw [List.getD_eq_getElem?_getD, List.getElem?_eq_getElem hi2]; rfl
    rw [e2, List.take_succ_eq_append_getElem hi2]
theorem squared_sq {n : Nat} (hn : n ≤ 40) {M : List (List Bool)} (h : Sq n M) : rank_squared.f M = some true := by
  unfold rank_squared.f
  rw [decide_eq_true (by rw [h.len]; exact hn), Bool.true_and]
  congr 1
  rw [List.all_eq_true]
  intro x hx
  obtain ⟨i, hi, rfl⟩ := List.getElem_of_mem hx
  have := h.rows i (by rw [← h.len]; exact hi)
  unfold row at this
  rw [List.getD_eq_getElem?_getD, List.getElem?_eq_getElem hi, Option.getD_some] at this
  rw [this, h.len]
  simp
theorem closure_ev {n : Nat} (hn : n ≤ 40) {M : List (List Bool)} (h : Sq n M) : ∃ A, Ev (fun f => rank_Closure.f f M) A ∧ Sq n A ∧ (∀ a b, a < n → b < n → P (fun i j => g M i j = true) n a b → g A a b = true) ∧ (∀ T : Nat → Nat → Prop, (∀ a m b, T a m → T m b → T a b) → (∀ a b, g M a b = true → T a b) → ∀ a b, g A a b = true → T a b) := by
  obtain ⟨A, h1, h2, h3⟩ := l1_from hn (fun i j => g M i j = true) n 0 M (by omega) h (fun a b _ _ x => x)
  refine ⟨A, ?_, h1.sq, h2, h1.sound⟩
  refine Ev.congr (f := fun f => rank_Closure.l0 f (M.take 0) M n ((0 : Nat) : Int)) (fun f => ?_) (l0_from hn h A h3 n 0 (by omega))
  simp only [rank_Closure.f, squared_sq hn h, Option.bind_some, if_true, h.len]
  rfl
end Go.Proofs.Ytcoelecaigkfcaa.Pure
