/- Shapes: the rivals. -/
import Derived.Test.YtcoelecaigkfcaaPureK4
namespace Go.Proofs.Ytcoelecaigkfcaa.Pure
open Go.RowKit Go.Proofs.Ytcoelecaigkfcaa.K Go.Proofs.YtcoelecaigkfcaaW.PrintWords Go.Proofs.YtcoelecaigkfcaaW.PrintLast
section
variable {E : List S38} {S : List Int}
def pl (a : Int) : Bool := a == 1 || a == 2
theorem plain_f (a : Int) : shape_plain.f a = some (pl a) := by
  unfold shape_plain.f pl
  by_cases h : a = 1
  · simp [h]
  · have : (a == 1) = false := by simpa using h
    rw [if_neg h, this, Bool.false_or]
/-- Rivals of an event, within a square. -/
def rv (E : List S38) (A : List (List Bool)) (i j : Nat) : Bool :=
  pl (rd_T38 E (j : Int)).f2 && (! decide ((rd_T38 E (j : Int)).f0 = (rd_T38 E (i : Int)).f0) && (decide ((rd_T38 E (j : Int)).f3 = (rd_T38 E (i : Int)).f3) && ((decide ((rd_T38 E (i : Int)).f2 = 2) || decide ((rd_T38 E (j : Int)).f2 = 2)) && (! g A i j && ! g A j i))))
def rvs (E : List S38) (A : List (List Bool)) (i : Nat) : List Int := if pl (rd_T38 E (i : Int)).f2 = true then ((List.range E.length).filter (rv E A i)).map (fun x : Nat => (x : Int)) else []
theorem rv_step (n40 : E.length ≤ 40) {A : List (List Bool)} (h : Sq E.length A) {i j : Nat} (hi : i < E.length) (hj : j < E.length) (acc : List Int) (ha : acc.length ≤ 60) (f : Nat) (y : Int) :
    shape_Rivals.l0 (f + 1) i acc A E E.length j (rd_T38 E (i : Int)).f0 y (rd_T38 E (i : Int)).f2 (rd_T38 E (i : Int)).f3 = shape_Rivals.l0 f i (if rv E A i j = true then acc ++ [(j : Int)] else acc) A E E.length ((j + 1 : Nat) : Int) (rd_T38 E (i : Int)).f0 y (rd_T38 E (i : Int)).f2 (rd_T38 E (i : Int)).f3 := by
  have e1 := wrap_up hj (by omega : E.length ≤ 60)
  have hri : rd_L3 A (i : Int) = row A i := rfl
  have hrj : rd_L3 A (j : Int) = row A j := rfl
  have hli := h.rows i hi
  have hlj := h.rows j hj
  have hl := h.len
  have gij : rdOf false (row A i) (j : Int) = g A i j := rfl
  have gji : rdOf false (row A j) (i : Int) = g A j i := rfl
  have tail : (if (rdOf false (rd_L3 A (i : Int)) (j : Int) = true) then (shape_Rivals.l0 f i acc A E E.length ((j + 1 : Nat) : Int) (rd_T38 E (i : Int)).f0 y (rd_T38 E (i : Int)).f2 (rd_T38 E (i : Int)).f3) else (if (j : Int) < (A.length : Int) then (if (i : Int) < ((rd_L3 A (j : Int)).length : Int) then (if (rdOf false (rd_L3 A (j : Int)) (i : Int) = true) then (shape_Rivals.l0 f i acc A E E.length ((j + 1 : Nat) : Int) (rd_T38 E (i : Int)).f0 y (rd_T38 E (i : Int)).f2 (rd_T38 E (i : Int)).f3) else (if acc.length < 17592186044416 then (shape_Rivals.l0 f i (acc ++ [(j : Int)]) A E E.length ((j + 1 : Nat) : Int) (rd_T38 E (i : Int)).f0 y (rd_T38 E (i : Int)).f2 (rd_T38 E (i : Int)).f3) else (none))) else (none)) else (none))) = shape_Rivals.l0 f i (if (! g A i j && ! g A j i) = true then acc ++ [(j : Int)] else acc) A E E.length ((j + 1 : Nat) : Int) (rd_T38 E (i : Int)).f0 y (rd_T38 E (i : Int)).f2 (rd_T38 E (i : Int)).f3 := by
    rw [hri, hrj, gij, gji]
    by_cases c1 : g A i j = true
    · rw [if_pos c1, c1]; rfl
    · have c1' : g A i j = false := by simpa using c1
      rw [if_neg c1, c1', if_pos (by omega), if_pos (by omega)]
      by_cases c2 : g A j i = true
      · rw [if_pos c2, c2]; rfl
      · have c2' : g A j i = false := by simpa using c2
        rw [if_neg c2, c2', if_pos (by omega)]; rfl
  simp only [shape_Rivals.l0, e1, plain_f, Option.bind_some]
  rw [if_pos (by omega), if_pos (by omega), if_pos (by omega)]
  unfold rv
  by_cases c1 : pl (rd_T38 E (j : Int)).f2 = true
  · rw [if_pos c1, c1, Bool.true_and]
    by_cases c2 : (rd_T38 E (j : Int)).f0 = (rd_T38 E (i : Int)).f0
    · rw [if_pos c2, decide_eq_true c2]; rfl
    · rw [if_neg c2, decide_eq_false c2, Bool.not_false, Bool.true_and]
      by_cases c3 : (rd_T38 E (j : Int)).f3 = (rd_T38 E (i : Int)).f3
      · rw [if_pos c3, decide_eq_true c3, Bool.true_and]
        by_cases c4 : (rd_T38 E (i : Int)).f2 = 2
        · rw [if_pos c4, decide_eq_true c4, Bool.true_or, Bool.true_and, if_pos (by omega), if_pos (by omega), if_pos (by rw [hri]; omega)]
          exact tail
        · rw [if_neg c4, decide_eq_false c4, Bool.false_or]
          by_cases c5 : (rd_T38 E (j : Int)).f2 = 2
          · rw [if_pos c5, decide_eq_true c5, Bool.true_and, if_pos (by omega), if_pos (by omega), if_pos (by rw [hri]; omega)]
            exact tail
          · rw [if_neg c5, decide_eq_false c5]; rfl
      · rw [if_neg c3, decide_eq_false c3]; rfl
  · have c1' : pl (rd_T38 E (j : Int)).f2 = false := by simpa using c1
    rw [if_neg c1, c1']; rfl
theorem rv_from (n40 : E.length ≤ 40) {A : List (List Bool)} (h : Sq E.length A) {i : Nat} (hi : i < E.length) (y : Int) : ∀ (d j : Nat) (acc : List Int), j + d = E.length → acc.length ≤ j →
    Ev (fun f => shape_Rivals.l0 f i acc A E E.length j (rd_T38 E (i : Int)).f0 y (rd_T38 E (i : Int)).f2 (rd_T38 E (i : Int)).f3) (acc ++ ((List.range' j d).filter (rv E A i)).map (fun x : Nat => (x : Int))) := by
  intro d
  induction d with
  | zero =>
    intro j acc hj ha
    refine Ev.step (f := fun _ => some (acc ++ ((List.range' j 0).filter (rv E A i)).map (fun x : Nat => (x : Int)))) (fun f => ?_) (Ev.now _)
    simp only [shape_Rivals.l0]
    rw [if_neg (by omega)]
    simp
  | succ d ih =>
    intro j acc hj ha
    have hj' : j < E.length := by omega
    have hs := ih (j + 1) (if rv E A i j = true then acc ++ [(j : Int)] else acc) (by omega) (by
      by_cases c : rv E A i j = true
      · rw [if_pos c, List.length_append, List.length_singleton]; omega
      · rw [if_neg c]; omega)
    have e : acc ++ ((List.range' j (d + 1)).filter (rv E A i)).map (fun x : Nat => (x : Int)) = (if rv E A i j = true then acc ++ [(j : Int)] else acc) ++ ((List.range' (j + 1) d).filter (rv E A i)).map (fun x : Nat => (x : Int)) := by
      rw [List.range'_succ]
      by_cases c : rv E A i j = true
      · rw [if_pos c, List.filter_cons_of_pos c, List.map_cons, List.append_assoc]; rfl
      · rw [if_neg c, List.filter_cons_of_neg c]
    rw [e]
    exact Ev.step (fun f => rv_step n40 h hi hj' acc (by omega) f y) hs
theorem rivals_ev (v : Valid E S) {A : List (List Bool)} (hA : Ev (fun f => shape_Ahead.f f E S) A) (h : Sq E.length A) {i : Nat} (hi : i < E.length) : Ev (fun f => shape_Rivals.f f E S i) (rvs E A i) := by
  have n40 := v.n40
  have ht : Ev (fun f => shape_there.f f E S i) true := by
    unfold shape_there.f
    refine Ev.bind (check_ev.1 v) ?_
    refine Ev.congr (f := fun _ => some true) (fun f => ?_) (Ev.now _)
    rw [if_pos rfl, if_pos (by omega), decide_eq_true (by omega)]
  unfold shape_Rivals.f
  refine Ev.bind ht ?_
  refine Ev.congr (f := fun f => shape_Rivals.j0 f i (! pl (rd_T38 E (i : Int)).f2) E S) (fun f => ?_) ?_
  · rw [if_pos rfl, if_pos (by omega), if_pos (by omega), plain_f]; rfl
  · unfold rvs
    by_cases c : pl (rd_T38 E (i : Int)).f2 = true
    · rw [c, if_pos rfl]
      refine Ev.step (f := fun f => (shape_Ahead.f f E S).bind fun t161 => (if 0 ≤ (i : Int) then (if (i : Int) < (E.length : Int) then (shape_Rivals.l0 f i ([] : List Int) t161 E (E.length : Int) 0 ((rd_T38 E (i : Int)).f0) ((rd_T38 E (i : Int)).f1) ((rd_T38 E (i : Int)).f2) ((rd_T38 E (i : Int)).f3)) else (none)) else (none))) (fun f => ?_) ?_
      · simp only [shape_Rivals.j0]
        rw [if_neg (by decide)]
      · refine Ev.bind hA ?_
        refine Ev.congr (f := fun f => shape_Rivals.l0 f i ([] : List Int) A E (E.length : Int) ((0 : Nat) : Int) ((rd_T38 E (i : Int)).f0) ((rd_T38 E (i : Int)).f1) ((rd_T38 E (i : Int)).f2) ((rd_T38 E (i : Int)).f3)) (fun f => ?_) ?_
        · rw [if_pos (by omega), if_pos (by omega)]; rfl
        · have := rv_from n40 h hi (rd_T38 E (i : Int)).f1 E.length 0 [] (by omega) (by simp)
          rw [List.range_eq_range']
          simpa using this
    · have c' : pl (rd_T38 E (i : Int)).f2 = false := by simpa using c
      rw [c', if_neg (by decide)]
      refine Ev.step (f := fun f => some []) (fun f => ?_) (Ev.now _)
      simp only [shape_Rivals.j0]
      rw [if_pos (by decide)]
theorem mem_rvs {A : List (List Bool)} {i : Nat} {x : Int} (h : x ∈ rvs E A i) : pl (rd_T38 E (i : Int)).f2 = true ∧ ∃ j, j < E.length ∧ x = (j : Int) ∧ rv E A i j = true := by
  unfold rvs at h
  by_cases c : pl (rd_T38 E (i : Int)).f2 = true
  · rw [if_pos c] at h
    obtain ⟨j, hj, e⟩ := List.mem_map.1 h
    obtain ⟨a, b⟩ := List.mem_filter.1 hj
    exact ⟨c, j, List.mem_range.1 a, e.symm, b⟩
  · rw [if_neg c] at h
    cases h
/-- Rivals are rivals of one another, and none is its own. -/
theorem rvs_sym {A : List (List Bool)} {i : Nat} (hi : i < E.length) {x : Int} (h : x ∈ rvs E A i) : ∃ j, j < E.length ∧ x = (j : Int) ∧ j ≠ i ∧ (i : Int) ∈ rvs E A j := by
  obtain ⟨a, j, hj, e, b⟩ := mem_rvs h
  unfold rv at b
  simp only [Bool.and_eq_true, Bool.not_eq_true', decide_eq_false_iff_not, decide_eq_true_eq, Bool.or_eq_true] at b
  obtain ⟨b1, b2, b3, b4, b5, b6⟩ := b
  refine ⟨j, hj, e, fun e => b2 (by rw [e]), ?_⟩
  unfold rvs
  rw [if_pos b1]
  refine List.mem_map.2 ⟨i, List.mem_filter.2 ⟨List.mem_range.2 hi, ?_⟩, rfl⟩
  unfold rv
  simp only [Bool.and_eq_true, Bool.not_eq_true', decide_eq_false_iff_not, decide_eq_true_eq, Bool.or_eq_true]
  exact ⟨a, fun e => b2 e.symm, b3.symm, b4.symm, b6, b5⟩
theorem rvs_len {A : List (List Bool)} {i : Nat} (n40 : E.length ≤ 40) : (rvs E A i).length ≤ 40 := by
  unfold rvs
  by_cases c : pl (rd_T38 E (i : Int)).f2 = true
  · rw [if_pos c, List.length_map]
    exact Nat.le_trans (List.length_filter_le _ _) (by rw [List.length_range]; exact n40)
  · rw [if_neg c]; simp
end
end Go.Proofs.Ytcoelecaigkfcaa.Pure
