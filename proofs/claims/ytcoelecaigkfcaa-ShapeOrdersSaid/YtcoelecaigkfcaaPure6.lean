/- Shapes: the law of orders, in plain Lean. -/
import Derived.Test.YtcoelecaigkfcaaPure5
import Derived.Test.YtcoelecaigkfcaaQx9
namespace Go.Proofs.Ytcoelecaigkfcaa.Pure
open Go.RowKit Go.Proofs.Ytcoelecaigkfcaa.Q Go.Proofs.YtcoelecaigkfcaaW.PrintWords Go.Proofs.YtcoelecaigkfcaaW.PrintLast
section
variable {E : List S38} {S : List Int} {A : List (List Bool)}
theorem o3_from (n40 : E.length ≤ 40) (h : Sq E.length A) (ht : ∀ a b c, g A a b = true → g A b c = true → g A a c = true) {i j : Nat} (hi : i < E.length) (hj : j < E.length)
    (hr : Ev (fun f => fathomlaw27_ShapeOrders.l2 f A i ((j + 1 : Nat) : Int) E S) true) : ∀ d m : Nat, m + d = E.length → Ev (fun f => fathomlaw27_ShapeOrders.l3 f A i j m E S) true := by
  have hli : (rd_L3 A (i : Int)).length = E.length := h.rows i hi
  have hlj : (rd_L3 A (j : Int)).length = E.length := h.rows j hj
  have hl := h.len
  have ej := wrap_up hj (by omega : E.length ≤ 60)
  have hout : ∀ m : Int, Ev (fun f => fathomlaw27_ShapeOrders.j5 f A i j m false E S) true := fun m => by
    refine Ev.step (f := fun f => fathomlaw27_ShapeOrders.l2 f A i ((j + 1 : Nat) : Int) E S) (fun f => ?_) hr
    simp only [fathomlaw27_ShapeOrders.j5, ej]
    rw [if_neg (by decide)]
  intro d
  induction d with
  | zero =>
    intro m hm
    refine Ev.step (f := fun f => fathomlaw27_ShapeOrders.j5 f A i j m false E S) (fun f => ?_) (hout m)
    simp only [fathomlaw27_ShapeOrders.l3]
    rw [if_neg (by omega)]
  | succ d ih =>
    intro m hm
    have hm' : m < E.length := by omega
    have em := wrap_up hm' (by omega : E.length ≤ 60)
    refine Ev.step (f := fun f => fathomlaw27_ShapeOrders.j5 f A i j m (g A i j) E S) (fun f => ?_) ?_
    · simp only [fathomlaw27_ShapeOrders.l3]
      rw [if_pos (by omega), if_pos (by omega), if_pos (by omega), if_pos (by omega), if_pos (by omega)]
      rfl
    · by_cases c1 : g A i j = true
      · rw [c1]
        refine Ev.step (f := fun f => fathomlaw27_ShapeOrders.l3 f A i j ((m + 1 : Nat) : Int) E S) (fun f => ?_) (ih (m + 1) (by omega))
        simp only [fathomlaw27_ShapeOrders.j5, em]
        have gjm : rdOf false (rd_L3 A (j : Int)) (m : Int) = g A j m := rfl
        have gim : rdOf false (rd_L3 A (i : Int)) (m : Int) = g A i m := rfl
        rw [if_pos trivial, if_pos (by omega), if_pos (by omega), if_pos (by omega), if_pos (by omega), gjm, gim]
        by_cases c2 : g A j m = true
        · rw [if_pos c2, if_pos (by omega), if_pos (by omega), if_pos (by omega), if_pos (ht i j m c1 c2)]
        · rw [if_neg c2]
      · have c1' : g A i j = false := by simpa using c1
        rw [c1']
        exact hout m
theorem o2_from (n40 : E.length ≤ 40) (h : Sq E.length A) (ht : ∀ a b c, g A a b = true → g A b c = true → g A a c = true) (hn : ∀ a, a < E.length → g A a a = false) {i : Nat} (hi : i < E.length)
    (hr : Ev (fun f => fathomlaw27_ShapeOrders.l0 f A ((i + 1 : Nat) : Int) E S) true) : ∀ d j : Nat, j + d = E.length → Ev (fun f => fathomlaw27_ShapeOrders.l2 f A i j E S) true := by
  have hli : (rd_L3 A (i : Int)).length = E.length := h.rows i hi
  have hl := h.len
  have ei := wrap_up hi (by omega : E.length ≤ 60)
  intro d
  induction d with
  | zero =>
    intro j hj
    refine Ev.step (f := fun f => fathomlaw27_ShapeOrders.l0 f A ((i + 1 : Nat) : Int) E S) (fun f => ?_) hr
    have gii : rdOf false (rd_L3 A (i : Int)) (i : Int) = g A i i := rfl
    simp only [fathomlaw27_ShapeOrders.l2, ei]
    rw [if_neg (by omega), if_pos (by omega), if_pos (by omega), if_pos (by omega), gii, hn i hi, if_neg (by decide)]
  | succ d ih =>
    intro j hj
    refine Ev.step (f := fun f => fathomlaw27_ShapeOrders.l3 f A i j ((0 : Nat) : Int) E S) (fun f => ?_) (o3_from n40 h ht hi (by omega) (ih (j + 1) (by omega)) E.length 0 (by omega))
    simp only [fathomlaw27_ShapeOrders.l2]
    rw [if_pos (by omega)]
    rfl
theorem o1_from (v : Valid E S) (hA : Ev (fun f => shape_Ahead.f f E S) A) (h : Sq E.length A) {i : Nat} (hi : i < E.length)
    (hr : Ev (fun f => fathomlaw27_ShapeOrders.l2 f A i ((0 : Nat) : Int) E S) true) : ∀ d q : Nat, q + d = (rvs E A i).length → Ev (fun f => fathomlaw27_ShapeOrders.l1 f A i (rvs E A i) q E S) true := by
  have n40 := v.n40
  have hL := rvs_len (A := A) (i := i) n40
  intro d
  induction d with
  | zero =>
    intro q hq
    refine Ev.step (f := fun f => fathomlaw27_ShapeOrders.l2 f A i ((0 : Nat) : Int) E S) (fun f => ?_) hr
    simp only [fathomlaw27_ShapeOrders.l1]
    rw [if_neg (by omega)]
    rfl
  | succ d ih =>
    intro q hq
    have hq' : q < (rvs E A i).length := by omega
    have eq := wrap_up hq' (by omega : (rvs E A i).length ≤ 60)
    have hx : rd (rvs E A i) (q : Int) ∈ rvs E A i := by
      show (rvs E A i).getD q 0 ∈ _
      rw [List.getD_eq_getElem?_getD, List.getElem?_eq_getElem hq', Option.getD_some]
      exact List.getElem_mem hq'
    obtain ⟨j, hj, e, hne, hmem⟩ := rvs_sym hi hx
    refine Ev.step (f := fun f => (shape_Rivals.f f E S j).bind fun t216 => ((fathomref01_Has.f f t216 i).bind fun t219 => (if t219 = true then (fathomlaw27_ShapeOrders.l1 f A i (rvs E A i) ((q + 1 : Nat) : Int) E S) else (some false)))) (fun f => ?_) ?_
    · simp only [fathomlaw27_ShapeOrders.l1, eq]
      rw [if_pos (by omega), if_pos (by omega), e, if_neg (by omega)]
    · refine Ev.bind (rivals_ev v hA h hj) ?_
      refine Ev.bind (has_ev _ _ (Nat.le_trans (rvs_len n40) (by omega)) hmem) ?_
      refine Ev.congr (f := fun f => fathomlaw27_ShapeOrders.l1 f A i (rvs E A i) ((q + 1 : Nat) : Int) E S) (fun f => ?_) (ih (q + 1) (by omega))
      rw [if_pos rfl]
theorem o0_from (v : Valid E S) (hA : Ev (fun f => shape_Ahead.f f E S) A) (h : Sq E.length A) (ht : ∀ a b c, g A a b = true → g A b c = true → g A a c = true) (hn : ∀ a, a < E.length → g A a a = false) : ∀ d i : Nat, i + d = E.length → Ev (fun f => fathomlaw27_ShapeOrders.l0 f A i E S) true := by
  have n40 := v.n40
  have hl := h.len
  intro d
  induction d with
  | zero =>
    intro i hi
    refine Ev.step (f := fun f => (fathomlaw27_awake.f f).bind fun t => some t) (fun f => ?_) (Ev.bind awake_ev (Ev.now _))
    simp only [fathomlaw27_ShapeOrders.l0]
    rw [if_neg (by omega), if_pos (by omega)]
  | succ d ih =>
    intro i hi
    have hi' : i < E.length := by omega
    refine Ev.step (f := fun f => (shape_Rivals.f f E S i).bind fun t211 => (fathomlaw27_ShapeOrders.l1 f A i t211 ((0 : Nat) : Int) E S)) (fun f => ?_) ?_
    · simp only [fathomlaw27_ShapeOrders.l0]
      rw [if_pos (by omega)]
      rfl
    · exact Ev.bind (rivals_ev v hA h hi') (o1_from v hA h hi' (o2_from n40 h ht hn hi' (ih (i + 1) (by omega)) E.length 0 (by omega)) (rvs E A i).length 0 (by omega))
theorem orders_ev (E : List S38) (S : List Int) : Ev (fun f => fathomlaw27_ShapeOrders.f f E S) true := by
  have hq : ∀ b : Bool, b = true → Ev (fun f => fathomlaw27_ShapeOrders.j0 f b E S) true := by
    rintro b rfl
    refine Ev.step (f := fun f => (fathomlaw27_awake.f f).bind fun t => some t) (fun f => ?_) (Ev.bind awake_ev (Ev.now _))
    simp only [fathomlaw27_ShapeOrders.j0]
    rw [if_pos trivial]
  unfold fathomlaw27_ShapeOrders.f
  by_cases c1 : (E.length : Int) > 60
  · simp only [if_pos c1]
    exact hq _ rfl
  · simp only [if_neg c1]
    by_cases c2 : (S.length : Int) > 60
    · simp only [if_pos c2]
      exact hq _ rfl
    · simp only [if_neg c2]
      by_cases v : Valid E S
      · have n40 := v.n40
        refine Ev.bind ((may_ev (by omega) (by omega)).1 v) ?_
        obtain ⟨A, hA, h, hg⟩ := ahead_ev v
        have gd := good_of_valid v
        refine Ev.step (f := fun f => (shape_Ahead.f f E S).bind fun t206 => ((fathomref19_Square.f f t206).bind fun t209 => (if t209 = true then (fathomlaw27_ShapeOrders.l0 f t206 ((0 : Nat) : Int) E S) else (some false)))) (fun f => ?_) ?_
        · simp only [fathomlaw27_ShapeOrders.j0]
          rw [if_neg (by decide)]
          rfl
        · refine Ev.bind hA (Ev.bind (square_ev n40 h) ?_)
          refine Ev.congr (f := fun f => fathomlaw27_ShapeOrders.l0 f A ((0 : Nat) : Int) E S) (fun f => by rw [if_pos rfl]) ?_
          refine o0_from v hA h (fun a b c x y => ?_) (fun a ha => ?_) E.length 0 (by omega)
          · obtain ⟨a1, a2⟩ := g_range h x
            obtain ⟨b1, b2⟩ := g_range h y
            exact (hg a c a1 b2).2 (((hg a b a1 a2).1 x).trans gd ((hg b c b1 b2).1 y))
          · rcases e : g A a a with _ | _
            · rfl
            · have := (((hg a a ha ha).1 e).lt gd).1
              omega
      · refine Ev.bind ((may_ev (by omega) (by omega)).2 v) ?_
        exact hq _ rfl
end
end Go.Proofs.Ytcoelecaigkfcaa.Pure
