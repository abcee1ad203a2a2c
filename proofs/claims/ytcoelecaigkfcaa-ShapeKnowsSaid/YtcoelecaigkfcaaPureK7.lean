/- Shapes: the law of what is known, in plain Lean. -/
import Derived.Test.YtcoelecaigkfcaaPureK6
import Derived.Test.YtcoelecaigkfcaaKx13
namespace Go.Proofs.Ytcoelecaigkfcaa.Pure
open Go.RowKit Go.Proofs.Ytcoelecaigkfcaa.K Go.Proofs.YtcoelecaigkfcaaW.PrintWords Go.Proofs.YtcoelecaigkfcaaW.PrintLast
section
variable {E : List S38} {S : List Int} {A : List (List Bool)}
theorem there_ev (v : Valid E S) (x : Int) : Ev (fun f => shape_there.f f E S x) (if x ≥ 0 then decide (x < (E.length : Int)) else false) := by
  unfold shape_there.f
  refine Ev.bind (check_ev.1 v) ?_
  refine Ev.congr (f := fun _ => some (if x ≥ 0 then decide (x < (E.length : Int)) else false)) (fun f => ?_) (Ev.now _)
  rw [if_pos rfl]
  split <;> rfl
theorem sources_ev (v : Valid E S) (hA : Ev (fun f => shape_Ahead.f f E S) A) (h : Sq E.length A) {e : Nat} (he : e < E.length) : Ev (fun f => shape_Sources.f f E S e) (svs E A e E.length 0) := by
  have ht := there_ev v (e : Int)
  rw [if_pos (by omega), decide_eq_true (by omega)] at ht
  unfold shape_Sources.f
  refine Ev.bind ht ?_
  refine Ev.congr (f := fun f => (shape_Ahead.f f E S).bind fun t230 => (shape_Sources.l0 f e ([] : List Int) t230 E (E.length : Int) ((0 : Nat) : Int) E S)) (fun f => by rw [if_pos rfl]; rfl) ?_
  refine Ev.bind hA ?_
  simpa using sv_from v.n40 h he E.length 0 [] (by omega) (by simp)
theorem ref_source (v : Valid E S) (t : Tells E S A) {e i : Nat} (he : e < E.length) (hi : i < E.length) : Ev (fun f => fathomref27_Source.f f E S e i) (sv E A e i) := by
  unfold fathomref27_Source.f
  by_cases c1 : i = e
  · refine Ev.congr (f := fun _ => some (sv E A e i)) (fun f => ?_) (Ev.now _)
    rw [if_pos (by omega)]
    unfold sv
    rw [decide_eq_true c1]
    rfl
  · by_cases c2 : (rd_T38 E (i : Int)).f3 = (rd_T38 E (e : Int)).f3
    · by_cases c3 : fd (rd_T38 E (i : Int)).f2 (rd_T38 E (e : Int)).f2 = true
      · have es : sv E A e i = ! g A e i := by
          unfold sv
          rw [decide_eq_false c1, decide_eq_true c2, c3]
          simp
        rw [es]
        refine Ev.congr (f := fun f => (fathomref27_Ahead.f f E S e i).bind fun t228 => (some (!t228))) (fun f => ?_) (Ev.bind (t.ref v he hi) (Ev.now _))
        rw [if_neg (by omega), if_pos (by omega), if_pos (by omega), if_pos (by omega), if_pos (by omega), if_pos c2.symm, fd_ref, c3, Option.bind_some, if_pos rfl]
      · have c3' : fd (rd_T38 E (i : Int)).f2 (rd_T38 E (e : Int)).f2 = false := by simpa using c3
        have es : sv E A e i = false := by
          unfold sv
          rw [c3']
          simp
        rw [es]
        refine Ev.congr (f := fun _ => some false) (fun f => ?_) (Ev.now _)
        rw [if_neg (by omega), if_pos (by omega), if_pos (by omega), if_pos (by omega), if_pos (by omega), if_pos c2.symm, fd_ref, c3', Option.bind_some, if_neg (by decide)]
    · have es : sv E A e i = false := by
        unfold sv
        rw [decide_eq_false c2]
        simp
      rw [es]
      refine Ev.congr (f := fun _ => some false) (fun f => ?_) (Ev.now _)
      rw [if_neg (by omega), if_pos (by omega), if_pos (by omega), if_pos (by omega), if_pos (by omega), if_neg (fun h => c2 h.symm)]
def rw2 (E : List S38) (A : List (List Bool)) (e i : Nat) : Bool := pl (rd_T38 E (e : Int)).f2 && rv E A e i
theorem pl_le {a : Int} (h : 1 ≤ a) : pl a = decide (a ≤ 2) := by
  unfold pl
  by_cases c : a ≤ 2
  · rw [decide_eq_true c]
    have : a = 1 ∨ a = 2 := by omega
    rcases this with rfl | rfl <;> rfl
  · rw [decide_eq_false c]
    simp
    omega
theorem ref_rival (v : Valid E S) (t : Tells E S A) {e i : Nat} (he : e < E.length) (hi : i < E.length) : Ev (fun f => fathomref27_Rival.f f E S e i) (rw2 E A e i) := by
  have pe := pl_le (v.okL e he).kd1
  have pi := pl_le (v.okL i hi).kd1
  have now : rw2 E A e i = false → (∀ f, fathomref27_Rival.f f E S e i = some false) → Ev (fun f => fathomref27_Rival.f f E S e i) (rw2 E A e i) := by
    intro h1 h2
    rw [h1]
    exact Ev.congr (f := fun _ => some false) h2 (Ev.now _)
  have two : rw2 E A e i = (! g A e i && ! g A i e) → (∀ f, fathomref27_Rival.f f E S e i = (fathomref27_Ahead.f f E S e i).bind fun t234 => (if t234 = true then (some false) else ((fathomref27_Ahead.f f E S i e).bind fun t235 => (some (!t235))))) → Ev (fun f => fathomref27_Rival.f f E S e i) (rw2 E A e i) := by
    intro h1 h2
    rw [h1]
    refine Ev.congr (f := fun f => (fathomref27_Ahead.f f E S e i).bind fun t234 => (if t234 = true then (some false) else ((fathomref27_Ahead.f f E S i e).bind fun t235 => (some (!t235))))) h2 ?_
    refine Ev.bind (t.ref v he hi) ?_
    by_cases c : g A e i = true
    · rw [c]
      exact Ev.congr (f := fun _ => some false) (fun f => by rw [if_pos rfl]) (Ev.now _)
    · have c' : g A e i = false := by simpa using c
      rw [c']
      refine Ev.congr (f := fun f => (fathomref27_Ahead.f f E S i e).bind fun t235 => (some (!t235))) (fun f => by rw [if_neg (by decide)]) ?_
      exact Ev.bind (t.ref v hi he) (Ev.now _)
  by_cases c1 : (rd_T38 E (e : Int)).f2 ≤ 2
  · by_cases c2 : (rd_T38 E (i : Int)).f2 ≤ 2
    · by_cases c3 : (rd_T38 E (i : Int)).f0 = (rd_T38 E (e : Int)).f0
      · refine now (by unfold rw2 rv; rw [decide_eq_true c3]; simp) (fun f => ?_)
        unfold fathomref27_Rival.f
        rw [if_pos (by omega), if_pos (by omega), if_pos (by omega), if_pos (by omega), if_pos c1, if_pos c2, if_pos c3.symm]
      · by_cases c4 : (rd_T38 E (i : Int)).f3 = (rd_T38 E (e : Int)).f3
        · by_cases c5 : (rd_T38 E (e : Int)).f2 = 2
          · refine two ?_ (fun f => ?_)
            · unfold rw2 rv
              rw [pe, pi, decide_eq_true c1, decide_eq_true c2, decide_eq_false c3, decide_eq_true c4, decide_eq_true c5]
              simp
            · unfold fathomref27_Rival.f
              rw [if_pos (by omega), if_pos (by omega), if_pos (by omega), if_pos (by omega), if_pos c1, if_pos c2, if_neg (fun h => c3 h.symm), if_pos c4.symm, if_pos c5]
          · by_cases c6 : (rd_T38 E (i : Int)).f2 = 2
            · refine two ?_ (fun f => ?_)
              · unfold rw2 rv
                rw [pe, pi, decide_eq_true c1, decide_eq_true c2, decide_eq_false c3, decide_eq_true c4, decide_eq_true c6]
                simp
              · unfold fathomref27_Rival.f
                rw [if_pos (by omega), if_pos (by omega), if_pos (by omega), if_pos (by omega), if_pos c1, if_pos c2, if_neg (fun h => c3 h.symm), if_pos c4.symm, if_neg c5, if_pos c6]
            · refine now (by unfold rw2 rv; rw [decide_eq_false c5, decide_eq_false c6]; simp) (fun f => ?_)
              unfold fathomref27_Rival.f
              rw [if_pos (by omega), if_pos (by omega), if_pos (by omega), if_pos (by omega), if_pos c1, if_pos c2, if_neg (fun h => c3 h.symm), if_pos c4.symm, if_neg c5, if_neg c6]
        · refine now (by unfold rw2 rv; rw [decide_eq_false c4]; simp) (fun f => ?_)
          unfold fathomref27_Rival.f
          rw [if_pos (by omega), if_pos (by omega), if_pos (by omega), if_pos (by omega), if_pos c1, if_pos c2, if_neg (fun h => c3 h.symm), if_neg (fun h => c4 h.symm)]
    · refine now (by unfold rw2 rv; rw [pi, decide_eq_false c2]; simp) (fun f => ?_)
      unfold fathomref27_Rival.f
      rw [if_pos (by omega), if_pos (by omega), if_pos (by omega), if_pos (by omega), if_pos c1, if_neg c2]
  · refine now (by unfold rw2; rw [pe, decide_eq_false c1]; simp) (fun f => ?_)
    unfold fathomref27_Rival.f
    rw [if_pos (by omega), if_pos (by omega), if_pos (by omega), if_pos (by omega), if_neg c1]
/-- The first ones of a list of places, by a test. -/
def pick (p : Nat → Bool) (i : Nat) : List Int := ((List.range i).filter p).map (fun x : Nat => (x : Int))
theorem pick_succ (p : Nat → Bool) (i : Nat) : pick p (i + 1) = if p i = true then pick p i ++ [(i : Int)] else pick p i := by
  unfold pick
  rw [List.range_succ, List.filter_append, List.map_append]
  by_cases c : p i = true
  · rw [if_pos c, List.filter_cons_of_pos c]; rfl
  · rw [if_neg c, List.filter_cons_of_neg c]; simp
theorem pick_len (p : Nat → Bool) (i : Nat) : (pick p i).length ≤ i := by
  unfold pick
  rw [List.length_map]
  exact Nat.le_trans (List.length_filter_le _ _) (by rw [List.length_range]; exact Nat.le_refl _)
theorem ints_from (a : List Int) (h60 : a.length ≤ 60) : ∀ d i : Nat, i + d = a.length → Ev (fun f => fathomref01_Ints.l0 f a a i) true := by
  intro d
  induction d with
  | zero =>
    intro i hi
    refine Ev.step (f := fun _ => some true) (fun f => ?_) (Ev.now _)
    simp only [fathomref01_Ints.l0]
    rw [if_neg (by omega)]
  | succ d ih =>
    intro i hi
    have e1 := wrap_up (show i < a.length by omega) h60
    refine Ev.step (f := fun f => fathomref01_Ints.l0 f a a ((i + 1 : Nat) : Int)) (fun f => ?_) (ih (i + 1) (by omega))
    simp only [fathomref01_Ints.l0, e1]
    rw [if_pos (by omega), if_pos (by omega), if_pos (by omega)]
    simp
theorem ints_ev (a : List Int) (h60 : a.length ≤ 60) : Ev (fun f => fathomref01_Ints.f f a a) true := by
  unfold fathomref01_Ints.f
  simp only [if_pos]
  exact ints_from a h60 a.length 0 (by omega)
theorem last_ev {x y : List Int} (hx : x.length ≤ 60) (hy : y.length ≤ 60) (e i : Int) : Ev (fun f => fathomlaw27_ShapeKnows.j4 f e x y x y i false E S) true := by
  refine Ev.step (f := fun f => (fathomref01_Ints.f f x x).bind fun t260 => (if t260 = true then ((fathomref01_Ints.f f y y).bind fun t261 => (if t261 = true then ((fathomlaw27_awake.f f).bind fun t262 => (some t262)) else (some false))) else (some false))) (fun f => ?_) ?_
  · simp only [fathomlaw27_ShapeKnows.j4]
    rw [if_neg (by decide)]
  · refine Ev.bind (ints_ev x hx) ?_
    refine Ev.congr (f := fun f => (fathomref01_Ints.f f y y).bind fun t261 => (if t261 = true then ((fathomlaw27_awake.f f).bind fun t262 => (some t262)) else (some false))) (fun f => by rw [if_pos rfl]) ?_
    refine Ev.bind (ints_ev y hy) ?_
    exact Ev.congr (f := fun f => (fathomlaw27_awake.f f).bind fun t262 => (some t262)) (fun f => by rw [if_pos rfl]) (Ev.bind awake_ev (Ev.now _))
theorem k2_from (v : Valid E S) (t : Tells E S A) {e : Nat} (he : e < E.length) : ∀ (d i : Nat), i + d = E.length →
    Ev (fun f => fathomlaw27_ShapeKnows.l2 f e (pick (sv E A e) E.length) (pick (rw2 E A e) E.length) (pick (sv E A e) i) (pick (rw2 E A e) i) i E S) true := by
  have n40 := v.n40
  intro d
  induction d with
  | zero =>
    intro i hi
    obtain rfl : i = E.length := by omega
    refine Ev.step (f := fun f => fathomlaw27_ShapeKnows.j4 f e (pick (sv E A e) E.length) (pick (rw2 E A e) E.length) (pick (sv E A e) E.length) (pick (rw2 E A e) E.length) E.length false E S) (fun f => ?_) (last_ev (Nat.le_trans (pick_len _ _) (by omega)) (Nat.le_trans (pick_len _ _) (by omega)) _ _)
    simp only [fathomlaw27_ShapeKnows.l2]
    rw [if_neg (by omega)]
  | succ d ih =>
    intro i hi
    have hi' : i < E.length := by omega
    have e1 := wrap_up hi' (by omega : E.length ≤ 60)
    have l1 := pick_len (sv E A e) i
    have l2 := pick_len (rw2 E A e) i
    have nx := ih (i + 1) (by omega)
    rw [pick_succ, pick_succ] at nx
    refine Ev.step (f := fun f => fathomlaw27_ShapeKnows.j4 f e (pick (sv E A e) E.length) (pick (rw2 E A e) E.length) (pick (sv E A e) i) (pick (rw2 E A e) i) i true E S) (fun f => ?_) ?_
    · simp only [fathomlaw27_ShapeKnows.l2]
      rw [if_pos (by omega), if_pos (by omega), decide_eq_true (by omega)]
    · generalize pick (sv E A e) E.length = X at nx ⊢
      generalize pick (rw2 E A e) E.length = Y at nx ⊢
      generalize pick (sv E A e) i = x at nx l1 ⊢
      generalize pick (rw2 E A e) i = y at nx l2 ⊢
      have rest : ∀ z : List Int, z = (if sv E A e i = true then x ++ [(i : Int)] else x) → Ev (fun f => (fathomref27_Rival.f f E S e i).bind fun t267 => (if t267 = true then (if y.length < 17592186044416 then (fathomlaw27_ShapeKnows.l2 f e X Y z (y ++ [(i : Int)]) ((i + 1 : Nat) : Int) E S) else (none)) else (fathomlaw27_ShapeKnows.l2 f e X Y z y ((i + 1 : Nat) : Int) E S))) true := by
        rintro z rfl
        refine Ev.bind (ref_rival v t he hi') ?_
        by_cases c : rw2 E A e i = true
        · rw [if_pos c] at nx
          refine Ev.congr (fun f => ?_) nx
          rw [if_pos c, if_pos (by omega)]
        · rw [if_neg c] at nx
          refine Ev.congr (fun f => ?_) nx
          rw [if_neg c]
      refine Ev.step (f := fun f => (fathomref27_Source.f f E S e i).bind fun t263 => (if t263 = true then (if x.length < 17592186044416 then ((some (x ++ [(i : Int)] : List Int)).bind fun y264 => ((fathomref27_Rival.f f E S e i).bind fun t267 => (if t267 = true then (if y.length < 17592186044416 then (fathomlaw27_ShapeKnows.l2 f e X Y y264 (y ++ [(i : Int)]) ((i + 1 : Nat) : Int) E S) else (none)) else (fathomlaw27_ShapeKnows.l2 f e X Y y264 y ((i + 1 : Nat) : Int) E S)))) else (none)) else ((fathomref27_Rival.f f E S e i).bind fun t271 => (if t271 = true then (if y.length < 17592186044416 then (fathomlaw27_ShapeKnows.l2 f e X Y x (y ++ [(i : Int)]) ((i + 1 : Nat) : Int) E S) else (none)) else (fathomlaw27_ShapeKnows.l2 f e X Y x y ((i + 1 : Nat) : Int) E S))))) (fun f => ?_) ?_
      · simp only [fathomlaw27_ShapeKnows.j4, e1]
        rw [if_pos trivial]
      · refine Ev.bind (ref_source v t he hi') ?_
        by_cases c : sv E A e i = true
        · refine Ev.congr (fun f => ?_) (rest (x ++ [(i : Int)]) (by rw [if_pos c]))
          rw [if_pos c, if_pos (by omega)]
          rfl
        · refine Ev.congr (fun f => ?_) (rest x (by rw [if_neg c]))
          rw [if_neg c]
theorem k1_from (v : Valid E S) (t : Tells E S A) (e : Int) {i : Nat} (hi : i < E.length) (hr : Ev (fun f => fathomlaw27_ShapeKnows.l0 f e A ((i + 1 : Nat) : Int) E S) true) : ∀ d j : Nat, j + d = E.length → Ev (fun f => fathomlaw27_ShapeKnows.l1 f e A i j E S) true := by
  have n40 := v.n40
  have hl := t.sq.len
  have hri : (rd_L3 A (i : Int)).length = E.length := t.sq.rows i hi
  have ei := wrap_up hi (by omega : E.length ≤ 60)
  intro d
  induction d with
  | zero =>
    intro j hj
    refine Ev.step (f := fun f => fathomlaw27_ShapeKnows.l0 f e A ((i + 1 : Nat) : Int) E S) (fun f => ?_) hr
    simp only [fathomlaw27_ShapeKnows.l1, ei]
    rw [if_neg (by omega)]
  | succ d ih =>
    intro j hj
    have hj' : j < E.length := by omega
    have ej := wrap_up hj' (by omega : E.length ≤ 60)
    have gij : rdOf false (rd_L3 A (i : Int)) (j : Int) = g A i j := rfl
    refine Ev.step (f := fun f => (fathomref27_Ahead.f f E S i j).bind fun t247 => (if ((rdOf false (rd_L3 A (i : Int)) (j : Int)) != t247) = true then (some false) else (fathomlaw27_ShapeKnows.l1 f e A i ((j + 1 : Nat) : Int) E S))) (fun f => ?_) ?_
    · simp only [fathomlaw27_ShapeKnows.l1, ej]
      rw [if_pos (by omega), if_pos (by omega), if_pos (by omega), if_pos (by omega), if_pos (by omega)]
    · refine Ev.bind (t.ref v hi hj') ?_
      refine Ev.congr (f := fun f => fathomlaw27_ShapeKnows.l1 f e A i ((j + 1 : Nat) : Int) E S) (fun f => ?_) (ih (j + 1) (by omega))
      rw [gij, if_neg (by simp)]
theorem k0_from (v : Valid E S) (hA : Ev (fun f => shape_Ahead.f f E S) A) (t : Tells E S A) (e : Int) : ∀ d i : Nat, i + d = E.length → Ev (fun f => fathomlaw27_ShapeKnows.l0 f e A i E S) true := by
  have n40 := v.n40
  have hl := t.sq.len
  intro d
  induction d with
  | zero =>
    intro i hi
    refine Ev.step (f := fun f => (shape_Sources.f f E S e).bind fun t248 => ((shape_Rivals.f f E S e).bind fun t251 => (fathomlaw27_ShapeKnows.l2 f e t248 t251 (([] : List Int)) (([] : List Int)) ((0 : Nat) : Int) E S))) (fun f => ?_) ?_
    · simp only [fathomlaw27_ShapeKnows.l0]
      rw [if_neg (by omega)]
      rfl
    · by_cases c : 0 ≤ e ∧ e < (E.length : Int)
      · obtain ⟨n, rfl⟩ : ∃ n : Nat, e = (n : Int) := ⟨e.toNat, (Int.toNat_of_nonneg c.1).symm⟩
        have hn : n < E.length := by omega
        have es : svs E A n E.length 0 = pick (sv E A n) E.length := by unfold svs pick; rw [List.range_eq_range']
        have er : rvs E A n = pick (rw2 E A n) E.length := by
          unfold rvs pick rw2
          by_cases c : pl (rd_T38 E (n : Int)).f2 = true
          · rw [if_pos c, c]; simp
          · have c' : pl (rd_T38 E (n : Int)).f2 = false := by simpa using c
            rw [if_neg c, c']; simp
        refine Ev.bind (sources_ev v hA t.sq hn) (Ev.bind (rivals_ev v hA t.sq hn) ?_)
        rw [es, er]
        exact k2_from v t hn E.length 0 (by omega)
      · have ht := there_ev v e
        have hb : (if e ≥ 0 then decide (e < (E.length : Int)) else false) = false := by
          by_cases c1 : e ≥ 0
          · rw [if_pos c1]
            exact decide_eq_false (fun h => c ⟨c1, h⟩)
          · rw [if_neg c1]
        rw [hb] at ht
        have hso : Ev (fun f => shape_Sources.f f E S e) [] := by
          unfold shape_Sources.f
          refine Ev.bind ht ?_
          exact Ev.congr (f := fun _ => some []) (fun f => by rw [if_neg (by decide)]) (Ev.now _)
        have hri : Ev (fun f => shape_Rivals.f f E S e) [] := by
          unfold shape_Rivals.f
          refine Ev.bind ht ?_
          refine Ev.congr (f := fun f => shape_Rivals.j0 f e true E S) (fun f => by rw [if_neg (by decide)]) ?_
          refine Ev.step (f := fun _ => some []) (fun f => ?_) (Ev.now _)
          simp only [shape_Rivals.j0]
          rw [if_pos trivial]
        refine Ev.bind hso (Ev.bind hri ?_)
        refine Ev.step (f := fun f => fathomlaw27_ShapeKnows.j4 f e [] [] [] [] ((0 : Nat) : Int) false E S) (fun f => ?_) (last_ev (by simp) (by simp) _ _)
        simp only [fathomlaw27_ShapeKnows.l2]
        by_cases c2 : (((0 : Nat) : Int) < (E.length : Int))
        · rw [if_pos c2]
          by_cases c1 : e ≥ 0
          · rw [if_pos c1, decide_eq_false (fun h => c ⟨c1, h⟩)]
          · rw [if_neg c1]
        · rw [if_neg c2]
  | succ d ih =>
    intro i hi
    have hi' : i < E.length := by omega
    have hri : (rd_L3 A (i : Int)).length = E.length := t.sq.rows i hi'
    refine Ev.step (f := fun f => fathomlaw27_ShapeKnows.l1 f e A i ((0 : Nat) : Int) E S) (fun f => ?_) (k1_from v t e hi' (ih (i + 1) (by omega)) E.length 0 (by omega))
    simp only [fathomlaw27_ShapeKnows.l0]
    rw [if_pos (by omega), if_pos (by omega), if_pos (by omega)]
    rfl
theorem knows_ev (E : List S38) (S : List Int) (e : Int) : Ev (fun f => fathomlaw27_ShapeKnows.f f E S e) true := by
  have hq : ∀ c : Bool, c = true → Ev (fun f => fathomlaw27_ShapeKnows.j0 f e c E S) true := by
    rintro c rfl
    refine Ev.step (f := fun f => (fathomlaw27_awake.f f).bind fun t => some t) (fun f => ?_) (Ev.bind awake_ev (Ev.now _))
    simp only [fathomlaw27_ShapeKnows.j0]
    rw [if_pos trivial]
  unfold fathomlaw27_ShapeKnows.f
  by_cases c1 : (E.length : Int) > 60
  · simp only [if_pos c1]
    exact hq _ rfl
  · simp only [if_neg c1]
    by_cases c2 : (S.length : Int) > 60
    · simp only [if_pos c2]
      exact hq _ rfl
    · simp only [if_neg c2]
      by_cases v : Valid E S
      · refine Ev.bind ((may_ev (by omega) (by omega)).1 v) ?_
        obtain ⟨A, hA, h, hg⟩ := ahead_ev v
        have hl := h.len
        refine Ev.step (f := fun f => (shape_Ahead.f f E S).bind fun t241 => (if (t241.length : Int) = (E.length : Int) then (fathomlaw27_ShapeKnows.l0 f e t241 ((0 : Nat) : Int) E S) else (some false))) (fun f => ?_) ?_
        · simp only [fathomlaw27_ShapeKnows.j0]
          rw [if_neg (by decide)]
          rfl
        · refine Ev.bind hA ?_
          refine Ev.congr (f := fun f => fathomlaw27_ShapeKnows.l0 f e A ((0 : Nat) : Int) E S) (fun f => by rw [if_pos (by omega)]) ?_
          exact k0_from v hA ⟨h, hg⟩ e E.length 0 (by omega)
      · refine Ev.bind ((may_ev (by omega) (by omega)).2 v) ?_
        exact hq _ rfl
end
end Go.Proofs.Ytcoelecaigkfcaa.Pure
