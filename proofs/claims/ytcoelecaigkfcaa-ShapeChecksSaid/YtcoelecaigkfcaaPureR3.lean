/- Shapes: the law of checks, in plain Lean. -/
import Derived.Test.YtcoelecaigkfcaaPureR2
import Derived.Test.YtcoelecaigkfcaaRx9
namespace Go.Proofs.Ytcoelecaigkfcaa.Pure
open Go.RowKit Go.Proofs.Ytcoelecaigkfcaa.R Go.Proofs.YtcoelecaigkfcaaW.PrintWords Go.Proofs.YtcoelecaigkfcaaW.PrintLast
section
variable {E : List S38} {S : List Int}
/-- An event's goroutine and place. -/
def Here (E : List S38) (a b : Int) (j : Nat) : Prop := (rd_T38 E (j : Int)).f0 = a ∧ (rd_T38 E (j : Int)).f1 = b
theorem here_one (v : Valid E S) {a b : Int} {i j : Nat} (hij : i < j) (hj : j < E.length) (h1 : Here E a b i) (h2 : Here E a b j) : False := by
  have key : ∀ d, i + (d + 1) < E.length → (rd_T38 E (i : Int)).f0 < (rd_T38 E ((i + (d + 1) : Nat) : Int)).f0 ∨ ((rd_T38 E (i : Int)).f0 = (rd_T38 E ((i + (d + 1) : Nat) : Int)).f0 ∧ (rd_T38 E (i : Int)).f1 < (rd_T38 E ((i + (d + 1) : Nat) : Int)).f1) := by
    intro d
    induction d with
    | zero =>
      intro h
      have o := (v.okL (i + (0 + 1)) h).ord (by omega)
      rwa [show i + (0 + 1) - 1 = i by omega] at o
    | succ d ih =>
      intro h
      have x := ih (by omega)
      have o := (v.okL (i + (d + 1 + 1)) h).ord (by omega)
      rw [show i + (d + 1 + 1) - 1 = i + (d + 1) by omega] at o
      omega
  have := key (j - i - 1) (by omega)
  rw [show i + (j - i - 1 + 1) = j by omega] at this
  obtain ⟨a1, a2⟩ := h1
  obtain ⟨b1, b2⟩ := h2
  omega
def Want (E : List S38) (a b : Int) (i : Nat) (x : Int) : Prop := (x = -1 ∧ ∀ j, j < i → ¬ Here E a b j) ∨ ∃ j, j < i ∧ x = (j : Int) ∧ Here E a b j
theorem want_at (v : Valid E S) {a b x : Int} (h : Want E a b E.length x) : shape_At.at_ E a b = x := by
  rcases h with ⟨rfl, h⟩ | ⟨j, hj, rfl, h⟩
  · exact shape_At.at_none a b E h
  · exact shape_At.at_some a b E j hj (fun i hi hm => here_one v hi hj hm h) h
theorem c0_from (v : Valid E S) (a b : Int) : ∀ (d i : Nat) (x : Int), i + d = E.length → Want E a b i x → Ev (fun f => fathomlaw27_ShapeChecks.l0 f a b (shape_At.at_ E a b) x i E S) true := by
  have n40 := v.n40
  intro d
  induction d with
  | zero =>
    intro i x hi h
    obtain rfl : i = E.length := by omega
    refine Ev.step (f := fun f => (shape_Check.f f E S).bind fun t218 => (if t218 = 0 then (if shape_At.at_ E a b = x then ((fathomlaw27_awake.f f).bind fun t219 => (some t219)) else (some false)) else (some false))) (fun f => ?_) ?_
    · simp only [fathomlaw27_ShapeChecks.l0]
      rw [if_neg (by omega)]
    · refine Ev.bind (check_ev.1 v) ?_
      refine Ev.congr (f := fun f => (fathomlaw27_awake.f f).bind fun t219 => (some t219)) (fun f => ?_) (Ev.bind awake_ev (Ev.now _))
      rw [if_pos rfl, if_pos (want_at v h)]
  | succ d ih =>
    intro i x hi h
    have hi' : i < E.length := by omega
    have e1 := wrap_up hi' (by omega : E.length ≤ 60)
    have step : ∀ y, (Here E a b i → y = (i : Int)) → (¬ Here E a b i → y = x) → Want E a b (i + 1) y := by
      intro y y1 y2
      by_cases c : Here E a b i
      · exact .inr ⟨i, by omega, y1 c, c⟩
      · rw [y2 c]
        rcases h with ⟨e, h⟩ | ⟨j, hj, e, h⟩
        · refine .inl ⟨e, fun j hj => ?_⟩
          rcases Nat.lt_succ_iff_lt_or_eq.1 hj with hj | rfl
          · exact h j hj
          · exact c
        · exact .inr ⟨j, by omega, e, h⟩
    by_cases c : Here E a b i
    · refine Ev.step (f := fun f => fathomlaw27_ShapeChecks.l0 f a b (shape_At.at_ E a b) i ((i + 1 : Nat) : Int) E S) (fun f => ?_) (ih (i + 1) i (by omega) (step i (fun _ => rfl) (fun h => absurd c h)))
      simp only [fathomlaw27_ShapeChecks.l0, e1]
      rw [if_pos (by omega), if_pos (by omega), if_pos c.1, if_pos c.2]
    · refine Ev.step (f := fun f => fathomlaw27_ShapeChecks.l0 f a b (shape_At.at_ E a b) x ((i + 1 : Nat) : Int) E S) (fun f => ?_) (ih (i + 1) x (by omega) (step x (fun h => absurd h c) (fun _ => rfl)))
      simp only [fathomlaw27_ShapeChecks.l0, e1]
      rw [if_pos (by omega), if_pos (by omega)]
      by_cases c1 : (rd_T38 E (i : Int)).f0 = a
      · rw [if_pos c1, if_neg (fun h => c ⟨c1, h⟩)]
      · rw [if_neg c1]
theorem there_bad (v : ¬ Valid E S) (x : Int) : Ev (fun f => shape_there.f f E S x) false := by
  unfold shape_there.f
  refine Ev.bind (check_ev.2 v) ?_
  exact Ev.congr (f := fun _ => some false) (fun f => by rw [if_neg (by decide)]) (Ev.now _)
theorem checks_ev (E : List S38) (S : List Int) (a b : Int) : Ev (fun f => fathomlaw27_ShapeChecks.f f E S a b) true := by
  have hq : ∀ c : Bool, c = true → Ev (fun f => fathomlaw27_ShapeChecks.j0 f a b c E S) true := by
    rintro c rfl
    refine Ev.step (f := fun f => (fathomlaw27_awake.f f).bind fun t => some t) (fun f => ?_) (Ev.bind awake_ev (Ev.now _))
    simp only [fathomlaw27_ShapeChecks.j0]
    rw [if_pos trivial]
  unfold fathomlaw27_ShapeChecks.f
  by_cases c1 : (E.length : Int) > 60
  · simp only [if_pos c1]
    exact hq _ rfl
  · simp only [if_neg c1]
    by_cases c2 : (S.length : Int) > 60
    · rw [decide_eq_true c2]
      exact hq _ rfl
    · rw [decide_eq_false c2]
      by_cases v : Valid E S
      · refine Ev.step (f := fun f => (shape_At.f f E S a b).bind fun t203 => ((fathomref27_May.f f E S).bind fun t204 => (if t204 = true then (fathomlaw27_ShapeChecks.l0 f a b t203 (-1) ((0 : Nat) : Int) E S) else ((shape_Check.f f E S).bind fun t205 => (if t205 = 1 then (if t203 = (-1) then ((shape_Ahead.f f E S).bind fun t206 => (if (t206.length : Int) = 0 then ((shape_Sources.f f E S 0).bind fun t209 => (if (t209.length : Int) = 0 then ((shape_Rivals.f f E S 0).bind fun t212 => (if (t212.length : Int) = 0 then ((fathomlaw27_awake.f f).bind fun t215 => (some t215)) else (some false))) else (some false))) else (some false))) else (some false)) else (some false)))))) (fun f => ?_) ?_
        · simp only [fathomlaw27_ShapeChecks.j0]
          rw [if_neg (by decide)]
          rfl
        · have hat : Ev (fun f => shape_At.f f E S a b) (shape_At.at_ E a b) := by
            unfold shape_At.f
            refine Ev.bind (check_ev.1 v) ?_
            exact Ev.congr (f := fun _ => some (shape_At.at_ E a b)) (fun f => by rw [if_pos rfl]) (Ev.now _)
          refine Ev.bind hat (Ev.bind ((may_ev (by omega) (by omega)).1 v) ?_)
          refine Ev.congr (f := fun f => fathomlaw27_ShapeChecks.l0 f a b (shape_At.at_ E a b) (-1) ((0 : Nat) : Int) E S) (fun f => by rw [if_pos rfl]) ?_
          exact c0_from v a b E.length 0 (-1) (by omega) (.inl ⟨rfl, fun j hj => absurd hj (by omega)⟩)
      · refine Ev.step (f := fun f => (shape_At.f f E S a b).bind fun t203 => ((fathomref27_May.f f E S).bind fun t204 => (if t204 = true then (fathomlaw27_ShapeChecks.l0 f a b t203 (-1) 0 E S) else ((shape_Check.f f E S).bind fun t205 => (if t205 = 1 then (if t203 = (-1) then ((shape_Ahead.f f E S).bind fun t206 => (if (t206.length : Int) = 0 then ((shape_Sources.f f E S 0).bind fun t209 => (if (t209.length : Int) = 0 then ((shape_Rivals.f f E S 0).bind fun t212 => (if (t212.length : Int) = 0 then ((fathomlaw27_awake.f f).bind fun t215 => (some t215)) else (some false))) else (some false))) else (some false))) else (some false)) else (some false)))))) (fun f => ?_) ?_
        · simp only [fathomlaw27_ShapeChecks.j0]
          rw [if_neg (by decide)]
        · have hat : Ev (fun f => shape_At.f f E S a b) (-1) := by
            unfold shape_At.f
            refine Ev.bind (check_ev.2 v) ?_
            exact Ev.congr (f := fun _ => some (-1)) (fun f => by rw [if_neg (by decide)]) (Ev.now _)
          have hah : Ev (fun f => shape_Ahead.f f E S) [] := by
            unfold shape_Ahead.f
            refine Ev.bind (check_ev.2 v) ?_
            exact Ev.congr (f := fun _ => some []) (fun f => by rw [if_neg (by decide)]) (Ev.now _)
          have hso : Ev (fun f => shape_Sources.f f E S 0) [] := by
            unfold shape_Sources.f
            refine Ev.bind (there_bad v 0) ?_
            exact Ev.congr (f := fun _ => some []) (fun f => by rw [if_neg (by decide)]) (Ev.now _)
          have hri : Ev (fun f => shape_Rivals.f f E S 0) [] := by
            unfold shape_Rivals.f
            refine Ev.bind (there_bad v 0) ?_
            refine Ev.congr (f := fun f => shape_Rivals.j0 f 0 true E S) (fun f => by rw [if_neg (by decide)]) ?_
            refine Ev.step (f := fun _ => some []) (fun f => ?_) (Ev.now _)
            simp only [shape_Rivals.j0]
            rw [if_pos trivial]
          refine Ev.bind hat (Ev.bind ((may_ev (by omega) (by omega)).2 v) ?_)
          refine Ev.congr (f := fun f => (shape_Check.f f E S).bind fun t205 => (if t205 = 1 then ((shape_Ahead.f f E S).bind fun t206 => (if (t206.length : Int) = 0 then ((shape_Sources.f f E S 0).bind fun t209 => (if (t209.length : Int) = 0 then ((shape_Rivals.f f E S 0).bind fun t212 => (if (t212.length : Int) = 0 then ((fathomlaw27_awake.f f).bind fun t215 => (some t215)) else (some false))) else (some false))) else (some false))) else (some false))) (fun f => by rw [if_neg (by decide)]; rfl) ?_
          refine Ev.bind (check_ev.2 v) ?_
          refine Ev.congr (f := fun f => (shape_Ahead.f f E S).bind fun t206 => (if (t206.length : Int) = 0 then ((shape_Sources.f f E S 0).bind fun t209 => (if (t209.length : Int) = 0 then ((shape_Rivals.f f E S 0).bind fun t212 => (if (t212.length : Int) = 0 then ((fathomlaw27_awake.f f).bind fun t215 => (some t215)) else (some false))) else (some false))) else (some false))) (fun f => by rw [if_pos rfl]) ?_
          refine Ev.bind hah ?_
          refine Ev.congr (f := fun f => (shape_Sources.f f E S 0).bind fun t209 => (if (t209.length : Int) = 0 then ((shape_Rivals.f f E S 0).bind fun t212 => (if (t212.length : Int) = 0 then ((fathomlaw27_awake.f f).bind fun t215 => (some t215)) else (some false))) else (some false))) (fun f => by rw [if_pos (by simp)]) ?_
          refine Ev.bind hso ?_
          refine Ev.congr (f := fun f => (shape_Rivals.f f E S 0).bind fun t212 => (if (t212.length : Int) = 0 then ((fathomlaw27_awake.f f).bind fun t215 => (some t215)) else (some false))) (fun f => by rw [if_pos (by simp)]) ?_
          refine Ev.bind hri ?_
          exact Ev.congr (f := fun f => (fathomlaw27_awake.f f).bind fun t219 => (some t219)) (fun f => by rw [if_pos (by simp)]) (Ev.bind awake_ev (Ev.now _))
end
end Go.Proofs.Ytcoelecaigkfcaa.Pure
