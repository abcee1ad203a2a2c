/- Shapes: which there may be, by the program and by the reference alike. -/
import Derived.Test.YtcoelecaigkfcaaKx1
import Derived.Test.YtcoelecaigkfcaaKx2
import Derived.Test.YtcoelecaigkfcaaKx3
import Derived.Test.YtcoelecaigkfcaaKx4
import Derived.Test.YtcoelecaigkfcaaKx5
import Derived.Test.YtcoelecaigkfcaaKx6
import Derived.Test.YtcoelecaigkfcaaKx7
import Derived.Test.YtcoelecaigkfcaaKx8
import Derived.Test.YtcoelecaigkfcaaPl
namespace Go.Proofs.Ytcoelecaigkfcaa.Pure
open Go.RowKit Go.Proofs.Ytcoelecaigkfcaa.K Go.Proofs.YtcoelecaigkfcaaW.PrintWords Go.Proofs.YtcoelecaigkfcaaW.PrintLast
theorem awake_ev : Ev (fun k => fathomlaw27_awake.f k) true := Ev.of (fun k => fathomlaw27_awake.mono k) (k := 400) (by kernel_rfl)
/-- An event by its place; where a goroutine begins. -/
def sg (S : List Int) (p : Nat) : Int := S.getD p 0
theorem rd_sg (S : List Int) (p : Nat) : rd S (p : Int) = sg S p := rfl
/-- What is asked of an event beside where its goroutine begins. -/
structure OkL (E : List S38) (S : List Int) (i : Nat) : Prop where
  pr0 : 0 ≤ (rd_T38 E (i : Int)).f0
  prS : (rd_T38 E (i : Int)).f0 < S.length
  ins : 0 ≤ (rd_T38 E (i : Int)).f1
  kd1 : 1 ≤ (rd_T38 E (i : Int)).f2
  kd11 : (rd_T38 E (i : Int)).f2 ≤ 11
  ob0 : 0 ≤ (rd_T38 E (i : Int)).f3
  ord : 0 < i → (rd_T38 E ((i - 1 : Nat) : Int)).f0 < (rd_T38 E (i : Int)).f0 ∨ ((rd_T38 E ((i - 1 : Nat) : Int)).f0 = (rd_T38 E (i : Int)).f0 ∧ (rd_T38 E ((i - 1 : Nat) : Int)).f1 < (rd_T38 E (i : Int)).f1)
  go : (rd_T38 E (i : Int)).f2 = 11 → (rd_T38 E (i : Int)).f0 < (rd_T38 E (i : Int)).f3 ∧ (rd_T38 E (i : Int)).f3 < S.length
  other : (rd_T38 E (i : Int)).f2 ≠ 11 → (rd_T38 E (i : Int)).f3 < 12
/-- .. and that it begins it. -/
def OkG (E : List S38) (S : List Int) (i : Nat) : Prop := (rd_T38 E (i : Int)).f2 = 11 → rd S (rd_T38 E (i : Int)).f3 = i
def OkS (E : List S38) (S : List Int) (p : Nat) : Prop := sg S p = -1 ∨ (0 ≤ sg S p ∧ sg S p < E.length ∧ (rd_T38 E (sg S p)).f2 = 11 ∧ (rd_T38 E (sg S p)).f3 = p)
structure Valid (E : List S38) (S : List Int) : Prop where
  n40 : E.length ≤ 40
  s1 : 1 ≤ S.length
  s6 : S.length ≤ 6
  okL : ∀ i, i < E.length → OkL E S i
  okG : ∀ i, i < E.length → OkG E S i
  okS : ∀ p, p < S.length → OkS E S p
section
variable {E : List S38} {S : List Int}
theorem wrap_up {i n : Nat} (h : i < n) (hn : n ≤ 60) : wrap64 ((i : Int) + 1) = ((i + 1 : Nat) : Int) := by unfold wrap64; omega
theorem wrap_down {i : Nat} (h : 0 < i) (hn : i ≤ 60) : wrap64 ((i : Int) - 1) = ((i - 1 : Nat) : Int) := by unfold wrap64; omega
theorem may_step {i : Nat} (hi : i < E.length) (hn : E.length ≤ 60) : (OkL E S i ∧ OkG E S i → ∀ k, fathomref27_May.l0 (k + 3) i E S = fathomref27_May.l0 k ((i + 1 : Nat) : Int) E S) ∧ (¬ (OkL E S i ∧ OkG E S i) → ∀ k, fathomref27_May.l0 (k + 3) i E S = some false) := by
  have e1 := wrap_up hi hn
  have hi1 : (i : Int) < E.length := by omega
  have hi0 : (0 : Int) ≤ i := by omega
  constructor
  · rintro ⟨h, hg⟩ k
    obtain ⟨a1, a2, a3, a4, a5, a6, a7, a8, a9⟩ := h
    unfold OkG at hg
    simp only [fathomref27_May.l0, fathomref27_May.j2, fathomref27_May.j3, e1]
    rw [if_pos hi1, if_pos hi0, if_neg (by omega), if_neg (by omega), if_neg (by omega), if_neg (by omega), if_neg (by omega)]
    rw [decide_eq_false (show ¬ (rd_T38 E (i : Int)).f3 < 0 by omega), if_neg Bool.false_ne_true]
    by_cases h0 : 0 < i
    · have a7 := a7 h0
      rw [if_pos (by omega), wrap_down h0 (by omega), if_pos (by omega), if_pos (by omega), if_neg (by omega)]
      by_cases h1 : (rd_T38 E (i : Int)).f0 = (rd_T38 E ((i - 1 : Nat) : Int)).f0
      · rw [if_pos h1, decide_eq_false (show ¬ (rd_T38 E (i : Int)).f1 ≤ (rd_T38 E ((i - 1 : Nat) : Int)).f1 by omega), if_neg Bool.false_ne_true]
        by_cases h2 : (rd_T38 E (i : Int)).f2 = 11
        · have a8 := a8 h2
          rw [if_pos h2, if_neg (by omega), if_neg (by omega), if_pos (by omega), if_pos (by omega), if_pos (hg h2)]
        · rw [if_neg h2, if_neg (by have := a9 h2; omega)]
      · rw [if_neg h1, if_neg (by simp)]
        by_cases h2 : (rd_T38 E (i : Int)).f2 = 11
        · have a8 := a8 h2
          rw [if_pos h2, if_neg (by omega), if_neg (by omega), if_pos (by omega), if_pos (by omega), if_pos (hg h2)]
        · rw [if_neg h2, if_neg (by have := a9 h2; omega)]
    · rw [if_neg (by omega), if_neg (by simp)]
      by_cases h2 : (rd_T38 E (i : Int)).f2 = 11
      · have a8 := a8 h2
        rw [if_pos h2, if_neg (by omega), if_neg (by omega), if_pos (by omega), if_pos (by omega), if_pos (hg h2)]
      · rw [if_neg h2, if_neg (by have := a9 h2; omega)]
  · intro hno k
    simp only [fathomref27_May.l0, fathomref27_May.j2, fathomref27_May.j3, e1]
    rw [if_pos hi1, if_pos hi0]
    by_cases b1 : (rd_T38 E (i : Int)).f0 < 0
    · rw [if_pos b1, if_pos True.intro]
    rw [if_neg b1]
    by_cases b2 : (rd_T38 E (i : Int)).f0 ≥ S.length
    · rw [if_pos b2, if_pos True.intro]
    rw [if_neg b2]
    by_cases b3 : (rd_T38 E (i : Int)).f1 < 0
    · rw [if_pos b3, if_pos True.intro]
    rw [if_neg b3]
    by_cases b4 : (rd_T38 E (i : Int)).f2 < 1
    · rw [if_pos b4, if_pos True.intro]
    rw [if_neg b4]
    by_cases b5 : (rd_T38 E (i : Int)).f2 > 11
    · rw [if_pos b5, if_pos True.intro]
    rw [if_neg b5]
    by_cases b6 : (rd_T38 E (i : Int)).f3 < 0
    · rw [decide_eq_true b6, if_pos rfl]
    rw [decide_eq_false b6, if_neg Bool.false_ne_true]
    have tail : (0 < i → (rd_T38 E ((i - 1 : Nat) : Int)).f0 < (rd_T38 E (i : Int)).f0 ∨ ((rd_T38 E ((i - 1 : Nat) : Int)).f0 = (rd_T38 E (i : Int)).f0 ∧ (rd_T38 E ((i - 1 : Nat) : Int)).f1 < (rd_T38 E (i : Int)).f1)) → (if (rd_T38 E (i : Int)).f2 = 11 then (if (rd_T38 E (i : Int)).f3 ≤ (rd_T38 E (i : Int)).f0 then (some false) else (if (rd_T38 E (i : Int)).f3 ≥ (S.length : Int) then (some false) else (if 0 ≤ (rd_T38 E (i : Int)).f3 then (if (rd_T38 E (i : Int)).f3 < (S.length : Int) then (if (rd S (rd_T38 E (i : Int)).f3) = i then (fathomref27_May.l0 k ((i + 1 : Nat) : Int) E S) else (some false)) else (none)) else (none)))) else (if (rd_T38 E (i : Int)).f3 ≥ 12 then (some false) else (fathomref27_May.l0 k ((i + 1 : Nat) : Int) E S))) = some false := by
      intro hord
      by_cases c1 : (rd_T38 E (i : Int)).f2 = 11
      · rw [if_pos c1]
        by_cases c2 : (rd_T38 E (i : Int)).f3 ≤ (rd_T38 E (i : Int)).f0
        · rw [if_pos c2]
        rw [if_neg c2]
        by_cases c3 : (rd_T38 E (i : Int)).f3 ≥ (S.length : Int)
        · rw [if_pos c3]
        rw [if_neg c3, if_pos (by omega), if_pos (by omega)]
        by_cases c4 : rd S (rd_T38 E (i : Int)).f3 = i
        · exact absurd ⟨⟨by omega, by omega, by omega, by omega, by omega, by omega, hord, fun _ => ⟨by omega, by omega⟩, fun h => absurd c1 h⟩, fun _ => c4⟩ hno
        · rw [if_neg c4]
      · rw [if_neg c1]
        by_cases c2 : (rd_T38 E (i : Int)).f3 ≥ 12
        · rw [if_pos c2]
        · exact absurd ⟨⟨by omega, by omega, by omega, by omega, by omega, by omega, hord, fun h => absurd h c1, fun _ => by omega⟩, fun h => absurd h c1⟩ hno
    by_cases h0 : 0 < i
    · rw [if_pos (by omega), wrap_down h0 (by omega), if_pos (by omega), if_pos (by omega)]
      by_cases c1 : (rd_T38 E (i : Int)).f0 < (rd_T38 E ((i - 1 : Nat) : Int)).f0
      · rw [if_pos c1, if_pos True.intro]
      rw [if_neg c1]
      by_cases c2 : (rd_T38 E (i : Int)).f0 = (rd_T38 E ((i - 1 : Nat) : Int)).f0
      · rw [if_pos c2]
        by_cases c3 : (rd_T38 E (i : Int)).f1 ≤ (rd_T38 E ((i - 1 : Nat) : Int)).f1
        · rw [decide_eq_true c3, if_pos rfl]
        · rw [decide_eq_false c3, if_neg Bool.false_ne_true]
          exact tail (fun _ => .inr ⟨c2.symm, by omega⟩)
      · rw [if_neg c2, if_neg (by simp)]
        exact tail (fun _ => .inl (by omega))
    · rw [if_neg (by omega), if_neg (by simp)]
      exact tail (fun h => absurd h h0)
theorem may_s_step {p : Nat} (hp : p < S.length) (hS : S.length ≤ 60) : (OkS E S p → ∀ k, fathomref27_May.l1 (k + 2) p E S = fathomref27_May.l1 k ((p + 1 : Nat) : Int) E S) ∧ (¬ OkS E S p → ∀ k, fathomref27_May.l1 (k + 2) p E S = some false) := by
  have e1 := wrap_up hp hS
  have e2 : rd S (p : Int) = sg S p := rfl
  constructor
  · intro h k
    simp only [fathomref27_May.l1, fathomref27_May.j5, e1]
    rw [if_pos (by omega), if_pos (by omega), e2]
    rcases h with h | ⟨h1, h2, h3, h4⟩
    · rw [if_neg (by omega), decide_eq_false (by omega), if_neg Bool.false_ne_true, if_neg (by omega)]
    · rw [if_neg (by omega), decide_eq_false (by omega), if_neg Bool.false_ne_true, if_pos (by omega), if_pos (by omega), if_pos (by omega), if_pos h3, if_pos h4]
  · intro h k
    simp only [fathomref27_May.l1, fathomref27_May.j5, e1]
    rw [if_pos (by omega), if_pos (by omega), e2]
    by_cases b1 : sg S p < -1
    · rw [if_pos b1, if_pos True.intro]
    rw [if_neg b1]
    by_cases b2 : sg S p ≥ (E.length : Int)
    · rw [decide_eq_true b2, if_pos rfl]
    rw [decide_eq_false b2, if_neg Bool.false_ne_true]
    by_cases b3 : sg S p ≥ 0
    · rw [if_pos b3, if_pos (by omega), if_pos (by omega)]
      by_cases b4 : (rd_T38 E (sg S p)).f2 = 11
      · rw [if_pos b4]
        by_cases b5 : (rd_T38 E (sg S p)).f3 = p
        · exact absurd (.inr ⟨by omega, by omega, b4, b5⟩) h
        · rw [if_neg b5]
      · rw [if_neg b4]
    · exact absurd (.inl (by omega)) h
theorem Ev.step3 {α : Type} {g f : Nat → Option α} {r : α} (h : ∀ k, g (k + 3) = f k) (k : Ev f r) : Ev g r := by
  obtain ⟨K, k⟩ := k
  refine ⟨K + 3, fun n hn => ?_⟩
  obtain ⟨m, rfl⟩ : ∃ m, n = m + 3 := ⟨n - 3, by omega⟩
  rw [h]
  exact k m (by omega)
theorem Ev.step2 {α : Type} {g f : Nat → Option α} {r : α} (h : ∀ k, g (k + 2) = f k) (k : Ev f r) : Ev g r := by
  obtain ⟨K, k⟩ := k
  refine ⟨K + 2, fun n hn => ?_⟩
  obtain ⟨m, rfl⟩ : ∃ m, n = m + 2 := ⟨n - 2, by omega⟩
  rw [h]
  exact k m (by omega)
theorem may_s_from (hS : S.length ≤ 60) : ∀ d p : Nat, p + d = S.length → ((∀ q, p ≤ q → q < S.length → OkS E S q) → Ev (fun k => fathomref27_May.l1 k p E S) true) ∧ (¬ (∀ q, p ≤ q → q < S.length → OkS E S q) → Ev (fun k => fathomref27_May.l1 k p E S) false) := by
  intro d
  induction d with
  | zero =>
    intro p hp
    refine ⟨fun _ => Ev.step (f := fun _ => some true) (fun k => ?_) (Ev.now _), fun h => absurd (fun q a b => by omega) h⟩
    simp only [fathomref27_May.l1]
    rw [if_neg (by omega)]
  | succ d ih =>
    intro p hp
    obtain ⟨s1, s2⟩ := may_s_step (E := E) (S := S) (p := p) (by omega) hS
    obtain ⟨i1, i2⟩ := ih (p + 1) (by omega)
    by_cases h : OkS E S p
    · refine ⟨fun hall => Ev.step2 (s1 h) (i1 (fun q a b => hall q (by omega) b)), fun hno => Ev.step2 (s1 h) (i2 (fun hq => hno (fun q a b => ?_)))⟩
      by_cases e : q = p
      · subst e; exact h
      · exact hq q (by omega) b
    · exact ⟨fun hall => absurd (hall p (Nat.le_refl _) (by omega)) h, fun _ => Ev.step2 (f := fun _ => some false) (s2 h) (Ev.now _)⟩
theorem may_from (hn : E.length ≤ 60) (hS : S.length ≤ 60) : ∀ d i : Nat, i + d = E.length → (((∀ q, i ≤ q → q < E.length → OkL E S q ∧ OkG E S q) ∧ (∀ q, q < S.length → OkS E S q)) → Ev (fun k => fathomref27_May.l0 k i E S) true) ∧ (¬ ((∀ q, i ≤ q → q < E.length → OkL E S q ∧ OkG E S q) ∧ (∀ q, q < S.length → OkS E S q)) → Ev (fun k => fathomref27_May.l0 k i E S) false) := by
  intro d
  induction d with
  | zero =>
    intro i hi
    have hst : ∀ k, fathomref27_May.l0 (k + 1) i E S = fathomref27_May.l1 k ((0 : Nat) : Int) E S := by
      intro k
      simp only [fathomref27_May.l0]
      rw [if_neg (by omega)]
      rfl
    obtain ⟨i1, i2⟩ := may_s_from (E := E) (S := S) hS S.length 0 (by omega)
    exact ⟨fun h => Ev.step hst (i1 (fun q _ b => h.2 q b)), fun h => Ev.step hst (i2 (fun hq => h ⟨fun q a b => by omega, fun q b => hq q (by omega) b⟩))⟩
  | succ d ih =>
    intro i hi
    obtain ⟨s1, s2⟩ := may_step (E := E) (S := S) (i := i) (by omega) hn
    obtain ⟨i1, i2⟩ := ih (i + 1) (by omega)
    by_cases h : OkL E S i ∧ OkG E S i
    · refine ⟨fun hall => Ev.step3 (s1 h) (i1 ⟨fun q a b => hall.1 q (by omega) b, hall.2⟩), fun hno => Ev.step3 (s1 h) (i2 (fun hq => hno ⟨fun q a b => ?_, hq.2⟩))⟩
      by_cases e : q = i
      · subst e; exact h
      · exact hq.1 q (by omega) b
    · exact ⟨fun hall => absurd (hall.1 i (Nat.le_refl _) (by omega)) h, fun _ => Ev.step3 (f := fun _ => some false) (s2 h) (Ev.now _)⟩
theorem may_ev (hn : E.length ≤ 60) (hS : S.length ≤ 60) : (Valid E S → Ev (fun k => fathomref27_May.f k E S) true) ∧ (¬ Valid E S → Ev (fun k => fathomref27_May.f k E S) false) := by
  have hbad : ∀ b : Bool, b = true → Ev (fun k => fathomref27_May.j0 k b E S) false := by
    rintro b rfl
    refine Ev.step (f := fun _ => some false) (fun k => ?_) (Ev.now _)
    simp only [fathomref27_May.j0, if_true]
  unfold fathomref27_May.f
  by_cases h1 : (E.length : Int) > 40
  · simp only [if_pos h1]
    exact ⟨fun v => absurd v.n40 (by omega), fun _ => hbad _ rfl⟩
  simp only [if_neg h1]
  by_cases h2 : (S.length : Int) < 1
  · simp only [if_pos h2]
    exact ⟨fun v => absurd v.s1 (by omega), fun _ => hbad _ rfl⟩
  simp only [if_neg h2]
  by_cases h3 : (S.length : Int) > 6
  · rw [decide_eq_true h3]
    exact ⟨fun v => absurd v.s6 (by omega), fun _ => hbad _ rfl⟩
  rw [decide_eq_false h3]
  have hst : ∀ k, fathomref27_May.j0 (k + 1) false E S = fathomref27_May.l0 k ((0 : Nat) : Int) E S := by
    intro k
    simp only [fathomref27_May.j0, if_neg Bool.false_ne_true]
    rfl
  obtain ⟨i1, i2⟩ := may_from (E := E) (S := S) hn hS E.length 0 (by omega)
  exact ⟨fun v => Ev.step hst (i1 ⟨fun q _ b => ⟨v.okL q b, v.okG q b⟩, v.okS⟩), fun v => Ev.step hst (i2 (fun h => v ⟨by omega, by omega, by omega, fun q b => (h.1 q (by omega) b).1, fun q b => (h.1 q (by omega) b).2, h.2⟩))⟩
end
end Go.Proofs.Ytcoelecaigkfcaa.Pure
