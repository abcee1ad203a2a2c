-- Laid by drive.py (a program of the session's) out of the translation. Lean checks it.
import Derived.Test.YtcoelecaigkfcaaKx0
namespace Go.Proofs.Ytcoelecaigkfcaa.K
open Go.RowKit Go.Proofs.YtcoelecaigkfcaaW.PrintWords Go.Proofs.YtcoelecaigkfcaaW.PrintLast
set_option linter.unusedVariables false
set_option linter.unusedSimpArgs false

/-! ### fathomref27_Ahead: function 15 -/
def fathomref27_Ahead.f : Nat → List (S38) → List Int → Int → Int → Option (Bool)
  | 0, _, _, _, _ => none
  | k + 1, l0_0, l0_1, a1, a2 => if 0 ≤ a1 then (if a1 < (l0_0.length : Int) then (if 0 ≤ a2 then (if a2 < (l0_0.length : Int) then (if ((rd_T38 l0_0 a1).f0) = ((rd_T38 l0_0 a2).f0) then (some (decide (a1 < a2))) else (if 0 ≤ ((rd_T38 l0_0 a2).f0) then (if ((rd_T38 l0_0 a2).f0) < (l0_1.length : Int) then (if (rd l0_1 ((rd_T38 l0_0 a2).f0)) ≥ 0 then (if (rd l0_1 ((rd_T38 l0_0 a2).f0)) = a1 then (some true) else ((fathomref27_Ahead.f k l0_0 l0_1 a1 (rd l0_1 ((rd_T38 l0_0 a2).f0))).bind fun t221 => (some t221))) else (some false)) else (none)) else (none))) else (none)) else (none)) else (none)) else (none)
theorem fathomref27_Ahead.mono_l : ∀ k, (∀ y0 y1 y2 y3, LeO (fathomref27_Ahead.f k y0 y1 y2 y3) (fathomref27_Ahead.f (k + 1) y0 y1 y2 y3))
  | 0 => fun _ _ _ _ r h => by simp [fathomref27_Ahead.f] at h
  | k + 1 => by
    have ih0 := fathomref27_Ahead.mono_l k
    · intro y0 y1 y2 y3
      unfold fathomref27_Ahead.f
      repeat' first
      | (with_reducible exact ih0 _ _ _ _)
      | (with_reducible exact LeO.refl _)
      | (with_reducible exact LeO.none _)
      | (with_reducible refine LeO.ite ?_ ?_)
      | (with_reducible refine LeO.bind ?_ (fun _ => ?_))
      | exact ih0 _ _ _ _
      | exact LeO.none _
      | refine LeO.ite ?_ ?_
      | refine LeO.bind ?_ (fun _ => ?_)
theorem fathomref27_Ahead.mono : ∀ a0 a1 a2 a3 k, LeO (fathomref27_Ahead.f k a0 a1 a2 a3) (fathomref27_Ahead.f (k + 1) a0 a1 a2 a3) := by
  intro a0 a1 a2 a3 k
  have ih0 := fathomref27_Ahead.mono_l k
  exact ih0 a0 a1 a2 a3
set_option maxHeartbeats 8000000 in
set_option maxRecDepth 100000 in
theorem fathomref27_Ahead.calls (k : Nat) : ∀ (A0_0 : Option Addr) (c0_0 : Nat) (l0_0 : List (S38)) (A0_1 : Option Addr) (c0_1 : Nat) (l0_1 : List Int) (a1 : Int) (a2 : Int) (r : Bool) (w : World) (hr0_0 : Kd.C k38 w A0_0 l0_0.length l0_0) (hc0_0 : l0_0.length ≤ c0_0) (hr0_1 : Kd.C (Kd.int .i64) w A0_1 l0_1.length l0_1) (hc0_1 : l0_1.length ≤ c0_1) (h : fathomref27_Ahead.f k l0_0 l0_1 a1 a2 = some r),
    Calls Try.prog 15 #[.agg #[.slice A0_0 l0_0.length c0_0, .slice A0_1 l0_1.length c0_1], .int .i64 a1, .int .i64 a2] w fun e w' => e = .returned (.bool r) ∧ Below w.heap.size w w' := by
 induction k using Nat.strongRecOn with
 | _ k ih =>
 intro A0_0 c0_0 l0_0 A0_1 c0_1 l0_1 a1 a2 r w hr0_0 hc0_0 hr0_1 hc0_1 h
 cases k with
 | zero => exact absurd h (by simp [fathomref27_Ahead.f])
 | succ k =>
 simp only [fathomref27_Ahead.f] at h
 have hu25 := Try.underlying25
 have HR0_0 := Aside0.mk hr0_0
 have HC0_0 := Aside0.mk hc0_0
 clear hr0_0 hc0_0
 have HR0_1 := Aside0.mk hr0_1
 have HC0_1 := Aside0.mk hc0_1
 clear hr0_1 hc0_1
 have HB := Aside0.mk (Below.refl w.heap.size w)
 have H : (if 0 ≤ a1 then (if a1 < (l0_0.length : Int) then (if 0 ≤ a2 then (if a2 < (l0_0.length : Int) then (if ((rd_T38 l0_0 a1).f0) = ((rd_T38 l0_0 a2).f0) then (some (decide (a1 < a2))) else (if 0 ≤ ((rd_T38 l0_0 a2).f0) then (if ((rd_T38 l0_0 a2).f0) < (l0_1.length : Int) then (if (rd l0_1 ((rd_T38 l0_0 a2).f0)) ≥ 0 then (if (rd l0_1 ((rd_T38 l0_0 a2).f0)) = a1 then (some true) else ((fathomref27_Ahead.f k l0_0 l0_1 a1 (rd l0_1 ((rd_T38 l0_0 a2).f0))).bind fun t221 => (some t221))) else (some false)) else (none)) else (none))) else (none)) else (none)) else (none)) else (none)) = some r := h
 clear h
 by_cases c4 : 0 ≤ a1
 rotate_left
 ·
  rw [if_neg c4] at H
  exact absurd H (by simp)
 rw [if_pos c4] at H
 have c4b0 : decide (0 ≤ a1) = true := decide_eq_true c4
 clear c4
 by_cases c5 : a1 < (l0_0.length : Int)
 rotate_left
 ·
  rw [if_neg c5] at H
  exact absurd H (by simp)
 rw [if_pos c5] at H
 have c5b0 : decide (a1 < (l0_0.length : Int)) = true := decide_eq_true c5
 clear c5
 by_cases c6 : 0 ≤ a2
 rotate_left
 ·
  rw [if_neg c6] at H
  exact absurd H (by simp)
 rw [if_pos c6] at H
 have c6b0 : decide (0 ≤ a2) = true := decide_eq_true c6
 clear c6
 by_cases c7 : a2 < (l0_0.length : Int)
 rotate_left
 ·
  rw [if_neg c7] at H
  exact absurd H (by simp)
 rw [if_pos c7] at H
 have c7b0 : decide (a2 < (l0_0.length : Int)) = true := decide_eq_true c7
 clear c7
 by_cases c8 : ((rd_T38 l0_0 a1).f0) = ((rd_T38 l0_0 a2).f0)
 ·
  rw [if_pos c8] at H
  have c8b0 : (((rd_T38 l0_0 a1).f0) == ((rd_T38 l0_0 a2).f0)) = true := beq_iff_eq.mpr c8
  have c8b1 : (((rd_T38 l0_0 a1).f0) != ((rd_T38 l0_0 a2).f0)) = false := bne_eq_false_iff_eq.mpr c8
  clear c8
  obtain rfl := Option.some.inj H
  go_enter Try.func15, Try.ntmps15
  go_wp2_with (first | ((with_reducible refine gate_dst (N := 3) rfl ?_); refine bx 3 #[.slice A0_0 l0_0.length c0_0, .slice A0_1 l0_1.length c0_1] 25 ?_; intro gb216 hg w9 hbox hb; have BK216 := Aside0.mk (hbox); have GW216 := Aside0.mk ((bz hg : w.heap.size ≤ gb216)); have GE216 := Aside0.mk ((bz hg : w.heap.size ≤ gb216)); replace HB := Aside0.mk (below_step bb hb); clear hb hbox hg; obtain ⟨hcz10_0, hcz10_1, hfz10_0, hfz10_1⟩ := bo2 BK216; have p217 : 0 ≤ (a1 : Int) := od; have q217 : a1 < (l0_0.length : Int) := od; obtain ⟨ad217, e217, hx217_0, hx217_1, hx217_2, hx217_3⟩ := at_T38 HR0_0.out a1 p217 q217; cases e217; replace hx217_0 := bl HB hx217_0; replace hx217_1 := bl HB hx217_1; replace hx217_2 := bl HB hx217_2; replace hx217_3 := bl HB hx217_3; replace p217 := eq_true p217; replace q217 := eq_true q217; have p218 : 0 ≤ (a2 : Int) := od; have q218 : a2 < (l0_0.length : Int) := od; obtain ⟨ad218, e218, hx218_0, hx218_1, hx218_2, hx218_3⟩ := at_T38 HR0_0.out a2 p218 q218; obtain rfl : ad217 = ad218 := (by injection e218); replace hx218_0 := bl HB hx218_0; replace hx218_1 := bl HB hx218_1; replace hx218_2 := bl HB hx218_2; replace hx218_3 := bl HB hx218_3; replace p218 := eq_true p218; replace q218 := eq_true q218))
  repeat (go_quiet (first | ((with_reducible refine gate_dst (N := 3) rfl ?_); refine bx 3 #[.slice A0_0 l0_0.length c0_0, .slice A0_1 l0_1.length c0_1] 25 ?_; intro gb216 hg w9 hbox hb; have BK216 := Aside0.mk (hbox); have GW216 := Aside0.mk ((bz hg : w.heap.size ≤ gb216)); have GE216 := Aside0.mk ((bz hg : w.heap.size ≤ gb216)); replace HB := Aside0.mk (below_step bb hb); clear hb hbox hg; obtain ⟨hcz10_0, hcz10_1, hfz10_0, hfz10_1⟩ := bo2 BK216; have p217 : 0 ≤ (a1 : Int) := od; have q217 : a1 < (l0_0.length : Int) := od; obtain ⟨ad217, e217, hx217_0, hx217_1, hx217_2, hx217_3⟩ := at_T38 HR0_0.out a1 p217 q217; cases e217; replace hx217_0 := bl HB hx217_0; replace hx217_1 := bl HB hx217_1; replace hx217_2 := bl HB hx217_2; replace hx217_3 := bl HB hx217_3; replace p217 := eq_true p217; replace q217 := eq_true q217; have p218 : 0 ≤ (a2 : Int) := od; have q218 : a2 < (l0_0.length : Int) := od; obtain ⟨ad218, e218, hx218_0, hx218_1, hx218_2, hx218_3⟩ := at_T38 HR0_0.out a2 p218 q218; obtain rfl : ad217 = ad218 := (by injection e218); replace hx218_0 := bl HB hx218_0; replace hx218_1 := bl HB hx218_1; replace hx218_2 := bl HB hx218_2; replace hx218_3 := bl HB hx218_3; replace p218 := eq_true p218; replace q218 := eq_true q218)); try go_wp2_with (first | ((with_reducible refine gate_dst (N := 3) rfl ?_); refine bx 3 #[.slice A0_0 l0_0.length c0_0, .slice A0_1 l0_1.length c0_1] 25 ?_; intro gb216 hg w9 hbox hb; have BK216 := Aside0.mk (hbox); have GW216 := Aside0.mk ((bz hg : w.heap.size ≤ gb216)); have GE216 := Aside0.mk ((bz hg : w.heap.size ≤ gb216)); replace HB := Aside0.mk (below_step bb hb); clear hb hbox hg; obtain ⟨hcz10_0, hcz10_1, hfz10_0, hfz10_1⟩ := bo2 BK216; have p217 : 0 ≤ (a1 : Int) := od; have q217 : a1 < (l0_0.length : Int) := od; obtain ⟨ad217, e217, hx217_0, hx217_1, hx217_2, hx217_3⟩ := at_T38 HR0_0.out a1 p217 q217; cases e217; replace hx217_0 := bl HB hx217_0; replace hx217_1 := bl HB hx217_1; replace hx217_2 := bl HB hx217_2; replace hx217_3 := bl HB hx217_3; replace p217 := eq_true p217; replace q217 := eq_true q217; have p218 : 0 ≤ (a2 : Int) := od; have q218 : a2 < (l0_0.length : Int) := od; obtain ⟨ad218, e218, hx218_0, hx218_1, hx218_2, hx218_3⟩ := at_T38 HR0_0.out a2 p218 q218; obtain rfl : ad217 = ad218 := (by injection e218); replace hx218_0 := bl HB hx218_0; replace hx218_1 := bl HB hx218_1; replace hx218_2 := bl HB hx218_2; replace hx218_3 := bl HB hx218_3; replace p218 := eq_true p218; replace q218 := eq_true q218)))
  go_ret
  exact ⟨ew, bb⟩
 rw [if_neg c8] at H
 have c8b0 : (((rd_T38 l0_0 a1).f0) == ((rd_T38 l0_0 a2).f0)) = false := beq_eq_false_iff_ne.mpr c8
 have c8b1 : (((rd_T38 l0_0 a1).f0) != ((rd_T38 l0_0 a2).f0)) = true := bne_iff_ne.mpr c8
 by_cases c11 : 0 ≤ ((rd_T38 l0_0 a2).f0)
 rotate_left
 ·
  rw [if_neg c11] at H
  exact absurd H (by simp)
 rw [if_pos c11] at H
 have c11b0 : decide (0 ≤ ((rd_T38 l0_0 a2).f0)) = true := decide_eq_true c11
 clear c11
 by_cases c12 : ((rd_T38 l0_0 a2).f0) < (l0_1.length : Int)
 rotate_left
 ·
  rw [if_neg c12] at H
  exact absurd H (by simp)
 rw [if_pos c12] at H
 have c12b0 : decide (((rd_T38 l0_0 a2).f0) < (l0_1.length : Int)) = true := decide_eq_true c12
 clear c12
 by_cases c13 : (rd l0_1 ((rd_T38 l0_0 a2).f0)) ≥ 0
 rotate_left
 ·
  rw [if_neg c13] at H
  have c13b0 : decide (0 ≤ (rd l0_1 ((rd_T38 l0_0 a2).f0))) = false := decide_eq_false c13
  clear c13
  obtain rfl := Option.some.inj H
  go_enter Try.func15, Try.ntmps15
  go_wp2_with (first | ((with_reducible refine gate_dst (N := 3) rfl ?_); refine bx 3 #[.slice A0_0 l0_0.length c0_0, .slice A0_1 l0_1.length c0_1] 25 ?_; intro gb216 hg w21 hbox hb; have BK216 := Aside0.mk (hbox); have GW216 := Aside0.mk ((bz hg : w.heap.size ≤ gb216)); have GE216 := Aside0.mk ((bz hg : w.heap.size ≤ gb216)); replace HB := Aside0.mk (below_step bb hb); clear hb hbox hg; obtain ⟨hcz22_0, hcz22_1, hfz22_0, hfz22_1⟩ := bo2 BK216; have p217 : 0 ≤ (a1 : Int) := od; have q217 : a1 < (l0_0.length : Int) := od; obtain ⟨ad217, e217, hx217_0, hx217_1, hx217_2, hx217_3⟩ := at_T38 HR0_0.out a1 p217 q217; cases e217; replace hx217_0 := bl HB hx217_0; replace hx217_1 := bl HB hx217_1; replace hx217_2 := bl HB hx217_2; replace hx217_3 := bl HB hx217_3; replace p217 := eq_true p217; replace q217 := eq_true q217; have p218 : 0 ≤ (a2 : Int) := od; have q218 : a2 < (l0_0.length : Int) := od; obtain ⟨ad218, e218, hx218_0, hx218_1, hx218_2, hx218_3⟩ := at_T38 HR0_0.out a2 p218 q218; obtain rfl : ad217 = ad218 := (by injection e218); replace hx218_0 := bl HB hx218_0; replace hx218_1 := bl HB hx218_1; replace hx218_2 := bl HB hx218_2; replace hx218_3 := bl HB hx218_3; replace p218 := eq_true p218; replace q218 := eq_true q218; have p219 : 0 ≤ (a2 : Int) := od; have q219 : a2 < (l0_0.length : Int) := od; obtain ⟨ad219, e219, hx219_0, hx219_1, hx219_2, hx219_3⟩ := at_T38 HR0_0.out a2 p219 q219; obtain rfl : ad217 = ad219 := (by injection e219); replace hx219_0 := bl HB hx219_0; replace hx219_1 := bl HB hx219_1; replace hx219_2 := bl HB hx219_2; replace hx219_3 := bl HB hx219_3; replace p219 := eq_true p219; replace q219 := eq_true q219; have p220 : 0 ≤ (((rd_T38 l0_0 a2).f0) : Int) := od; have q220 : ((rd_T38 l0_0 a2).f0) < (l0_1.length : Int) := od; obtain ⟨ad220, e220, hx220_0⟩ := Kd.at_int HR0_1.out ((rd_T38 l0_0 a2).f0) p220 q220; cases e220; replace hx220_0 := bl HB hx220_0; replace p220 := eq_true p220; replace q220 := eq_true q220))
  repeat (go_quiet (first | ((with_reducible refine gate_dst (N := 3) rfl ?_); refine bx 3 #[.slice A0_0 l0_0.length c0_0, .slice A0_1 l0_1.length c0_1] 25 ?_; intro gb216 hg w21 hbox hb; have BK216 := Aside0.mk (hbox); have GW216 := Aside0.mk ((bz hg : w.heap.size ≤ gb216)); have GE216 := Aside0.mk ((bz hg : w.heap.size ≤ gb216)); replace HB := Aside0.mk (below_step bb hb); clear hb hbox hg; obtain ⟨hcz22_0, hcz22_1, hfz22_0, hfz22_1⟩ := bo2 BK216; have p217 : 0 ≤ (a1 : Int) := od; have q217 : a1 < (l0_0.length : Int) := od; obtain ⟨ad217, e217, hx217_0, hx217_1, hx217_2, hx217_3⟩ := at_T38 HR0_0.out a1 p217 q217; cases e217; replace hx217_0 := bl HB hx217_0; replace hx217_1 := bl HB hx217_1; replace hx217_2 := bl HB hx217_2; replace hx217_3 := bl HB hx217_3; replace p217 := eq_true p217; replace q217 := eq_true q217; have p218 : 0 ≤ (a2 : Int) := od; have q218 : a2 < (l0_0.length : Int) := od; obtain ⟨ad218, e218, hx218_0, hx218_1, hx218_2, hx218_3⟩ := at_T38 HR0_0.out a2 p218 q218; obtain rfl : ad217 = ad218 := (by injection e218); replace hx218_0 := bl HB hx218_0; replace hx218_1 := bl HB hx218_1; replace hx218_2 := bl HB hx218_2; replace hx218_3 := bl HB hx218_3; replace p218 := eq_true p218; replace q218 := eq_true q218; have p219 : 0 ≤ (a2 : Int) := od; have q219 : a2 < (l0_0.length : Int) := od; obtain ⟨ad219, e219, hx219_0, hx219_1, hx219_2, hx219_3⟩ := at_T38 HR0_0.out a2 p219 q219; obtain rfl : ad217 = ad219 := (by injection e219); replace hx219_0 := bl HB hx219_0; replace hx219_1 := bl HB hx219_1; replace hx219_2 := bl HB hx219_2; replace hx219_3 := bl HB hx219_3; replace p219 := eq_true p219; replace q219 := eq_true q219; have p220 : 0 ≤ (((rd_T38 l0_0 a2).f0) : Int) := od; have q220 : ((rd_T38 l0_0 a2).f0) < (l0_1.length : Int) := od; obtain ⟨ad220, e220, hx220_0⟩ := Kd.at_int HR0_1.out ((rd_T38 l0_0 a2).f0) p220 q220; cases e220; replace hx220_0 := bl HB hx220_0; replace p220 := eq_true p220; replace q220 := eq_true q220)); try go_wp2_with (first | ((with_reducible refine gate_dst (N := 3) rfl ?_); refine bx 3 #[.slice A0_0 l0_0.length c0_0, .slice A0_1 l0_1.length c0_1] 25 ?_; intro gb216 hg w21 hbox hb; have BK216 := Aside0.mk (hbox); have GW216 := Aside0.mk ((bz hg : w.heap.size ≤ gb216)); have GE216 := Aside0.mk ((bz hg : w.heap.size ≤ gb216)); replace HB := Aside0.mk (below_step bb hb); clear hb hbox hg; obtain ⟨hcz22_0, hcz22_1, hfz22_0, hfz22_1⟩ := bo2 BK216; have p217 : 0 ≤ (a1 : Int) := od; have q217 : a1 < (l0_0.length : Int) := od; obtain ⟨ad217, e217, hx217_0, hx217_1, hx217_2, hx217_3⟩ := at_T38 HR0_0.out a1 p217 q217; cases e217; replace hx217_0 := bl HB hx217_0; replace hx217_1 := bl HB hx217_1; replace hx217_2 := bl HB hx217_2; replace hx217_3 := bl HB hx217_3; replace p217 := eq_true p217; replace q217 := eq_true q217; have p218 : 0 ≤ (a2 : Int) := od; have q218 : a2 < (l0_0.length : Int) := od; obtain ⟨ad218, e218, hx218_0, hx218_1, hx218_2, hx218_3⟩ := at_T38 HR0_0.out a2 p218 q218; obtain rfl : ad217 = ad218 := (by injection e218); replace hx218_0 := bl HB hx218_0; replace hx218_1 := bl HB hx218_1; replace hx218_2 := bl HB hx218_2; replace hx218_3 := bl HB hx218_3; replace p218 := eq_true p218; replace q218 := eq_true q218; have p219 : 0 ≤ (a2 : Int) := od; have q219 : a2 < (l0_0.length : Int) := od; obtain ⟨ad219, e219, hx219_0, hx219_1, hx219_2, hx219_3⟩ := at_T38 HR0_0.out a2 p219 q219; obtain rfl : ad217 = ad219 := (by injection e219); replace hx219_0 := bl HB hx219_0; replace hx219_1 := bl HB hx219_1; replace hx219_2 := bl HB hx219_2; replace hx219_3 := bl HB hx219_3; replace p219 := eq_true p219; replace q219 := eq_true q219; have p220 : 0 ≤ (((rd_T38 l0_0 a2).f0) : Int) := od; have q220 : ((rd_T38 l0_0 a2).f0) < (l0_1.length : Int) := od; obtain ⟨ad220, e220, hx220_0⟩ := Kd.at_int HR0_1.out ((rd_T38 l0_0 a2).f0) p220 q220; cases e220; replace hx220_0 := bl HB hx220_0; replace p220 := eq_true p220; replace q220 := eq_true q220)))
  go_ret
  exact ⟨ew, bb⟩
 rw [if_pos c13] at H
 have c13b0 : decide (0 ≤ (rd l0_1 ((rd_T38 l0_0 a2).f0))) = true := decide_eq_true c13
 clear c13
 by_cases c14 : (rd l0_1 ((rd_T38 l0_0 a2).f0)) = a1
 ·
  rw [if_pos c14] at H
  have c14b0 : ((rd l0_1 ((rd_T38 l0_0 a2).f0)) == a1) = true := beq_iff_eq.mpr c14
  have c14b1 : ((rd l0_1 ((rd_T38 l0_0 a2).f0)) != a1) = false := bne_eq_false_iff_eq.mpr c14
  clear c14
  obtain rfl := Option.some.inj H
  go_enter Try.func15, Try.ntmps15
  go_wp2_with (first | ((with_reducible refine gate_dst (N := 3) rfl ?_); refine bx 3 #[.slice A0_0 l0_0.length c0_0, .slice A0_1 l0_1.length c0_1] 25 ?_; intro gb216 hg w15 hbox hb; have BK216 := Aside0.mk (hbox); have GW216 := Aside0.mk ((bz hg : w.heap.size ≤ gb216)); have GE216 := Aside0.mk ((bz hg : w.heap.size ≤ gb216)); replace HB := Aside0.mk (below_step bb hb); clear hb hbox hg; obtain ⟨hcz16_0, hcz16_1, hfz16_0, hfz16_1⟩ := bo2 BK216; have p217 : 0 ≤ (a1 : Int) := od; have q217 : a1 < (l0_0.length : Int) := od; obtain ⟨ad217, e217, hx217_0, hx217_1, hx217_2, hx217_3⟩ := at_T38 HR0_0.out a1 p217 q217; cases e217; replace hx217_0 := bl HB hx217_0; replace hx217_1 := bl HB hx217_1; replace hx217_2 := bl HB hx217_2; replace hx217_3 := bl HB hx217_3; replace p217 := eq_true p217; replace q217 := eq_true q217; have p218 : 0 ≤ (a2 : Int) := od; have q218 : a2 < (l0_0.length : Int) := od; obtain ⟨ad218, e218, hx218_0, hx218_1, hx218_2, hx218_3⟩ := at_T38 HR0_0.out a2 p218 q218; obtain rfl : ad217 = ad218 := (by injection e218); replace hx218_0 := bl HB hx218_0; replace hx218_1 := bl HB hx218_1; replace hx218_2 := bl HB hx218_2; replace hx218_3 := bl HB hx218_3; replace p218 := eq_true p218; replace q218 := eq_true q218; have p219 : 0 ≤ (a2 : Int) := od; have q219 : a2 < (l0_0.length : Int) := od; obtain ⟨ad219, e219, hx219_0, hx219_1, hx219_2, hx219_3⟩ := at_T38 HR0_0.out a2 p219 q219; obtain rfl : ad217 = ad219 := (by injection e219); replace hx219_0 := bl HB hx219_0; replace hx219_1 := bl HB hx219_1; replace hx219_2 := bl HB hx219_2; replace hx219_3 := bl HB hx219_3; replace p219 := eq_true p219; replace q219 := eq_true q219; have p220 : 0 ≤ (((rd_T38 l0_0 a2).f0) : Int) := od; have q220 : ((rd_T38 l0_0 a2).f0) < (l0_1.length : Int) := od; obtain ⟨ad220, e220, hx220_0⟩ := Kd.at_int HR0_1.out ((rd_T38 l0_0 a2).f0) p220 q220; cases e220; replace hx220_0 := bl HB hx220_0; replace p220 := eq_true p220; replace q220 := eq_true q220))
  repeat (go_quiet (first | ((with_reducible refine gate_dst (N := 3) rfl ?_); refine bx 3 #[.slice A0_0 l0_0.length c0_0, .slice A0_1 l0_1.length c0_1] 25 ?_; intro gb216 hg w15 hbox hb; have BK216 := Aside0.mk (hbox); have GW216 := Aside0.mk ((bz hg : w.heap.size ≤ gb216)); have GE216 := Aside0.mk ((bz hg : w.heap.size ≤ gb216)); replace HB := Aside0.mk (below_step bb hb); clear hb hbox hg; obtain ⟨hcz16_0, hcz16_1, hfz16_0, hfz16_1⟩ := bo2 BK216; have p217 : 0 ≤ (a1 : Int) := od; have q217 : a1 < (l0_0.length : Int) := od; obtain ⟨ad217, e217, hx217_0, hx217_1, hx217_2, hx217_3⟩ := at_T38 HR0_0.out a1 p217 q217; cases e217; replace hx217_0 := bl HB hx217_0; replace hx217_1 := bl HB hx217_1; replace hx217_2 := bl HB hx217_2; replace hx217_3 := bl HB hx217_3; replace p217 := eq_true p217; replace q217 := eq_true q217; have p218 : 0 ≤ (a2 : Int) := od; have q218 : a2 < (l0_0.length : Int) := od; obtain ⟨ad218, e218, hx218_0, hx218_1, hx218_2, hx218_3⟩ := at_T38 HR0_0.out a2 p218 q218; obtain rfl : ad217 = ad218 := (by injection e218); replace hx218_0 := bl HB hx218_0; replace hx218_1 := bl HB hx218_1; replace hx218_2 := bl HB hx218_2; replace hx218_3 := bl HB hx218_3; replace p218 := eq_true p218; replace q218 := eq_true q218; have p219 : 0 ≤ (a2 : Int) := od; have q219 : a2 < (l0_0.length : Int) := od; obtain ⟨ad219, e219, hx219_0, hx219_1, hx219_2, hx219_3⟩ := at_T38 HR0_0.out a2 p219 q219; obtain rfl : ad217 = ad219 := (by injection e219); replace hx219_0 := bl HB hx219_0; replace hx219_1 := bl HB hx219_1; replace hx219_2 := bl HB hx219_2; replace hx219_3 := bl HB hx219_3; replace p219 := eq_true p219; replace q219 := eq_true q219; have p220 : 0 ≤ (((rd_T38 l0_0 a2).f0) : Int) := od; have q220 : ((rd_T38 l0_0 a2).f0) < (l0_1.length : Int) := od; obtain ⟨ad220, e220, hx220_0⟩ := Kd.at_int HR0_1.out ((rd_T38 l0_0 a2).f0) p220 q220; cases e220; replace hx220_0 := bl HB hx220_0; replace p220 := eq_true p220; replace q220 := eq_true q220)); try go_wp2_with (first | ((with_reducible refine gate_dst (N := 3) rfl ?_); refine bx 3 #[.slice A0_0 l0_0.length c0_0, .slice A0_1 l0_1.length c0_1] 25 ?_; intro gb216 hg w15 hbox hb; have BK216 := Aside0.mk (hbox); have GW216 := Aside0.mk ((bz hg : w.heap.size ≤ gb216)); have GE216 := Aside0.mk ((bz hg : w.heap.size ≤ gb216)); replace HB := Aside0.mk (below_step bb hb); clear hb hbox hg; obtain ⟨hcz16_0, hcz16_1, hfz16_0, hfz16_1⟩ := bo2 BK216; have p217 : 0 ≤ (a1 : Int) := od; have q217 : a1 < (l0_0.length : Int) := od; obtain ⟨ad217, e217, hx217_0, hx217_1, hx217_2, hx217_3⟩ := at_T38 HR0_0.out a1 p217 q217; cases e217; replace hx217_0 := bl HB hx217_0; replace hx217_1 := bl HB hx217_1; replace hx217_2 := bl HB hx217_2; replace hx217_3 := bl HB hx217_3; replace p217 := eq_true p217; replace q217 := eq_true q217; have p218 : 0 ≤ (a2 : Int) := od; have q218 : a2 < (l0_0.length : Int) := od; obtain ⟨ad218, e218, hx218_0, hx218_1, hx218_2, hx218_3⟩ := at_T38 HR0_0.out a2 p218 q218; obtain rfl : ad217 = ad218 := (by injection e218); replace hx218_0 := bl HB hx218_0; replace hx218_1 := bl HB hx218_1; replace hx218_2 := bl HB hx218_2; replace hx218_3 := bl HB hx218_3; replace p218 := eq_true p218; replace q218 := eq_true q218; have p219 : 0 ≤ (a2 : Int) := od; have q219 : a2 < (l0_0.length : Int) := od; obtain ⟨ad219, e219, hx219_0, hx219_1, hx219_2, hx219_3⟩ := at_T38 HR0_0.out a2 p219 q219; obtain rfl : ad217 = ad219 := (by injection e219); replace hx219_0 := bl HB hx219_0; replace hx219_1 := bl HB hx219_1; replace hx219_2 := bl HB hx219_2; replace hx219_3 := bl HB hx219_3; replace p219 := eq_true p219; replace q219 := eq_true q219; have p220 : 0 ≤ (((rd_T38 l0_0 a2).f0) : Int) := od; have q220 : ((rd_T38 l0_0 a2).f0) < (l0_1.length : Int) := od; obtain ⟨ad220, e220, hx220_0⟩ := Kd.at_int HR0_1.out ((rd_T38 l0_0 a2).f0) p220 q220; cases e220; replace hx220_0 := bl HB hx220_0; replace p220 := eq_true p220; replace q220 := eq_true q220)))
  go_ret
  exact ⟨ew, bb⟩
 rw [if_neg c14] at H
 have c14b0 : ((rd l0_1 ((rd_T38 l0_0 a2).f0)) == a1) = false := beq_eq_false_iff_ne.mpr c14
 have c14b1 : ((rd l0_1 ((rd_T38 l0_0 a2).f0)) != a1) = true := bne_iff_ne.mpr c14
 replace H := Option.bind_eq_some_iff.mp H
 obtain ⟨t221, A170, H⟩ := H
 replace H : (some t221) = some r := H
 have A17 := Aside0.mk A170
 clear A170
 obtain rfl := Option.some.inj H
 go_enter Try.func15, Try.ntmps15
 go_wp2_with (first | ((with_reducible refine gate_dst (N := 3) rfl ?_); refine bx 3 #[.slice A0_0 l0_0.length c0_0, .slice A0_1 l0_1.length c0_1] 25 ?_; intro gb216 hg w18 hbox hb; have BK216 := Aside0.mk (hbox); have GW216 := Aside0.mk ((bz hg : w.heap.size ≤ gb216)); have GE216 := Aside0.mk ((bz hg : w.heap.size ≤ gb216)); replace HB := Aside0.mk (below_step bb hb); clear hb hbox hg; obtain ⟨hcz19_0, hcz19_1, hfz19_0, hfz19_1⟩ := bo2 BK216; have p217 : 0 ≤ (a1 : Int) := od; have q217 : a1 < (l0_0.length : Int) := od; obtain ⟨ad217, e217, hx217_0, hx217_1, hx217_2, hx217_3⟩ := at_T38 HR0_0.out a1 p217 q217; cases e217; replace hx217_0 := bl HB hx217_0; replace hx217_1 := bl HB hx217_1; replace hx217_2 := bl HB hx217_2; replace hx217_3 := bl HB hx217_3; replace p217 := eq_true p217; replace q217 := eq_true q217; have p218 : 0 ≤ (a2 : Int) := od; have q218 : a2 < (l0_0.length : Int) := od; obtain ⟨ad218, e218, hx218_0, hx218_1, hx218_2, hx218_3⟩ := at_T38 HR0_0.out a2 p218 q218; obtain rfl : ad217 = ad218 := (by injection e218); replace hx218_0 := bl HB hx218_0; replace hx218_1 := bl HB hx218_1; replace hx218_2 := bl HB hx218_2; replace hx218_3 := bl HB hx218_3; replace p218 := eq_true p218; replace q218 := eq_true q218; have p219 : 0 ≤ (a2 : Int) := od; have q219 : a2 < (l0_0.length : Int) := od; obtain ⟨ad219, e219, hx219_0, hx219_1, hx219_2, hx219_3⟩ := at_T38 HR0_0.out a2 p219 q219; obtain rfl : ad217 = ad219 := (by injection e219); replace hx219_0 := bl HB hx219_0; replace hx219_1 := bl HB hx219_1; replace hx219_2 := bl HB hx219_2; replace hx219_3 := bl HB hx219_3; replace p219 := eq_true p219; replace q219 := eq_true q219; have p220 : 0 ≤ (((rd_T38 l0_0 a2).f0) : Int) := od; have q220 : ((rd_T38 l0_0 a2).f0) < (l0_1.length : Int) := od; obtain ⟨ad220, e220, hx220_0⟩ := Kd.at_int HR0_1.out ((rd_T38 l0_0 a2).f0) p220 q220; cases e220; replace hx220_0 := bl HB hx220_0; replace p220 := eq_true p220; replace q220 := eq_true q220) | (go_at_call 15; (with_reducible refine (ih k (by omega) _ _ l0_0 _ _ l0_1 a1 (rd l0_1 ((rd_T38 l0_0 a2).f0)) t221 _ ?side1 ?side2 ?side3 ?side4 A17.out).mono ?_); (case side1 => exact cw HR0_0 HB); (case side2 => exact HC0_0.out); (case side3 => exact cw HR0_1 HB); (case side4 => exact HC0_1.out); rintro e w20 ⟨rfl, hb⟩; replace BK216 := Aside0.mk (bw BK216 hb); replace HB := Aside0.mk (below_step bb hb); (try clear hb); (try clear hb2); (try clear hk); (try clear hi)))
 repeat (go_quiet (first | ((with_reducible refine gate_dst (N := 3) rfl ?_); refine bx 3 #[.slice A0_0 l0_0.length c0_0, .slice A0_1 l0_1.length c0_1] 25 ?_; intro gb216 hg w18 hbox hb; have BK216 := Aside0.mk (hbox); have GW216 := Aside0.mk ((bz hg : w.heap.size ≤ gb216)); have GE216 := Aside0.mk ((bz hg : w.heap.size ≤ gb216)); replace HB := Aside0.mk (below_step bb hb); clear hb hbox hg; obtain ⟨hcz19_0, hcz19_1, hfz19_0, hfz19_1⟩ := bo2 BK216; have p217 : 0 ≤ (a1 : Int) := od; have q217 : a1 < (l0_0.length : Int) := od; obtain ⟨ad217, e217, hx217_0, hx217_1, hx217_2, hx217_3⟩ := at_T38 HR0_0.out a1 p217 q217; cases e217; replace hx217_0 := bl HB hx217_0; replace hx217_1 := bl HB hx217_1; replace hx217_2 := bl HB hx217_2; replace hx217_3 := bl HB hx217_3; replace p217 := eq_true p217; replace q217 := eq_true q217; have p218 : 0 ≤ (a2 : Int) := od; have q218 : a2 < (l0_0.length : Int) := od; obtain ⟨ad218, e218, hx218_0, hx218_1, hx218_2, hx218_3⟩ := at_T38 HR0_0.out a2 p218 q218; obtain rfl : ad217 = ad218 := (by injection e218); replace hx218_0 := bl HB hx218_0; replace hx218_1 := bl HB hx218_1; replace hx218_2 := bl HB hx218_2; replace hx218_3 := bl HB hx218_3; replace p218 := eq_true p218; replace q218 := eq_true q218; have p219 : 0 ≤ (a2 : Int) := od; have q219 : a2 < (l0_0.length : Int) := od; obtain ⟨ad219, e219, hx219_0, hx219_1, hx219_2, hx219_3⟩ := at_T38 HR0_0.out a2 p219 q219; obtain rfl : ad217 = ad219 := (by injection e219); replace hx219_0 := bl HB hx219_0; replace hx219_1 := bl HB hx219_1; replace hx219_2 := bl HB hx219_2; replace hx219_3 := bl HB hx219_3; replace p219 := eq_true p219; replace q219 := eq_true q219; have p220 : 0 ≤ (((rd_T38 l0_0 a2).f0) : Int) := od; have q220 : ((rd_T38 l0_0 a2).f0) < (l0_1.length : Int) := od; obtain ⟨ad220, e220, hx220_0⟩ := Kd.at_int HR0_1.out ((rd_T38 l0_0 a2).f0) p220 q220; cases e220; replace hx220_0 := bl HB hx220_0; replace p220 := eq_true p220; replace q220 := eq_true q220) | (go_at_call 15; (with_reducible refine (ih k (by omega) _ _ l0_0 _ _ l0_1 a1 (rd l0_1 ((rd_T38 l0_0 a2).f0)) t221 _ ?side1 ?side2 ?side3 ?side4 A17.out).mono ?_); (case side1 => exact cw HR0_0 HB); (case side2 => exact HC0_0.out); (case side3 => exact cw HR0_1 HB); (case side4 => exact HC0_1.out); rintro e w20 ⟨rfl, hb⟩; replace BK216 := Aside0.mk (bw BK216 hb); replace HB := Aside0.mk (below_step bb hb); (try clear hb); (try clear hb2); (try clear hk); (try clear hi))); try go_wp2_with (first | ((with_reducible refine gate_dst (N := 3) rfl ?_); refine bx 3 #[.slice A0_0 l0_0.length c0_0, .slice A0_1 l0_1.length c0_1] 25 ?_; intro gb216 hg w18 hbox hb; have BK216 := Aside0.mk (hbox); have GW216 := Aside0.mk ((bz hg : w.heap.size ≤ gb216)); have GE216 := Aside0.mk ((bz hg : w.heap.size ≤ gb216)); replace HB := Aside0.mk (below_step bb hb); clear hb hbox hg; obtain ⟨hcz19_0, hcz19_1, hfz19_0, hfz19_1⟩ := bo2 BK216; have p217 : 0 ≤ (a1 : Int) := od; have q217 : a1 < (l0_0.length : Int) := od; obtain ⟨ad217, e217, hx217_0, hx217_1, hx217_2, hx217_3⟩ := at_T38 HR0_0.out a1 p217 q217; cases e217; replace hx217_0 := bl HB hx217_0; replace hx217_1 := bl HB hx217_1; replace hx217_2 := bl HB hx217_2; replace hx217_3 := bl HB hx217_3; replace p217 := eq_true p217; replace q217 := eq_true q217; have p218 : 0 ≤ (a2 : Int) := od; have q218 : a2 < (l0_0.length : Int) := od; obtain ⟨ad218, e218, hx218_0, hx218_1, hx218_2, hx218_3⟩ := at_T38 HR0_0.out a2 p218 q218; obtain rfl : ad217 = ad218 := (by injection e218); replace hx218_0 := bl HB hx218_0; replace hx218_1 := bl HB hx218_1; replace hx218_2 := bl HB hx218_2; replace hx218_3 := bl HB hx218_3; replace p218 := eq_true p218; replace q218 := eq_true q218; have p219 : 0 ≤ (a2 : Int) := od; have q219 : a2 < (l0_0.length : Int) := od; obtain ⟨ad219, e219, hx219_0, hx219_1, hx219_2, hx219_3⟩ := at_T38 HR0_0.out a2 p219 q219; obtain rfl : ad217 = ad219 := (by injection e219); replace hx219_0 := bl HB hx219_0; replace hx219_1 := bl HB hx219_1; replace hx219_2 := bl HB hx219_2; replace hx219_3 := bl HB hx219_3; replace p219 := eq_true p219; replace q219 := eq_true q219; have p220 : 0 ≤ (((rd_T38 l0_0 a2).f0) : Int) := od; have q220 : ((rd_T38 l0_0 a2).f0) < (l0_1.length : Int) := od; obtain ⟨ad220, e220, hx220_0⟩ := Kd.at_int HR0_1.out ((rd_T38 l0_0 a2).f0) p220 q220; cases e220; replace hx220_0 := bl HB hx220_0; replace p220 := eq_true p220; replace q220 := eq_true q220) | (go_at_call 15; (with_reducible refine (ih k (by omega) _ _ l0_0 _ _ l0_1 a1 (rd l0_1 ((rd_T38 l0_0 a2).f0)) t221 _ ?side1 ?side2 ?side3 ?side4 A17.out).mono ?_); (case side1 => exact cw HR0_0 HB); (case side2 => exact HC0_0.out); (case side3 => exact cw HR0_1 HB); (case side4 => exact HC0_1.out); rintro e w20 ⟨rfl, hb⟩; replace BK216 := Aside0.mk (bw BK216 hb); replace HB := Aside0.mk (below_step bb hb); (try clear hb); (try clear hb2); (try clear hk); (try clear hi))))
 go_ret
 exact ⟨ew, bb⟩

/-! ### fathomref27_Feeds: function 27 -/
def fathomref27_Feeds.f (a0 : Int) (a1 : Int) : Option (Bool) := if a1 = 1 then (some (a0 == 2)) else (if a1 = 10 then (some (a0 == 9)) else (if a1 = 3 then (if a0 = 4 then (some true) else (if a0 = 5 then (some true) else (some (a0 == 6)))) else (if a1 = 5 then (if a0 = 4 then (some true) else (if a0 = 5 then (some true) else (some (a0 == 6)))) else (if a1 = 6 then (if a0 = 4 then (some true) else (if a0 = 5 then (some true) else (some (a0 == 6)))) else (some false)))))
set_option maxHeartbeats 8000000 in
set_option maxRecDepth 100000 in
theorem fathomref27_Feeds.calls (a0 : Int) (a1 : Int) (r : Bool) (w : World) (h : fathomref27_Feeds.f a0 a1 = some r) :
    Calls Try.prog 27 #[.int .i64 a0, .int .i64 a1] w fun e w' => e = .returned (.bool r) ∧ Drawn0 w w' := by
 have H : (if a1 = 1 then (some (a0 == 2)) else (if a1 = 10 then (some (a0 == 9)) else (if a1 = 3 then (if a0 = 4 then (some true) else (if a0 = 5 then (some true) else (some (a0 == 6)))) else (if a1 = 5 then (if a0 = 4 then (some true) else (if a0 = 5 then (some true) else (some (a0 == 6)))) else (if a1 = 6 then (if a0 = 4 then (some true) else (if a0 = 5 then (some true) else (some (a0 == 6)))) else (some false)))))) = some r := h
 clear h
 by_cases c3 : a1 = 1
 ·
  rw [if_pos c3] at H
  have c3b0 : (a1 == 1) = true := beq_iff_eq.mpr c3
  have c3b1 : (a1 != 1) = false := bne_eq_false_iff_eq.mpr c3
  clear c3
  obtain rfl := Option.some.inj H
  go_enter Try.func27, Try.ntmps27
  go_wp2
  go_ret
  exact ⟨rs, by repeat (first | exact Drawn0.refl _ | apply Drawn0.step)⟩
 rw [if_neg c3] at H
 have c3b0 : (a1 == 1) = false := beq_eq_false_iff_ne.mpr c3
 have c3b1 : (a1 != 1) = true := bne_iff_ne.mpr c3
 by_cases c4 : a1 = 10
 ·
  rw [if_pos c4] at H
  have c4b0 : (a1 == 10) = true := beq_iff_eq.mpr c4
  have c4b1 : (a1 != 10) = false := bne_eq_false_iff_eq.mpr c4
  clear c4
  obtain rfl := Option.some.inj H
  go_enter Try.func27, Try.ntmps27
  go_wp2
  go_ret
  exact ⟨rs, by repeat (first | exact Drawn0.refl _ | apply Drawn0.step)⟩
 rw [if_neg c4] at H
 have c4b0 : (a1 == 10) = false := beq_eq_false_iff_ne.mpr c4
 have c4b1 : (a1 != 10) = true := bne_iff_ne.mpr c4
 by_cases c5 : a1 = 3
 ·
  rw [if_pos c5] at H
  have c5b0 : (a1 == 3) = true := beq_iff_eq.mpr c5
  have c5b1 : (a1 != 3) = false := bne_eq_false_iff_eq.mpr c5
  clear c5
  by_cases c6 : a0 = 4
  ·
   rw [if_pos c6] at H
   have c6b0 : (a0 == 4) = true := beq_iff_eq.mpr c6
   have c6b1 : (a0 != 4) = false := bne_eq_false_iff_eq.mpr c6
   clear c6
   obtain rfl := Option.some.inj H
   go_enter Try.func27, Try.ntmps27
   go_wp2
   go_ret
   exact ⟨rs, by repeat (first | exact Drawn0.refl _ | apply Drawn0.step)⟩
  rw [if_neg c6] at H
  have c6b0 : (a0 == 4) = false := beq_eq_false_iff_ne.mpr c6
  have c6b1 : (a0 != 4) = true := bne_iff_ne.mpr c6
  by_cases c7 : a0 = 5
  rotate_left
  ·
   rw [if_neg c7] at H
   have c7b0 : (a0 == 5) = false := beq_eq_false_iff_ne.mpr c7
   have c7b1 : (a0 != 5) = true := bne_iff_ne.mpr c7
   obtain rfl := Option.some.inj H
   go_enter Try.func27, Try.ntmps27
   go_wp2
   go_ret
   exact ⟨rs, by repeat (first | exact Drawn0.refl _ | apply Drawn0.step)⟩
  rw [if_pos c7] at H
  have c7b0 : (a0 == 5) = true := beq_iff_eq.mpr c7
  have c7b1 : (a0 != 5) = false := bne_eq_false_iff_eq.mpr c7
  clear c7
  obtain rfl := Option.some.inj H
  go_enter Try.func27, Try.ntmps27
  go_wp2
  go_ret
  exact ⟨rs, by repeat (first | exact Drawn0.refl _ | apply Drawn0.step)⟩
 rw [if_neg c5] at H
 have c5b0 : (a1 == 3) = false := beq_eq_false_iff_ne.mpr c5
 have c5b1 : (a1 != 3) = true := bne_iff_ne.mpr c5
 by_cases c8 : a1 = 5
 ·
  rw [if_pos c8] at H
  have c8b0 : (a1 == 5) = true := beq_iff_eq.mpr c8
  have c8b1 : (a1 != 5) = false := bne_eq_false_iff_eq.mpr c8
  clear c8
  by_cases c9 : a0 = 4
  ·
   rw [if_pos c9] at H
   have c9b0 : (a0 == 4) = true := beq_iff_eq.mpr c9
   have c9b1 : (a0 != 4) = false := bne_eq_false_iff_eq.mpr c9
   clear c9
   obtain rfl := Option.some.inj H
   go_enter Try.func27, Try.ntmps27
   go_wp2
   go_ret
   exact ⟨rs, by repeat (first | exact Drawn0.refl _ | apply Drawn0.step)⟩
  rw [if_neg c9] at H
  have c9b0 : (a0 == 4) = false := beq_eq_false_iff_ne.mpr c9
  have c9b1 : (a0 != 4) = true := bne_iff_ne.mpr c9
  by_cases c10 : a0 = 5
  rotate_left
  ·
   rw [if_neg c10] at H
   have c10b0 : (a0 == 5) = false := beq_eq_false_iff_ne.mpr c10
   have c10b1 : (a0 != 5) = true := bne_iff_ne.mpr c10
   obtain rfl := Option.some.inj H
   go_enter Try.func27, Try.ntmps27
   go_wp2
   go_ret
   exact ⟨rs, by repeat (first | exact Drawn0.refl _ | apply Drawn0.step)⟩
  rw [if_pos c10] at H
  have c10b0 : (a0 == 5) = true := beq_iff_eq.mpr c10
  have c10b1 : (a0 != 5) = false := bne_eq_false_iff_eq.mpr c10
  clear c10
  obtain rfl := Option.some.inj H
  go_enter Try.func27, Try.ntmps27
  go_wp2
  go_ret
  exact ⟨rs, by repeat (first | exact Drawn0.refl _ | apply Drawn0.step)⟩
 rw [if_neg c8] at H
 have c8b0 : (a1 == 5) = false := beq_eq_false_iff_ne.mpr c8
 have c8b1 : (a1 != 5) = true := bne_iff_ne.mpr c8
 by_cases c11 : a1 = 6
 rotate_left
 ·
  rw [if_neg c11] at H
  have c11b0 : (a1 == 6) = false := beq_eq_false_iff_ne.mpr c11
  have c11b1 : (a1 != 6) = true := bne_iff_ne.mpr c11
  obtain rfl := Option.some.inj H
  go_enter Try.func27, Try.ntmps27
  go_wp2
  go_ret
  exact ⟨rs, by repeat (first | exact Drawn0.refl _ | apply Drawn0.step)⟩
 rw [if_pos c11] at H
 have c11b0 : (a1 == 6) = true := beq_iff_eq.mpr c11
 have c11b1 : (a1 != 6) = false := bne_eq_false_iff_eq.mpr c11
 clear c11
 by_cases c12 : a0 = 4
 ·
  rw [if_pos c12] at H
  have c12b0 : (a0 == 4) = true := beq_iff_eq.mpr c12
  have c12b1 : (a0 != 4) = false := bne_eq_false_iff_eq.mpr c12
  clear c12
  obtain rfl := Option.some.inj H
  go_enter Try.func27, Try.ntmps27
  go_wp2
  go_ret
  exact ⟨rs, by repeat (first | exact Drawn0.refl _ | apply Drawn0.step)⟩
 rw [if_neg c12] at H
 have c12b0 : (a0 == 4) = false := beq_eq_false_iff_ne.mpr c12
 have c12b1 : (a0 != 4) = true := bne_iff_ne.mpr c12
 by_cases c13 : a0 = 5
 rotate_left
 ·
  rw [if_neg c13] at H
  have c13b0 : (a0 == 5) = false := beq_eq_false_iff_ne.mpr c13
  have c13b1 : (a0 != 5) = true := bne_iff_ne.mpr c13
  obtain rfl := Option.some.inj H
  go_enter Try.func27, Try.ntmps27
  go_wp2
  go_ret
  exact ⟨rs, by repeat (first | exact Drawn0.refl _ | apply Drawn0.step)⟩
 rw [if_pos c13] at H
 have c13b0 : (a0 == 5) = true := beq_iff_eq.mpr c13
 have c13b1 : (a0 != 5) = false := bne_eq_false_iff_eq.mpr c13
 clear c13
 obtain rfl := Option.some.inj H
 go_enter Try.func27, Try.ntmps27
 go_wp2
 go_ret
 exact ⟨rs, by repeat (first | exact Drawn0.refl _ | apply Drawn0.step)⟩

end Go.Proofs.Ytcoelecaigkfcaa.K
