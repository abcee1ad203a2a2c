-- Laid by drive.py (a program of the session's) out of the translation. Lean checks it.
import Derived.Test.YthnnekaimkppfaaQx0
import Derived.Test.YthnnekaimkppfaaQx1
namespace Go.Proofs.Ythnnekaimkppfaa.Q
open Go.RowKit Go.Proofs.YthnnekaimkppfaaW.PrintWords Go.Proofs.YthnnekaimkppfaaW.PrintLast Go.Proofs.YthnnekaimkppfaaW.PrintMore
attribute [local go_sem] max2_int min2_int max_two min_two max_three min_three max_four min_four   -- for this text's walks alone
set_option linter.unusedVariables false
set_option linter.unusedSimpArgs false

/-! ### fathomref03_Number: function 7 -/
mutual
def fathomref03_Number.l0 : Nat → ByteArray → Int → Int → Option (Int × Bool)
  | 0, _, _, _ => none
  | k + 1, x0, x4, x5 => if x5 < (x0.size : Int) then (if 0 ≤ x5 then (if (bt x0 x5) ≥ 48 then (if (bt x0 x5) ≤ 57 then (fathomref03_Number.l0 k x0 (wrap64 ((wrap64 (x4 * 10)) + (((bt x0 x5) - 48) % 256))) (wrap64 (x5 + 1))) else (fathomref03_Number.l0 k x0 x4 (wrap64 (x5 + 1)))) else (fathomref03_Number.l0 k x0 x4 (wrap64 (x5 + 1)))) else (none)) else (if (x0.size : Int) > 0 then (if 0 < (x0.size : Int) then (fathomref03_Number.j1 k x0 x4 ((bt x0 0) == 45)) else (none)) else (fathomref03_Number.j1 k x0 x4 false))
def fathomref03_Number.j1 : Nat → ByteArray → Int → Bool → Option (Int × Bool)
  | 0, _, _, _ => none
  | k + 1, x0, x4, x40 => if x40 = true then (if (wrap64 (-x4)) > 9999999999 then (some (0, false)) else (if (wrap64 (-x4)) < (-9999999999) then (some (0, false)) else ((fathomref03_Digits.f k (wrap64 (-x4))).bind fun t104 => (if t104.toList = x0.toList then (some (wrap64 (-x4), true)) else (some (0, false)))))) else (if x4 > 9999999999 then (some (0, false)) else (if x4 < (-9999999999) then (some (0, false)) else ((fathomref03_Digits.f k x4).bind fun t105 => (if t105.toList = x0.toList then (some (x4, true)) else (some (0, false))))))
end
def fathomref03_Number.f (k : Nat) (a0 : ByteArray) : Option (Int × Bool) := if (a0.size : Int) > 11 then (some (0, false)) else (fathomref03_Number.l0 k a0 0 0)
theorem fathomref03_Number.mono_l : ∀ k, (∀ y0 y1 y2, LeO (fathomref03_Number.l0 k y0 y1 y2) (fathomref03_Number.l0 (k + 1) y0 y1 y2)) ∧ (∀ y0 y1 y2, LeO (fathomref03_Number.j1 k y0 y1 y2) (fathomref03_Number.j1 (k + 1) y0 y1 y2))
  | 0 => ⟨fun _ _ _ r h => by simp [fathomref03_Number.l0] at h, fun _ _ _ r h => by simp [fathomref03_Number.j1] at h⟩
  | k + 1 => by
    obtain ⟨ih0, ih1⟩ := fathomref03_Number.mono_l k
    refine ⟨?_, ?_⟩
    · intro y0 y1 y2
      unfold fathomref03_Number.l0
      repeat' first
      | (with_reducible exact ih0 _ _ _)
      | (with_reducible exact ih1 _ _ _)
      | (with_reducible exact fathomref03_Digits.mono _ _)
      | (with_reducible exact LeO.refl _)
      | (with_reducible exact LeO.none _)
      | (with_reducible refine LeO.ite ?_ ?_)
      | (with_reducible refine LeO.bind ?_ (fun _ => ?_))
      | exact ih0 _ _ _
      | exact ih1 _ _ _
      | exact fathomref03_Digits.mono _ _
      | exact LeO.none _
      | refine LeO.ite ?_ ?_
      | refine LeO.bind ?_ (fun _ => ?_)
    · intro y0 y1 y2
      unfold fathomref03_Number.j1
      repeat' first
      | (with_reducible exact ih0 _ _ _)
      | (with_reducible exact ih1 _ _ _)
      | (with_reducible exact fathomref03_Digits.mono _ _)
      | (with_reducible exact LeO.refl _)
      | (with_reducible exact LeO.none _)
      | (with_reducible refine LeO.ite ?_ ?_)
      | (with_reducible refine LeO.bind ?_ (fun _ => ?_))
      | exact ih0 _ _ _
      | exact ih1 _ _ _
      | exact fathomref03_Digits.mono _ _
      | exact LeO.none _
      | refine LeO.ite ?_ ?_
      | refine LeO.bind ?_ (fun _ => ?_)
theorem fathomref03_Number.mono : ∀ a0 k, LeO (fathomref03_Number.f k a0) (fathomref03_Number.f (k + 1) a0) := by
  intro a0 k
  obtain ⟨ih0, ih1⟩ := fathomref03_Number.mono_l k
  unfold fathomref03_Number.f
  repeat' first
      | (with_reducible exact ih0 _ _ _)
      | (with_reducible exact ih1 _ _ _)
      | (with_reducible exact fathomref03_Digits.mono _ _)
      | (with_reducible exact LeO.refl _)
      | (with_reducible exact LeO.none _)
      | (with_reducible refine LeO.ite ?_ ?_)
      | (with_reducible refine LeO.bind ?_ (fun _ => ?_))
      | exact ih0 _ _ _
      | exact ih1 _ _ _
      | exact fathomref03_Digits.mono _ _
      | exact LeO.none _
      | refine LeO.ite ?_ ?_
      | refine LeO.bind ?_ (fun _ => ?_)
set_option maxHeartbeats 8000000 in
set_option maxRecDepth 100000 in
theorem fathomref03_Number.calls (k : Nat) (a0 : ByteArray) (r1 : Int) (r2 : Bool) (w : World) (h : fathomref03_Number.f k a0 = some (r1, r2)) :
    Calls Try.prog 7 #[.string a0] w fun e w' => e = .returned (.tuple #[.int .i64 r1, .bool r2]) ∧ Drawn0 w w' := by
 have H : (if (a0.size : Int) > 11 then (some (0, false)) else (fathomref03_Number.l0 k a0 0 0)) = some (r1, r2) := h
 clear h
 by_cases c2 : (a0.size : Int) > 11
 ·
  rw [if_pos c2] at H
  have c2b0 : decide (11 < (a0.size : Int)) = true := decide_eq_true c2
  have c2b1 : decide (11 < a0.size) = true := decide_eq_true (by omega)
  clear c2
  simp only [Option.some.injEq, Prod.mk.injEq] at H
  obtain ⟨rfl, rfl⟩ := H
  go_enter Try.func7, Try.ntmps7
  go_wp2
  go_ret2
  exact ⟨rs, by repeat (first | exact Drawn0.refl _ | apply Drawn0.step)⟩
 rw [if_neg c2] at H
 have c2b0 : decide (11 < (a0.size : Int)) = false := decide_eq_false c2
 have c2b1 : decide (11 < a0.size) = false := decide_eq_false (by omega)
 clear c2
 have H' := Aside0.mk H
 clear H
 go_enter Try.func7, Try.ntmps7
 go_wp2
 go_loopg [4, 5] k (fun kq v4 v5 w' => ∃ (x4_1 : Int) (x5_1 : Int), v4 = .int .i64 x4_1 ∧ v5 = .int .i64 x5_1 ∧ Aside0 (fathomref03_Number.l0 kq a0 x4_1 x5_1 = some (r1, r2)) ∧ Aside0 (kq ≤ k) ∧ Drawn0 w w')
 case atStart => exact ⟨(0), (0), rs, rs, H', ⟨Nat.le_refl _⟩, by repeat (first | exact Drawn0.refl _ | apply Drawn0.step)⟩
 case round =>
  clear H'
  try clear c2
  try clear c2b0
  try clear c2b1
  try clear p2
  obtain ⟨x4_1, x5_1, rfl, rfl, HA, HK1, ⟨m1, rfl⟩⟩ := hrel
  cases gk with
  | zero => exact absurd HA.out (by simp [fathomref03_Number.l0])
  | succ k1 =>
   have H := HA.out
   clear HA
   simp only [fathomref03_Number.l0] at H
   by_cases c3 : x5_1 < (a0.size : Int)
   ·
    rw [if_pos c3] at H
    have c3b0 : decide (x5_1 < (a0.size : Int)) = true := decide_eq_true c3
    clear c3
    by_cases c4 : 0 ≤ x5_1
    rotate_left
    ·
     rw [if_neg c4] at H
     exact absurd H (by simp)
    rw [if_pos c4] at H
    have c4b0 : decide (0 ≤ x5_1) = true := decide_eq_true c4
    clear c4
    by_cases c6 : (bt a0 x5_1) ≥ 48
    rotate_left
    ·
     rw [if_neg c6] at H
     have c6b0 : decide (48 ≤ (bt a0 x5_1)) = false := decide_eq_false c6
     clear c6
     have H' := Aside0.mk H
     clear H
     have p5 : 0 ≤ (x5_1 : Int) := od
     have q5 : x5_1 < (a0.size : Int) := od
     have hx5 := bt_at a0 x5_1
     replace p5 := eq_true p5
     replace q5 := eq_true q5
     go_wp2
     go_roundg k1
     case measure => have := HK1.out; omega
     case rel => exact ⟨(x4_1), (wrap64 (x5_1 + 1)), rs, rs, H', ⟨by have := HK1.out; omega⟩, by repeat (first | exact Drawn0.refl _ | apply Drawn0.step)⟩
    rw [if_pos c6] at H
    have c6b0 : decide (48 ≤ (bt a0 x5_1)) = true := decide_eq_true c6
    clear c6
    by_cases c8 : (bt a0 x5_1) ≤ 57
    rotate_left
    ·
     rw [if_neg c8] at H
     have c8b0 : decide ((bt a0 x5_1) ≤ 57) = false := decide_eq_false c8
     clear c8
     have H' := Aside0.mk H
     clear H
     have p5 : 0 ≤ (x5_1 : Int) := od
     have q5 : x5_1 < (a0.size : Int) := od
     have hx5 := bt_at a0 x5_1
     replace p5 := eq_true p5
     replace q5 := eq_true q5
     have p7 : 0 ≤ (x5_1 : Int) := od
     have q7 : x5_1 < (a0.size : Int) := od
     have hx7 := bt_at a0 x5_1
     replace p7 := eq_true p7
     replace q7 := eq_true q7
     go_wp2
     go_roundg k1
     case measure => have := HK1.out; omega
     case rel => exact ⟨(x4_1), (wrap64 (x5_1 + 1)), rs, rs, H', ⟨by have := HK1.out; omega⟩, by repeat (first | exact Drawn0.refl _ | apply Drawn0.step)⟩
    rw [if_pos c8] at H
    have c8b0 : decide ((bt a0 x5_1) ≤ 57) = true := decide_eq_true c8
    clear c8
    have H' := Aside0.mk H
    clear H
    have p5 : 0 ≤ (x5_1 : Int) := od
    have q5 : x5_1 < (a0.size : Int) := od
    have hx5 := bt_at a0 x5_1
    replace p5 := eq_true p5
    replace q5 := eq_true q5
    have p7 : 0 ≤ (x5_1 : Int) := od
    have q7 : x5_1 < (a0.size : Int) := od
    have hx7 := bt_at a0 x5_1
    replace p7 := eq_true p7
    replace q7 := eq_true q7
    have p9 : 0 ≤ (x5_1 : Int) := od
    have q9 : x5_1 < (a0.size : Int) := od
    have hx9 := bt_at a0 x5_1
    replace p9 := eq_true p9
    replace q9 := eq_true q9
    go_wp2
    go_roundg k1
    case measure => have := HK1.out; omega
    case rel => exact ⟨(wrap64 ((wrap64 (x4_1 * 10)) + (((bt a0 x5_1) - 48) % 256))), (wrap64 (x5_1 + 1)), rs, rs, H', ⟨by have := HK1.out; omega⟩, by repeat (first | exact Drawn0.refl _ | apply Drawn0.step)⟩
   rw [if_neg c3] at H
   have c3b0 : decide (x5_1 < (a0.size : Int)) = false := decide_eq_false c3
   clear c3
   have HC10 := Aside0.mk H
   clear H
   go_upto_region 9 with (fail)
   repeat ((with_reducible refine upon_gate ?_); go_simp; go_upto_region 9 with (fail))
   go_cut [40] (fun v40 wc => ∃ (kq : Nat) (x40_9 : Bool), v40 = .bool x40_9 ∧ Aside0 (fathomref03_Number.j1 kq a0 x4_1 x40_9 = some (r1, r2)) ∧ Aside0 (kq ≤ k1) ∧ Drawn0 w wc)
   case first =>
    have H := HC10.out
    clear HC10
    by_cases c11 : (a0.size : Int) > 0
    rotate_left
    ·
     rw [if_neg c11] at H
     have c11b0 : decide (0 < (a0.size : Int)) = false := decide_eq_false c11
     have c11b1 : decide (0 < a0.size) = false := decide_eq_false (by omega)
     clear c11
     (first | rw [c11b0] | (simp only [i64_w, i32_w]; rw [c11b0]) | skip)
     have H' := Aside0.mk H
     clear H
     go_wp2
     go_meet
     case rel => exact ⟨_, (false), rs, H', ⟨by have := HK1.out; first | omega | exact Nat.le_refl _⟩, by repeat (first | exact Drawn0.refl _ | apply Drawn0.step)⟩
    rw [if_pos c11] at H
    have c11b0 : decide (0 < (a0.size : Int)) = true := decide_eq_true c11
    have c11b1 : decide (0 < a0.size) = true := decide_eq_true (by omega)
    clear c11
    (first | rw [c11b0] | (simp only [i64_w, i32_w]; rw [c11b0]) | skip)
    by_cases c12 : 0 < (a0.size : Int)
    rotate_left
    ·
     rw [if_neg c12] at H
     exact absurd H (by simp)
    rw [if_pos c12] at H
    have c12b0 : decide (0 < (a0.size : Int)) = true := decide_eq_true c12
    have c12b1 : decide (0 < a0.size) = true := decide_eq_true (by omega)
    clear c12
    have H' := Aside0.mk H
    clear H
    have p13 : 0 ≤ (0 : Int) := (by omega)
    have q13 : 0 < a0.size := (by have : (0 : Int) < (a0.size : Int) := od; omega)
    have hx13 : ∀ h : 0 < a0.size, ((a0[0]'h).toNat : Int) = bt a0 0 := bt_at a0 0
    clear p13
    have qi13 : (0 < (a0.size : Int)) = True := eq_true (od)
    replace q13 := eq_true q13
    go_wp2
    go_meet
    case rel => exact ⟨_, (((bt a0 0) == 45)), rs, H', ⟨by have := HK1.out; first | omega | exact Nat.le_refl _⟩, by repeat (first | exact Drawn0.refl _ | apply Drawn0.step)⟩
   case rest =>
    clear HC10
    try clear c1
    try clear p1
    try clear q1
    try clear hx1
    try clear qi1
    try clear c2
    try clear c2b0
    try clear c2b1
    try clear p2
    try clear c3
    try clear c3b0
    try clear c4
    try clear c4b0
    try clear p5
    try clear q5
    try clear hx5
    try clear c6
    try clear c6b0
    try clear p6
    try clear c7
    try clear p7
    try clear q7
    try clear hx7
    try clear c8
    try clear c8b0
    try clear p9
    try clear q9
    try clear hx9
    try clear c11
    try clear c11b0
    try clear c11b1
    try clear c12
    try clear c12b0
    try clear c12b1
    try clear p13
    try clear q13
    try clear hx13
    try clear qi13
    obtain ⟨kq, x40_9, rfl, HA, HJ9, ⟨mc9, rfl⟩⟩ := hcut
    cases kq with
    | zero => exact absurd HA.out (by simp [fathomref03_Number.j1])
    | succ kj9 =>
     have H := HA.out
     clear HA
     simp only [fathomref03_Number.j1] at H
     by_cases c14 : x40_9 = true
     rotate_left
     ·
      replace c14 := Bool.eq_false_iff.mpr c14
      subst c14
      have H1 : (if x4_1 > 9999999999 then (some (0, false)) else (if x4_1 < (-9999999999) then (some (0, false)) else ((fathomref03_Digits.f kj9 x4_1).bind fun t105 => (if t105.toList = a0.toList then (some (x4_1, true)) else (some (0, false)))))) = some (r1, r2) := by rw [if_neg (show ¬ (false = true) by decide)] at H; exact H
      clear H
      have H := H1
      clear H1
      by_cases c19 : x4_1 > 9999999999
      ·
       rw [if_pos c19] at H
       have c19b0 : decide (9999999999 < x4_1) = true := decide_eq_true c19
       clear c19
       simp only [Option.some.injEq, Prod.mk.injEq] at H
       obtain ⟨rfl, rfl⟩ := H
       go_wp2
       go_ret2
       exact ⟨rs, by repeat (first | exact Drawn0.refl _ | apply Drawn0.step)⟩
      rw [if_neg c19] at H
      have c19b0 : decide (9999999999 < x4_1) = false := decide_eq_false c19
      clear c19
      by_cases c20 : x4_1 < (-9999999999)
      ·
       rw [if_pos c20] at H
       have c20b0 : decide (x4_1 < (-9999999999)) = true := decide_eq_true c20
       clear c20
       simp only [Option.some.injEq, Prod.mk.injEq] at H
       obtain ⟨rfl, rfl⟩ := H
       go_wp2
       go_ret2
       exact ⟨rs, by repeat (first | exact Drawn0.refl _ | apply Drawn0.step)⟩
      rw [if_neg c20] at H
      have c20b0 : decide (x4_1 < (-9999999999)) = false := decide_eq_false c20
      clear c20
      replace H := Option.bind_eq_some_iff.mp H
      obtain ⟨t105, A210, H⟩ := H
      replace H : (if t105.toList = a0.toList then (some (x4_1, true)) else (some (0, false))) = some (r1, r2) := H
      have A21 := Aside0.mk A210
      clear A210
      by_cases c22 : t105.toList = a0.toList
      rotate_left
      ·
       rw [if_neg c22] at H
       have c22b0 : (t105.toList == a0.toList) = false := beq_eq_false_iff_ne.mpr c22
       have c22b1 : (t105.toList != a0.toList) = true := bne_iff_ne.mpr c22
       simp only [Option.some.injEq, Prod.mk.injEq] at H
       obtain ⟨rfl, rfl⟩ := H
       go_wp2_with (first | (go_at_call 8; (with_reducible refine (fathomref03_Digits.calls kj9 x4_1 t105 _ A21.out).mono ?_); rintro e w' ⟨rfl, ⟨nd, rfl⟩⟩))
       go_ret2
       exact ⟨rs, by repeat (first | exact Drawn0.refl _ | apply Drawn0.step)⟩
      rw [if_pos c22] at H
      have c22b0 : (t105.toList == a0.toList) = true := beq_iff_eq.mpr c22
      have c22b1 : (t105.toList != a0.toList) = false := bne_eq_false_iff_eq.mpr c22
      clear c22
      simp only [Option.some.injEq, Prod.mk.injEq] at H
      obtain ⟨rfl, rfl⟩ := H
      go_wp2_with (first | (go_at_call 8; (with_reducible refine (fathomref03_Digits.calls kj9 x4_1 t105 _ A21.out).mono ?_); rintro e w' ⟨rfl, ⟨nd, rfl⟩⟩))
      go_ret2
      exact ⟨rs, by repeat (first | exact Drawn0.refl _ | apply Drawn0.step)⟩
     subst c14
     have H1 : (if (wrap64 (-x4_1)) > 9999999999 then (some (0, false)) else (if (wrap64 (-x4_1)) < (-9999999999) then (some (0, false)) else ((fathomref03_Digits.f kj9 (wrap64 (-x4_1))).bind fun t104 => (if t104.toList = a0.toList then (some (wrap64 (-x4_1), true)) else (some (0, false)))))) = some (r1, r2) := by rw [if_pos rfl] at H; exact H
     clear H
     have H := H1
     clear H1
     by_cases c15 : (wrap64 (-x4_1)) > 9999999999
     ·
      rw [if_pos c15] at H
      have c15b0 : decide (9999999999 < (wrap64 (-x4_1))) = true := decide_eq_true c15
      clear c15
      simp only [Option.some.injEq, Prod.mk.injEq] at H
      obtain ⟨rfl, rfl⟩ := H
      go_wp2
      go_ret2
      exact ⟨rs, by repeat (first | exact Drawn0.refl _ | apply Drawn0.step)⟩
     rw [if_neg c15] at H
     have c15b0 : decide (9999999999 < (wrap64 (-x4_1))) = false := decide_eq_false c15
     clear c15
     by_cases c16 : (wrap64 (-x4_1)) < (-9999999999)
     ·
      rw [if_pos c16] at H
      have c16b0 : decide ((wrap64 (-x4_1)) < (-9999999999)) = true := decide_eq_true c16
      clear c16
      simp only [Option.some.injEq, Prod.mk.injEq] at H
      obtain ⟨rfl, rfl⟩ := H
      go_wp2
      go_ret2
      exact ⟨rs, by repeat (first | exact Drawn0.refl _ | apply Drawn0.step)⟩
     rw [if_neg c16] at H
     have c16b0 : decide ((wrap64 (-x4_1)) < (-9999999999)) = false := decide_eq_false c16
     clear c16
     replace H := Option.bind_eq_some_iff.mp H
     obtain ⟨t104, A170, H⟩ := H
     replace H : (if t104.toList = a0.toList then (some (wrap64 (-x4_1), true)) else (some (0, false))) = some (r1, r2) := H
     have A17 := Aside0.mk A170
     clear A170
     by_cases c18 : t104.toList = a0.toList
     rotate_left
     ·
      rw [if_neg c18] at H
      have c18b0 : (t104.toList == a0.toList) = false := beq_eq_false_iff_ne.mpr c18
      have c18b1 : (t104.toList != a0.toList) = true := bne_iff_ne.mpr c18
      simp only [Option.some.injEq, Prod.mk.injEq] at H
      obtain ⟨rfl, rfl⟩ := H
      go_wp2_with (first | (go_at_call 8; (with_reducible refine (fathomref03_Digits.calls kj9 (wrap64 (-x4_1)) t104 _ A17.out).mono ?_); rintro e w' ⟨rfl, ⟨nd, rfl⟩⟩))
      go_ret2
      exact ⟨rs, by repeat (first | exact Drawn0.refl _ | apply Drawn0.step)⟩
     rw [if_pos c18] at H
     have c18b0 : (t104.toList == a0.toList) = true := beq_iff_eq.mpr c18
     have c18b1 : (t104.toList != a0.toList) = false := bne_eq_false_iff_eq.mpr c18
     clear c18
     simp only [Option.some.injEq, Prod.mk.injEq] at H
     obtain ⟨rfl, rfl⟩ := H
     go_wp2_with (first | (go_at_call 8; (with_reducible refine (fathomref03_Digits.calls kj9 (wrap64 (-x4_1)) t104 _ A17.out).mono ?_); rintro e w' ⟨rfl, ⟨nd, rfl⟩⟩))
     go_ret2
     exact ⟨rs, by repeat (first | exact Drawn0.refl _ | apply Drawn0.step)⟩

/-! ### fathomlaw03_DimacsNumbers: function 3 -/
mutual
def fathomlaw03_DimacsNumbers.j0 : Nat → Int → Bool → Option (Bool)
  | 0, _, _ => none
  | k + 1, x1, x32 => if x32 = true then (some false) else (if x1 < (-9999999999) then (fathomlaw03_DimacsNumbers.j1 k x1 true) else (fathomlaw03_DimacsNumbers.j1 k x1 (decide (x1 > 9999999999))))
def fathomlaw03_DimacsNumbers.j1 : Nat → Int → Bool → Option (Bool)
  | 0, _, _ => none
  | k + 1, x1, x38 => if x38 = true then ((fathomlaw03_awake.f).bind fun t111 => (some t111)) else ((fathomref03_Digits.f k x1).bind fun t112 => ((dimacs_Number.f k t112).bind fun bt113 => (if bt113.2 = true then (if bt113.1 = x1 then ((fathomlaw03_awake.f).bind fun t115 => (some t115)) else (some false)) else (some false))))
end
def fathomlaw03_DimacsNumbers.f (k : Nat) (a0 : ByteArray) (a1 : Int) : Option (Bool) := if (a0.size : Int) > 300 then ((fathomlaw03_awake.f).bind fun t106 => (some t106)) else ((dimacs_Number.f k a0).bind fun bt107 => ((fathomref03_Number.f k a0).bind fun bt109 => (if bt107.1 = bt109.1 then (fathomlaw03_DimacsNumbers.j0 k a1 (bt107.2 != bt109.2)) else (fathomlaw03_DimacsNumbers.j0 k a1 true))))
theorem fathomlaw03_DimacsNumbers.mono_l : ∀ k, (∀ y0 y1, LeO (fathomlaw03_DimacsNumbers.j0 k y0 y1) (fathomlaw03_DimacsNumbers.j0 (k + 1) y0 y1)) ∧ (∀ y0 y1, LeO (fathomlaw03_DimacsNumbers.j1 k y0 y1) (fathomlaw03_DimacsNumbers.j1 (k + 1) y0 y1))
  | 0 => ⟨fun _ _ r h => by simp [fathomlaw03_DimacsNumbers.j0] at h, fun _ _ r h => by simp [fathomlaw03_DimacsNumbers.j1] at h⟩
  | k + 1 => by
    obtain ⟨ih0, ih1⟩ := fathomlaw03_DimacsNumbers.mono_l k
    refine ⟨?_, ?_⟩
    · intro y0 y1
      unfold fathomlaw03_DimacsNumbers.j0
      repeat' first
      | (with_reducible exact ih0 _ _)
      | (with_reducible exact ih1 _ _)
      | (with_reducible exact dimacs_Number.mono _ _)
      | (with_reducible exact fathomref03_Digits.mono _ _)
      | (with_reducible exact fathomref03_Number.mono _ _)
      | (with_reducible exact LeO.refl _)
      | (with_reducible exact LeO.none _)
      | (with_reducible refine LeO.ite ?_ ?_)
      | (with_reducible refine LeO.bind ?_ (fun _ => ?_))
      | exact ih0 _ _
      | exact ih1 _ _
      | exact dimacs_Number.mono _ _
      | exact fathomref03_Digits.mono _ _
      | exact fathomref03_Number.mono _ _
      | exact LeO.none _
      | refine LeO.ite ?_ ?_
      | refine LeO.bind ?_ (fun _ => ?_)
    · intro y0 y1
      unfold fathomlaw03_DimacsNumbers.j1
      repeat' first
      | (with_reducible exact ih0 _ _)
      | (with_reducible exact ih1 _ _)
      | (with_reducible exact dimacs_Number.mono _ _)
      | (with_reducible exact fathomref03_Digits.mono _ _)
      | (with_reducible exact fathomref03_Number.mono _ _)
      | (with_reducible exact LeO.refl _)
      | (with_reducible exact LeO.none _)
      | (with_reducible refine LeO.ite ?_ ?_)
      | (with_reducible refine LeO.bind ?_ (fun _ => ?_))
      | exact ih0 _ _
      | exact ih1 _ _
      | exact dimacs_Number.mono _ _
      | exact fathomref03_Digits.mono _ _
      | exact fathomref03_Number.mono _ _
      | exact LeO.none _
      | refine LeO.ite ?_ ?_
      | refine LeO.bind ?_ (fun _ => ?_)
theorem fathomlaw03_DimacsNumbers.mono : ∀ a0 a1 k, LeO (fathomlaw03_DimacsNumbers.f k a0 a1) (fathomlaw03_DimacsNumbers.f (k + 1) a0 a1) := by
  intro a0 a1 k
  obtain ⟨ih0, ih1⟩ := fathomlaw03_DimacsNumbers.mono_l k
  unfold fathomlaw03_DimacsNumbers.f
  repeat' first
      | (with_reducible exact ih0 _ _)
      | (with_reducible exact ih1 _ _)
      | (with_reducible exact dimacs_Number.mono _ _)
      | (with_reducible exact fathomref03_Digits.mono _ _)
      | (with_reducible exact fathomref03_Number.mono _ _)
      | (with_reducible exact LeO.refl _)
      | (with_reducible exact LeO.none _)
      | (with_reducible refine LeO.ite ?_ ?_)
      | (with_reducible refine LeO.bind ?_ (fun _ => ?_))
      | exact ih0 _ _
      | exact ih1 _ _
      | exact dimacs_Number.mono _ _
      | exact fathomref03_Digits.mono _ _
      | exact fathomref03_Number.mono _ _
      | exact LeO.none _
      | refine LeO.ite ?_ ?_
      | refine LeO.bind ?_ (fun _ => ?_)
set_option maxHeartbeats 8000000 in
set_option maxRecDepth 100000 in
theorem fathomlaw03_DimacsNumbers.calls (k : Nat) (a0 : ByteArray) (a1 : Int) (r : Bool) (w : World) (h : fathomlaw03_DimacsNumbers.f k a0 a1 = some r) :
    Calls Try.prog 3 #[.string a0, .int .i64 a1] w fun e w' => e = .returned (.bool r) ∧ Below w.heap.size w w' := by
 have HB := Aside0.mk (Below.refl w.heap.size w)
 have H : (if (a0.size : Int) > 300 then ((fathomlaw03_awake.f).bind fun t106 => (some t106)) else ((dimacs_Number.f k a0).bind fun bt107 => ((fathomref03_Number.f k a0).bind fun bt109 => (if bt107.1 = bt109.1 then (fathomlaw03_DimacsNumbers.j0 k a1 (bt107.2 != bt109.2)) else (fathomlaw03_DimacsNumbers.j0 k a1 true))))) = some r := h
 clear h
 by_cases c3 : (a0.size : Int) > 300
 ·
  rw [if_pos c3] at H
  have c3b0 : decide (300 < (a0.size : Int)) = true := decide_eq_true c3
  have c3b1 : decide (300 < a0.size) = true := decide_eq_true (by omega)
  clear c3
  replace H := Option.bind_eq_some_iff.mp H
  obtain ⟨t106, A40, H⟩ := H
  replace H : (some t106) = some r := H
  have A4 := Aside0.mk A40
  clear A40
  obtain rfl := Option.some.inj H
  go_enter Try.func3, Try.ntmps3
  go_wp2_with (first | ((with_reducible refine gate_callee (f := 5) rfl ?_); refine gl (some 14) Try.func5 #[] ?_; (with_reducible refine (fathomlaw03_awake.calls  t106 _ A4.out).mono ?_); rintro e w5 ⟨rfl, hb⟩; refine ⟨_, rfl, ?_⟩; replace HB := Aside0.mk (below_step bb hb); (try clear hb); (try clear hb2); (try clear hk); (try clear hi)))
  go_ret
  exact ⟨ew, bb⟩
 rw [if_neg c3] at H
 have c3b0 : decide (300 < (a0.size : Int)) = false := decide_eq_false c3
 have c3b1 : decide (300 < a0.size) = false := decide_eq_false (by omega)
 clear c3
 replace H := Option.bind_eq_some_iff.mp H
 obtain ⟨⟨t107, t108⟩, A60, H⟩ := H
 replace H : ((fathomref03_Number.f k a0).bind fun bt109 => (if t107 = bt109.1 then (fathomlaw03_DimacsNumbers.j0 k a1 (t108 != bt109.2)) else (fathomlaw03_DimacsNumbers.j0 k a1 true))) = some r := H
 have A6 := Aside0.mk A60
 clear A60
 replace H := Option.bind_eq_some_iff.mp H
 obtain ⟨⟨t109, t110⟩, A70, H⟩ := H
 replace H : (if t107 = t109 then (fathomlaw03_DimacsNumbers.j0 k a1 (t108 != t110)) else (fathomlaw03_DimacsNumbers.j0 k a1 true)) = some r := H
 have A7 := Aside0.mk A70
 clear A70
 have HC8 := Aside0.mk H
 clear H
 go_enter Try.func3, Try.ntmps3
 go_upto_region 5 with (first | ((with_reducible refine gate_callee (f := 6) rfl ?_); refine gl (some 17) Try.func6 #[.string a0] ?_; (with_reducible refine (dimacs_Number.calls k a0 t107 t108 _ A6.out).mono ?_); rintro e w' ⟨rfl, ⟨nd, rfl⟩⟩; refine ⟨_, rfl, ?_⟩) | ((with_reducible refine gate_callee (f := 7) rfl ?_); refine gl (some 22) Try.func7 #[.string a0] ?_; (with_reducible refine (fathomref03_Number.calls k a0 t109 t110 _ A7.out).mono ?_); rintro e w' ⟨rfl, ⟨nd, rfl⟩⟩; refine ⟨_, rfl, ?_⟩))
 repeat ((with_reducible refine upon_gate ?_); go_simp; go_upto_region 5 with (first | ((with_reducible refine gate_callee (f := 6) rfl ?_); refine gl (some 17) Try.func6 #[.string a0] ?_; (with_reducible refine (dimacs_Number.calls k a0 t107 t108 _ A6.out).mono ?_); rintro e w' ⟨rfl, ⟨nd, rfl⟩⟩; refine ⟨_, rfl, ?_⟩) | ((with_reducible refine gate_callee (f := 7) rfl ?_); refine gl (some 22) Try.func7 #[.string a0] ?_; (with_reducible refine (fathomref03_Number.calls k a0 t109 t110 _ A7.out).mono ?_); rintro e w' ⟨rfl, ⟨nd, rfl⟩⟩; refine ⟨_, rfl, ?_⟩)))
 (try simp only [Act.put, List.setIfInBounds_toArray, List.set_cons_zero, List.set_cons_succ])
 go_cut [32] (fun v32 wc => ∃ (kq : Nat) (x32_7 : Bool), v32 = .bool x32_7 ∧ Aside0 (fathomlaw03_DimacsNumbers.j0 kq a1 x32_7 = some r) ∧ Aside0 (kq ≤ k) ∧ Aside0 (Below w.heap.size w wc))
 case first =>
  have H := HC8.out
  clear HC8
  by_cases c9 : t107 = t109
  rotate_left
  ·
   rw [if_neg c9] at H
   have c9b0 : (t107 == t109) = false := beq_eq_false_iff_ne.mpr c9
   have c9b1 : (t107 != t109) = true := bne_iff_ne.mpr c9
   (first | rw [c9b0] | (simp only [i64_w, i32_w]; rw [c9b0]) | skip)
   have H' := Aside0.mk H
   clear H
   go_wp2
   go_meet
   case rel => exact ⟨_, (true), rs, H', ⟨by first | omega | exact Nat.le_refl _⟩, ⟨bb⟩⟩
  rw [if_pos c9] at H
  have c9b0 : (t107 == t109) = true := beq_iff_eq.mpr c9
  have c9b1 : (t107 != t109) = false := bne_eq_false_iff_eq.mpr c9
  clear c9
  (first | rw [c9b0] | (simp only [i64_w, i32_w]; rw [c9b0]) | skip)
  have H' := Aside0.mk H
  clear H
  go_wp2
  go_meet
  case rel => exact ⟨_, ((t108 != t110)), rs, H', ⟨by first | omega | exact Nat.le_refl _⟩, ⟨bb⟩⟩
 case rest =>
  clear HC8
  try clear p2
  try clear c3
  try clear c3b0
  try clear c3b1
  try clear c5
  try clear c6
  try clear c7
  try clear c9
  try clear c9b0
  try clear c9b1
  obtain ⟨kq, x32_7, rfl, HA, HJ7, HB⟩ := hcut
  cases kq with
  | zero => exact absurd HA.out (by simp [fathomlaw03_DimacsNumbers.j0])
  | succ kj7 =>
   have H := HA.out
   clear HA
   simp only [fathomlaw03_DimacsNumbers.j0] at H
   by_cases c10 : x32_7 = true
   ·
    subst c10
    have H1 : (some false) = some r := by rw [if_pos rfl] at H; exact H
    clear H
    have H := H1
    clear H1
    obtain rfl := Option.some.inj H
    go_wp2
    go_ret
    exact ⟨ew, bb⟩
   replace c10 := Bool.eq_false_iff.mpr c10
   subst c10
   have H1 : (if a1 < (-9999999999) then (fathomlaw03_DimacsNumbers.j1 kj7 a1 true) else (fathomlaw03_DimacsNumbers.j1 kj7 a1 (decide (a1 > 9999999999)))) = some r := by rw [if_neg (show ¬ (false = true) by decide)] at H; exact H
   clear H
   have H := H1
   clear H1
   have HC11 := Aside0.mk H
   clear H
   go_upto_region 7 with (fail)
   repeat ((with_reducible refine upon_gate ?_); go_simp; go_upto_region 7 with (fail))
   go_cut [38] (fun v38 wc => ∃ (kq : Nat) (x38_10 : Bool), v38 = .bool x38_10 ∧ Aside0 (fathomlaw03_DimacsNumbers.j1 kq a1 x38_10 = some r) ∧ Aside0 (kq ≤ kj7) ∧ Aside0 (Below w.heap.size w wc))
   case first =>
    have H := HC11.out
    clear HC11
    by_cases c12 : a1 < (-9999999999)
    ·
     rw [if_pos c12] at H
     have c12b0 : decide (a1 < (-9999999999)) = true := decide_eq_true c12
     clear c12
     (first | rw [c12b0] | (simp only [i64_w, i32_w]; rw [c12b0]) | skip)
     have H' := Aside0.mk H
     clear H
     go_wp2
     go_meet
     case rel => exact ⟨_, (true), rs, H', ⟨by have := HJ7.out; first | omega | exact Nat.le_refl _⟩, ⟨bb⟩⟩
    rw [if_neg c12] at H
    have c12b0 : decide (a1 < (-9999999999)) = false := decide_eq_false c12
    clear c12
    (first | rw [c12b0] | (simp only [i64_w, i32_w]; rw [c12b0]) | skip)
    have H' := Aside0.mk H
    clear H
    go_wp2
    go_meet
    case rel => exact ⟨_, (decide (a1 > 9999999999)), rs, H', ⟨by have := HJ7.out; first | omega | exact Nat.le_refl _⟩, ⟨bb⟩⟩
   case rest =>
    clear HC11
    try clear c1
    try clear p2
    try clear c3
    try clear c3b0
    try clear c3b1
    try clear c5
    try clear c6
    try clear c7
    try clear c9
    try clear c9b0
    try clear c9b1
    try clear c10
    try clear c12
    try clear c12b0
    obtain ⟨kq, x38_10, rfl, HA, HJ10, HB⟩ := hcut
    cases kq with
    | zero => exact absurd HA.out (by simp [fathomlaw03_DimacsNumbers.j1])
    | succ kj10 =>
     have H := HA.out
     clear HA
     simp only [fathomlaw03_DimacsNumbers.j1] at H
     by_cases c13 : x38_10 = true
     ·
      subst c13
      have H1 : ((fathomlaw03_awake.f).bind fun t111 => (some t111)) = some r := by rw [if_pos rfl] at H; exact H
      clear H
      have H := H1
      clear H1
      replace H := Option.bind_eq_some_iff.mp H
      obtain ⟨t111, A140, H⟩ := H
      replace H : (some t111) = some r := H
      have A14 := Aside0.mk A140
      clear A140
      obtain rfl := Option.some.inj H
      go_wp2_with (first | ((with_reducible refine gate_callee (f := 5) rfl ?_); refine gl (some 39) Try.func5 #[] ?_; (with_reducible refine (fathomlaw03_awake.calls  t111 _ A14.out).mono ?_); rintro e w15 ⟨rfl, hb⟩; refine ⟨_, rfl, ?_⟩; replace HB := Aside0.mk (below_step bb hb); (try clear hb); (try clear hb2); (try clear hk); (try clear hi)))
      go_ret
      exact ⟨ew, bb⟩
     replace c13 := Bool.eq_false_iff.mpr c13
     subst c13
     have H1 : ((fathomref03_Digits.f kj10 a1).bind fun t112 => ((dimacs_Number.f kj10 t112).bind fun bt113 => (if bt113.2 = true then (if bt113.1 = a1 then ((fathomlaw03_awake.f).bind fun t115 => (some t115)) else (some false)) else (some false)))) = some r := by rw [if_neg (show ¬ (false = true) by decide)] at H; exact H
     clear H
     have H := H1
     clear H1
     replace H := Option.bind_eq_some_iff.mp H
     obtain ⟨t112, A160, H⟩ := H
     replace H : ((dimacs_Number.f kj10 t112).bind fun bt113 => (if bt113.2 = true then (if bt113.1 = a1 then ((fathomlaw03_awake.f).bind fun t115 => (some t115)) else (some false)) else (some false))) = some r := H
     have A16 := Aside0.mk A160
     clear A160
     replace H := Option.bind_eq_some_iff.mp H
     obtain ⟨⟨t113, t114⟩, A170, H⟩ := H
     replace H : (if t114 = true then (if t113 = a1 then ((fathomlaw03_awake.f).bind fun t115 => (some t115)) else (some false)) else (some false)) = some r := H
     have A17 := Aside0.mk A170
     clear A170
     by_cases c18 : t114 = true
     rotate_left
     ·
      replace c18 := Bool.eq_false_iff.mpr c18
      subst c18
      have H1 : (some false) = some r := by rw [if_neg (show ¬ (false = true) by decide)] at H; exact H
      clear H
      have H := H1
      clear H1
      obtain rfl := Option.some.inj H
      go_wp2_with (first | ((with_reducible refine gate_callee (f := 8) rfl ?_); refine gl (some 42) Try.func8 #[.int .i64 a1] ?_; (with_reducible refine (fathomref03_Digits.calls kj10 a1 t112 _ A16.out).mono ?_); rintro e w' ⟨rfl, ⟨nd, rfl⟩⟩; refine ⟨_, rfl, ?_⟩) | ((with_reducible refine gate_callee (f := 6) rfl ?_); refine gl (some 43) Try.func6 #[.string t112] ?_; (with_reducible refine (dimacs_Number.calls kj10 t112 t113 false _ A17.out).mono ?_); rintro e w' ⟨rfl, ⟨nd, rfl⟩⟩; refine ⟨_, rfl, ?_⟩))
      go_ret
      exact ⟨ew, bb⟩
     subst c18
     have H1 : (if t113 = a1 then ((fathomlaw03_awake.f).bind fun t115 => (some t115)) else (some false)) = some r := by rw [if_pos rfl] at H; exact H
     clear H
     have H := H1
     clear H1
     by_cases c19 : t113 = a1
     rotate_left
     ·
      rw [if_neg c19] at H
      have c19b0 : (t113 == a1) = false := beq_eq_false_iff_ne.mpr c19
      have c19b1 : (t113 != a1) = true := bne_iff_ne.mpr c19
      obtain rfl := Option.some.inj H
      go_wp2_with (first | ((with_reducible refine gate_callee (f := 8) rfl ?_); refine gl (some 42) Try.func8 #[.int .i64 a1] ?_; (with_reducible refine (fathomref03_Digits.calls kj10 a1 t112 _ A16.out).mono ?_); rintro e w' ⟨rfl, ⟨nd, rfl⟩⟩; refine ⟨_, rfl, ?_⟩) | ((with_reducible refine gate_callee (f := 6) rfl ?_); refine gl (some 43) Try.func6 #[.string t112] ?_; (with_reducible refine (dimacs_Number.calls kj10 t112 t113 true _ A17.out).mono ?_); rintro e w' ⟨rfl, ⟨nd, rfl⟩⟩; refine ⟨_, rfl, ?_⟩))
      go_ret
      exact ⟨ew, bb⟩
     rw [if_pos c19] at H
     have c19b0 : (t113 == a1) = true := beq_iff_eq.mpr c19
     have c19b1 : (t113 != a1) = false := bne_eq_false_iff_eq.mpr c19
     clear c19
     replace H := Option.bind_eq_some_iff.mp H
     obtain ⟨t115, A200, H⟩ := H
     replace H : (some t115) = some r := H
     have A20 := Aside0.mk A200
     clear A200
     obtain rfl := Option.some.inj H
     go_wp2_with (first | ((with_reducible refine gate_callee (f := 8) rfl ?_); refine gl (some 42) Try.func8 #[.int .i64 a1] ?_; (with_reducible refine (fathomref03_Digits.calls kj10 a1 t112 _ A16.out).mono ?_); rintro e w' ⟨rfl, ⟨nd, rfl⟩⟩; refine ⟨_, rfl, ?_⟩) | ((with_reducible refine gate_callee (f := 6) rfl ?_); refine gl (some 43) Try.func6 #[.string t112] ?_; (with_reducible refine (dimacs_Number.calls kj10 t112 t113 true _ A17.out).mono ?_); rintro e w' ⟨rfl, ⟨nd, rfl⟩⟩; refine ⟨_, rfl, ?_⟩) | (go_at_call 5; (with_reducible refine (fathomlaw03_awake.calls  t115 _ A20.out).mono ?_); rintro e w21 ⟨rfl, hb⟩; replace HB := Aside0.mk (below_step bb hb); (try clear hb); (try clear hb2); (try clear hk); (try clear hi)))
     go_ret
     exact ⟨ew, bb⟩

/-- THE ONE PURE STATEMENT of fathomlaw03_DimacsNumbers: yours. -/
def fathomlaw03_DimacsNumbers.Pure : Prop := ∀ (a0 : ByteArray) (a1 : Int), a0.size ≤ 140737488351232 → (Lit.int .i64 a1).wf = true → ∃ k, fathomlaw03_DimacsNumbers.f k a0 a1 = some true
theorem fathomlaw03_DimacsNumbers.walk (P : fathomlaw03_DimacsNumbers.Pure) (a0 : ByteArray) (a1 : Int) (w : World) (w0 : a0.size ≤ 140737488351232) (w1 : (Lit.int .i64 a1).wf = true) :
    Calls Try.prog 3 #[.string a0, .int .i64 a1] w fun e w' => e = .returned (.bool true) ∧ Below w.heap.size w w' := by
  obtain ⟨k, h⟩ := P a0 a1 w0 w1
  refine (fathomlaw03_DimacsNumbers.calls k a0 a1 true w h).mono ?_
  rintro e w' ⟨rfl, hd⟩
  exact ⟨rfl, hd⟩

end Go.Proofs.Ythnnekaimkppfaa.Q
