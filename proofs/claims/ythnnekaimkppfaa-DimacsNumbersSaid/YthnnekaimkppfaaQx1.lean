-- Laid by drive.py (a program of the session's) out of the translation. Lean checks it.
import Derived.Test.YthnnekaimkppfaaQx0
namespace Go.Proofs.Ythnnekaimkppfaa.Q
open Go.RowKit Go.Proofs.YthnnekaimkppfaaW.PrintWords Go.Proofs.YthnnekaimkppfaaW.PrintLast Go.Proofs.YthnnekaimkppfaaW.PrintMore
attribute [local go_sem] max2_int min2_int max_two min_two max_three min_three max_four min_four   -- for this text's walks alone
set_option linter.unusedVariables false
set_option linter.unusedSimpArgs false

/-! ### dimacs_Number: function 6 -/
mutual
def dimacs_Number.j0 : Nat → ByteArray → ByteArray → Bool → Option (Int × Bool)
  | 0, _, _, _ => none
  | k + 1, x0, x4, x14 => if x14 = true then (if 1 ≤ (x0.size : Int) then (dimacs_Number.j1 k x0 (x0.extract 1 x0.size)) else (none)) else (dimacs_Number.j1 k x0 x4)
def dimacs_Number.j1 : Nat → ByteArray → ByteArray → Option (Int × Bool)
  | 0, _, _ => none
  | k + 1, x0, x4 => if x4.toList = ([] : List UInt8) then (dimacs_Number.j2 k x0 x4 true) else (if (x4.size : Int) > 10 then (dimacs_Number.j2 k x0 x4 true) else (if 0 < (x4.size : Int) then (if (bt x4 0) = 48 then (dimacs_Number.j2 k x0 x4 (x0.toList != ([48] : List UInt8))) else (dimacs_Number.j2 k x0 x4 false)) else (none)))
def dimacs_Number.j2 : Nat → ByteArray → ByteArray → Bool → Option (Int × Bool)
  | 0, _, _, _ => none
  | k + 1, x0, x4, x32 => if x32 = true then (some (0, false)) else (dimacs_Number.l0 k x0 x4 0 (x4.size : Int) 0)
def dimacs_Number.l0 : Nat → ByteArray → ByteArray → Int → Int → Int → Option (Int × Bool)
  | 0, _, _, _, _, _ => none
  | k + 1, x0, x4, x5, x34, x35 => if x35 < x34 then (if 0 ≤ x35 then (if x35 < (x4.size : Int) then (if (bt x4 x35) < 48 then (some (0, false)) else (if (bt x4 x35) > 57 then (some (0, false)) else (dimacs_Number.l0 k x0 x4 (wrap64 ((wrap64 (10 * x5)) + (((bt x4 x35) - 48) % 256))) x34 (wrap64 (x35 + 1))))) else (none)) else (none)) else (if (x4.size : Int) < (x0.size : Int) then (some (wrap64 (-x5), true)) else (some (x5, true)))
end
def dimacs_Number.f (k : Nat) (a0 : ByteArray) : Option (Int × Bool) := if a0.toList = ([] : List UInt8) then (dimacs_Number.j0 k a0 a0 false) else (if 0 < (a0.size : Int) then (dimacs_Number.j0 k a0 a0 ((bt a0 0) == 45)) else (none))
theorem dimacs_Number.mono_l : ∀ k, (∀ y0 y1 y2, LeO (dimacs_Number.j0 k y0 y1 y2) (dimacs_Number.j0 (k + 1) y0 y1 y2)) ∧ (∀ y0 y1, LeO (dimacs_Number.j1 k y0 y1) (dimacs_Number.j1 (k + 1) y0 y1)) ∧ (∀ y0 y1 y2, LeO (dimacs_Number.j2 k y0 y1 y2) (dimacs_Number.j2 (k + 1) y0 y1 y2)) ∧ (∀ y0 y1 y2 y3 y4, LeO (dimacs_Number.l0 k y0 y1 y2 y3 y4) (dimacs_Number.l0 (k + 1) y0 y1 y2 y3 y4))
  | 0 => ⟨fun _ _ _ r h => by simp [dimacs_Number.j0] at h, fun _ _ r h => by simp [dimacs_Number.j1] at h, fun _ _ _ r h => by simp [dimacs_Number.j2] at h, fun _ _ _ _ _ r h => by simp [dimacs_Number.l0] at h⟩
  | k + 1 => by
    obtain ⟨ih0, ih1, ih2, ih3⟩ := dimacs_Number.mono_l k
    refine ⟨?_, ?_, ?_, ?_⟩
    · intro y0 y1 y2
      unfold dimacs_Number.j0
      repeat' first
      | (with_reducible exact ih0 _ _ _)
      | (with_reducible exact ih1 _ _)
      | (with_reducible exact ih2 _ _ _)
      | (with_reducible exact ih3 _ _ _ _ _)
      | (with_reducible exact LeO.refl _)
      | (with_reducible exact LeO.none _)
      | (with_reducible refine LeO.ite ?_ ?_)
      | (with_reducible refine LeO.bind ?_ (fun _ => ?_))
      | exact ih0 _ _ _
      | exact ih1 _ _
      | exact ih2 _ _ _
      | exact ih3 _ _ _ _ _
      | exact LeO.none _
      | refine LeO.ite ?_ ?_
      | refine LeO.bind ?_ (fun _ => ?_)
    · intro y0 y1
      unfold dimacs_Number.j1
      repeat' first
      | (with_reducible exact ih0 _ _ _)
      | (with_reducible exact ih1 _ _)
      | (with_reducible exact ih2 _ _ _)
      | (with_reducible exact ih3 _ _ _ _ _)
      | (with_reducible exact LeO.refl _)
      | (with_reducible exact LeO.none _)
      | (with_reducible refine LeO.ite ?_ ?_)
      | (with_reducible refine LeO.bind ?_ (fun _ => ?_))
      | exact ih0 _ _ _
      | exact ih1 _ _
      | exact ih2 _ _ _
      | exact ih3 _ _ _ _ _
      | exact LeO.none _
      | refine LeO.ite ?_ ?_
      | refine LeO.bind ?_ (fun _ => ?_)
    · intro y0 y1 y2
      unfold dimacs_Number.j2
      repeat' first
      | (with_reducible exact ih0 _ _ _)
      | (with_reducible exact ih1 _ _)
      | (with_reducible exact ih2 _ _ _)
      | (with_reducible exact ih3 _ _ _ _ _)
      | (with_reducible exact LeO.refl _)
      | (with_reducible exact LeO.none _)
      | (with_reducible refine LeO.ite ?_ ?_)
      | (with_reducible refine LeO.bind ?_ (fun _ => ?_))
      | exact ih0 _ _ _
      | exact ih1 _ _
      | exact ih2 _ _ _
      | exact ih3 _ _ _ _ _
      | exact LeO.none _
      | refine LeO.ite ?_ ?_
      | refine LeO.bind ?_ (fun _ => ?_)
    · intro y0 y1 y2 y3 y4
      unfold dimacs_Number.l0
      repeat' first
      | (with_reducible exact ih0 _ _ _)
      | (with_reducible exact ih1 _ _)
      | (with_reducible exact ih2 _ _ _)
      | (with_reducible exact ih3 _ _ _ _ _)
      | (with_reducible exact LeO.refl _)
      | (with_reducible exact LeO.none _)
      | (with_reducible refine LeO.ite ?_ ?_)
      | (with_reducible refine LeO.bind ?_ (fun _ => ?_))
      | exact ih0 _ _ _
      | exact ih1 _ _
      | exact ih2 _ _ _
      | exact ih3 _ _ _ _ _
      | exact LeO.none _
      | refine LeO.ite ?_ ?_
      | refine LeO.bind ?_ (fun _ => ?_)
theorem dimacs_Number.mono : ∀ a0 k, LeO (dimacs_Number.f k a0) (dimacs_Number.f (k + 1) a0) := by
  intro a0 k
  obtain ⟨ih0, ih1, ih2, ih3⟩ := dimacs_Number.mono_l k
  unfold dimacs_Number.f
  repeat' first
      | (with_reducible exact ih0 _ _ _)
      | (with_reducible exact ih1 _ _)
      | (with_reducible exact ih2 _ _ _)
      | (with_reducible exact ih3 _ _ _ _ _)
      | (with_reducible exact LeO.refl _)
      | (with_reducible exact LeO.none _)
      | (with_reducible refine LeO.ite ?_ ?_)
      | (with_reducible refine LeO.bind ?_ (fun _ => ?_))
      | exact ih0 _ _ _
      | exact ih1 _ _
      | exact ih2 _ _ _
      | exact ih3 _ _ _ _ _
      | exact LeO.none _
      | refine LeO.ite ?_ ?_
      | refine LeO.bind ?_ (fun _ => ?_)
set_option maxHeartbeats 8000000 in
set_option maxRecDepth 100000 in
theorem dimacs_Number.calls (k : Nat) (a0 : ByteArray) (r1 : Int) (r2 : Bool) (w : World) (h : dimacs_Number.f k a0 = some (r1, r2)) :
    Calls Try.prog 6 #[.string a0] w fun e w' => e = .returned (.tuple #[.int .i64 r1, .bool r2]) ∧ Drawn0 w w' := by
 have H : (if a0.toList = ([] : List UInt8) then (dimacs_Number.j0 k a0 a0 false) else (if 0 < (a0.size : Int) then (dimacs_Number.j0 k a0 a0 ((bt a0 0) == 45)) else (none))) = some (r1, r2) := h
 clear h
 have HC2 := Aside0.mk H
 clear H
 go_enter Try.func6, Try.ntmps6
 go_upto_region 2 with (fail)
 repeat ((with_reducible refine upon_gate ?_); go_simp; go_upto_region 2 with (fail))
 go_cut [14] (fun v14 wc => ∃ (kq : Nat) (x14_1 : Bool), v14 = .bool x14_1 ∧ Aside0 (dimacs_Number.j0 kq a0 a0 x14_1 = some (r1, r2)) ∧ Aside0 (kq ≤ k) ∧ Drawn0 w wc)
 case first =>
  have H := HC2.out
  clear HC2
  by_cases c3 : a0.toList = ([] : List UInt8)
  ·
   rw [if_pos c3] at H
   have c3b0 : (a0.toList == ([] : List UInt8)) = true := beq_iff_eq.mpr c3
   have c3b1 : (a0.toList != ([] : List UInt8)) = false := bne_eq_false_iff_eq.mpr c3
   clear c3
   (first | rw [c3b0] | (simp only [i64_w, i32_w]; rw [c3b0]) | skip)
   have H' := Aside0.mk H
   clear H
   go_wp2
   go_meet
   case rel => exact ⟨_, (false), rs, H', ⟨by first | omega | exact Nat.le_refl _⟩, by repeat (first | exact Drawn0.refl _ | apply Drawn0.step)⟩
  rw [if_neg c3] at H
  have c3b0 : (a0.toList == ([] : List UInt8)) = false := beq_eq_false_iff_ne.mpr c3
  have c3b1 : (a0.toList != ([] : List UInt8)) = true := bne_iff_ne.mpr c3
  (first | rw [c3b0] | (simp only [i64_w, i32_w]; rw [c3b0]) | skip)
  by_cases c4 : 0 < (a0.size : Int)
  rotate_left
  ·
   rw [if_neg c4] at H
   exact absurd H (by simp)
  rw [if_pos c4] at H
  have c4b0 : decide (0 < (a0.size : Int)) = true := decide_eq_true c4
  have c4b1 : decide (0 < a0.size) = true := decide_eq_true (by omega)
  clear c4
  have H' := Aside0.mk H
  clear H
  have p5 : 0 ≤ (0 : Int) := (by omega)
  have q5 : 0 < a0.size := (by have : (0 : Int) < (a0.size : Int) := od; omega)
  have hx5 : ∀ h : 0 < a0.size, ((a0[0]'h).toNat : Int) = bt a0 0 := bt_at a0 0
  clear p5
  have qi5 : (0 < (a0.size : Int)) = True := eq_true (od)
  replace q5 := eq_true q5
  go_wp2
  go_meet
  case rel => exact ⟨_, (((bt a0 0) == 45)), rs, H', ⟨by first | omega | exact Nat.le_refl _⟩, by repeat (first | exact Drawn0.refl _ | apply Drawn0.step)⟩
 case rest =>
  clear HC2
  try clear p2
  try clear c3
  try clear c3b0
  try clear c3b1
  try clear c4
  try clear c4b0
  try clear c4b1
  try clear p5
  try clear q5
  try clear hx5
  try clear qi5
  obtain ⟨kq, x14_1, rfl, HA, HJ1, ⟨mc1, rfl⟩⟩ := hcut
  cases kq with
  | zero => exact absurd HA.out (by simp [dimacs_Number.j0])
  | succ kj1 =>
   have H := HA.out
   clear HA
   simp only [dimacs_Number.j0] at H
   have HC6 := Aside0.mk H
   clear H
   go_upto_if 14 with (fail)
   go_cut [4] (fun v4 wc => ∃ (kq : Nat) (x4_5 : ByteArray), v4 = .string x4_5 ∧ Aside0 (dimacs_Number.j1 kq a0 x4_5 = some (r1, r2)) ∧ Aside0 (kq ≤ kj1) ∧ Drawn0 w wc)
   case first =>
    have H := HC6.out
    clear HC6
    by_cases c7 : x14_1 = true
    rotate_left
    ·
     replace c7 := Bool.eq_false_iff.mpr c7
     subst c7
     have H1 : (dimacs_Number.j1 kj1 a0 a0) = some (r1, r2) := by rw [if_neg (show ¬ (false = true) by decide)] at H; exact H
     clear H
     have H := H1
     clear H1
     have H' := Aside0.mk H
     clear H
     go_wp2
     go_meet
     case rel => exact ⟨_, (a0), rs, H', ⟨by have := HJ1.out; first | omega | exact Nat.le_refl _⟩, by repeat (first | exact Drawn0.refl _ | apply Drawn0.step)⟩
    subst c7
    have H1 : (if 1 ≤ (a0.size : Int) then (dimacs_Number.j1 kj1 a0 (a0.extract 1 a0.size)) else (none)) = some (r1, r2) := by rw [if_pos rfl] at H; exact H
    clear H
    have H := H1
    clear H1
    by_cases c8 : 1 ≤ (a0.size : Int)
    rotate_left
    ·
     rw [if_neg c8] at H
     exact absurd H (by simp)
    rw [if_pos c8] at H
    have c8b0 := eq_true c8
    have c8b1 : decide (1 ≤ (a0.size : Int)) = true := decide_eq_true c8
    clear c8
    have H' := Aside0.mk H
    clear H
    go_wp2
    go_meet
    case rel => exact ⟨_, (a0.extract 1 a0.size), rs, H', ⟨by have := HJ1.out; first | omega | exact Nat.le_refl _⟩, by repeat (first | exact Drawn0.refl _ | apply Drawn0.step)⟩
   case rest =>
    clear HC6
    try clear c1
    try clear p2
    try clear c3
    try clear c3b0
    try clear c3b1
    try clear c4
    try clear c4b0
    try clear c4b1
    try clear p5
    try clear q5
    try clear hx5
    try clear qi5
    try clear c6
    try clear c7
    try clear c8
    try clear c8b0
    try clear c8b1
    obtain ⟨kq, x4_5, rfl, HA, HJ5, ⟨mc5, rfl⟩⟩ := hcut
    cases kq with
    | zero => exact absurd HA.out (by simp [dimacs_Number.j1])
    | succ kj5 =>
     have H := HA.out
     clear HA
     simp only [dimacs_Number.j1] at H
     have HC9 := Aside0.mk H
     clear H
     go_upto_region 4 with (fail)
     repeat ((with_reducible refine upon_gate ?_); go_simp; go_upto_region 4 with (fail))
     go_cut [32] (fun v32 wc => ∃ (kq : Nat) (x32_8 : Bool), v32 = .bool x32_8 ∧ Aside0 (dimacs_Number.j2 kq a0 x4_5 x32_8 = some (r1, r2)) ∧ Aside0 (kq ≤ kj5) ∧ Drawn0 w wc)
     case first =>
      have H := HC9.out
      clear HC9
      by_cases c10 : x4_5.toList = ([] : List UInt8)
      ·
       rw [if_pos c10] at H
       have c10b0 : (x4_5.toList == ([] : List UInt8)) = true := beq_iff_eq.mpr c10
       have c10b1 : (x4_5.toList != ([] : List UInt8)) = false := bne_eq_false_iff_eq.mpr c10
       clear c10
       (first | rw [c10b0] | (simp only [i64_w, i32_w]; rw [c10b0]) | skip)
       have H' := Aside0.mk H
       clear H
       go_wp2
       go_meet
       case rel => exact ⟨_, (true), rs, H', ⟨by have := HJ1.out; have := HJ5.out; first | omega | exact Nat.le_refl _⟩, by repeat (first | exact Drawn0.refl _ | apply Drawn0.step)⟩
      rw [if_neg c10] at H
      have c10b0 : (x4_5.toList == ([] : List UInt8)) = false := beq_eq_false_iff_ne.mpr c10
      have c10b1 : (x4_5.toList != ([] : List UInt8)) = true := bne_iff_ne.mpr c10
      (first | rw [c10b0] | (simp only [i64_w, i32_w]; rw [c10b0]) | skip)
      by_cases c11 : (x4_5.size : Int) > 10
      ·
       rw [if_pos c11] at H
       have c11b0 : decide (10 < (x4_5.size : Int)) = true := decide_eq_true c11
       have c11b1 : decide (10 < x4_5.size) = true := decide_eq_true (by omega)
       clear c11
       have H' := Aside0.mk H
       clear H
       go_wp2
       go_meet
       case rel => exact ⟨_, (true), rs, H', ⟨by have := HJ1.out; have := HJ5.out; first | omega | exact Nat.le_refl _⟩, by repeat (first | exact Drawn0.refl _ | apply Drawn0.step)⟩
      rw [if_neg c11] at H
      have c11b0 : decide (10 < (x4_5.size : Int)) = false := decide_eq_false c11
      have c11b1 : decide (10 < x4_5.size) = false := decide_eq_false (by omega)
      clear c11
      by_cases c12 : 0 < (x4_5.size : Int)
      rotate_left
      ·
       rw [if_neg c12] at H
       exact absurd H (by simp)
      rw [if_pos c12] at H
      have c12b0 : decide (0 < (x4_5.size : Int)) = true := decide_eq_true c12
      have c12b1 : decide (0 < x4_5.size) = true := decide_eq_true (by omega)
      clear c12
      by_cases c14 : (bt x4_5 0) = 48
      rotate_left
      ·
       rw [if_neg c14] at H
       have c14b0 : ((bt x4_5 0) == 48) = false := beq_eq_false_iff_ne.mpr c14
       have c14b1 : ((bt x4_5 0) != 48) = true := bne_iff_ne.mpr c14
       have H' := Aside0.mk H
       clear H
       have p13 : 0 ≤ (0 : Int) := (by omega)
       have q13 : 0 < x4_5.size := (by have : (0 : Int) < (x4_5.size : Int) := od; omega)
       have hx13 : ∀ h : 0 < x4_5.size, ((x4_5[0]'h).toNat : Int) = bt x4_5 0 := bt_at x4_5 0
       clear p13
       have qi13 : (0 < (x4_5.size : Int)) = True := eq_true (od)
       replace q13 := eq_true q13
       go_wp2
       go_meet
       case rel => exact ⟨_, (false), rs, H', ⟨by have := HJ1.out; have := HJ5.out; first | omega | exact Nat.le_refl _⟩, by repeat (first | exact Drawn0.refl _ | apply Drawn0.step)⟩
      rw [if_pos c14] at H
      have c14b0 : ((bt x4_5 0) == 48) = true := beq_iff_eq.mpr c14
      have c14b1 : ((bt x4_5 0) != 48) = false := bne_eq_false_iff_eq.mpr c14
      clear c14
      have H' := Aside0.mk H
      clear H
      have p13 : 0 ≤ (0 : Int) := (by omega)
      have q13 : 0 < x4_5.size := (by have : (0 : Int) < (x4_5.size : Int) := od; omega)
      have hx13 : ∀ h : 0 < x4_5.size, ((x4_5[0]'h).toNat : Int) = bt x4_5 0 := bt_at x4_5 0
      clear p13
      have qi13 : (0 < (x4_5.size : Int)) = True := eq_true (od)
      replace q13 := eq_true q13
      go_wp2
      go_meet
      case rel => exact ⟨_, ((a0.toList != ([48] : List UInt8))), rs, H', ⟨by have := HJ1.out; have := HJ5.out; first | omega | exact Nat.le_refl _⟩, by repeat (first | exact Drawn0.refl _ | apply Drawn0.step)⟩
     case rest =>
      clear HC9
      try clear c1
      try clear p1
      try clear q1
      try clear hx1
      try clear qi1
      try clear p2
      try clear c3
      try clear c3b0
      try clear c3b1
      try clear c4
      try clear c4b0
      try clear c4b1
      try clear c5
      try clear p5
      try clear q5
      try clear hx5
      try clear qi5
      try clear c6
      try clear c7
      try clear c8
      try clear c8b0
      try clear c8b1
      try clear c10
      try clear c10b0
      try clear c10b1
      try clear c11
      try clear c11b0
      try clear c11b1
      try clear c12
      try clear c12b0
      try clear c12b1
      try clear p13
      try clear q13
      try clear hx13
      try clear qi13
      try clear c14
      try clear c14b0
      try clear c14b1
      obtain ⟨kq, x32_8, rfl, HA, HJ8, ⟨mc8, rfl⟩⟩ := hcut
      cases kq with
      | zero => exact absurd HA.out (by simp [dimacs_Number.j2])
      | succ kj8 =>
       have H := HA.out
       clear HA
       simp only [dimacs_Number.j2] at H
       by_cases c15 : x32_8 = true
       ·
        subst c15
        have H1 : (some (0, false)) = some (r1, r2) := by rw [if_pos rfl] at H; exact H
        clear H
        have H := H1
        clear H1
        simp only [Option.some.injEq, Prod.mk.injEq] at H
        obtain ⟨rfl, rfl⟩ := H
        go_wp2
        go_ret2
        exact ⟨rs, by repeat (first | exact Drawn0.refl _ | apply Drawn0.step)⟩
       replace c15 := Bool.eq_false_iff.mpr c15
       subst c15
       have H1 : (dimacs_Number.l0 kj8 a0 x4_5 0 (x4_5.size : Int) 0) = some (r1, r2) := by rw [if_neg (show ¬ (false = true) by decide)] at H; exact H
       clear H
       have H := H1
       clear H1
       have H' := Aside0.mk H
       clear H
       go_wp2
       go_loopg [5, 35] kj8 (fun kq v5 v35 w' => ∃ (x5_4 : Int) (x35_4 : Int), v5 = .int .i64 x5_4 ∧ v35 = .int .i64 x35_4 ∧ Aside0 (dimacs_Number.l0 kq a0 x4_5 x5_4 (x4_5.size : Int) x35_4 = some (r1, r2)) ∧ Aside0 (kq ≤ kj8) ∧ Drawn0 w w')
       case atStart => exact ⟨(0), (0), rs, rs, H', ⟨Nat.le_refl _⟩, by repeat (first | exact Drawn0.refl _ | apply Drawn0.step)⟩
       case round =>
        clear H'
        try clear c1
        try clear p1
        try clear q1
        try clear hx1
        try clear qi1
        try clear p2
        try clear c3
        try clear c3b0
        try clear c3b1
        try clear c4
        try clear c4b0
        try clear c4b1
        try clear c5
        try clear p5
        try clear q5
        try clear hx5
        try clear qi5
        try clear c6
        try clear c7
        try clear c8
        try clear c8b0
        try clear c8b1
        try clear c10
        try clear c10b0
        try clear c10b1
        try clear c11
        try clear c11b0
        try clear c11b1
        try clear c12
        try clear c12b0
        try clear c12b1
        try clear p13
        try clear q13
        try clear hx13
        try clear qi13
        try clear c14
        try clear c14b0
        try clear c14b1
        try clear c15
        obtain ⟨x5_4, x35_4, rfl, rfl, HA, HK4, ⟨m4, rfl⟩⟩ := hrel
        cases gk with
        | zero => exact absurd HA.out (by simp [dimacs_Number.l0])
        | succ k4 =>
         have H := HA.out
         clear HA
         simp only [dimacs_Number.l0] at H
         by_cases c16 : x35_4 < (x4_5.size : Int)
         rotate_left
         ·
          rw [if_neg c16] at H
          have c16b0 : decide (x35_4 < (x4_5.size : Int)) = false := decide_eq_false c16
          clear c16
          by_cases c24 : (x4_5.size : Int) < (a0.size : Int)
          ·
           rw [if_pos c24] at H
           have c24b0 : decide ((x4_5.size : Int) < (a0.size : Int)) = true := decide_eq_true c24
           have c24b1 : decide (x4_5.size < a0.size) = true := decide_eq_true (Int.ofNat_lt.mp c24)
           clear c24
           simp only [Option.some.injEq, Prod.mk.injEq] at H
           obtain ⟨rfl, rfl⟩ := H
           go_wp2
           go_ret2
           exact ⟨rs, by repeat (first | exact Drawn0.refl _ | apply Drawn0.step)⟩
          rw [if_neg c24] at H
          have c24b0 : decide ((x4_5.size : Int) < (a0.size : Int)) = false := decide_eq_false c24
          have c24b1 : decide (x4_5.size < a0.size) = false := decide_eq_false (fun h => c24 (Int.ofNat_lt.mpr h))
          clear c24
          simp only [Option.some.injEq, Prod.mk.injEq] at H
          obtain ⟨rfl, rfl⟩ := H
          go_wp2
          go_ret2
          exact ⟨rs, by repeat (first | exact Drawn0.refl _ | apply Drawn0.step)⟩
         rw [if_pos c16] at H
         have c16b0 : decide (x35_4 < (x4_5.size : Int)) = true := decide_eq_true c16
         clear c16
         by_cases c17 : 0 ≤ x35_4
         rotate_left
         ·
          rw [if_neg c17] at H
          exact absurd H (by simp)
         rw [if_pos c17] at H
         have c17b0 : decide (0 ≤ x35_4) = true := decide_eq_true c17
         clear c17
         by_cases c18 : x35_4 < (x4_5.size : Int)
         rotate_left
         ·
          rw [if_neg c18] at H
          exact absurd H (by simp)
         rw [if_pos c18] at H
         have c18b0 : decide (x35_4 < (x4_5.size : Int)) = true := decide_eq_true c18
         clear c18
         by_cases c20 : (bt x4_5 x35_4) < 48
         ·
          rw [if_pos c20] at H
          have c20b0 : decide ((bt x4_5 x35_4) < 48) = true := decide_eq_true c20
          clear c20
          simp only [Option.some.injEq, Prod.mk.injEq] at H
          obtain ⟨rfl, rfl⟩ := H
          have p19 : 0 ≤ (x35_4 : Int) := od
          have q19 : x35_4 < (x4_5.size : Int) := od
          have hx19 := bt_at x4_5 x35_4
          replace p19 := eq_true p19
          replace q19 := eq_true q19
          go_wp2
          go_ret2
          exact ⟨rs, by repeat (first | exact Drawn0.refl _ | apply Drawn0.step)⟩
         rw [if_neg c20] at H
         have c20b0 : decide ((bt x4_5 x35_4) < 48) = false := decide_eq_false c20
         clear c20
         by_cases c22 : (bt x4_5 x35_4) > 57
         ·
          rw [if_pos c22] at H
          have c22b0 : decide (57 < (bt x4_5 x35_4)) = true := decide_eq_true c22
          clear c22
          simp only [Option.some.injEq, Prod.mk.injEq] at H
          obtain ⟨rfl, rfl⟩ := H
          have p19 : 0 ≤ (x35_4 : Int) := od
          have q19 : x35_4 < (x4_5.size : Int) := od
          have hx19 := bt_at x4_5 x35_4
          replace p19 := eq_true p19
          replace q19 := eq_true q19
          have p21 : 0 ≤ (x35_4 : Int) := od
          have q21 : x35_4 < (x4_5.size : Int) := od
          have hx21 := bt_at x4_5 x35_4
          replace p21 := eq_true p21
          replace q21 := eq_true q21
          go_wp2
          go_ret2
          exact ⟨rs, by repeat (first | exact Drawn0.refl _ | apply Drawn0.step)⟩
         rw [if_neg c22] at H
         have c22b0 : decide (57 < (bt x4_5 x35_4)) = false := decide_eq_false c22
         clear c22
         have H' := Aside0.mk H
         clear H
         have p19 : 0 ≤ (x35_4 : Int) := od
         have q19 : x35_4 < (x4_5.size : Int) := od
         have hx19 := bt_at x4_5 x35_4
         replace p19 := eq_true p19
         replace q19 := eq_true q19
         have p21 : 0 ≤ (x35_4 : Int) := od
         have q21 : x35_4 < (x4_5.size : Int) := od
         have hx21 := bt_at x4_5 x35_4
         replace p21 := eq_true p21
         replace q21 := eq_true q21
         have p23 : 0 ≤ (x35_4 : Int) := od
         have q23 : x35_4 < (x4_5.size : Int) := od
         have hx23 := bt_at x4_5 x35_4
         replace p23 := eq_true p23
         replace q23 := eq_true q23
         go_wp2
         go_roundg k4
         case measure => have := HJ1.out; have := HJ5.out; have := HJ8.out; have := HK4.out; omega
         case rel => exact ⟨(wrap64 ((wrap64 (10 * x5_4)) + (((bt x4_5 x35_4) - 48) % 256))), (wrap64 (x35_4 + 1)), rs, rs, H', ⟨by have := HJ1.out; have := HJ5.out; have := HJ8.out; have := HK4.out; omega⟩, by repeat (first | exact Drawn0.refl _ | apply Drawn0.step)⟩

theorem num_bytes_inj (a b : List UInt8) : (a.map fun x => (x.toNat : Int)) = (b.map fun x => (x.toNat : Int)) ↔ a = b := by
  constructor
  · intro h
    refine List.map_inj_right (f := fun x : UInt8 => (x.toNat : Int)) (fun x y e => ?_) |>.1 h
    exact UInt8.toNat_inj.1 (Int.ofNat.inj e)
  · rintro rfl; rfl
theorem num_toList (s t : ByteArray) : s.toList = t.toList ↔ bytesOf s = bytesOf t := by
  rw [ByteArray.toList_eq, ByteArray.toList_eq, bytesOf, bytesOf, num_bytes_inj]
theorem num_nil (s : ByteArray) : s.toList = ([] : List UInt8) ↔ bytesOf s = [] := by
  rw [ByteArray.toList_eq, bytesOf, List.map_eq_nil_iff]
theorem num_zero (s : ByteArray) : s.toList = ([48] : List UInt8) ↔ bytesOf s = [48] := by
  rw [ByteArray.toList_eq, bytesOf, ← num_bytes_inj]; rfl
def numDg (c : Int) : Bool := decide (48 ≤ c ∧ c ≤ 57)
def numStep (n c : Int) : Int := 10 * n + (c - 48)
theorem num_l0 (x0 x4 : ByteArray) (hlen : (bytesOf x4).length ≤ 10) : ∀ (d i : Nat) (n : Int), i + d = (bytesOf x4).length → 0 ≤ n → n < 10 ^ i →
    Ev (fun k => dimacs_Number.l0 k x0 x4 n (x4.size : Int) i) (if ((bytesOf x4).drop i).all numDg = false then (0, false) else (if (x4.size : Int) < (x0.size : Int) then -(((bytesOf x4).drop i).foldl numStep n) else ((bytesOf x4).drop i).foldl numStep n, true)) := by
  have hsz := bytesOf_length x4
  intro d
  induction d with
  | zero =>
    intro i n hi h0 h1
    have hp : (10 : Int) ^ i ≤ 10000000000 := by
      have : (10 : Nat) ^ i ≤ 10 ^ 10 := Nat.pow_le_pow_right (by omega) (by omega)
      have h2 : ((10 ^ i : Nat) : Int) ≤ ((10 ^ 10 : Nat) : Int) := Int.ofNat_le.2 this
      simpa using h2
    rw [List.drop_eq_nil_of_le (by omega)]
    refine Ev.step (f := fun _ => some (if (x4.size : Int) < (x0.size : Int) then -n else n, true)) (fun k => ?_) ?_
    · simp only [dimacs_Number.l0]
      rw [if_neg (by omega)]
      by_cases h : (x4.size : Int) < (x0.size : Int)
      · rw [if_pos h, if_pos h, show wrap64 (-n) = -n by unfold wrap64; omega]
      · rw [if_neg h, if_neg h]
    · exact Ev.now _
  | succ d ih =>
    intro i n hi h0 h1
    have hlt : i < (bytesOf x4).length := by omega
    have hp : (10 : Int) ^ i ≤ 1000000000 := by
      have : (10 : Nat) ^ i ≤ 10 ^ 9 := Nat.pow_le_pow_right (by omega) (by omega)
      have h2 : ((10 ^ i : Nat) : Int) ≤ ((10 ^ 9 : Nat) : Int) := Int.ofNat_le.2 this
      simpa using h2
    have hc : (bytesOf x4).drop i = bt x4 i :: (bytesOf x4).drop (i + 1) := by
      rw [List.drop_eq_getElem_cons hlt, ← rd_bytesOf]
      simp [rd, List.getD_eq_getElem?_getD, List.getElem?_eq_getElem hlt]
    rw [hc, List.all_cons, List.foldl_cons]
    by_cases hd : 48 ≤ bt x4 i ∧ bt x4 i ≤ 57
    · rw [show numDg (bt x4 i) = true from decide_eq_true hd, Bool.true_and]
      have hps : (10 : Int) ^ (i + 1) = 10 ^ i * 10 := Int.pow_succ _ _
      refine Ev.step (f := fun k => dimacs_Number.l0 k x0 x4 (numStep n (bt x4 i)) (x4.size : Int) ((i + 1 : Nat) : Int)) (fun k => ?_) (ih (i + 1) (numStep n (bt x4 i)) (by omega) (by unfold numStep; omega) (by unfold numStep; omega))
      simp only [dimacs_Number.l0]
      rw [if_pos (by omega), if_pos (by omega), if_pos (by omega), if_neg (by omega), if_neg (by omega)]
      rw [show wrap64 ((i : Int) + 1) = ((i + 1 : Nat) : Int) by unfold wrap64; omega, show wrap64 (wrap64 (10 * n) + (bt x4 i - 48) % 256) = numStep n (bt x4 i) by unfold wrap64 numStep; omega]
    · rw [show numDg (bt x4 i) = false from decide_eq_false hd, Bool.false_and, if_pos rfl]
      refine Ev.step (f := fun _ => some (0, false)) (fun k => ?_) (Ev.now _)
      simp only [dimacs_Number.l0]
      rw [if_pos (by omega), if_pos (by omega), if_pos (by omega)]
      by_cases hd2 : bt x4 i < 48
      · rw [if_pos hd2]
      · rw [if_neg hd2, if_pos (by omega)]
theorem num_head (s : ByteArray) (c : Int) (h : bytesOf s ≠ []) : (bytesOf s).head? = some c ↔ bt s 0 = c := by
  rw [← rd_bytesOf]
  cases hL : bytesOf s with
  | nil => exact absurd hL h
  | cons a t => simp [rd]
theorem num_if {P Q : Prop} [Decidable P] [Decidable Q] {α : Type} (h : P ↔ Q) (x y : α) : (if P then x else y) = if Q then x else y := by
  by_cases hq : Q
  · rw [if_pos hq, if_pos (h.2 hq)]
  · rw [if_neg hq, if_neg (fun e => hq (h.1 e))]
theorem num_j1 (s x4 : ByteArray) (neg : Bool) (hneg : ((x4.size : Int) < (s.size : Int)) ↔ neg = true) :
    Ev (fun k => dimacs_Number.j1 k s x4) (if bytesOf x4 = [] ∨ 10 < (bytesOf x4).length ∨ ((bytesOf x4).head? = some 48 ∧ bytesOf s ≠ [48]) ∨ (bytesOf x4).all numDg = false then (0, false) else (if neg = true then -((bytesOf x4).foldl numStep 0) else (bytesOf x4).foldl numStep 0, true)) := by
  have hsz := bytesOf_length x4
  have bad : Ev (fun k => dimacs_Number.j2 k s x4 true) (0, false) := by
    refine Ev.step (f := fun _ => some (0, false)) (fun k => ?_) (Ev.now _)
    simp only [dimacs_Number.j2]
    rw [if_pos trivial]
  by_cases h1 : bytesOf x4 = []
  · rw [if_pos (.inl h1)]
    refine Ev.step (f := fun k => dimacs_Number.j2 k s x4 true) (fun k => ?_) bad
    simp only [dimacs_Number.j1]
    rw [if_pos ((num_nil x4).2 h1)]
  · by_cases h2 : 10 < (bytesOf x4).length
    · rw [if_pos (.inr (.inl h2))]
      refine Ev.step (f := fun k => dimacs_Number.j2 k s x4 true) (fun k => ?_) bad
      simp only [dimacs_Number.j1]
      rw [if_neg (fun e => h1 ((num_nil x4).1 e)), if_pos (by omega)]
    · have h0 : 0 < (bytesOf x4).length := List.length_pos_iff.2 h1
      have good : Ev (fun k => dimacs_Number.j2 k s x4 false) (if (bytesOf x4).all numDg = false then (0, false) else (if neg = true then -((bytesOf x4).foldl numStep 0) else (bytesOf x4).foldl numStep 0, true)) := by
        have hx := num_l0 s x4 (by omega) (bytesOf x4).length 0 0 (by omega) (by omega) (by decide)
        rw [List.drop_zero] at hx
        refine Ev.step (f := fun k => dimacs_Number.l0 k s x4 0 (x4.size : Int) ((0 : Nat) : Int)) (fun k => ?_) ?_
        · simp only [dimacs_Number.j2]
          rw [if_neg (by simp)]
          rfl
        · cases neg with
          | true =>
            rw [if_pos (hneg.2 rfl)] at hx
            exact hx
          | false =>
            rw [if_neg (show ¬ ((x4.size : Int) < (s.size : Int)) from fun e => by have := hneg.1 e; simp at this)] at hx
            exact hx
      by_cases h3 : (bytesOf x4).head? = some 48
      · by_cases h4 : bytesOf s = [48]
        · have hcond : (bytesOf x4 = [] ∨ 10 < (bytesOf x4).length ∨ ((bytesOf x4).head? = some 48 ∧ bytesOf s ≠ [48]) ∨ (bytesOf x4).all numDg = false) ↔ (bytesOf x4).all numDg = false := by simp [h1, h2, h4]
          rw [show (if bytesOf x4 = [] ∨ 10 < (bytesOf x4).length ∨ ((bytesOf x4).head? = some 48 ∧ bytesOf s ≠ [48]) ∨ (bytesOf x4).all numDg = false then ((0 : Int), false) else (if neg = true then -((bytesOf x4).foldl numStep 0) else (bytesOf x4).foldl numStep 0, true)) = _ from num_if hcond _ _]
          refine Ev.step (f := fun k => dimacs_Number.j2 k s x4 false) (fun k => ?_) good
          simp only [dimacs_Number.j1]
          rw [if_neg (fun e => h1 ((num_nil x4).1 e)), if_neg (by omega), if_pos (by omega), if_pos ((num_head x4 48 h1).1 h3), show (s.toList != ([48] : List UInt8)) = false from bne_eq_false_iff_eq.2 ((num_zero s).2 h4)]
        · rw [if_pos (.inr (.inr (.inl ⟨h3, h4⟩)))]
          refine Ev.step (f := fun k => dimacs_Number.j2 k s x4 true) (fun k => ?_) bad
          simp only [dimacs_Number.j1]
          rw [if_neg (fun e => h1 ((num_nil x4).1 e)), if_neg (by omega), if_pos (by omega), if_pos ((num_head x4 48 h1).1 h3), show (s.toList != ([48] : List UInt8)) = true from bne_iff_ne.2 (fun e => h4 ((num_zero s).1 e))]
      · have hcond : (bytesOf x4 = [] ∨ 10 < (bytesOf x4).length ∨ ((bytesOf x4).head? = some 48 ∧ bytesOf s ≠ [48]) ∨ (bytesOf x4).all numDg = false) ↔ (bytesOf x4).all numDg = false := by simp [h1, h2, h3]
        rw [show (if bytesOf x4 = [] ∨ 10 < (bytesOf x4).length ∨ ((bytesOf x4).head? = some 48 ∧ bytesOf s ≠ [48]) ∨ (bytesOf x4).all numDg = false then ((0 : Int), false) else (if neg = true then -((bytesOf x4).foldl numStep 0) else (bytesOf x4).foldl numStep 0, true)) = _ from num_if hcond _ _]
        refine Ev.step (f := fun k => dimacs_Number.j2 k s x4 false) (fun k => ?_) good
        simp only [dimacs_Number.j1]
        rw [if_neg (fun e => h1 ((num_nil x4).1 e)), if_neg (by omega), if_pos (by omega), if_neg (fun e => h3 ((num_head x4 48 h1).2 e))]
theorem num_tail (s : ByteArray) : bytesOf (s.extract 1 s.size) = (bytesOf s).tail := by
  rw [bytesOf, bytesOf, ← List.map_tail]
  congr 1
  simp [ByteArray.data_extract]
  exact List.take_of_length_le (by rw [List.length_tail, data_length]; omega)
theorem number_ev (s : ByteArray) : Ev (fun k => dimacs_Number.f k s) (D.numF s) := by
  have hsz := bytesOf_length s
  by_cases h0 : bytesOf s = []
  · refine Ev.congr (f := fun k => dimacs_Number.j0 k s s false) (fun k => ?_) ?_
    · simp only [dimacs_Number.f]
      rw [if_pos ((num_nil s).2 h0)]
    · refine Ev.step (f := fun k => dimacs_Number.j1 k s s) (fun k => ?_) ?_
      · simp only [dimacs_Number.j0]
        rw [if_neg (by simp)]
      · have hx := num_j1 s s false (by simp)
        rw [if_pos (.inl h0)] at hx
        unfold D.numF D.numL
        rw [h0]
        exact hx
  · have hp : 0 < (bytesOf s).length := List.length_pos_iff.2 h0
    refine Ev.congr (f := fun k => dimacs_Number.j0 k s s (bt s 0 == 45)) (fun k => ?_) ?_
    · simp only [dimacs_Number.f]
      rw [if_neg (fun e => h0 ((num_nil s).1 e)), if_pos (by omega)]
    · by_cases h1 : (bytesOf s).head? = some 45
      · have h2 := (num_head s 45 h0).1 h1
        have hx := num_j1 s (s.extract 1 s.size) true (by rw [← bytesOf_length, num_tail, List.length_tail]; simp; omega)
        rw [num_tail] at hx
        refine Ev.step (f := fun k => dimacs_Number.j1 k s (s.extract 1 s.size)) (fun k => ?_) ?_
        · simp only [dimacs_Number.j0]
          rw [if_pos (beq_iff_eq.2 h2), if_pos (by omega)]
        · unfold D.numF D.numL
          simp only [h1, if_true]
          exact hx
      · have h2 : (bt s 0 == 45) = false := beq_eq_false_iff_ne.2 (fun e => h1 ((num_head s 45 h0).2 e))
        have hx := num_j1 s s false (by simp)
        refine Ev.step (f := fun k => dimacs_Number.j1 k s s) (fun k => ?_) ?_
        · simp only [dimacs_Number.j0]
          rw [if_neg (by rw [h2]; simp)]
        · unfold D.numF D.numL
          simp only [h1, if_false]
          exact hx
theorem numOK : D.NumOK := fun s w => by
  obtain ⟨k, h⟩ := (number_ev s).rounds
  exact dimacs_Number.calls k s _ _ w h
def fathomlaw03_awake.f : Option Bool := some true
theorem fathomlaw03_awake.calls (r : Bool) (w : World) (h : fathomlaw03_awake.f = some r) :
    Calls Try.prog 5 #[] w fun e w' => e = .returned (.bool r) ∧ Below w.heap.size w w' := by
 obtain rfl := Option.some.inj h
 exact D.awake_calls numOK w

/-! ### fathomref03_Digits: function 8 -/
def fathomref03_Digits.f : Nat → Int → Option (ByteArray)
  | 0, _ => none
  | k + 1, a0 => if a0 < 0 then ((fathomref03_Digits.f k (wrap64 (-a0))).bind fun t101 => (if 1 + t101.size ≤ 9223372036854775807 then (some ((⟨#[45]⟩ : ByteArray) ++ t101)) else (none))) else (if a0 < 10 then (if 0 ≤ a0 then (if a0 ≤ (wrap64 (a0 + 1)) then (if (wrap64 (a0 + 1)) ≤ 10 then (some ((⟨#[48, 49, 50, 51, 52, 53, 54, 55, 56, 57]⟩ : ByteArray).extract (a0 : Int).toNat ((wrap64 (a0 + 1)) : Int).toNat)) else (none)) else (none)) else (none)) else ((fathomref03_Digits.f k (wrap64 (Int.tdiv a0 10))).bind fun t102 => ((fathomref03_Digits.f k (Int.tmod a0 10)).bind fun t103 => (if t102.size + t103.size ≤ 9223372036854775807 then (some (t102 ++ t103)) else (none)))))
theorem fathomref03_Digits.mono_l : ∀ k, (∀ y0, LeO (fathomref03_Digits.f k y0) (fathomref03_Digits.f (k + 1) y0))
  | 0 => fun _ r h => by simp [fathomref03_Digits.f] at h
  | k + 1 => by
    have ih0 := fathomref03_Digits.mono_l k
    · intro y0
      unfold fathomref03_Digits.f
      repeat' first
      | (with_reducible exact ih0 _)
      | (with_reducible exact LeO.refl _)
      | (with_reducible exact LeO.none _)
      | (with_reducible refine LeO.ite ?_ ?_)
      | (with_reducible refine LeO.bind ?_ (fun _ => ?_))
      | exact ih0 _
      | exact LeO.none _
      | refine LeO.ite ?_ ?_
      | refine LeO.bind ?_ (fun _ => ?_)
theorem fathomref03_Digits.mono : ∀ a0 k, LeO (fathomref03_Digits.f k a0) (fathomref03_Digits.f (k + 1) a0) := by
  intro a0 k
  have ih0 := fathomref03_Digits.mono_l k
  exact ih0 a0
set_option maxHeartbeats 8000000 in
set_option maxRecDepth 100000 in
theorem fathomref03_Digits.calls (k : Nat) : ∀ (a0 : Int) (r : ByteArray) (w : World) (h : fathomref03_Digits.f k a0 = some r),
    Calls Try.prog 8 #[.int .i64 a0] w fun e w' => e = .returned (.string r) ∧ Drawn0 w w' := by
 induction k using Nat.strongRecOn with
 | _ k ih =>
 intro a0 r w h
 cases k with
 | zero => exact absurd h (by simp [fathomref03_Digits.f])
 | succ k =>
 simp only [fathomref03_Digits.f] at h
 have H : (if a0 < 0 then ((fathomref03_Digits.f k (wrap64 (-a0))).bind fun t101 => (if 1 + t101.size ≤ 9223372036854775807 then (some ((⟨#[45]⟩ : ByteArray) ++ t101)) else (none))) else (if a0 < 10 then (if 0 ≤ a0 then (if a0 ≤ (wrap64 (a0 + 1)) then (if (wrap64 (a0 + 1)) ≤ 10 then (some ((⟨#[48, 49, 50, 51, 52, 53, 54, 55, 56, 57]⟩ : ByteArray).extract (a0 : Int).toNat ((wrap64 (a0 + 1)) : Int).toNat)) else (none)) else (none)) else (none)) else ((fathomref03_Digits.f k (wrap64 (Int.tdiv a0 10))).bind fun t102 => ((fathomref03_Digits.f k (Int.tmod a0 10)).bind fun t103 => (if t102.size + t103.size ≤ 9223372036854775807 then (some (t102 ++ t103)) else (none)))))) = some r := h
 clear h
 by_cases c2 : a0 < 0
 ·
  rw [if_pos c2] at H
  have c2b0 : decide (a0 < 0) = true := decide_eq_true c2
  clear c2
  replace H := Option.bind_eq_some_iff.mp H
  obtain ⟨t101, A30, H⟩ := H
  replace H : (if 1 + t101.size ≤ 9223372036854775807 then (some ((⟨#[45]⟩ : ByteArray) ++ t101)) else (none)) = some r := H
  have A3 := Aside0.mk A30
  clear A30
  by_cases c4 : 1 + t101.size ≤ 9223372036854775807
  rotate_left
  ·
   rw [if_neg c4] at H
   exact absurd H (by simp)
  rw [if_pos c4] at H
  have c4b0 := eq_true c4
  have c4b1 : decide (1 + t101.size ≤ 9223372036854775807) = true := decide_eq_true c4
  try have c4b2 : (9223372036854775807 < 1 + t101.size) = False := eq_false (Nat.not_lt.2 c4)
  obtain rfl := Option.some.inj H
  go_enter Try.func8, Try.ntmps8
  go_wp2_with (first | ((with_reducible refine gate_callee (f := 8) rfl ?_); refine gl (some 7) Try.func8 #[.int .i64 (wrap64 (-a0))] ?_; (with_reducible refine (ih k (by omega) (wrap64 (-a0)) t101 _ A3.out).mono ?_); rintro e w' ⟨rfl, ⟨nd, rfl⟩⟩; refine ⟨_, rfl, ?_⟩))
  go_ret
  exact ⟨rs, by repeat (first | exact Drawn0.refl _ | apply Drawn0.step)⟩
 rw [if_neg c2] at H
 have c2b0 : decide (a0 < 0) = false := decide_eq_false c2
 clear c2
 by_cases c5 : a0 < 10
 ·
  rw [if_pos c5] at H
  have c5b0 : decide (a0 < 10) = true := decide_eq_true c5
  clear c5
  by_cases c6 : 0 ≤ a0
  rotate_left
  ·
   rw [if_neg c6] at H
   exact absurd H (by simp)
  rw [if_pos c6] at H
  have c6b0 := eq_true c6
  have c6b1 : decide (0 ≤ a0) = true := decide_eq_true c6
  clear c6
  by_cases c7 : a0 ≤ (wrap64 (a0 + 1))
  rotate_left
  ·
   rw [if_neg c7] at H
   exact absurd H (by simp)
  rw [if_pos c7] at H
  have c7b0 := eq_true c7
  have c7b1 : decide (a0 ≤ (wrap64 (a0 + 1))) = true := decide_eq_true c7
  by_cases c8 : (wrap64 (a0 + 1)) ≤ 10
  rotate_left
  ·
   rw [if_neg c8] at H
   exact absurd H (by simp)
  rw [if_pos c8] at H
  have c8b0 := eq_true c8
  have c8b1 : decide ((wrap64 (a0 + 1)) ≤ 10) = true := decide_eq_true c8
  obtain rfl := Option.some.inj H
  go_enter Try.func8, Try.ntmps8
  go_wp2
  go_ret
  exact ⟨rs, by repeat (first | exact Drawn0.refl _ | apply Drawn0.step)⟩
 rw [if_neg c5] at H
 have c5b0 : decide (a0 < 10) = false := decide_eq_false c5
 clear c5
 replace H := Option.bind_eq_some_iff.mp H
 obtain ⟨t102, A90, H⟩ := H
 replace H : ((fathomref03_Digits.f k (Int.tmod a0 10)).bind fun t103 => (if t102.size + t103.size ≤ 9223372036854775807 then (some (t102 ++ t103)) else (none))) = some r := H
 have A9 := Aside0.mk A90
 clear A90
 replace H := Option.bind_eq_some_iff.mp H
 obtain ⟨t103, A100, H⟩ := H
 replace H : (if t102.size + t103.size ≤ 9223372036854775807 then (some (t102 ++ t103)) else (none)) = some r := H
 have A10 := Aside0.mk A100
 clear A100
 by_cases c11 : t102.size + t103.size ≤ 9223372036854775807
 rotate_left
 ·
  rw [if_neg c11] at H
  exact absurd H (by simp)
 rw [if_pos c11] at H
 have c11b0 := eq_true c11
 have c11b1 : decide (t102.size + t103.size ≤ 9223372036854775807) = true := decide_eq_true c11
 try have c11b2 : (9223372036854775807 < t102.size + t103.size) = False := eq_false (Nat.not_lt.2 c11)
 obtain rfl := Option.some.inj H
 go_enter Try.func8, Try.ntmps8
 go_wp2_with (first | ((with_reducible refine gate_callee (f := 8) rfl ?_); refine gl (some 17) Try.func8 #[.int .i64 (wrap64 (Int.tdiv a0 10))] ?_; (with_reducible refine (ih k (by omega) (wrap64 (Int.tdiv a0 10)) t102 _ A9.out).mono ?_); rintro e w' ⟨rfl, ⟨nd, rfl⟩⟩; refine ⟨_, rfl, ?_⟩) | ((with_reducible refine gate_callee (f := 8) rfl ?_); refine gl (some 20) Try.func8 #[.int .i64 (Int.tmod a0 10)] ?_; (with_reducible refine (ih k (by omega) (Int.tmod a0 10) t103 _ A10.out).mono ?_); rintro e w' ⟨rfl, ⟨nd, rfl⟩⟩; refine ⟨_, rfl, ?_⟩))
 go_ret
 exact ⟨rs, by repeat (first | exact Drawn0.refl _ | apply Drawn0.step)⟩

end Go.Proofs.Ythnnekaimkppfaa.Q
