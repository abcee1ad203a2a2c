-- Laid by drive.py (a program of the session's) out of the translation. Lean checks it.
import Derived.Test.YtgjehnjonleibaaQx0
import Derived.Test.YtgjehnjonleibaaQx1
namespace Go.Proofs.Ytgjehnjonleibaa.Q
open Go.RowKit Go.Proofs.YtgjehnjonleibaaW.PrintWords Go.Proofs.YtgjehnjonleibaaW.PrintLast Go.Proofs.YtgjehnjonleibaaW.PrintMore
attribute [local go_sem] max2_int min2_int max_two min_two max_three min_three max_four min_four   -- for this text's walks alone
set_option linter.unusedVariables false
set_option linter.unusedSimpArgs false

/-! ### lex_number: function 22 -/
mutual
def lex_number.j1 : Nat → List Int → Int → Int → Int → Option (Int × Int × ByteArray × Int × Int)
  | 0, _, _, _, _ => none
  | k + 1, x0, x1, x6, x7 => if 0 ≤ x1 then (if x1 < (x0.length : Int) then (if (rd x0 x1) = 48 then (if x6 > (wrap64 (x1 + 1)) then (lex_number.j2 k x0 x1 x6 x7 true) else (if x6 < (x0.length : Int) then (if 0 ≤ x6 then ((lex_letter.f (rd x0 x6)).bind fun t115 => (lex_number.j2 k x0 x1 x6 x7 t115)) else (none)) else (lex_number.j2 k x0 x1 x6 x7 false))) else (if x6 < (x0.length : Int) then (if 0 ≤ x6 then ((lex_letter.f (rd x0 x6)).bind fun t117 => (lex_number.j2 k x0 x1 x6 x7 t117)) else (none)) else (lex_number.j2 k x0 x1 x6 x7 false))) else (none)) else (none)
def lex_number.j2 : Nat → List Int → Int → Int → Int → Bool → Option (Int × Int × ByteArray × Int × Int)
  | 0, _, _, _, _, _ => none
  | k + 1, x0, x1, x6, x7, x32 => if x32 = true then (some (0, x1, (⟨#[]⟩ : ByteArray), 0, 2)) else (if x7 > 65535 then (some (0, x1, (⟨#[]⟩ : ByteArray), 0, 3)) else (if 0 ≤ x1 then (if x1 ≤ x6 then (if x6 ≤ (x0.length : Int) then (some (2, x1, strOfNums ((x0.take (x6 : Int).toNat).drop (x1 : Int).toNat), x7, 0)) else (none)) else (none)) else (none)))
def lex_number.l0 : Nat → List Int → Int → Int → Int → Option (Int × Int × ByteArray × Int × Int)
  | 0, _, _, _, _ => none
  | k + 1, x0, x1, x6, x7 => if x6 < (x0.length : Int) then (if 0 ≤ x6 then ((lex_digit.f (rd x0 x6)).bind fun t111 => (if t111 = true then (lex_number.l0 k x0 x1 (wrap64 (x6 + 1)) (mn 65536 (wrap64 ((wrap64 (10 * x7)) + (((rd x0 x6) - 48) % 256))))) else (lex_number.j1 k x0 x1 x6 x7))) else (none)) else (lex_number.j1 k x0 x1 x6 x7)
end
def lex_number.f (k : Nat) (l0 : List Int) (a1 : Int) : Option (Int × Int × ByteArray × Int × Int) := lex_number.l0 k l0 a1 a1 0
theorem lex_number.mono_l : ∀ k, (∀ y0 y1 y2 y3, LeO (lex_number.j1 k y0 y1 y2 y3) (lex_number.j1 (k + 1) y0 y1 y2 y3)) ∧ (∀ y0 y1 y2 y3 y4, LeO (lex_number.j2 k y0 y1 y2 y3 y4) (lex_number.j2 (k + 1) y0 y1 y2 y3 y4)) ∧ (∀ y0 y1 y2 y3, LeO (lex_number.l0 k y0 y1 y2 y3) (lex_number.l0 (k + 1) y0 y1 y2 y3))
  | 0 => ⟨fun _ _ _ _ r h => by simp [lex_number.j1] at h, fun _ _ _ _ _ r h => by simp [lex_number.j2] at h, fun _ _ _ _ r h => by simp [lex_number.l0] at h⟩
  | k + 1 => by
    obtain ⟨ih0, ih1, ih2⟩ := lex_number.mono_l k
    refine ⟨?_, ?_, ?_⟩
    · intro y0 y1 y2 y3
      unfold lex_number.j1
      repeat' first
      | (with_reducible exact ih0 _ _ _ _)
      | (with_reducible exact ih1 _ _ _ _ _)
      | (with_reducible exact ih2 _ _ _ _)
      | (with_reducible exact LeO.refl _)
      | (with_reducible exact LeO.none _)
      | (with_reducible refine LeO.ite ?_ ?_)
      | (with_reducible refine LeO.bind ?_ (fun _ => ?_))
      | exact ih0 _ _ _ _
      | exact ih1 _ _ _ _ _
      | exact ih2 _ _ _ _
      | exact LeO.none _
      | refine LeO.ite ?_ ?_
      | refine LeO.bind ?_ (fun _ => ?_)
    · intro y0 y1 y2 y3 y4
      unfold lex_number.j2
      repeat' first
      | (with_reducible exact ih0 _ _ _ _)
      | (with_reducible exact ih1 _ _ _ _ _)
      | (with_reducible exact ih2 _ _ _ _)
      | (with_reducible exact LeO.refl _)
      | (with_reducible exact LeO.none _)
      | (with_reducible refine LeO.ite ?_ ?_)
      | (with_reducible refine LeO.bind ?_ (fun _ => ?_))
      | exact ih0 _ _ _ _
      | exact ih1 _ _ _ _ _
      | exact ih2 _ _ _ _
      | exact LeO.none _
      | refine LeO.ite ?_ ?_
      | refine LeO.bind ?_ (fun _ => ?_)
    · intro y0 y1 y2 y3
      unfold lex_number.l0
      repeat' first
      | (with_reducible exact ih0 _ _ _ _)
      | (with_reducible exact ih1 _ _ _ _ _)
      | (with_reducible exact ih2 _ _ _ _)
      | (with_reducible exact LeO.refl _)
      | (with_reducible exact LeO.none _)
      | (with_reducible refine LeO.ite ?_ ?_)
      | (with_reducible refine LeO.bind ?_ (fun _ => ?_))
      | exact ih0 _ _ _ _
      | exact ih1 _ _ _ _ _
      | exact ih2 _ _ _ _
      | exact LeO.none _
      | refine LeO.ite ?_ ?_
      | refine LeO.bind ?_ (fun _ => ?_)
theorem lex_number.mono : ∀ a0 a1 k, LeO (lex_number.f k a0 a1) (lex_number.f (k + 1) a0 a1) := by
  intro a0 a1 k
  obtain ⟨ih0, ih1, ih2⟩ := lex_number.mono_l k
  unfold lex_number.f
  repeat' first
      | (with_reducible exact ih0 _ _ _ _)
      | (with_reducible exact ih1 _ _ _ _ _)
      | (with_reducible exact ih2 _ _ _ _)
      | (with_reducible exact LeO.refl _)
      | (with_reducible exact LeO.none _)
      | (with_reducible refine LeO.ite ?_ ?_)
      | (with_reducible refine LeO.bind ?_ (fun _ => ?_))
      | exact ih0 _ _ _ _
      | exact ih1 _ _ _ _ _
      | exact ih2 _ _ _ _
      | exact LeO.none _
      | refine LeO.ite ?_ ?_
      | refine LeO.bind ?_ (fun _ => ?_)
set_option maxHeartbeats 8000000 in
set_option maxRecDepth 100000 in
theorem lex_number.calls (k : Nat) (A0 : Option Addr) (c0 : Nat) (l0 : List Int) (a1 : Int) (r1 : Int) (r2 : Int) (r3 : ByteArray) (r4 : Int) (r5 : Int) (w : World) (hr0 : Kd.C (Kd.int .u8) w A0 l0.length l0) (hc0 : l0.length ≤ c0) (h : lex_number.f k l0 a1 = some (r1, r2, r3, r4, r5)) :
    Calls Try.prog 22 #[.slice A0 l0.length c0, .int .i64 a1] w fun e w' => e = .returned (.tuple #[.agg #[.int .i64 r1, .int .i64 r2, .string r3, .int .i64 r4], .int .i64 r5]) ∧ Below w.heap.size w w' := by
 have hu29 := Try.underlying29
 have HR0 := Aside0.mk hr0
 have HC0 := Aside0.mk hc0
 clear hr0 hc0
 have HB := Aside0.mk (Below.refl w.heap.size w)
 have H : (lex_number.l0 k l0 a1 a1 0) = some (r1, r2, r3, r4, r5) := h
 clear h
 have HC3 := Aside0.mk H
 clear H
 go_enter Try.func22, Try.ntmps22
 go_upto_block 0 with (first | ((with_reducible refine gate_dst (N := 4) rfl ?_); (try (refine gate_guard (by rfl) ?_; dsimp only)); refine bx 4 #[.int .i64 0, .int .i64 0, .string (⟨#[]⟩ : ByteArray), .int .i64 0] 29 ?_; intro gb109 hg w4 hbox hb; have BK109 := Aside0.mk (hbox); have GW109 := Aside0.mk ((bz hg : w.heap.size ≤ gb109)); have GE109 := Aside0.mk ((bz hg : w.heap.size ≤ gb109)); replace HB := Aside0.mk (below_step bb hb); clear hb hbox hg))
 (try simp only [Act.put, List.setIfInBounds_toArray, List.set_cons_zero, List.set_cons_succ])
 go_cut [6, 7] (fun v6 v7 wc => ∃ (kq : Nat) (x6_2 : Int) (x7_2 : Int), v6 = .int .i64 x6_2 ∧ v7 = .int .i64 x7_2 ∧ Aside0 (lex_number.j1 kq l0 a1 x6_2 x7_2 = some (r1, r2, r3, r4, r5)) ∧ Aside0 (kq ≤ k) ∧ Aside0 (wc.heap[gb109]? = some (.cells #[.int .i64 0, .int .i64 0, .string (⟨#[]⟩ : ByteArray), .int .i64 0] 29 (0, 0))) ∧ Aside0 (Below w.heap.size w wc))
 case first =>
  have H := HC3.out
  clear HC3
  have H' := Aside0.mk H
  clear H
  go_wp2
  go_loopg [6, 7] k (fun kq v6 v7 w' => ∃ (x6_1 : Int) (x7_1 : Int), v6 = .int .i64 x6_1 ∧ v7 = .int .i64 x7_1 ∧ Aside0 (lex_number.l0 kq l0 a1 x6_1 x7_1 = some (r1, r2, r3, r4, r5)) ∧ Aside0 (kq ≤ k) ∧ Aside0 (w'.heap[gb109]? = some (.cells #[.int .i64 0, .int .i64 0, .string (⟨#[]⟩ : ByteArray), .int .i64 0] 29 (0, 0))) ∧ Aside0 (Below w.heap.size w w'))
  case atStart => exact ⟨(a1), (0), rs, rs, H', ⟨Nat.le_refl _⟩, ⟨bk BK109⟩, ⟨bb⟩⟩
  case round =>
   clear H'
   try clear c2
   try clear p2
   obtain ⟨x6_1, x7_1, rfl, rfl, HA, HK1, BK109, HB⟩ := hrel
   cases gk with
   | zero => exact absurd HA.out (by simp [lex_number.l0])
   | succ k1 =>
    have H := HA.out
    clear HA
    simp only [lex_number.l0] at H
    by_cases c5 : x6_1 < (l0.length : Int)
    rotate_left
    ·
     rw [if_neg c5] at H
     have c5b0 : decide (x6_1 < (l0.length : Int)) = false := decide_eq_false c5
     clear c5
     (first | rw [c5b0] | (simp only [i64_w, i32_w]; rw [c5b0]) | skip)
     have H' := Aside0.mk H
     clear H
     go_wp2
     go_meet
     case rel => exact ⟨_, (x6_1), (x7_1), rs, rs, H', ⟨by have := HK1.out; first | omega | exact Nat.le_refl _⟩, ⟨bk BK109⟩, ⟨bb⟩⟩
    rw [if_pos c5] at H
    have c5b0 : decide (x6_1 < (l0.length : Int)) = true := decide_eq_true c5
    clear c5
    (first | rw [c5b0] | (simp only [i64_w, i32_w]; rw [c5b0]) | skip)
    by_cases c6 : 0 ≤ x6_1
    rotate_left
    ·
     rw [if_neg c6] at H
     exact absurd H (by simp)
    rw [if_pos c6] at H
    have c6b0 : decide (0 ≤ x6_1) = true := decide_eq_true c6
    clear c6
    replace H := Option.bind_eq_some_iff.mp H
    obtain ⟨t111, A70, H⟩ := H
    replace H : (if t111 = true then (lex_number.l0 k1 l0 a1 (wrap64 (x6_1 + 1)) (mn 65536 (wrap64 ((wrap64 (10 * x7_1)) + (((rd l0 x6_1) - 48) % 256))))) else (lex_number.j1 k1 l0 a1 x6_1 x7_1)) = some (r1, r2, r3, r4, r5) := H
    have A7 := Aside0.mk A70
    clear A70
    by_cases c8 : t111 = true
    rotate_left
    ·
     replace c8 := Bool.eq_false_iff.mpr c8
     subst c8
     have H1 : (lex_number.j1 k1 l0 a1 x6_1 x7_1) = some (r1, r2, r3, r4, r5) := by rw [if_neg (show ¬ (false = true) by decide)] at H; exact H
     clear H
     have H := H1
     clear H1
     have H' := Aside0.mk H
     clear H
     have p110 : 0 ≤ (x6_1 : Int) := od
     have q110 : x6_1 < (l0.length : Int) := od
     obtain ⟨ad110, e110, hx110_0⟩ := Kd.at_int HR0.out x6_1 p110 q110
     cases e110
     replace hx110_0 := bl HB hx110_0
     replace p110 := eq_true p110
     replace q110 := eq_true q110
     go_wp2_with (first | (go_at_call 21; (with_reducible refine (lex_digit.calls (rd l0 x6_1) false _ A7.out).mono ?_); rintro e w' ⟨rfl, ⟨nd, rfl⟩⟩))
     go_meet
     case rel => exact ⟨_, (x6_1), (x7_1), rs, rs, H', ⟨by have := HK1.out; first | omega | exact Nat.le_refl _⟩, ⟨bk BK109⟩, ⟨bb⟩⟩
    subst c8
    have H1 : (lex_number.l0 k1 l0 a1 (wrap64 (x6_1 + 1)) (mn 65536 (wrap64 ((wrap64 (10 * x7_1)) + (((rd l0 x6_1) - 48) % 256))))) = some (r1, r2, r3, r4, r5) := by rw [if_pos rfl] at H; exact H
    clear H
    have H := H1
    clear H1
    obtain ⟨ji9, hji9⟩ : ∃ j_ : Int, (mn 65536 (wrap64 ((wrap64 (10 * x7_1)) + (((rd l0 x6_1) - 48) % 256)))) = j_ := ⟨_, rfl⟩
    replace H : (lex_number.l0 k1 l0 a1 (wrap64 (x6_1 + 1)) ji9) = some (r1, r2, r3, r4, r5) := by first | (rw [hji9] at H; exact H) | (simp only [hji9] at H ⊢; exact H)
    (try rw [hji9] at A7)
    have hji9_ : (if (wrap64 ((wrap64 (10 * x7_1)) + (((rd l0 x6_1) - 48) % 256))) < 65536 then (wrap64 ((wrap64 (10 * x7_1)) + (((rd l0 x6_1) - 48) % 256))) else 65536) = ji9 := hji9
    have H' := Aside0.mk H
    clear H
    have p110 : 0 ≤ (x6_1 : Int) := od
    have q110 : x6_1 < (l0.length : Int) := od
    obtain ⟨ad110, e110, hx110_0⟩ := Kd.at_int HR0.out x6_1 p110 q110
    cases e110
    replace hx110_0 := bl HB hx110_0
    replace p110 := eq_true p110
    replace q110 := eq_true q110
    go_wp2_with (first | (go_at_call 21; (with_reducible refine (lex_digit.calls (rd l0 x6_1) true _ A7.out).mono ?_); rintro e w' ⟨rfl, ⟨nd, rfl⟩⟩; have p112 : 0 ≤ (x6_1 : Int) := od; have q112 : x6_1 < (l0.length : Int) := od; obtain ⟨ad112, e112, hx112_0⟩ := Kd.at_int HR0.out x6_1 p112 q112; obtain rfl : ad110 = ad112 := (by injection e112); replace hx112_0 := bl HB hx112_0; replace p112 := eq_true p112; replace q112 := eq_true q112))
    go_roundg k1
    case measure => have := HK1.out; omega
    case rel => exact ⟨(wrap64 (x6_1 + 1)), (ji9), rs, (by first | rfl | (simp; done) | (simp only [← hji9] <;> (first | rfl | simp)) | (simp [*]; done)), H', ⟨by have := HK1.out; omega⟩, ⟨bk BK109⟩, ⟨bb⟩⟩
 case rest =>
  clear HC3
  try clear p1
  try clear q1
  try clear hx1
  try clear c2
  try clear p2
  try clear c5
  try clear c5b0
  try clear c6
  try clear c6b0
  try clear p6
  try clear c8
  try clear hx110_0
  try clear hx112_0
  try clear p110
  try clear p112
  try clear q110
  try clear q112
  obtain ⟨kq, x6_2, x7_2, rfl, rfl, HA, HJ2, BK109, HB⟩ := hcut
  cases kq with
  | zero => exact absurd HA.out (by simp [lex_number.j1])
  | succ kj2 =>
   have H := HA.out
   clear HA
   simp only [lex_number.j1] at H
   have HC10 := Aside0.mk H
   clear H
   go_upto_region 6 with (fail)
   repeat ((with_reducible refine upon_gate ?_); go_simp; go_upto_region 6 with (fail))
   go_cut [32] (fun v32 wc => ∃ (kq : Nat) (x32_9 : Bool), v32 = .bool x32_9 ∧ Aside0 (lex_number.j2 kq l0 a1 x6_2 x7_2 x32_9 = some (r1, r2, r3, r4, r5)) ∧ Aside0 (kq ≤ kj2) ∧ Aside0 (wc.heap[gb109]? = some (.cells #[.int .i64 0, .int .i64 0, .string (⟨#[]⟩ : ByteArray), .int .i64 0] 29 (0, 0))) ∧ Aside0 (Below w.heap.size w wc))
   case first =>
    have H := HC10.out
    clear HC10
    by_cases c11 : 0 ≤ a1
    rotate_left
    ·
     rw [if_neg c11] at H
     exact absurd H (by simp)
    rw [if_pos c11] at H
    have c11b0 : decide (0 ≤ a1) = true := decide_eq_true c11
    clear c11
    (first | rw [c11b0] | (simp only [i64_w, i32_w]; rw [c11b0]) | skip)
    by_cases c12 : a1 < (l0.length : Int)
    rotate_left
    ·
     rw [if_neg c12] at H
     exact absurd H (by simp)
    rw [if_pos c12] at H
    have c12b0 : decide (a1 < (l0.length : Int)) = true := decide_eq_true c12
    clear c12
    by_cases c13 : (rd l0 a1) = 48
    rotate_left
    ·
     rw [if_neg c13] at H
     have c13b0 : ((rd l0 a1) == 48) = false := beq_eq_false_iff_ne.mpr c13
     have c13b1 : ((rd l0 a1) != 48) = true := bne_iff_ne.mpr c13
     by_cases c18 : x6_2 < (l0.length : Int)
     rotate_left
     ·
      rw [if_neg c18] at H
      have c18b0 : decide (x6_2 < (l0.length : Int)) = false := decide_eq_false c18
      clear c18
      have H' := Aside0.mk H
      clear H
      have p113 : 0 ≤ (a1 : Int) := od
      have q113 : a1 < (l0.length : Int) := od
      obtain ⟨ad113, e113, hx113_0⟩ := Kd.at_int HR0.out a1 p113 q113
      cases e113
      replace hx113_0 := bl HB hx113_0
      replace p113 := eq_true p113
      replace q113 := eq_true q113
      go_wp2
      go_meet
      case rel => exact ⟨_, (false), rs, H', ⟨by have := HJ2.out; first | omega | exact Nat.le_refl _⟩, ⟨bk BK109⟩, ⟨bb⟩⟩
     rw [if_pos c18] at H
     have c18b0 : decide (x6_2 < (l0.length : Int)) = true := decide_eq_true c18
     clear c18
     by_cases c19 : 0 ≤ x6_2
     rotate_left
     ·
      rw [if_neg c19] at H
      exact absurd H (by simp)
     rw [if_pos c19] at H
     have c19b0 : decide (0 ≤ x6_2) = true := decide_eq_true c19
     clear c19
     replace H := Option.bind_eq_some_iff.mp H
     obtain ⟨t117, A200, H⟩ := H
     replace H : (lex_number.j2 kj2 l0 a1 x6_2 x7_2 t117) = some (r1, r2, r3, r4, r5) := H
     have A20 := Aside0.mk A200
     clear A200
     have H' := Aside0.mk H
     clear H
     have p113 : 0 ≤ (a1 : Int) := od
     have q113 : a1 < (l0.length : Int) := od
     obtain ⟨ad113, e113, hx113_0⟩ := Kd.at_int HR0.out a1 p113 q113
     cases e113
     replace hx113_0 := bl HB hx113_0
     replace p113 := eq_true p113
     replace q113 := eq_true q113
     have p116 : 0 ≤ (x6_2 : Int) := od
     have q116 : x6_2 < (l0.length : Int) := od
     obtain ⟨ad116, e116, hx116_0⟩ := Kd.at_int HR0.out x6_2 p116 q116
     obtain rfl : ad113 = ad116 := (by injection e116)
     replace hx116_0 := bl HB hx116_0
     replace p116 := eq_true p116
     replace q116 := eq_true q116
     go_wp2_with (first | (go_at_call 16; (with_reducible refine (lex_letter.calls (rd l0 x6_2) t117 _ A20.out).mono ?_); rintro e w' ⟨rfl, ⟨nd, rfl⟩⟩))
     go_meet
     case rel => exact ⟨_, (t117), rs, H', ⟨by have := HJ2.out; first | omega | exact Nat.le_refl _⟩, ⟨bk BK109⟩, ⟨bb⟩⟩
    rw [if_pos c13] at H
    have c13b0 : ((rd l0 a1) == 48) = true := beq_iff_eq.mpr c13
    have c13b1 : ((rd l0 a1) != 48) = false := bne_eq_false_iff_eq.mpr c13
    clear c13
    by_cases c14 : x6_2 > (wrap64 (a1 + 1))
    ·
     rw [if_pos c14] at H
     have c14b0 : decide ((wrap64 (a1 + 1)) < x6_2) = true := decide_eq_true c14
     clear c14
     have H' := Aside0.mk H
     clear H
     have p113 : 0 ≤ (a1 : Int) := od
     have q113 : a1 < (l0.length : Int) := od
     obtain ⟨ad113, e113, hx113_0⟩ := Kd.at_int HR0.out a1 p113 q113
     cases e113
     replace hx113_0 := bl HB hx113_0
     replace p113 := eq_true p113
     replace q113 := eq_true q113
     go_wp2
     go_meet
     case rel => exact ⟨_, (true), rs, H', ⟨by have := HJ2.out; first | omega | exact Nat.le_refl _⟩, ⟨bk BK109⟩, ⟨bb⟩⟩
    rw [if_neg c14] at H
    have c14b0 : decide ((wrap64 (a1 + 1)) < x6_2) = false := decide_eq_false c14
    clear c14
    by_cases c15 : x6_2 < (l0.length : Int)
    rotate_left
    ·
     rw [if_neg c15] at H
     have c15b0 : decide (x6_2 < (l0.length : Int)) = false := decide_eq_false c15
     clear c15
     have H' := Aside0.mk H
     clear H
     have p113 : 0 ≤ (a1 : Int) := od
     have q113 : a1 < (l0.length : Int) := od
     obtain ⟨ad113, e113, hx113_0⟩ := Kd.at_int HR0.out a1 p113 q113
     cases e113
     replace hx113_0 := bl HB hx113_0
     replace p113 := eq_true p113
     replace q113 := eq_true q113
     go_wp2
     go_meet
     case rel => exact ⟨_, (false), rs, H', ⟨by have := HJ2.out; first | omega | exact Nat.le_refl _⟩, ⟨bk BK109⟩, ⟨bb⟩⟩
    rw [if_pos c15] at H
    have c15b0 : decide (x6_2 < (l0.length : Int)) = true := decide_eq_true c15
    clear c15
    by_cases c16 : 0 ≤ x6_2
    rotate_left
    ·
     rw [if_neg c16] at H
     exact absurd H (by simp)
    rw [if_pos c16] at H
    have c16b0 : decide (0 ≤ x6_2) = true := decide_eq_true c16
    clear c16
    replace H := Option.bind_eq_some_iff.mp H
    obtain ⟨t115, A170, H⟩ := H
    replace H : (lex_number.j2 kj2 l0 a1 x6_2 x7_2 t115) = some (r1, r2, r3, r4, r5) := H
    have A17 := Aside0.mk A170
    clear A170
    have H' := Aside0.mk H
    clear H
    have p113 : 0 ≤ (a1 : Int) := od
    have q113 : a1 < (l0.length : Int) := od
    obtain ⟨ad113, e113, hx113_0⟩ := Kd.at_int HR0.out a1 p113 q113
    cases e113
    replace hx113_0 := bl HB hx113_0
    replace p113 := eq_true p113
    replace q113 := eq_true q113
    have p114 : 0 ≤ (x6_2 : Int) := od
    have q114 : x6_2 < (l0.length : Int) := od
    obtain ⟨ad114, e114, hx114_0⟩ := Kd.at_int HR0.out x6_2 p114 q114
    obtain rfl : ad113 = ad114 := (by injection e114)
    replace hx114_0 := bl HB hx114_0
    replace p114 := eq_true p114
    replace q114 := eq_true q114
    go_wp2_with (first | (go_at_call 16; (with_reducible refine (lex_letter.calls (rd l0 x6_2) t115 _ A17.out).mono ?_); rintro e w' ⟨rfl, ⟨nd, rfl⟩⟩))
    go_meet
    case rel => exact ⟨_, (t115), rs, H', ⟨by have := HJ2.out; first | omega | exact Nat.le_refl _⟩, ⟨bk BK109⟩, ⟨bb⟩⟩
   case rest =>
    clear HC10
    try clear c1
    try clear p1
    try clear q1
    try clear hx1
    try clear c2
    try clear p2
    try clear c5
    try clear c5b0
    try clear c6
    try clear c6b0
    try clear p6
    try clear c8
    try clear c11
    try clear c11b0
    try clear p11
    try clear q11
    try clear hx11
    try clear c12
    try clear c12b0
    try clear c13
    try clear c13b0
    try clear c13b1
    try clear c14
    try clear c14b0
    try clear c15
    try clear c15b0
    try clear c16
    try clear c16b0
    try clear c18
    try clear c18b0
    try clear c19
    try clear c19b0
    try clear hx110_0
    try clear hx112_0
    try clear hx113_0
    try clear hx114_0
    try clear hx116_0
    try clear p110
    try clear p112
    try clear p113
    try clear p114
    try clear p116
    try clear q110
    try clear q112
    try clear q113
    try clear q114
    try clear q116
    obtain ⟨kq, x32_9, rfl, HA, HJ9, BK109, HB⟩ := hcut
    cases kq with
    | zero => exact absurd HA.out (by simp [lex_number.j2])
    | succ kj9 =>
     have H := HA.out
     clear HA
     simp only [lex_number.j2] at H
     by_cases c21 : x32_9 = true
     ·
      subst c21
      have H1 : (some (0, a1, (⟨#[]⟩ : ByteArray), 0, 2)) = some (r1, r2, r3, r4, r5) := by rw [if_pos rfl] at H; exact H
      clear H
      have H := H1
      clear H1
      simp only [Option.some.injEq, Prod.mk.injEq] at H
      obtain ⟨rfl, rfl, rfl, rfl, rfl⟩ := H
      obtain ⟨hcz22_0, hcz22_1, hcz22_2, hcz22_3, hfz22_0, hfz22_1, hfz22_2, hfz22_3⟩ := bo4 BK109
      go_wp2
      refine bodyPost_ret (results_ct rfl _ _ gb109 29 #[.int .i64 0, .int .i64 a1, .string (⟨#[]⟩ : ByteArray), .int .i64 0] (0, 0) _ rfl (by refine bm ?_; refine blk_put (cs := #[.int .i64 0, .int .i64 a1, .string (⟨#[]⟩ : ByteArray), .int .i64 0]) ?_ 3 _ rfl; refine bm ?_; refine blk_put (cs := #[.int .i64 0, .int .i64 a1, .string (⟨#[]⟩ : ByteArray), .int .i64 0]) ?_ 2 _ rfl; refine bm ?_; refine blk_put (cs := #[.int .i64 0, .int .i64 0, .string (⟨#[]⟩ : ByteArray), .int .i64 0]) ?_ 1 _ rfl; refine bm ?_; refine blk_put (cs := #[.int .i64 0, .int .i64 0, .string (⟨#[]⟩ : ByteArray), .int .i64 0]) ?_ 0 _ rfl; refine bm ?_; exact BK109.out) Try.underlying29 rfl (by kernel_rfl)) rfl ?_
      exact ⟨ew, bb⟩
     replace c21 := Bool.eq_false_iff.mpr c21
     subst c21
     have H1 : (if x7_2 > 65535 then (some (0, a1, (⟨#[]⟩ : ByteArray), 0, 3)) else (if 0 ≤ a1 then (if a1 ≤ x6_2 then (if x6_2 ≤ (l0.length : Int) then (some (2, a1, strOfNums ((l0.take (x6_2 : Int).toNat).drop (a1 : Int).toNat), x7_2, 0)) else (none)) else (none)) else (none))) = some (r1, r2, r3, r4, r5) := by rw [if_neg (show ¬ (false = true) by decide)] at H; exact H
     clear H
     have H := H1
     clear H1
     by_cases c23 : x7_2 > 65535
     ·
      rw [if_pos c23] at H
      have c23b0 : decide (65535 < x7_2) = true := decide_eq_true c23
      clear c23
      simp only [Option.some.injEq, Prod.mk.injEq] at H
      obtain ⟨rfl, rfl, rfl, rfl, rfl⟩ := H
      obtain ⟨hcz24_0, hcz24_1, hcz24_2, hcz24_3, hfz24_0, hfz24_1, hfz24_2, hfz24_3⟩ := bo4 BK109
      go_wp2
      refine bodyPost_ret (results_ct rfl _ _ gb109 29 #[.int .i64 0, .int .i64 a1, .string (⟨#[]⟩ : ByteArray), .int .i64 0] (0, 0) _ rfl (by refine bm ?_; refine blk_put (cs := #[.int .i64 0, .int .i64 a1, .string (⟨#[]⟩ : ByteArray), .int .i64 0]) ?_ 3 _ rfl; refine bm ?_; refine blk_put (cs := #[.int .i64 0, .int .i64 a1, .string (⟨#[]⟩ : ByteArray), .int .i64 0]) ?_ 2 _ rfl; refine bm ?_; refine blk_put (cs := #[.int .i64 0, .int .i64 0, .string (⟨#[]⟩ : ByteArray), .int .i64 0]) ?_ 1 _ rfl; refine bm ?_; refine blk_put (cs := #[.int .i64 0, .int .i64 0, .string (⟨#[]⟩ : ByteArray), .int .i64 0]) ?_ 0 _ rfl; refine bm ?_; exact BK109.out) Try.underlying29 rfl (by kernel_rfl)) rfl ?_
      exact ⟨ew, bb⟩
     rw [if_neg c23] at H
     have c23b0 : decide (65535 < x7_2) = false := decide_eq_false c23
     clear c23
     by_cases c25 : 0 ≤ a1
     rotate_left
     ·
      rw [if_neg c25] at H
      exact absurd H (by simp)
     rw [if_pos c25] at H
     have c25b0 := eq_true c25
     have c25b1 : decide (0 ≤ a1) = true := decide_eq_true c25
     clear c25
     by_cases c26 : a1 ≤ x6_2
     rotate_left
     ·
      rw [if_neg c26] at H
      exact absurd H (by simp)
     rw [if_pos c26] at H
     have c26b0 := eq_true c26
     have c26b1 : decide (a1 ≤ x6_2) = true := decide_eq_true c26
     clear c26
     by_cases c27 : x6_2 ≤ (l0.length : Int)
     rotate_left
     ·
      rw [if_neg c27] at H
      exact absurd H (by simp)
     rw [if_pos c27] at H
     have c27b0 := eq_true c27
     have c27b1 : decide (x6_2 ≤ (l0.length : Int)) = true := decide_eq_true c27
     clear c27
     simp only [Option.some.injEq, Prod.mk.injEq] at H
     obtain ⟨rfl, rfl, rfl, rfl, rfl⟩ := H
     obtain ⟨i028, hi028, _, hsz28, _⟩ := info_parts info5
     obtain ⟨A28, hcut28, hA28, hC28⟩ := print_mid_of (P := Try.prog) (Value.int .u8) 0 22 5 .i64 .i64 Try.underlying22 hi028 hsz28 A0 c0 l0 a1 x6_2 (od) (by first | omega | exact od) (od) HC0.out
     have HR118 := Aside0.mk (Kd.C_of_reads (h1 := fun _ => rfl) (hA28 _ (Kd.reads_of_C HR0.out)))
     have HC118 := Aside0.mk hC28
     clear hA28 hC28 hi028 hsz28
     have hcv29 := Kd.C_string (P := Try.prog) (A := A28) (c := (c0 - a1.toNat)) Try.underlying22 Try.underlying5 Try.underlying9 (Kd.C_below HR118.out HB.out)
     have hcv29b := hcv29
     (try rw [List.length_drop, List.length_take, Nat.min_eq_left (Int.toNat_le.mpr (od))] at hcv29b)
     obtain ⟨hcz30_0, hcz30_1, hcz30_2, hcz30_3, hfz30_0, hfz30_1, hfz30_2, hfz30_3⟩ := bo4 BK109
     go_wp2
     refine bodyPost_ret (results_ct rfl _ _ gb109 29 #[.int .i64 2, .int .i64 a1, .string (strOfNums ((l0.take (x6_2 : Int).toNat).drop (a1 : Int).toNat)), .int .i64 x7_2] (0, 0) _ rfl (by refine bm ?_; refine blk_put (cs := #[.int .i64 2, .int .i64 a1, .string (strOfNums ((l0.take (x6_2 : Int).toNat).drop (a1 : Int).toNat)), .int .i64 0]) ?_ 3 _ rfl; refine bm ?_; refine blk_put (cs := #[.int .i64 2, .int .i64 a1, .string (⟨#[]⟩ : ByteArray), .int .i64 0]) ?_ 2 _ rfl; refine bm ?_; refine blk_put (cs := #[.int .i64 2, .int .i64 0, .string (⟨#[]⟩ : ByteArray), .int .i64 0]) ?_ 1 _ rfl; refine bm ?_; refine blk_put (cs := #[.int .i64 0, .int .i64 0, .string (⟨#[]⟩ : ByteArray), .int .i64 0]) ?_ 0 _ rfl; refine bm ?_; exact BK109.out) Try.underlying29 rfl (by kernel_rfl)) rfl ?_
     exact ⟨ew, bb⟩

def strings_IndexByte.f (a0 : ByteArray) (a1 : Int) : Option Int := some (Lib.indexByte a0.data.toList a1.toNat.toUInt8)
theorem strings_IndexByte.calls (a0 : ByteArray) (a1 : Int) (r : Int) (w : World) (h : strings_IndexByte.f a0 a1 = some r) :
    Calls Try.prog 13 #[.string a0, .int .u8 a1] w fun e w' => e = .returned (.int .i64 r) ∧ Drawn0 w w' := by
 obtain rfl := Option.some.inj h
 refine (Try.strings_IndexByte a0 a1 w).mono ?_
 rintro e w' ⟨rfl, rfl⟩
 exact ⟨rfl, Drawn0.refl _⟩

def strings_Contains.f (a0 a1 : ByteArray) : Option Bool := if a0.size < 4294967281 then some (Lib.contains a0.data.toList a1.data.toList) else none
theorem strings_Contains.calls (a0 a1 : ByteArray) (r : Bool) (w : World) (h : strings_Contains.f a0 a1 = some r) (hG : GlobOK w) :
    Calls Try.prog 14 #[.string a0, .string a1] w fun e w' => e = .returned (.bool r) ∧ Below w.heap.size w w' := by
 unfold strings_Contains.f at h
 split at h
 ·
  rename_i hs
  obtain rfl := Option.some.inj h
  obtain ⟨m, hm⟩ := hG
  refine (Try.strings_Contains a0 a1 m w hs hm).mono ?_
  rintro e w' ⟨rfl, rfl⟩
  exact ⟨rfl, Below.refl _ _⟩
 cases h

end Go.Proofs.Ytgjehnjonleibaa.Q
