-- Laid by drive.py (a program of the session's) out of the translation. Lean checks it.
import Derived.Test.YtcoelecaigkfcaaKx0
import Derived.Test.YtcoelecaigkfcaaKx3
import Derived.Test.YtcoelecaigkfcaaKx5
namespace Go.Proofs.Ytcoelecaigkfcaa.K
open Go.RowKit Go.Proofs.YtcoelecaigkfcaaW.PrintWords Go.Proofs.YtcoelecaigkfcaaW.PrintLast
set_option linter.unusedVariables false
set_option linter.unusedSimpArgs false

/-! ### shape_Ahead: function 8 -/
mutual
def shape_Ahead.l0 : Nat → List (List Bool) → List (S38) → Int → Int → List (S38) → List Int → Option ((List (List Bool)))
  | 0, _, _, _, _, _, _ => none
  | k + 1, x3, x16, x17, x18, x128000, x128001 => if x18 < x17 then (if 0 ≤ x18 then (if x18 < (x16.length : Int) then (if 0 ≤ (x128000.length : Int) then (if ((x128000.length : Int) : Int).toNat ≤ 281474976710656 then (if x18 < (x3.length : Int) then (shape_Ahead.l1 k (x3.set (x18 : Int).toNat (List.replicate ((x128000.length : Int) : Int).toNat false)) x18 x16 x17 x18 x128000 (x128000.length : Int) 0 x128000 x128001 ((rd_T38 x16 x18).f0) ((rd_T38 x16 x18).f1) ((rd_T38 x16 x18).f2) ((rd_T38 x16 x18).f3)) else (none)) else (none)) else (none)) else (none)) else (none)) else ((rank_Closure.f k x3).bind fun t132 => (some t132))
def shape_Ahead.l1 : Nat → List (List Bool) → Int → List (S38) → Int → Int → List (S38) → Int → Int → List (S38) → List Int → Int → Int → Int → Int → Option ((List (List Bool)))
  | 0, _, _, _, _, _, _, _, _, _, _, _, _, _, _ => none
  | k + 1, x3, x4, x16, x17, x18, x31, x32, x33, x128000, x128001, x137000, x137001, x137002, x137003 => if x33 < x32 then (if 0 ≤ x33 then (if x33 < (x31.length : Int) then (if 0 ≤ x4 then (if x4 < (x3.length : Int) then (if x137000 = ((rd_T38 x31 x33).f0) then (if x4 < x33 then (if x33 < ((rd_L3 x3 x4).length : Int) then (shape_Ahead.l1 k (x3.set (x4 : Int).toNat ((rd_L3 x3 x4).set (x33 : Int).toNat true)) x4 x16 x17 x18 x31 x32 (wrap64 (x33 + 1)) x128000 x128001 x137000 x137001 x137002 x137003) else (none)) else (if 0 ≤ ((rd_T38 x31 x33).f0) then (if ((rd_T38 x31 x33).f0) < (x128001.length : Int) then (if x33 < ((rd_L3 x3 x4).length : Int) then (shape_Ahead.l1 k (x3.set (x4 : Int).toNat ((rd_L3 x3 x4).set (x33 : Int).toNat ((rd x128001 ((rd_T38 x31 x33).f0)) == x4))) x4 x16 x17 x18 x31 x32 (wrap64 (x33 + 1)) x128000 x128001 x137000 x137001 x137002 x137003) else (none)) else (none)) else (none))) else (if 0 ≤ ((rd_T38 x31 x33).f0) then (if ((rd_T38 x31 x33).f0) < (x128001.length : Int) then (if x33 < ((rd_L3 x3 x4).length : Int) then (shape_Ahead.l1 k (x3.set (x4 : Int).toNat ((rd_L3 x3 x4).set (x33 : Int).toNat ((rd x128001 ((rd_T38 x31 x33).f0)) == x4))) x4 x16 x17 x18 x31 x32 (wrap64 (x33 + 1)) x128000 x128001 x137000 x137001 x137002 x137003) else (none)) else (none)) else (none))) else (none)) else (none)) else (none)) else (none)) else (shape_Ahead.l0 k x3 x16 x17 (wrap64 (x18 + 1)) x128000 x128001)
end
def shape_Ahead.f (k : Nat) (l0_0 : List (S38)) (l0_1 : List Int) : Option ((List (List Bool))) := (shape_Check.f k l0_0 l0_1).bind fun t128 => (if t128 = 0 then (if 0 ≤ (l0_0.length : Int) then (if ((l0_0.length : Int) : Int).toNat ≤ 11728124029610 then (shape_Ahead.l0 k (List.replicate ((l0_0.length : Int) : Int).toNat []) l0_0 (l0_0.length : Int) 0 l0_0 l0_1) else (none)) else (none)) else (some ([] : List (List Bool))))
theorem shape_Ahead.mono_l : ∀ k, (∀ y0 y1 y2 y3 y4 y5, LeO (shape_Ahead.l0 k y0 y1 y2 y3 y4 y5) (shape_Ahead.l0 (k + 1) y0 y1 y2 y3 y4 y5)) ∧ (∀ y0 y1 y2 y3 y4 y5 y6 y7 y8 y9 y10 y11 y12 y13, LeO (shape_Ahead.l1 k y0 y1 y2 y3 y4 y5 y6 y7 y8 y9 y10 y11 y12 y13) (shape_Ahead.l1 (k + 1) y0 y1 y2 y3 y4 y5 y6 y7 y8 y9 y10 y11 y12 y13))
  | 0 => ⟨fun _ _ _ _ _ _ r h => by simp [shape_Ahead.l0] at h, fun _ _ _ _ _ _ _ _ _ _ _ _ _ _ r h => by simp [shape_Ahead.l1] at h⟩
  | k + 1 => by
    obtain ⟨ih0, ih1⟩ := shape_Ahead.mono_l k
    refine ⟨?_, ?_⟩
    · intro y0 y1 y2 y3 y4 y5
      unfold shape_Ahead.l0
      repeat' first
      | (with_reducible exact ih0 _ _ _ _ _ _)
      | (with_reducible exact ih1 _ _ _ _ _ _ _ _ _ _ _ _ _ _)
      | (with_reducible exact rank_Closure.mono _ _)
      | (with_reducible exact shape_Check.mono _ _ _)
      | (with_reducible exact LeO.refl _)
      | (with_reducible exact LeO.none _)
      | (with_reducible refine LeO.ite ?_ ?_)
      | (with_reducible refine LeO.bind ?_ (fun _ => ?_))
      | exact ih0 _ _ _ _ _ _
      | exact ih1 _ _ _ _ _ _ _ _ _ _ _ _ _ _
      | exact rank_Closure.mono _ _
      | exact shape_Check.mono _ _ _
      | exact LeO.none _
      | refine LeO.ite ?_ ?_
      | refine LeO.bind ?_ (fun _ => ?_)
    · intro y0 y1 y2 y3 y4 y5 y6 y7 y8 y9 y10 y11 y12 y13
      unfold shape_Ahead.l1
      repeat' first
      | (with_reducible exact ih0 _ _ _ _ _ _)
      | (with_reducible exact ih1 _ _ _ _ _ _ _ _ _ _ _ _ _ _)
      | (with_reducible exact rank_Closure.mono _ _)
      | (with_reducible exact shape_Check.mono _ _ _)
      | (with_reducible exact LeO.refl _)
      | (with_reducible exact LeO.none _)
      | (with_reducible refine LeO.ite ?_ ?_)
      | (with_reducible refine LeO.bind ?_ (fun _ => ?_))
      | exact ih0 _ _ _ _ _ _
      | exact ih1 _ _ _ _ _ _ _ _ _ _ _ _ _ _
      | exact rank_Closure.mono _ _
      | exact shape_Check.mono _ _ _
      | exact LeO.none _
      | refine LeO.ite ?_ ?_
      | refine LeO.bind ?_ (fun _ => ?_)
theorem shape_Ahead.mono : ∀ a0 a1 k, LeO (shape_Ahead.f k a0 a1) (shape_Ahead.f (k + 1) a0 a1) := by
  intro a0 a1 k
  obtain ⟨ih0, ih1⟩ := shape_Ahead.mono_l k
  unfold shape_Ahead.f
  repeat' first
      | (with_reducible exact ih0 _ _ _ _ _ _)
      | (with_reducible exact ih1 _ _ _ _ _ _ _ _ _ _ _ _ _ _)
      | (with_reducible exact rank_Closure.mono _ _)
      | (with_reducible exact shape_Check.mono _ _ _)
      | (with_reducible exact LeO.refl _)
      | (with_reducible exact LeO.none _)
      | (with_reducible refine LeO.ite ?_ ?_)
      | (with_reducible refine LeO.bind ?_ (fun _ => ?_))
      | exact ih0 _ _ _ _ _ _
      | exact ih1 _ _ _ _ _ _ _ _ _ _ _ _ _ _
      | exact rank_Closure.mono _ _
      | exact shape_Check.mono _ _ _
      | exact LeO.none _
      | refine LeO.ite ?_ ?_
      | refine LeO.bind ?_ (fun _ => ?_)
def shape_Ahead.T11 : Bool × List (List Nat × List Nat) := (true, [([], []), ([], []), ([0, 1], [0, 1]), ([2], [2]), ([], []), ([], []), ([5], [5]), ([], []), ([7], [7]), ([6, 8], [6, 8]), ([9], [9]), ([10], [10]), ([10], [10]), ([11, 12, 10], [10, 11, 12]), ([10, 13], [10, 13]), ([14, 10], [14]), ([15], [15]), ([16, 15], [15, 16]), ([15], [15]), ([18, 15], [15, 18]), ([17, 19, 15], [15, 17, 19]), ([20, 15], [15, 20]), ([15], [15]), ([21, 22, 15], [15, 21, 22]), ([15, 23], [15, 23]), ([3, 4, 0, 1, 2, 3, 4, 5, 6, 7, 8, 9, 10, 11, 12, 13, 14, 15, 16, 17, 18, 19, 20, 21, 22, 23, 24], [3, 4]), ([25, 24, 15, 0, 1, 2, 3, 4, 5, 6, 7, 8, 9, 10, 11, 12, 13, 14, 15, 16, 17, 18, 19, 20, 21, 22, 23, 24], [24, 25])])
def shape_Ahead.B11 : List Nat := [0, 0, 3, 7, 0, 0, 32, 0, 128, 480, 992, 2016, 2016, 8160, 16352, 32736, 65504, 131040, 65504, 327648, 1048544, 2097120, 65504, 8388576, 16777184, 33554431, 67108863]
theorem shape_Ahead.tab11 : rtab .any (opsOf Try.f8 11) = shape_Ahead.T11 := by kernel_rfl
theorem shape_Ahead.bits11 : waitsOk shape_Ahead.T11.2 shape_Ahead.B11 = true := by kernel_rfl
set_option maxHeartbeats 8000000 in
set_option maxRecDepth 100000 in
theorem shape_Ahead.calls (k : Nat) (A0_0 : Option Addr) (c0_0 : Nat) (l0_0 : List (S38)) (A0_1 : Option Addr) (c0_1 : Nat) (l0_1 : List Int) (r : List (List Bool)) (w : World) (hr0_0 : Kd.C k38 w A0_0 l0_0.length l0_0) (hc0_0 : l0_0.length ≤ c0_0) (hr0_1 : Kd.C (Kd.int .i64) w A0_1 l0_1.length l0_1) (hc0_1 : l0_1.length ≤ c0_1) (h : shape_Ahead.f k l0_0 l0_1 = some r) :
    Calls Try.prog 8 #[.agg #[.slice A0_0 l0_0.length c0_0, .slice A0_1 l0_1.length c0_1]] w fun e w' => ∃ v0_ : Value, e = .returned (v0_) ∧ Kd.S (Kd.slice 4 Kd.bool) 33 w' w.heap.size (fun _ => True) v0_ r ∧ Below w.heap.size w w' := by
 have hu25 := Try.underlying25
 have hu38 := Try.underlying38
 have HR0_0 := Aside0.mk hr0_0
 have HC0_0 := Aside0.mk hc0_0
 clear hr0_0 hc0_0
 have HR0_1 := Aside0.mk hr0_1
 have HC0_1 := Aside0.mk hc0_1
 clear hr0_1 hc0_1
 have HB := Aside0.mk (Below.refl w.heap.size w)
 have H : ((shape_Check.f k l0_0 l0_1).bind fun t128 => (if t128 = 0 then (if 0 ≤ (l0_0.length : Int) then (if ((l0_0.length : Int) : Int).toNat ≤ 11728124029610 then (shape_Ahead.l0 k (List.replicate ((l0_0.length : Int) : Int).toNat []) l0_0 (l0_0.length : Int) 0 l0_0 l0_1) else (none)) else (none)) else (some ([] : List (List Bool))))) = some r := h
 clear h
 replace H := Option.bind_eq_some_iff.mp H
 obtain ⟨t128, A20, H⟩ := H
 replace H : (if t128 = 0 then (if 0 ≤ (l0_0.length : Int) then (if ((l0_0.length : Int) : Int).toNat ≤ 11728124029610 then (shape_Ahead.l0 k (List.replicate ((l0_0.length : Int) : Int).toNat []) l0_0 (l0_0.length : Int) 0 l0_0 l0_1) else (none)) else (none)) else (some ([] : List (List Bool)))) = some r := H
 have A2 := Aside0.mk A20
 clear A20
 by_cases c3 : t128 = 0
 rotate_left
 ·
  rw [if_neg c3] at H
  have c3b0 : (t128 == 0) = false := beq_eq_false_iff_ne.mpr c3
  have c3b1 : (t128 != 0) = true := bne_iff_ne.mpr c3
  obtain rfl := Option.some.inj H
  go_enter Try.func8, Try.ntmps8
  go_wp2_with (first | ((with_reducible refine gate_dst (N := 1) rfl ?_); refine bx 1 #[.slice A0_0 l0_0.length c0_0, .slice A0_1 l0_1.length c0_1] 25 ?_; intro gb127 hg w73 hbox hb; have BK127 := Aside0.mk (hbox); have GW127 := Aside0.mk ((bz hg : w.heap.size ≤ gb127)); have GE127 := Aside0.mk ((bz hg : w.heap.size ≤ gb127)); replace HB := Aside0.mk (below_step bb hb); clear hb hbox hg; obtain ⟨hcz74_0, hcz74_1, hfz74_0, hfz74_1⟩ := bo2 BK127) | ((with_reducible refine gate_callee (f := 13) rfl ?_); refine gl (some 9) Try.func13 #[.agg #[.slice A0_0 l0_0.length c0_0, .slice A0_1 l0_1.length c0_1]] ?_; (with_reducible refine (shape_Check.calls k _ _ l0_0 _ _ l0_1 t128 _ ?side1 ?side2 ?side3 ?side4 A2.out).mono ?_); (case side1 => exact cw HR0_0 HB); (case side2 => exact HC0_0.out); (case side3 => exact cw HR0_1 HB); (case side4 => exact HC0_1.out); rintro e w75 ⟨rfl, hb⟩; refine ⟨_, rfl, ?_⟩; replace BK127 := Aside0.mk (bw BK127 hb); replace HB := Aside0.mk (below_step bb hb); (try clear hb); (try clear hb2); (try clear hk); (try clear hi)))
  go_ret
  exact ⟨_, ew, by first | exact Kd.S_nil _ _ _ _ _ | exact Kd.N_nil _ _ _ _ _ | exact Kd.V_nil _ _ _ _ _ | exact Kd.Q_nil _ _ _ _ _ | exact Kd.R_nil _ _ _ _ _, bb⟩
 rw [if_pos c3] at H
 have c3b0 : (t128 == 0) = true := beq_iff_eq.mpr c3
 have c3b1 : (t128 != 0) = false := bne_eq_false_iff_eq.mpr c3
 clear c3
 by_cases c4 : 0 ≤ (l0_0.length : Int)
 rotate_left
 ·
  rw [if_neg c4] at H
  exact absurd H (by simp)
 rw [if_pos c4] at H
 have c4b0 := eq_true c4
 have c4b1 : decide (0 ≤ (l0_0.length : Int)) = true := decide_eq_true c4
 clear c4
 by_cases c5 : ((l0_0.length : Int) : Int).toNat ≤ 11728124029610
 rotate_left
 ·
  rw [if_neg c5] at H
  exact absurd H (by simp)
 rw [if_pos c5] at H
 have c5b0 := eq_true c5
 have c5b1 : decide (((l0_0.length : Int) : Int).toNat ≤ 11728124029610) = true := decide_eq_true c5
 clear c5
 obtain ⟨y129, hy129⟩ : ∃ y_ : List (List Bool), y_ = (List.replicate ((l0_0.length : Int) : Int).toNat []) := ⟨_, rfl⟩
 replace H : (shape_Ahead.l0 k y129 l0_0 (l0_0.length : Int) 0 l0_0 l0_1) = some r := by first | (rw [hy129]; with_reducible exact H) | (have H2_ := (Option.bind_some _ _).symm.trans H; rw [hy129]; with_reducible exact H2_) | (have H2_ := (Option.bind_some _ _).symm.trans H; with_reducible exact H2_) | with_reducible exact H | (rw [hy129]; exact H) | exact H
 have Ny129 := Aside0.mk hy129
 clear hy129
 have H' := Aside0.mk H
 clear H
 go_enter Try.func8, Try.ntmps8
 go_wp2_with (first | ((with_reducible refine gate_dst (N := 1) rfl ?_); refine bx 1 #[.slice A0_0 l0_0.length c0_0, .slice A0_1 l0_1.length c0_1] 25 ?_; intro gb127 hg w6 hbox hb; have BK127 := Aside0.mk (hbox); have GW127 := Aside0.mk ((bz hg : w.heap.size ≤ gb127)); have GE127 := Aside0.mk ((bz hg : w.heap.size ≤ gb127)); replace HB := Aside0.mk (below_step bb hb); clear hb hbox hg; obtain ⟨hcz7_0, hcz7_1, hfz7_0, hfz7_1⟩ := bo2 BK127) | ((with_reducible refine gate_callee (f := 13) rfl ?_); refine gl (some 9) Try.func13 #[.agg #[.slice A0_0 l0_0.length c0_0, .slice A0_1 l0_1.length c0_1]] ?_; (with_reducible refine (shape_Check.calls k _ _ l0_0 _ _ l0_1 t128 _ ?side1 ?side2 ?side3 ?side4 A2.out).mono ?_); (case side1 => exact cw HR0_0 HB); (case side2 => exact HC0_0.out); (case side3 => exact cw HR0_1 HB); (case side4 => exact HC0_1.out); rintro e w8 ⟨rfl, hb⟩; refine ⟨_, rfl, ?_⟩; replace BK127 := Aside0.mk (bw BK127 hb); replace HB := Aside0.mk (below_step bb hb); (try clear hb); (try clear hb2); (try clear hk); (try clear hi); obtain ⟨hcz9_0, hcz9_1, hfz9_0, hfz9_1⟩ := bo2 BK127) | ((with_reducible refine gate_dst (N := 14) rfl ?_); refine Kd.S_make (Kd.slice 4 Kd.bool) _ 33 rfl (N := 14) rfl 28 _ _ rfl (l0_0.length : Int) rfl rfl Try.underlying28 (.slice none 0 0) 24 info33 rfl (by decide) (by omega) [] (ok := fun _ => True) (okp := fun _ => True) ⟨_, rfl, Kd.R_nil _ _ _ _ _⟩ (fun _ hk => hk) trivial (od) (Nat.le_trans (Nat.mul_le_mul_right _ (od : (l0_0.length : Int).toNat ≤ 11728124029610)) (by omega)) (Below.refl _ _) (Nat.le_refl _) ?_; intro v130 w10 ho11 hb hg_ hnew_; clear hg_ hnew_; (first | rw [← Ny129.out] at ho11 | (simp only [Int.reduceToNat] at ho11; rw [← Ny129.out] at ho11)); have HO131 := Aside0.mk (Kd.S_lower ho11 (below_size bb)); replace BK127 := Aside0.mk (bw BK127 hb); replace HB := Aside0.mk (below_step bb hb); clear hb ho11; obtain ⟨hcz12_0, hcz12_1, hfz12_0, hfz12_1⟩ := bo2 BK127))
 go_loopg [18] k (fun kq v18 w' => ∃ (x3_1 : List (List Bool)) (x18_1 : Int), v18 = .int .i64 x18_1 ∧ Aside0 (shape_Ahead.l0 kq x3_1 l0_0 (l0_0.length : Int) x18_1 l0_0 l0_1 = some r) ∧ Aside0 (kq ≤ k) ∧ Aside0 (Kd.S (Kd.slice 4 Kd.bool) 33 w' w.heap.size (fun _ => True) v130 x3_1) ∧ Aside0 (w'.heap[gb127]? = some (.cells #[(.slice A0_0 l0_0.length c0_0), (.slice A0_1 l0_1.length c0_1)] 25 (0, 0))) ∧ Aside0 (Below w.heap.size w w'))
 case atStart => exact ⟨(y129), (0), rs, H', ⟨Nat.le_refl _⟩, ⟨by refine sm ?_; exact HO131.out⟩, ⟨bk BK127⟩, ⟨bb⟩⟩
 case round =>
  clear H'
  try clear c1
  try clear p2
  try clear c3
  try clear c3b0
  try clear c3b1
  try clear c4
  try clear c4b0
  try clear c4b1
  try clear c5
  try clear c5b0
  try clear c5b1
  try clear c8
  try clear hcz12_0
  try clear hcz12_1
  try clear hcz7_0
  try clear hcz7_1
  try clear hcz9_0
  try clear hcz9_1
  try clear hfz12_0
  try clear hfz12_1
  try clear hfz7_0
  try clear hfz7_1
  try clear hfz9_0
  try clear hfz9_1
  obtain ⟨x3_1, x18_1, rfl, HA, HK1, HO_3, BK127, HB⟩ := hrel
  cases gk with
  | zero => exact absurd HA.out (by simp [shape_Ahead.l0])
  | succ k1 =>
   have H := HA.out
   clear HA
   simp only [shape_Ahead.l0] at H
   by_cases c13 : x18_1 < (l0_0.length : Int)
   rotate_left
   ·
    rw [if_neg c13] at H
    have c13b0 : decide (x18_1 < (l0_0.length : Int)) = false := decide_eq_false c13
    try (have c13b6_hl3_2 := c13b0; simp only [hl3_2] at c13b6_hl3_2)
    clear c13
    replace H := Option.bind_eq_some_iff.mp H
    obtain ⟨t132, A700, H⟩ := H
    replace H : (some t132) = some r := H
    have A70 := Aside0.mk A700
    clear A700
    obtain rfl := Option.some.inj H
    obtain ⟨Ao71, co71, eo71⟩ := Kd.S_slice HO_3.out
    subst eo71
    go_wp2_with (first | ((with_reducible refine gate_callee (f := 19) rfl ?_); refine gl (some 67) Try.func19 #[.slice Ao71 x3_1.length co71] ?_; (with_reducible refine (rank_Closure.calls k1 _ _ x3_1 t132 _ ?side1 ?side2 A70.out).mono ?_); (case side1 => repeat (first | exact (Kd.S_reads' HO_3.out).2.2 | (with_reducible refine Kd.C_alloc ?_ _) | (with_reducible refine Kd.C_drewN ?_ _) | (with_reducible refine Kd.C_drew ?_))); (case side2 => exact (Kd.S_reads' HO_3.out).2.1); rintro e w72 ⟨v133, rfl, ho0, hb⟩; refine ⟨_, rfl, ?_⟩; have HO134 := Aside0.mk (Kd.S_lower (Kd.S_new' ho0 (Kd.S_lt (sk HO_3))) (below_size bb)); replace HO_3 := Aside0.mk (Kd.S_elder' (sk HO_3) (Kd.S_base ho0) hb); replace BK127 := Aside0.mk (bw BK127 hb); replace HB := Aside0.mk (below_step bb hb); (try clear hb); (try clear hb2); (try clear hk); (try clear hi); (try clear ho0)))
    go_ret
    exact ⟨_, ew, by refine sm ?_; exact Kd.S_mono HO134.out (fun _ hk => trivial), bb⟩
   rw [if_pos c13] at H
   have c13b0 : decide (x18_1 < (l0_0.length : Int)) = true := decide_eq_true c13
   try (have c13b6_hl3_2 := c13b0; simp only [hl3_2] at c13b6_hl3_2)
   clear c13
   by_cases c14 : 0 ≤ x18_1
   rotate_left
   ·
    rw [if_neg c14] at H
    exact absurd H (by simp)
   rw [if_pos c14] at H
   have c14b0 : decide (0 ≤ x18_1) = true := decide_eq_true c14
   clear c14
   by_cases c15 : x18_1 < (l0_0.length : Int)
   rotate_left
   ·
    rw [if_neg c15] at H
    exact absurd H (by simp)
   rw [if_pos c15] at H
   have c15b0 : decide (x18_1 < (l0_0.length : Int)) = true := decide_eq_true c15
   try (have c15b6_hl3_2 := c15b0; simp only [hl3_2] at c15b6_hl3_2)
   clear c15
   by_cases c16 : 0 ≤ (l0_0.length : Int)
   rotate_left
   ·
    rw [if_neg c16] at H
    exact absurd H (by simp)
   rw [if_pos c16] at H
   have c16b0 := eq_true c16
   have c16b1 : decide (0 ≤ (l0_0.length : Int)) = true := decide_eq_true c16
   clear c16
   by_cases c17 : ((l0_0.length : Int) : Int).toNat ≤ 281474976710656
   rotate_left
   ·
    rw [if_neg c17] at H
    exact absurd H (by simp)
   rw [if_pos c17] at H
   have c17b0 := eq_true c17
   have c17b1 : decide (((l0_0.length : Int) : Int).toNat ≤ 281474976710656) = true := decide_eq_true c17
   clear c17
   obtain ⟨y137, hy137⟩ : ∃ y_ : List Bool, y_ = (List.replicate ((l0_0.length : Int) : Int).toNat false) := ⟨_, rfl⟩
   replace H : (if x18_1 < (x3_1.length : Int) then (shape_Ahead.l1 k1 (x3_1.set (x18_1 : Int).toNat y137) x18_1 l0_0 (l0_0.length : Int) x18_1 l0_0 (l0_0.length : Int) 0 l0_0 l0_1 ((rd_T38 l0_0 x18_1).f0) ((rd_T38 l0_0 x18_1).f1) ((rd_T38 l0_0 x18_1).f2) ((rd_T38 l0_0 x18_1).f3)) else (none)) = some r := by first | (rw [hy137]; with_reducible exact H) | (have H2_ := (Option.bind_some _ _).symm.trans H; rw [hy137]; with_reducible exact H2_) | (have H2_ := (Option.bind_some _ _).symm.trans H; with_reducible exact H2_) | with_reducible exact H | (rw [hy137]; exact H) | exact H
   have Ny137 := Aside0.mk hy137
   clear hy137
   by_cases c18 : x18_1 < (x3_1.length : Int)
   rotate_left
   ·
    rw [if_neg c18] at H
    exact absurd H (by simp)
   rw [if_pos c18] at H
   have c18b0 : decide (x18_1 < (x3_1.length : Int)) = true := decide_eq_true c18
   try (have c18b6_hl3_2 := c18b0; simp only [hl3_2] at c18b6_hl3_2)
   clear c18
   obtain ⟨y140, hy140⟩ : ∃ y_ : List (List Bool), y_ = (x3_1.set (x18_1 : Int).toNat y137) := ⟨_, rfl⟩
   replace H : (shape_Ahead.l1 k1 y140 x18_1 l0_0 (l0_0.length : Int) x18_1 l0_0 (l0_0.length : Int) 0 l0_0 l0_1 ((rd_T38 l0_0 x18_1).f0) ((rd_T38 l0_0 x18_1).f1) ((rd_T38 l0_0 x18_1).f2) ((rd_T38 l0_0 x18_1).f3)) = some r := by first | (rw [hy140]; with_reducible exact H) | (have H2_ := (Option.bind_some _ _).symm.trans H; rw [hy140]; with_reducible exact H2_) | (have H2_ := (Option.bind_some _ _).symm.trans H; with_reducible exact H2_) | with_reducible exact H | (rw [hy140]; exact H) | exact H
   have Ny140 := Aside0.mk hy140
   clear hy140
   have H' := Aside0.mk H
   clear H
   have p135 : 0 ≤ (x18_1 : Int) := od
   have q135 : x18_1 < (l0_0.length : Int) := od
   obtain ⟨ad135, e135, hx135_0, hx135_1, hx135_2, hx135_3⟩ := at_T38 HR0_0.out x18_1 p135 q135
   cases e135
   replace hx135_0 := bl HB hx135_0
   replace hx135_1 := bl HB hx135_1
   replace hx135_2 := bl HB hx135_2
   replace hx135_3 := bl HB hx135_3
   replace p135 := eq_true p135
   replace q135 := eq_true q135
   go_wp2_with (first | ((with_reducible refine gate_dst (N := 5) rfl ?_); refine bx 5 #[.int .i64 0, .int .i64 0, .int .i64 0, .int .i64 0] 38 ?_; intro gb136 hg w20 hbox hb; replace HO_3 := Aside0.mk (Kd.S_below (sk HO_3) hb); have BK136 := Aside0.mk (hbox); have GW136 := Aside0.mk ((bz hg : w.heap.size ≤ gb136)); have GE136 := Aside0.mk ((bz hg : w.heap.size ≤ gb136)); replace HB := Aside0.mk (below_step bb hb); have NB127_136 := Aside0.mk (nl BK127 hg); have NB136_127 := Aside0.mk (ng BK127 hg); replace BK127 := Aside0.mk (bw BK127 hb); clear hb hbox hg; have hnb21 := NB136_127.out; have hnc21 := NB127_136.out; obtain ⟨hcz22_0, hcz22_1, hcz22_2, hcz22_3, hfz22_0, hfz22_1, hfz22_2, hfz22_3⟩ := bo4 BK136; obtain ⟨hcz23_0, hcz23_1, hfz23_0, hfz23_1⟩ := bo2 BK127) | ((with_reducible refine gate_dst (N := 28) rfl ?_); refine Kd.R_make Kd.bool _ 4 rfl (N := 28) rfl 33 _ _ rfl (l0_0.length : Int) rfl rfl Try.underlying33 (.bool false) 1 info4 rfl (by decide) (by omega) false (ok := fun _ => True) (okp := fun _ => True) rfl (fun _ hk => hk) trivial (od) (Nat.le_trans (Nat.mul_le_mul_right _ (od : (l0_0.length : Int).toNat ≤ 281474976710656)) (by omega)) (Below.refl _ _) (Nat.le_refl _) ?_; intro v138 w24 ho25 hb hg_ hnew_; have hmx_v138 := cells_slice (Kd.R_slice ho25); unfold Value.cells at hmx_v138; have hst_v138 := fun (a_ : Addr) (W_ : World) (m_ : Mode) => run_store Try.prog W_ a_ v138 m_ (one_slice (Kd.R_slice ho25)); clear hg_ hnew_; (first | rw [← Ny137.out] at ho25 | (simp only [Int.reduceToNat] at ho25; rw [← Ny137.out] at ho25)); replace HO_3 := Aside0.mk (Kd.S_elder' (sm ((Kd.S_mono (Kd.S_far (p := ⟨gb136, 3, none⟩) (Kd.S_far (p := ⟨gb136, 2, none⟩) (Kd.S_far (p := ⟨gb136, 1, none⟩) (Kd.S_far (p := ⟨gb136, 0, none⟩) (Kd.S_types HO_3.out BK136.out (by decide)) (fun _ hk => hk.2) (.int .i64 ((rd_T38 l0_0 x18_1).f0))) (fun _ hk => hk.2) (.int .i64 ((rd_T38 l0_0 x18_1).f1))) (fun _ hk => hk.2) (.int .i64 ((rd_T38 l0_0 x18_1).f2))) (fun _ hk => hk.2) (.int .i64 ((rd_T38 l0_0 x18_1).f3))) (fun _ h_ => h_.1)))) (Kd.R_base ho25) hb); have HO139 := Aside0.mk (Kd.R_lower ho25 (below_size bb)); replace BK127 := Aside0.mk (blk_below (g := gb127) (o := .cells #[.slice (some ad135) l0_0.length c0_0, .slice A0_1 l0_1.length c0_1] 25 (0, 0)) (by refine bm ?_; refine blk_far ?_ NB127_136.out _; refine bm ?_; refine blk_far ?_ NB127_136.out _; refine bm ?_; refine blk_far ?_ NB127_136.out _; refine bm ?_; refine blk_far ?_ NB127_136.out _; refine bm ?_; exact BK127.out) hb); replace BK136 := Aside0.mk (blk_below (g := gb136) (o := .cells #[.int .i64 ((rd_T38 l0_0 x18_1).f0), .int .i64 ((rd_T38 l0_0 x18_1).f1), .int .i64 ((rd_T38 l0_0 x18_1).f2), .int .i64 ((rd_T38 l0_0 x18_1).f3)] 38 (0, 0)) (by refine bm ?_; refine blk_put (cs := #[.int .i64 ((rd_T38 l0_0 x18_1).f0), .int .i64 ((rd_T38 l0_0 x18_1).f1), .int .i64 ((rd_T38 l0_0 x18_1).f2), .int .i64 0]) ?_ 3 _ rfl; refine bm ?_; refine blk_put (cs := #[.int .i64 ((rd_T38 l0_0 x18_1).f0), .int .i64 ((rd_T38 l0_0 x18_1).f1), .int .i64 0, .int .i64 0]) ?_ 2 _ rfl; refine bm ?_; refine blk_put (cs := #[.int .i64 ((rd_T38 l0_0 x18_1).f0), .int .i64 0, .int .i64 0, .int .i64 0]) ?_ 1 _ rfl; refine bm ?_; refine blk_put (cs := #[.int .i64 0, .int .i64 0, .int .i64 0, .int .i64 0]) ?_ 0 _ rfl; refine bm ?_; exact BK136.out) hb); replace HB := Aside0.mk (below_step bb hb); clear hb ho25; have p19 : 0 ≤ (x18_1 : Int) := od; have q19 : (x18_1 : Int) < ((x3_1.length : Int) : Int) := od; obtain ⟨go19, co19, eo19, gb19, gl19, cl19, HG19⟩ := Kd.S_form HO_3.out (by omega); (first | cases eo19 | (injection eo19 with ea_ en_ ec_; (first | subst ea_ | (injection ea_ with ea_; subst ea_)); subst ec_; clear en_)); have GB19 := Aside0.mk gb19; have GG19 := Aside0.mk HG19; clear gb19 gl19 HG19; obtain ⟨_, ce19, hcl19, hM19, hcc19, hfr19, _, _⟩ := Kd.S_elem HO_3.out [] (x18_1 : Int) p19 q19; obtain ⟨ve19_0, rfl, ge19_0⟩ := hM19; have hx19_0 := hcc19 0 _ rfl; have hf19_0 := hfr19 0; (try simp only [show ((Kd.slice 4 Kd.bool)).sz = 1 from rfl, Nat.mul_one, Nat.add_zero] at hx19_0); (try simp only [show ((Kd.slice 4 Kd.bool)).sz = 1 from rfl, Nat.mul_one, Nat.add_zero] at hf19_0); clear hcl19 hcc19 hfr19; (try clear hM19); replace p19 := eq_true p19; replace q19 := eq_true q19; have n_ := Aside0.mk (Kd.S_mono (ok' := (fun k_ => some k_ ≠ (v138 : Value).ownBlock)) HO_3.out (fun k_ hk => hk.2)); clear HO_3; have HO_3 := n_; clear n_; have HX26 := Aside0.mk (show Kd.S (Kd.slice 4 Kd.bool) 33 w24 w.heap.size (fun k_ => ((fun _ => True)) k_ ∧ ¬ ((fun k_ => some k_ = (v138 : Value).ownBlock)) k_) (.slice (some ⟨go19, 0, none⟩) x3_1.length co19) x3_1 from (sm (Kd.S_mono HO_3.out (fun k_ hk => ⟨trivial, fun e_ => hk e_⟩)))); obtain ⟨oki26, ce26, hcl26, hM26, hcc26, hfr26, hoki26, hH26⟩ := Kd.S_elem HX26.out [] (x18_1 : Int) (od) (by have h_ : (x18_1 : Int) < ((x3_1.length : Int) : Int) := od; first | exact h_ | (have e_ := (Kd.S_reads' HO_3.out).1; omega) | simpa using h_); obtain ⟨ve26_0, rfl, ge26_0⟩ := hM26; have HP26 := Kd.S_seg hH26 (od) (by have h_ : (x18_1 : Int) < ((x3_1.length : Int) : Int) := od; first | exact h_ | (have e_ := (Kd.S_reads' HO_3.out).1; omega) | simpa using h_) (seg := [v138]) (j := 0) (show 1 ≤ 1 from by decide) (x' := y137) (Kd.M_row (Kd.R_mono (Kd.R_tight rfl (Kd.R_mono (ok' := fun k_ => ((fun _ => True)) k_ ∧ k_ ≠ go19) (Kd.R_apart' (HO139.out) (Kd.S_typed HO_3.out) (by decide)) (fun k_ hk => ⟨trivial, fun e_ => (hk.2) (by rw [e_]; rfl)⟩))) (fun _ h_ => Or.inr (h_)))) (fun _ hk => hk) (fun k_ hk_ => ((Kd.R_mono (ok' := fun k_ => ((fun _ => True)) k_ ∧ k_ ≠ go19) (Kd.R_apart' (HO139.out) (Kd.S_typed HO_3.out) (by decide)) (fun k_ hk => ⟨trivial, fun e_ => (hk.2) (by rw [e_]; rfl)⟩))).1 k_ hk_.symm); have hx26_0 := hcc26 0 _ rfl; (try simp only [show ((Kd.slice 4 Kd.bool)).sz = 1 from rfl, Nat.mul_one, Nat.add_zero] at hx26_0); have hf26_0 := hfr26 0; (try simp only [show ((Kd.slice 4 Kd.bool)).sz = 1 from rfl, Nat.mul_one, Nat.add_zero] at hf26_0); clear hcl26 hcc26 hfr26 hoki26 hH26; (try clear hM26); (try simp only [show ((Kd.slice 4 Kd.bool)).sz = 1 from rfl, Nat.mul_one, Nat.add_zero] at HP26)) | ((with_reducible refine gate_store (t := 33) (p := 29) rfl ?_); refine store_event (t := 33) (p := 29) (v := ?vo_w27) (w1 := (w24.setCell ⟨go19, (x18_1 : Int).toNat, none⟩ (v138))) ?hg ?ho ?hn ?hr ?_; (case ho => rfl); (case hg => rfl); (case hn => rfl); (case hr => first | (go_simp; done) | (go_simp; rfl)); intro w27 hw; have hg : w24.grownBy w27 (some go19) := (by rw [hw]; exact HP26.2); have hp_ : Kd.S (Kd.slice 4 Kd.bool) 33 w27 w.heap.size (fun _ => True) (.slice (some ⟨go19, 0, none⟩) x3_1.length co19) y140 := (by rw [hw, Ny140.out]; exact HP26.1); clear HP26; replace BK127 := Aside0.mk (blk_grown (g := gb127) (o := .cells #[.slice (some ad135) l0_0.length c0_0, .slice A0_1 l0_1.length c0_1] 25 (0, 0)) (bk BK127) hg (Kd.S_ne HO_3.out BK127.out (by decide))); replace BK136 := Aside0.mk (blk_grown (g := gb136) (o := .cells #[.int .i64 ((rd_T38 l0_0 x18_1).f0), .int .i64 ((rd_T38 l0_0 x18_1).f1), .int .i64 ((rd_T38 l0_0 x18_1).f2), .int .i64 ((rd_T38 l0_0 x18_1).f3)] 38 (0, 0)) (bk BK136) hg (Kd.S_ne HO_3.out BK136.out (by decide))); replace HO_3 := Aside0.mk (hp_); replace HB := Aside0.mk ((by rw [hw]; exact below_set (HB.out) GB19.out : Below w.heap.size w w27)); clear HO139; clear hg hw hp_; obtain ⟨hcz28_0, hcz28_1, hfz28_0, hfz28_1⟩ := bo2 BK127))
   go_loopg [33] k1 (fun kq v33 w' => ∃ (x3_2 : List (List Bool)) (x33_2 : Int), v33 = .int .i64 x33_2 ∧ Aside0 (shape_Ahead.l1 kq x3_2 x18_1 l0_0 (l0_0.length : Int) x18_1 l0_0 (l0_0.length : Int) x33_2 l0_0 l0_1 ((rd_T38 l0_0 x18_1).f0) ((rd_T38 l0_0 x18_1).f1) ((rd_T38 l0_0 x18_1).f2) ((rd_T38 l0_0 x18_1).f3) = some r) ∧ Aside0 (kq ≤ k1) ∧ Aside0 (Kd.S (Kd.slice 4 Kd.bool) 33 w' w.heap.size (fun _ => True) (.slice (some ⟨go19, 0, none⟩) x3_1.length co19) x3_2) ∧ Aside0 (w'.heap[gb127]? = some (.cells #[(.slice (some ad135) l0_0.length c0_0), (.slice A0_1 l0_1.length c0_1)] 25 (0, 0))) ∧ Aside0 (w'.heap[gb136]? = some (.cells #[.int .i64 ((rd_T38 l0_0 x18_1).f0), .int .i64 ((rd_T38 l0_0 x18_1).f1), .int .i64 ((rd_T38 l0_0 x18_1).f2), .int .i64 ((rd_T38 l0_0 x18_1).f3)] 38 (0, 0))) ∧ Aside0 (Below w.heap.size w w'))
   case atStart => exact ⟨(y140), (0), rs, H', ⟨Nat.le_refl _⟩, ⟨by refine sm ?_; exact HO_3.out⟩, ⟨bk BK127⟩, ⟨bk BK136⟩, ⟨bb⟩⟩
   case round =>
    clear H'
    try clear c1
    try clear p1
    try clear q1
    try clear hx1
    try clear hf1
    try clear c2
    try clear p2
    try clear hx2
    try clear hf2
    try clear c3
    try clear c3b0
    try clear c3b1
    try clear c4
    try clear c4b0
    try clear c4b1
    try clear c5
    try clear c5b0
    try clear c5b1
    try clear c8
    try clear c13
    try clear c13b0
    try clear p13
    try clear q13
    try clear hx13
    try clear c14
    try clear c14b0
    try clear c15
    try clear c15b0
    try clear c16
    try clear c16b0
    try clear c16b1
    try clear c17
    try clear c17b0
    try clear c17b1
    try clear c18
    try clear c18b0
    try clear c19
    try clear p19
    try clear q19
    try clear hx19
    try clear hf19
    try clear c21
    try clear c26
    try clear hx26
    try clear hf26
    try clear hcz12_0
    try clear hcz12_1
    try clear hcz22_0
    try clear hcz22_1
    try clear hcz22_2
    try clear hcz22_3
    try clear hcz23_0
    try clear hcz23_1
    try clear hcz28_0
    try clear hcz28_1
    try clear hcz7_0
    try clear hcz7_1
    try clear hcz9_0
    try clear hcz9_1
    try clear hfz12_0
    try clear hfz12_1
    try clear hfz22_0
    try clear hfz22_1
    try clear hfz22_2
    try clear hfz22_3
    try clear hfz23_0
    try clear hfz23_1
    try clear hfz28_0
    try clear hfz28_1
    try clear hfz7_0
    try clear hfz7_1
    try clear hfz9_0
    try clear hfz9_1
    try clear hx135_0
    try clear hx135_1
    try clear hx135_2
    try clear hx135_3
    try clear hx19_0
    try clear hx26_0
    try clear p135
    try clear q135
    obtain ⟨x3_2, x33_2, rfl, HA, HK2, HO_3, BK127, BK136, HB⟩ := hrel
    have hl3_2 := (Kd.S_reads' HO_3.out).1
    rw [hl3_2] at HO_3
    (try simp only [hl3_2])
    (try simp only [hl3_2] at BK127)
    (try simp only [hl3_2] at BK136)
    cases gk with
    | zero => exact absurd HA.out (by simp [shape_Ahead.l1])
    | succ k2 =>
     have H := HA.out
     clear HA
     simp only [shape_Ahead.l1] at H
     by_cases c29 : x33_2 < (l0_0.length : Int)
     rotate_left
     ·
      rw [if_neg c29] at H
      have c29b0 : decide (x33_2 < (l0_0.length : Int)) = false := decide_eq_false c29
      try (have c29b6_hl3_2 := c29b0; simp only [hl3_2] at c29b6_hl3_2)
      clear c29
      have H' := Aside0.mk H
      clear H
      go_wp2
      (try simp only [← hl3_2])
      go_roundg k2
      case measure => have := HK1.out; have := HK2.out; omega
      case rel => exact ⟨(x3_2), (wrap64 (x18_1 + 1)), rs, H', ⟨by have := HK1.out; have := HK2.out; omega⟩, ⟨by (try simp only [hl3_2]); refine sm ?_; exact HO_3.out⟩, ⟨by (try simp only [hl3_2]); refine bm ?_; exact BK127.out⟩, ⟨bb⟩⟩
     rw [if_pos c29] at H
     have c29b0 : decide (x33_2 < (l0_0.length : Int)) = true := decide_eq_true c29
     try (have c29b6_hl3_2 := c29b0; simp only [hl3_2] at c29b6_hl3_2)
     clear c29
     by_cases c30 : 0 ≤ x33_2
     rotate_left
     ·
      rw [if_neg c30] at H
      exact absurd H (by simp)
     rw [if_pos c30] at H
     have c30b0 : decide (0 ≤ x33_2) = true := decide_eq_true c30
     clear c30
     by_cases c31 : x33_2 < (l0_0.length : Int)
     rotate_left
     ·
      rw [if_neg c31] at H
      exact absurd H (by simp)
     rw [if_pos c31] at H
     have c31b0 : decide (x33_2 < (l0_0.length : Int)) = true := decide_eq_true c31
     try (have c31b6_hl3_2 := c31b0; simp only [hl3_2] at c31b6_hl3_2)
     clear c31
     by_cases c32 : 0 ≤ x18_1
     rotate_left
     ·
      rw [if_neg c32] at H
      exact absurd H (by simp)
     rw [if_pos c32] at H
     have c32b0 : decide (0 ≤ x18_1) = true := decide_eq_true c32
     clear c32
     by_cases c33 : x18_1 < (x3_2.length : Int)
     rotate_left
     ·
      rw [if_neg c33] at H
      exact absurd H (by simp)
     rw [if_pos c33] at H
     have c33b0 : decide (x18_1 < (x3_2.length : Int)) = true := decide_eq_true c33
     try (have c33b6_hl3_2 := c33b0; simp only [hl3_2] at c33b6_hl3_2)
     clear c33
     by_cases c34 : ((rd_T38 l0_0 x18_1).f0) = ((rd_T38 l0_0 x33_2).f0)
     rotate_left
     ·
      rw [if_neg c34] at H
      have c34b0 : (((rd_T38 l0_0 x18_1).f0) == ((rd_T38 l0_0 x33_2).f0)) = false := beq_eq_false_iff_ne.mpr c34
      have c34b1 : (((rd_T38 l0_0 x18_1).f0) != ((rd_T38 l0_0 x33_2).f0)) = true := bne_iff_ne.mpr c34
      by_cases c58 : 0 ≤ ((rd_T38 l0_0 x33_2).f0)
      rotate_left
      ·
       rw [if_neg c58] at H
       exact absurd H (by simp)
      rw [if_pos c58] at H
      have c58b0 : decide (0 ≤ ((rd_T38 l0_0 x33_2).f0)) = true := decide_eq_true c58
      clear c58
      by_cases c59 : ((rd_T38 l0_0 x33_2).f0) < (l0_1.length : Int)
      rotate_left
      ·
       rw [if_neg c59] at H
       exact absurd H (by simp)
      rw [if_pos c59] at H
      have c59b0 : decide (((rd_T38 l0_0 x33_2).f0) < (l0_1.length : Int)) = true := decide_eq_true c59
      try (have c59b6_hl3_2 := c59b0; simp only [hl3_2] at c59b6_hl3_2)
      clear c59
      by_cases c60 : x33_2 < ((rd_L3 x3_2 x18_1).length : Int)
      rotate_left
      ·
       rw [if_neg c60] at H
       exact absurd H (by simp)
      rw [if_pos c60] at H
      have c60b0 : decide (x33_2 < ((rd_L3 x3_2 x18_1).length : Int)) = true := decide_eq_true c60
      try (have c60b6_hl3_2 := c60b0; simp only [hl3_2] at c60b6_hl3_2)
      clear c60
      obtain ⟨y152, hy152⟩ : ∃ y_ : List Bool, y_ = ((rd_L3 x3_2 x18_1).set (x33_2 : Int).toNat ((rd l0_1 ((rd_T38 l0_0 x33_2).f0)) == x18_1)) := ⟨_, rfl⟩
      replace H : (shape_Ahead.l1 k2 (x3_2.set (x18_1 : Int).toNat y152) x18_1 l0_0 (l0_0.length : Int) x18_1 l0_0 (l0_0.length : Int) (wrap64 (x33_2 + 1)) l0_0 l0_1 ((rd_T38 l0_0 x18_1).f0) ((rd_T38 l0_0 x18_1).f1) ((rd_T38 l0_0 x18_1).f2) ((rd_T38 l0_0 x18_1).f3)) = some r := by first | (rw [hy152]; with_reducible exact H) | (have H2_ := (Option.bind_some _ _).symm.trans H; rw [hy152]; with_reducible exact H2_) | (have H2_ := (Option.bind_some _ _).symm.trans H; with_reducible exact H2_) | with_reducible exact H | (rw [hy152]; exact H) | exact H
      have Ny152 := Aside0.mk hy152
      clear hy152
      obtain ⟨y154, hy154⟩ : ∃ y_ : List (List Bool), y_ = (x3_2.set (x18_1 : Int).toNat y152) := ⟨_, rfl⟩
      replace H : (shape_Ahead.l1 k2 y154 x18_1 l0_0 (l0_0.length : Int) x18_1 l0_0 (l0_0.length : Int) (wrap64 (x33_2 + 1)) l0_0 l0_1 ((rd_T38 l0_0 x18_1).f0) ((rd_T38 l0_0 x18_1).f1) ((rd_T38 l0_0 x18_1).f2) ((rd_T38 l0_0 x18_1).f3)) = some r := by first | (rw [hy154]; with_reducible exact H) | (have H2_ := (Option.bind_some _ _).symm.trans H; rw [hy154]; with_reducible exact H2_) | (have H2_ := (Option.bind_some _ _).symm.trans H; with_reducible exact H2_) | with_reducible exact H | (rw [hy154]; exact H) | exact H
      have Ny154 := Aside0.mk hy154
      clear hy154
      have H' := Aside0.mk H
      clear H
      have p141 : 0 ≤ (x33_2 : Int) := od
      have q141 : x33_2 < (l0_0.length : Int) := od
      obtain ⟨ad141, e141, hx141_0, hx141_1, hx141_2, hx141_3⟩ := at_T38 HR0_0.out x33_2 p141 q141
      obtain rfl : ad135 = ad141 := (by injection e141)
      replace hx141_0 := bl HB hx141_0
      replace hx141_1 := bl HB hx141_1
      replace hx141_2 := bl HB hx141_2
      replace hx141_3 := bl HB hx141_3
      replace p141 := eq_true p141
      replace q141 := eq_true q141
      try go_wp2_with (first | ((with_reducible refine gate_dst (N := 7) rfl ?_); refine bx 7 #[.int .i64 0, .int .i64 0, .int .i64 0, .int .i64 0] 38 ?_; intro gb142 hg w62 hbox hb; replace HO_3 := Aside0.mk (Kd.S_below (sk HO_3) hb); have BK142 := Aside0.mk (hbox); have GW142 := Aside0.mk ((bz hg : w.heap.size ≤ gb142)); have GE142 := Aside0.mk ((bz hg : w.heap.size ≤ gb142)); replace HB := Aside0.mk (below_step bb hb); have NB127_142 := Aside0.mk (nl BK127 hg); have NB142_127 := Aside0.mk (ng BK127 hg); replace BK127 := Aside0.mk (bw BK127 hb); have NB136_142 := Aside0.mk (nl BK136 hg); have NB142_136 := Aside0.mk (ng BK136 hg); replace BK136 := Aside0.mk (bw BK136 hb); clear hb hbox hg; have hnb63 := NB142_127.out; have hnc63 := NB127_142.out; have hnb64 := NB142_136.out; have hnc64 := NB136_142.out; obtain ⟨hcz65_0, hcz65_1, hcz65_2, hcz65_3, hfz65_0, hfz65_1, hfz65_2, hfz65_3⟩ := bo4 BK142))
      have n0_ : Aside0 (Kd.S (Kd.slice 4 Kd.bool) 33 ((((w62.setCell ⟨gb142, 0, none⟩ (.int .i64 ((rd_T38 l0_0 x33_2).f0))).setCell ⟨gb142, 1, none⟩ (.int .i64 ((rd_T38 l0_0 x33_2).f1))).setCell ⟨gb142, 2, none⟩ (.int .i64 ((rd_T38 l0_0 x33_2).f2))).setCell ⟨gb142, 3, none⟩ (.int .i64 ((rd_T38 l0_0 x33_2).f3))) w.heap.size (fun _ => True) (.slice (some ⟨go19, 0, none⟩) x3_2.length co19) x3_2) := ⟨by refine sm ?_; exact Kd.S_mono (Kd.S_far (p := ⟨gb142, 3, none⟩) (Kd.S_far (p := ⟨gb142, 2, none⟩) (Kd.S_far (p := ⟨gb142, 1, none⟩) (Kd.S_far (p := ⟨gb142, 0, none⟩) (Kd.S_types HO_3.out BK142.out (by decide)) (fun _ hk => hk.2) (.int .i64 ((rd_T38 l0_0 x33_2).f0))) (fun _ hk => hk.2) (.int .i64 ((rd_T38 l0_0 x33_2).f1))) (fun _ hk => hk.2) (.int .i64 ((rd_T38 l0_0 x33_2).f2))) (fun _ hk => hk.2) (.int .i64 ((rd_T38 l0_0 x33_2).f3))) (fun _ hk => trivial)⟩
      have n1_ : Aside0 (((((w62.setCell ⟨gb142, 0, none⟩ (.int .i64 ((rd_T38 l0_0 x33_2).f0))).setCell ⟨gb142, 1, none⟩ (.int .i64 ((rd_T38 l0_0 x33_2).f1))).setCell ⟨gb142, 2, none⟩ (.int .i64 ((rd_T38 l0_0 x33_2).f2))).setCell ⟨gb142, 3, none⟩ (.int .i64 ((rd_T38 l0_0 x33_2).f3))).heap[gb127]? = some (.cells #[.slice (some ad135) l0_0.length c0_0, .slice A0_1 l0_1.length c0_1] 25 (0, 0))) := ⟨by refine bm ?_; refine blk_far ?_ NB127_142.out _; refine bm ?_; refine blk_far ?_ NB127_142.out _; refine bm ?_; refine blk_far ?_ NB127_142.out _; refine bm ?_; refine blk_far ?_ NB127_142.out _; refine bm ?_; exact BK127.out⟩
      have n2_ : Aside0 (((((w62.setCell ⟨gb142, 0, none⟩ (.int .i64 ((rd_T38 l0_0 x33_2).f0))).setCell ⟨gb142, 1, none⟩ (.int .i64 ((rd_T38 l0_0 x33_2).f1))).setCell ⟨gb142, 2, none⟩ (.int .i64 ((rd_T38 l0_0 x33_2).f2))).setCell ⟨gb142, 3, none⟩ (.int .i64 ((rd_T38 l0_0 x33_2).f3))).heap[gb136]? = some (.cells #[.int .i64 ((rd_T38 l0_0 x18_1).f0), .int .i64 ((rd_T38 l0_0 x18_1).f1), .int .i64 ((rd_T38 l0_0 x18_1).f2), .int .i64 ((rd_T38 l0_0 x18_1).f3)] 38 (0, 0))) := ⟨by refine bm ?_; refine blk_far ?_ NB136_142.out _; refine bm ?_; refine blk_far ?_ NB136_142.out _; refine bm ?_; refine blk_far ?_ NB136_142.out _; refine bm ?_; refine blk_far ?_ NB136_142.out _; refine bm ?_; exact BK136.out⟩
      have n3_ : Aside0 (((((w62.setCell ⟨gb142, 0, none⟩ (.int .i64 ((rd_T38 l0_0 x33_2).f0))).setCell ⟨gb142, 1, none⟩ (.int .i64 ((rd_T38 l0_0 x33_2).f1))).setCell ⟨gb142, 2, none⟩ (.int .i64 ((rd_T38 l0_0 x33_2).f2))).setCell ⟨gb142, 3, none⟩ (.int .i64 ((rd_T38 l0_0 x33_2).f3))).heap[gb142]? = some (.cells #[.int .i64 ((rd_T38 l0_0 x33_2).f0), .int .i64 ((rd_T38 l0_0 x33_2).f1), .int .i64 ((rd_T38 l0_0 x33_2).f2), .int .i64 ((rd_T38 l0_0 x33_2).f3)] 38 (0, 0))) := ⟨by refine bm ?_; refine blk_put (cs := #[.int .i64 ((rd_T38 l0_0 x33_2).f0), .int .i64 ((rd_T38 l0_0 x33_2).f1), .int .i64 ((rd_T38 l0_0 x33_2).f2), .int .i64 0]) ?_ 3 _ rfl; refine bm ?_; refine blk_put (cs := #[.int .i64 ((rd_T38 l0_0 x33_2).f0), .int .i64 ((rd_T38 l0_0 x33_2).f1), .int .i64 0, .int .i64 0]) ?_ 2 _ rfl; refine bm ?_; refine blk_put (cs := #[.int .i64 ((rd_T38 l0_0 x33_2).f0), .int .i64 0, .int .i64 0, .int .i64 0]) ?_ 1 _ rfl; refine bm ?_; refine blk_put (cs := #[.int .i64 0, .int .i64 0, .int .i64 0, .int .i64 0]) ?_ 0 _ rfl; refine bm ?_; exact BK142.out⟩
      have n4_ : Aside0 (Below w.heap.size w ((((w62.setCell ⟨gb142, 0, none⟩ (.int .i64 ((rd_T38 l0_0 x33_2).f0))).setCell ⟨gb142, 1, none⟩ (.int .i64 ((rd_T38 l0_0 x33_2).f1))).setCell ⟨gb142, 2, none⟩ (.int .i64 ((rd_T38 l0_0 x33_2).f2))).setCell ⟨gb142, 3, none⟩ (.int .i64 ((rd_T38 l0_0 x33_2).f3)))) := ⟨bb⟩
      (try clear HO_3)
      (try clear BK127)
      (try clear BK136)
      (try clear BK142)
      (try clear HB)
      generalize ((((w62.setCell ⟨gb142, 0, none⟩ (.int .i64 ((rd_T38 l0_0 x33_2).f0))).setCell ⟨gb142, 1, none⟩ (.int .i64 ((rd_T38 l0_0 x33_2).f1))).setCell ⟨gb142, 2, none⟩ (.int .i64 ((rd_T38 l0_0 x33_2).f2))).setCell ⟨gb142, 3, none⟩ (.int .i64 ((rd_T38 l0_0 x33_2).f3))) = w66 at n0_ n1_ n2_ n3_ n4_ ⊢
      have HO_3 := n0_
      have BK127 := n1_
      have BK136 := n2_
      have BK142 := n3_
      have HB := n4_
      clear n0_ n1_ n2_ n3_ n4_
      have n0_ := Aside0.mk (Kd.S_drew HO_3.out)
      have n1_ := Aside0.mk (blk_drew BK127.out)
      have n2_ := Aside0.mk (blk_drew BK136.out)
      have n3_ := Aside0.mk (blk_drew BK142.out)
      have n4_ := Aside0.mk (below_drew1 HB.out)
      clear HO_3
      clear BK127
      clear BK136
      clear BK142
      clear HB
      have HO_3 := n0_
      have BK127 := n1_
      have BK136 := n2_
      have BK142 := n3_
      have HB := n4_
      clear n0_ n1_ n2_ n3_ n4_
      have p143 : 0 ≤ (x18_1 : Int) := od
      have q143 : x18_1 < (x3_2.length : Int) := od
      obtain ⟨ad143, A143_0, c143_0, e143, hx143_0, hl143_0, hi143_0⟩ := at_L3 (Kd.S_reads' HO_3.out).2.2 x18_1 p143 q143
      obtain rfl : (⟨go19, 0, none⟩ : Addr) = ad143 := (by injection e143)
      obtain ⟨ce143, hce143, hMe143, hcc143⟩ := Kd.S_get HO_3.out [] x18_1 p143 (by first | exact q143 | exact od | (have e_ := (Kd.S_reads' HO_3.out).1; omega))
      obtain ⟨ve143_0, rfl, ge143_0⟩ := hMe143
      have hv143_0 := hcc143 0 _ rfl
      rw [Nat.add_zero, show ((Kd.slice 4 Kd.bool)).sz = 1 from rfl, Nat.mul_one] at hv143_0
      replace hv143_0 := Option.some.inj (hv143_0.symm.trans hx143_0)
      rw [hv143_0] at ge143_0
      have HL143_0 := Aside0.mk (show Kd.R Kd.bool 4 _ _ _ _ (rd_L3 x3_2 x18_1) from ge143_0)
      clear hv143_0 ge143_0
      have HX143_0 := Aside0.mk hx143_0
      clear hcc143 hce143
      (first | simp only [add_plain] at hx143_0 | simp only [add_at] at hx143_0 | simp only [Addr.add, Nat.zero_add] at hx143_0 | skip)
      have HR143_0 := Aside0.mk hi143_0
      have HC143_0 := Aside0.mk hl143_0
      clear hi143_0 hl143_0
      replace p143 := eq_true p143
      replace q143 := eq_true q143
      have p151 : 0 ≤ (((rd_T38 l0_0 x33_2).f0) : Int) := od
      have q151 : ((rd_T38 l0_0 x33_2).f0) < (l0_1.length : Int) := od
      obtain ⟨ad151, e151, hx151_0⟩ := Kd.at_int HR0_1.out ((rd_T38 l0_0 x33_2).f0) p151 q151
      have hw151_0 := hx151_0
      cases e151
      replace hx151_0 := bl HB hx151_0
      replace p151 := eq_true p151
      replace q151 := eq_true q151
      have p61 : 0 ≤ (x33_2 : Int) := od
      have q61 : (x33_2 : Int) < (((rd_L3 x3_2 x18_1).length : Int) : Int) := od
      obtain ⟨go61, co61, eo61, gb61, gl61, cl61, HG61⟩ := Kd.R_form HL143_0.out (by omega)
      (first | cases eo61 | (injection eo61 with ea_ en_ ec_; (first | subst ea_ | (injection ea_ with ea_; subst ea_)); subst ec_; clear en_))
      have GB61 := Aside0.mk gb61
      have GG61 := Aside0.mk HG61
      clear gb61 gl61 HG61
      obtain ⟨hx61_0, hf61_0⟩ := Kd.R_celln false HL143_0.out (x33_2 : Int) p61 q61
      replace p61 := eq_true p61
      replace q61 := eq_true q61
      have hq68 : (x18_1 : Int) < (x3_2.length : Int) := (by have h_ : (x18_1 : Int) < ((x3_2.length : Int) : Int) := od; first | exact h_ | (have e_ := (Kd.S_reads' HO_3.out).1; omega) | simpa only [List.length_set, List.length_set] using h_)
      obtain ⟨oki68, ce68, hcl68, hM68, hcc68, hok68, hbk68⟩ := Kd.S_borrow HO_3.out [] (x18_1 : Int) (od) hq68
      obtain ⟨ve68_0, rfl, ge68_0⟩ := hM68
      have hv68 := hcc68 0 _ rfl
      rw [Nat.add_zero, show ((Kd.slice 4 Kd.bool)).sz = 1 from rfl, Nat.mul_one] at hv68
      replace hv68 := Option.some.inj (hv68.symm.trans HX143_0.out)
      subst hv68
      clear hcc68 hcl68
      replace ge68_0 := (show Kd.R Kd.bool 4 _ _ _ _ (rd_L3 x3_2 x18_1) from ge68_0)
      have HP68 := Kd.R_putg ge68_0 (x33_2 : Int) ((rd l0_1 ((rd_T38 l0_0 x33_2).f0)) == x18_1)
      rw [← Ny152.out] at HP68
      have HS68 := hbk68 HP68.2 (fun k_ e_ => by injection e_ with e_; subst e_; exact ge68_0.1 _ rfl) (x' := y152) (Kd.M_row HP68.1)
      rw [← Ny154.out] at HS68
      have HQ68 := Aside0.mk HS68
      clear HP68 HS68 hbk68 hok68
      refine start_ (n := 27) (S := fun w' => w'.cell? ⟨gb136, 0, none⟩ = some (.int .i64 ((rd_T38 l0_0 x18_1).f0)) ∧ w'.cell? ⟨gb136, 1, none⟩ = some (.int .i64 ((rd_T38 l0_0 x18_1).f1)) ∧ w'.cell? ⟨gb136, 2, none⟩ = some (.int .i64 ((rd_T38 l0_0 x18_1).f2)) ∧ w'.cell? ⟨gb136, 3, none⟩ = some (.int .i64 ((rd_T38 l0_0 x18_1).f3)) ∧ w'.cell? ⟨gb142, 0, none⟩ = some (.int .i64 ((rd_T38 l0_0 x33_2).f0)) ∧ w'.cell? ⟨gb142, 1, none⟩ = some (.int .i64 ((rd_T38 l0_0 x33_2).f1)) ∧ w'.cell? ⟨gb142, 2, none⟩ = some (.int .i64 ((rd_T38 l0_0 x33_2).f2)) ∧ w'.cell? ⟨gb142, 3, none⟩ = some (.int .i64 ((rd_T38 l0_0 x33_2).f3)) ∧ w'.cell? ⟨gb127, 0, none⟩ = some (.slice (some ad135) l0_0.length c0_0) ∧ w'.cell? ⟨gb127, 1, none⟩ = some (.slice (some ad151) l0_1.length c0_1) ∧ w'.cell? ⟨go19, (x18_1).toNat, none⟩ = some (.slice (some ⟨go61, 0, none⟩) (rd_L3 x3_2 x18_1).length c143_0) ∧ w'.cell? (ad151.add (((rd_T38 l0_0 x33_2).f0)).toNat) = some (.int .i64 (rd l0_1 ((rd_T38 l0_0 x33_2).f0)))) (ds := [26]) #[false, false, false, false, false, false, false, false, false, false, false, false, false, false, false, false, false, false, false, false, false, false, false, false, false, false, false] (by kernel_rfl) rfl rfl ⟨(blk_cell BK136.out 0).trans rfl, (blk_cell BK136.out 1).trans rfl, (blk_cell BK136.out 2).trans rfl, (blk_cell BK136.out 3).trans rfl, (blk_cell BK142.out 0).trans rfl, (blk_cell BK142.out 1).trans rfl, (blk_cell BK142.out 2).trans rfl, (blk_cell BK142.out 3).trans rfl, (blk_cell BK127.out 0).trans rfl, (blk_cell BK127.out 1).trans rfl, hx143_0, (bl HB hw151_0)⟩ (fun hHeld => ?_); refine with_tabW shape_Ahead.tab11 shape_Ahead.bits11 (fun HT_ HW_ => ?_)
      generalize w66.drew = w67 at HO_3 BK127 BK136 BK142 HB GG61 HL143_0 HQ68 HR143_0 HX143_0 hf61_0 hx143_0 hx151_0 hx61_0 hHeld ⊢
      refine pv 0 38 HT_.out ?_
      refine pv 1 39 HT_.out ?_
      refine pv 2 40 HT_.out ?_
      refine pv 4 42 HT_.out ?_
      refine pv 5 43 HT_.out ?_
      refine pv 7 45 HT_.out ?_
      refine take_ (i := 3) (N := some 41) (v := ?_) (a' := ?_) #[true, true, true, true, true, true, false, true, false, false, false, false, false, false, false, false, false, false, false, false, false, false, false, false, false, false, false] rfl rfl (take_ofW HT_.out HW_.out (by kernel_rfl)) (fun _ _ _ h => h) (Or.inl ⟨by rfl, ?_⟩) hHeld ?_ ?_
      rotate_left
      ·
       rintro w' ⟨s0, s1, s2, s3, s4, s5, s6, s7, s8, s9, s10, s11⟩
       go_simp
       with_reducible rfl
      rotate_left
      ·
       simp only [Act.put, List.setIfInBounds_toArray, List.set_cons_zero, List.set_cons_succ, i64_w, i32_w]
       rfl
      refine take_ (i := 6) (N := some 44) (v := ?_) (a' := ?_) #[true, true, true, true, true, true, true, true, false, false, false, false, false, false, false, false, false, false, false, false, false, false, false, false, false, false, false] rfl rfl (take_ofW HT_.out HW_.out (by kernel_rfl)) (fun _ _ _ h => h) (Or.inl ⟨by rfl, ?_⟩) hHeld ?_ ?_
      rotate_left
      ·
       rintro w' ⟨s0, s1, s2, s3, s4, s5, s6, s7, s8, s9, s10, s11⟩
       go_simp
       with_reducible rfl
      rotate_left
      ·
       simp only [Act.put, List.setIfInBounds_toArray, List.set_cons_zero, List.set_cons_succ, i64_w, i32_w]
       rfl
      refine take_ (i := 8) (N := some 46) (v := ?_) (a' := ?_) #[true, true, true, true, true, true, true, true, true, false, false, false, false, false, false, false, false, false, false, false, false, false, false, false, false, false, false] rfl rfl (take_ofW HT_.out HW_.out (by kernel_rfl)) (fun _ _ _ h => h) (Or.inl ⟨by rfl, ?_⟩) hHeld ?_ ?_
      rotate_left
      ·
       rintro w' ⟨s0, s1, s2, s3, s4, s5, s6, s7, s8, s9, s10, s11⟩
       go_simp
       with_reducible rfl
      rotate_left
      ·
       simp only [Act.put, List.setIfInBounds_toArray, List.set_cons_zero, List.set_cons_succ, i64_w, i32_w]
       rfl
      refine pv 9 47 HT_.out ?_
      refine pv 10 48 HT_.out ?_
      refine pu 11 49 HT_.out ?_
      refine pu 12 50 HT_.out ?_
      refine pu 13 51 HT_.out ?_
      refine pv 14 52 HT_.out ?_
      refine pv 15 53 HT_.out ?_
      refine pv 16 54 HT_.out ?_
      refine pv 18 56 HT_.out ?_
      refine pv 22 60 HT_.out ?_
      refine take_ (i := 17) (N := some 55) (v := ?_) (a' := ?_) #[true, true, true, true, true, true, true, true, true, true, true, true, true, true, true, true, true, true, true, false, false, false, true, false, false, false, false] rfl rfl (take_ofW HT_.out HW_.out (by kernel_rfl)) (fun _ _ _ h => h) (Or.inl ⟨by rfl, ?_⟩) hHeld ?_ ?_
      rotate_left
      ·
       rintro w' ⟨s0, s1, s2, s3, s4, s5, s6, s7, s8, s9, s10, s11⟩
       go_simp
       with_reducible rfl
      rotate_left
      ·
       simp only [Act.put, List.setIfInBounds_toArray, List.set_cons_zero, List.set_cons_succ, i64_w, i32_w]
       rfl
      refine take_ (i := 19) (N := some 57) (v := ?_) (a' := ?_) #[true, true, true, true, true, true, true, true, true, true, true, true, true, true, true, true, true, true, true, true, false, false, true, false, false, false, false] rfl rfl (take_ofW HT_.out HW_.out (by kernel_rfl)) (fun _ _ _ h => h) (Or.inl ⟨by rfl, ?_⟩) hHeld ?_ ?_
      rotate_left
      ·
       rintro w' ⟨s0, s1, s2, s3, s4, s5, s6, s7, s8, s9, s10, s11⟩
       go_simp
       with_reducible rfl
      rotate_left
      ·
       simp only [Act.put, List.setIfInBounds_toArray, List.set_cons_zero, List.set_cons_succ, i64_w, i32_w]
       rfl
      refine pv 20 58 HT_.out ?_
      refine take_ (i := 21) (N := some 59) (v := ?_) (a' := ?_) #[true, true, true, true, true, true, true, true, true, true, true, true, true, true, true, true, true, true, true, true, true, true, true, false, false, false, false] rfl rfl (take_ofW HT_.out HW_.out (by kernel_rfl)) (fun _ _ _ h => h) (Or.inl ⟨by rfl, ?_⟩) hHeld ?_ ?_
      rotate_left
      ·
       rintro w' ⟨s0, s1, s2, s3, s4, s5, s6, s7, s8, s9, s10, s11⟩
       go_simp
       with_reducible rfl
      rotate_left
      ·
       simp only [Act.put, List.setIfInBounds_toArray, List.set_cons_zero, List.set_cons_succ, i64_w, i32_w]
       rfl
      refine pv 23 61 HT_.out ?_
      refine pv 24 62 HT_.out ?_
      refine pv 25 63 HT_.out ?_
      refine last_ (i := 26) (N := none) #[true, true, true, true, true, true, true, true, true, true, true, true, true, true, true, true, true, true, true, true, true, true, true, true, true, true, true] rfl rfl (one_of HT_.out (by kernel_rfl)) (by decide) (fun K hK => ?_)
      refine skip_ (w1 := ?_) (by rfl) rfl ?_ ?_
      rotate_left
      ·
       go_simp
       rfl
      refine hK.out _ _ ?_
      clear hK K
      refine done_ (done_of HT_.out (by kernel_rfl)) ?_
      try go_wp2
      (try simp only [← hl3_2])
      go_roundg k2
      case measure => have := HK1.out; have := HK2.out; omega
      case rel => exact ⟨(y154), (wrap64 (x33_2 + 1)), rs, H', ⟨by have := HK1.out; have := HK2.out; omega⟩, ⟨by (try simp only [hl3_2]); refine sm ?_; exact HQ68.out⟩, ⟨by (try simp only [hl3_2]); refine bm ?_; refine blk_far ?_ (by have h_ := Kd.R_ne HL143_0.out BK127.out (by decide); intro e_; exact h_ (by rw [e_]; rfl)) _; refine bm ?_; exact BK127.out⟩, ⟨by (try simp only [hl3_2]); refine bm ?_; refine blk_far ?_ (by have h_ := Kd.R_ne HL143_0.out BK136.out (by decide); intro e_; exact h_ (by rw [e_]; rfl)) _; refine bm ?_; exact BK136.out⟩, ⟨by repeat (first | (with_reducible first | exact HB.out | apply below_alloc | apply pw_below_drewN | apply below_drew1 | refine below_set ?_ GB61.out | refine below_set ?_ GE127.out | refine below_set ?_ GE136.out | refine below_set ?_ GE142.out) | exact HB.out)⟩⟩
     rw [if_pos c34] at H
     have c34b0 : (((rd_T38 l0_0 x18_1).f0) == ((rd_T38 l0_0 x33_2).f0)) = true := beq_iff_eq.mpr c34
     have c34b1 : (((rd_T38 l0_0 x18_1).f0) != ((rd_T38 l0_0 x33_2).f0)) = false := bne_eq_false_iff_eq.mpr c34
     clear c34
     by_cases c35 : x18_1 < x33_2
     ·
      rw [if_pos c35] at H
      have c35b0 : decide (x18_1 < x33_2) = true := decide_eq_true c35
      clear c35
      by_cases c36 : x33_2 < ((rd_L3 x3_2 x18_1).length : Int)
      rotate_left
      ·
       rw [if_neg c36] at H
       exact absurd H (by simp)
      rw [if_pos c36] at H
      have c36b0 : decide (x33_2 < ((rd_L3 x3_2 x18_1).length : Int)) = true := decide_eq_true c36
      try (have c36b6_hl3_2 := c36b0; simp only [hl3_2] at c36b6_hl3_2)
      clear c36
      obtain ⟨y144, hy144⟩ : ∃ y_ : List Bool, y_ = ((rd_L3 x3_2 x18_1).set (x33_2 : Int).toNat true) := ⟨_, rfl⟩
      replace H : (shape_Ahead.l1 k2 (x3_2.set (x18_1 : Int).toNat y144) x18_1 l0_0 (l0_0.length : Int) x18_1 l0_0 (l0_0.length : Int) (wrap64 (x33_2 + 1)) l0_0 l0_1 ((rd_T38 l0_0 x18_1).f0) ((rd_T38 l0_0 x18_1).f1) ((rd_T38 l0_0 x18_1).f2) ((rd_T38 l0_0 x18_1).f3)) = some r := by first | (rw [hy144]; with_reducible exact H) | (have H2_ := (Option.bind_some _ _).symm.trans H; rw [hy144]; with_reducible exact H2_) | (have H2_ := (Option.bind_some _ _).symm.trans H; with_reducible exact H2_) | with_reducible exact H | (rw [hy144]; exact H) | exact H
      have Ny144 := Aside0.mk hy144
      clear hy144
      obtain ⟨y146, hy146⟩ : ∃ y_ : List (List Bool), y_ = (x3_2.set (x18_1 : Int).toNat y144) := ⟨_, rfl⟩
      replace H : (shape_Ahead.l1 k2 y146 x18_1 l0_0 (l0_0.length : Int) x18_1 l0_0 (l0_0.length : Int) (wrap64 (x33_2 + 1)) l0_0 l0_1 ((rd_T38 l0_0 x18_1).f0) ((rd_T38 l0_0 x18_1).f1) ((rd_T38 l0_0 x18_1).f2) ((rd_T38 l0_0 x18_1).f3)) = some r := by first | (rw [hy146]; with_reducible exact H) | (have H2_ := (Option.bind_some _ _).symm.trans H; rw [hy146]; with_reducible exact H2_) | (have H2_ := (Option.bind_some _ _).symm.trans H; with_reducible exact H2_) | with_reducible exact H | (rw [hy146]; exact H) | exact H
      have Ny146 := Aside0.mk hy146
      clear hy146
      have H' := Aside0.mk H
      clear H
      have p141 : 0 ≤ (x33_2 : Int) := od
      have q141 : x33_2 < (l0_0.length : Int) := od
      obtain ⟨ad141, e141, hx141_0, hx141_1, hx141_2, hx141_3⟩ := at_T38 HR0_0.out x33_2 p141 q141
      obtain rfl : ad135 = ad141 := (by injection e141)
      replace hx141_0 := bl HB hx141_0
      replace hx141_1 := bl HB hx141_1
      replace hx141_2 := bl HB hx141_2
      replace hx141_3 := bl HB hx141_3
      replace p141 := eq_true p141
      replace q141 := eq_true q141
      try go_wp2_with (first | ((with_reducible refine gate_dst (N := 7) rfl ?_); refine bx 7 #[.int .i64 0, .int .i64 0, .int .i64 0, .int .i64 0] 38 ?_; intro gb142 hg w38 hbox hb; replace HO_3 := Aside0.mk (Kd.S_below (sk HO_3) hb); have BK142 := Aside0.mk (hbox); have GW142 := Aside0.mk ((bz hg : w.heap.size ≤ gb142)); have GE142 := Aside0.mk ((bz hg : w.heap.size ≤ gb142)); replace HB := Aside0.mk (below_step bb hb); have NB127_142 := Aside0.mk (nl BK127 hg); have NB142_127 := Aside0.mk (ng BK127 hg); replace BK127 := Aside0.mk (bw BK127 hb); have NB136_142 := Aside0.mk (nl BK136 hg); have NB142_136 := Aside0.mk (ng BK136 hg); replace BK136 := Aside0.mk (bw BK136 hb); clear hb hbox hg; have hnb39 := NB142_127.out; have hnc39 := NB127_142.out; have hnb40 := NB142_136.out; have hnc40 := NB136_142.out; obtain ⟨hcz41_0, hcz41_1, hcz41_2, hcz41_3, hfz41_0, hfz41_1, hfz41_2, hfz41_3⟩ := bo4 BK142))
      have n0_ : Aside0 (Kd.S (Kd.slice 4 Kd.bool) 33 ((((w38.setCell ⟨gb142, 0, none⟩ (.int .i64 ((rd_T38 l0_0 x33_2).f0))).setCell ⟨gb142, 1, none⟩ (.int .i64 ((rd_T38 l0_0 x33_2).f1))).setCell ⟨gb142, 2, none⟩ (.int .i64 ((rd_T38 l0_0 x33_2).f2))).setCell ⟨gb142, 3, none⟩ (.int .i64 ((rd_T38 l0_0 x33_2).f3))) w.heap.size (fun _ => True) (.slice (some ⟨go19, 0, none⟩) x3_2.length co19) x3_2) := ⟨by refine sm ?_; exact Kd.S_mono (Kd.S_far (p := ⟨gb142, 3, none⟩) (Kd.S_far (p := ⟨gb142, 2, none⟩) (Kd.S_far (p := ⟨gb142, 1, none⟩) (Kd.S_far (p := ⟨gb142, 0, none⟩) (Kd.S_types HO_3.out BK142.out (by decide)) (fun _ hk => hk.2) (.int .i64 ((rd_T38 l0_0 x33_2).f0))) (fun _ hk => hk.2) (.int .i64 ((rd_T38 l0_0 x33_2).f1))) (fun _ hk => hk.2) (.int .i64 ((rd_T38 l0_0 x33_2).f2))) (fun _ hk => hk.2) (.int .i64 ((rd_T38 l0_0 x33_2).f3))) (fun _ hk => trivial)⟩
      have n1_ : Aside0 (((((w38.setCell ⟨gb142, 0, none⟩ (.int .i64 ((rd_T38 l0_0 x33_2).f0))).setCell ⟨gb142, 1, none⟩ (.int .i64 ((rd_T38 l0_0 x33_2).f1))).setCell ⟨gb142, 2, none⟩ (.int .i64 ((rd_T38 l0_0 x33_2).f2))).setCell ⟨gb142, 3, none⟩ (.int .i64 ((rd_T38 l0_0 x33_2).f3))).heap[gb127]? = some (.cells #[.slice (some ad135) l0_0.length c0_0, .slice A0_1 l0_1.length c0_1] 25 (0, 0))) := ⟨by refine bm ?_; refine blk_far ?_ NB127_142.out _; refine bm ?_; refine blk_far ?_ NB127_142.out _; refine bm ?_; refine blk_far ?_ NB127_142.out _; refine bm ?_; refine blk_far ?_ NB127_142.out _; refine bm ?_; exact BK127.out⟩
      have n2_ : Aside0 (((((w38.setCell ⟨gb142, 0, none⟩ (.int .i64 ((rd_T38 l0_0 x33_2).f0))).setCell ⟨gb142, 1, none⟩ (.int .i64 ((rd_T38 l0_0 x33_2).f1))).setCell ⟨gb142, 2, none⟩ (.int .i64 ((rd_T38 l0_0 x33_2).f2))).setCell ⟨gb142, 3, none⟩ (.int .i64 ((rd_T38 l0_0 x33_2).f3))).heap[gb136]? = some (.cells #[.int .i64 ((rd_T38 l0_0 x18_1).f0), .int .i64 ((rd_T38 l0_0 x18_1).f1), .int .i64 ((rd_T38 l0_0 x18_1).f2), .int .i64 ((rd_T38 l0_0 x18_1).f3)] 38 (0, 0))) := ⟨by refine bm ?_; refine blk_far ?_ NB136_142.out _; refine bm ?_; refine blk_far ?_ NB136_142.out _; refine bm ?_; refine blk_far ?_ NB136_142.out _; refine bm ?_; refine blk_far ?_ NB136_142.out _; refine bm ?_; exact BK136.out⟩
      have n3_ : Aside0 (((((w38.setCell ⟨gb142, 0, none⟩ (.int .i64 ((rd_T38 l0_0 x33_2).f0))).setCell ⟨gb142, 1, none⟩ (.int .i64 ((rd_T38 l0_0 x33_2).f1))).setCell ⟨gb142, 2, none⟩ (.int .i64 ((rd_T38 l0_0 x33_2).f2))).setCell ⟨gb142, 3, none⟩ (.int .i64 ((rd_T38 l0_0 x33_2).f3))).heap[gb142]? = some (.cells #[.int .i64 ((rd_T38 l0_0 x33_2).f0), .int .i64 ((rd_T38 l0_0 x33_2).f1), .int .i64 ((rd_T38 l0_0 x33_2).f2), .int .i64 ((rd_T38 l0_0 x33_2).f3)] 38 (0, 0))) := ⟨by refine bm ?_; refine blk_put (cs := #[.int .i64 ((rd_T38 l0_0 x33_2).f0), .int .i64 ((rd_T38 l0_0 x33_2).f1), .int .i64 ((rd_T38 l0_0 x33_2).f2), .int .i64 0]) ?_ 3 _ rfl; refine bm ?_; refine blk_put (cs := #[.int .i64 ((rd_T38 l0_0 x33_2).f0), .int .i64 ((rd_T38 l0_0 x33_2).f1), .int .i64 0, .int .i64 0]) ?_ 2 _ rfl; refine bm ?_; refine blk_put (cs := #[.int .i64 ((rd_T38 l0_0 x33_2).f0), .int .i64 0, .int .i64 0, .int .i64 0]) ?_ 1 _ rfl; refine bm ?_; refine blk_put (cs := #[.int .i64 0, .int .i64 0, .int .i64 0, .int .i64 0]) ?_ 0 _ rfl; refine bm ?_; exact BK142.out⟩
      have n4_ : Aside0 (Below w.heap.size w ((((w38.setCell ⟨gb142, 0, none⟩ (.int .i64 ((rd_T38 l0_0 x33_2).f0))).setCell ⟨gb142, 1, none⟩ (.int .i64 ((rd_T38 l0_0 x33_2).f1))).setCell ⟨gb142, 2, none⟩ (.int .i64 ((rd_T38 l0_0 x33_2).f2))).setCell ⟨gb142, 3, none⟩ (.int .i64 ((rd_T38 l0_0 x33_2).f3)))) := ⟨bb⟩
      (try clear HO_3)
      (try clear BK127)
      (try clear BK136)
      (try clear BK142)
      (try clear HB)
      generalize ((((w38.setCell ⟨gb142, 0, none⟩ (.int .i64 ((rd_T38 l0_0 x33_2).f0))).setCell ⟨gb142, 1, none⟩ (.int .i64 ((rd_T38 l0_0 x33_2).f1))).setCell ⟨gb142, 2, none⟩ (.int .i64 ((rd_T38 l0_0 x33_2).f2))).setCell ⟨gb142, 3, none⟩ (.int .i64 ((rd_T38 l0_0 x33_2).f3))) = w42 at n0_ n1_ n2_ n3_ n4_ ⊢
      have HO_3 := n0_
      have BK127 := n1_
      have BK136 := n2_
      have BK142 := n3_
      have HB := n4_
      clear n0_ n1_ n2_ n3_ n4_
      have n0_ := Aside0.mk (Kd.S_drew HO_3.out)
      have n1_ := Aside0.mk (blk_drew BK127.out)
      have n2_ := Aside0.mk (blk_drew BK136.out)
      have n3_ := Aside0.mk (blk_drew BK142.out)
      have n4_ := Aside0.mk (below_drew1 HB.out)
      clear HO_3
      clear BK127
      clear BK136
      clear BK142
      clear HB
      have HO_3 := n0_
      have BK127 := n1_
      have BK136 := n2_
      have BK142 := n3_
      have HB := n4_
      clear n0_ n1_ n2_ n3_ n4_
      have p143 : 0 ≤ (x18_1 : Int) := od
      have q143 : x18_1 < (x3_2.length : Int) := od
      obtain ⟨ad143, A143_0, c143_0, e143, hx143_0, hl143_0, hi143_0⟩ := at_L3 (Kd.S_reads' HO_3.out).2.2 x18_1 p143 q143
      obtain rfl : (⟨go19, 0, none⟩ : Addr) = ad143 := (by injection e143)
      obtain ⟨ce143, hce143, hMe143, hcc143⟩ := Kd.S_get HO_3.out [] x18_1 p143 (by first | exact q143 | exact od | (have e_ := (Kd.S_reads' HO_3.out).1; omega))
      obtain ⟨ve143_0, rfl, ge143_0⟩ := hMe143
      have hv143_0 := hcc143 0 _ rfl
      rw [Nat.add_zero, show ((Kd.slice 4 Kd.bool)).sz = 1 from rfl, Nat.mul_one] at hv143_0
      replace hv143_0 := Option.some.inj (hv143_0.symm.trans hx143_0)
      rw [hv143_0] at ge143_0
      have HL143_0 := Aside0.mk (show Kd.R Kd.bool 4 _ _ _ _ (rd_L3 x3_2 x18_1) from ge143_0)
      clear hv143_0 ge143_0
      have HX143_0 := Aside0.mk hx143_0
      clear hcc143 hce143
      (first | simp only [add_plain] at hx143_0 | simp only [add_at] at hx143_0 | simp only [Addr.add, Nat.zero_add] at hx143_0 | skip)
      have HR143_0 := Aside0.mk hi143_0
      have HC143_0 := Aside0.mk hl143_0
      clear hi143_0 hl143_0
      replace p143 := eq_true p143
      replace q143 := eq_true q143
      have p37 : 0 ≤ (x33_2 : Int) := od
      have q37 : (x33_2 : Int) < (((rd_L3 x3_2 x18_1).length : Int) : Int) := od
      obtain ⟨go37, co37, eo37, gb37, gl37, cl37, HG37⟩ := Kd.R_form HL143_0.out (by omega)
      (first | cases eo37 | (injection eo37 with ea_ en_ ec_; (first | subst ea_ | (injection ea_ with ea_; subst ea_)); subst ec_; clear en_))
      have GB37 := Aside0.mk gb37
      have GG37 := Aside0.mk HG37
      clear gb37 gl37 HG37
      obtain ⟨hx37_0, hf37_0⟩ := Kd.R_celln false HL143_0.out (x33_2 : Int) p37 q37
      replace p37 := eq_true p37
      replace q37 := eq_true q37
      have hq44 : (x18_1 : Int) < (x3_2.length : Int) := (by have h_ : (x18_1 : Int) < ((x3_2.length : Int) : Int) := od; first | exact h_ | (have e_ := (Kd.S_reads' HO_3.out).1; omega) | simpa only [List.length_set, List.length_set] using h_)
      obtain ⟨oki44, ce44, hcl44, hM44, hcc44, hok44, hbk44⟩ := Kd.S_borrow HO_3.out [] (x18_1 : Int) (od) hq44
      obtain ⟨ve44_0, rfl, ge44_0⟩ := hM44
      have hv44 := hcc44 0 _ rfl
      rw [Nat.add_zero, show ((Kd.slice 4 Kd.bool)).sz = 1 from rfl, Nat.mul_one] at hv44
      replace hv44 := Option.some.inj (hv44.symm.trans HX143_0.out)
      subst hv44
      clear hcc44 hcl44
      replace ge44_0 := (show Kd.R Kd.bool 4 _ _ _ _ (rd_L3 x3_2 x18_1) from ge44_0)
      have HP44 := Kd.R_putg ge44_0 (x33_2 : Int) true
      rw [← Ny144.out] at HP44
      have HS44 := hbk44 HP44.2 (fun k_ e_ => by injection e_ with e_; subst e_; exact ge44_0.1 _ rfl) (x' := y144) (Kd.M_row HP44.1)
      rw [← Ny146.out] at HS44
      have HQ44 := Aside0.mk HS44
      clear HP44 HS44 hbk44 hok44
      refine start_ (n := 27) (S := fun w' => w'.cell? ⟨gb136, 0, none⟩ = some (.int .i64 ((rd_T38 l0_0 x18_1).f0)) ∧ w'.cell? ⟨gb136, 1, none⟩ = some (.int .i64 ((rd_T38 l0_0 x18_1).f1)) ∧ w'.cell? ⟨gb136, 2, none⟩ = some (.int .i64 ((rd_T38 l0_0 x18_1).f2)) ∧ w'.cell? ⟨gb136, 3, none⟩ = some (.int .i64 ((rd_T38 l0_0 x18_1).f3)) ∧ w'.cell? ⟨gb142, 0, none⟩ = some (.int .i64 ((rd_T38 l0_0 x33_2).f0)) ∧ w'.cell? ⟨gb142, 1, none⟩ = some (.int .i64 ((rd_T38 l0_0 x33_2).f1)) ∧ w'.cell? ⟨gb142, 2, none⟩ = some (.int .i64 ((rd_T38 l0_0 x33_2).f2)) ∧ w'.cell? ⟨gb142, 3, none⟩ = some (.int .i64 ((rd_T38 l0_0 x33_2).f3)) ∧ w'.cell? ⟨go19, (x18_1).toNat, none⟩ = some (.slice (some ⟨go37, 0, none⟩) (rd_L3 x3_2 x18_1).length c143_0)) (ds := [26]) #[false, false, false, false, false, false, false, false, false, false, false, false, false, false, false, false, false, false, false, false, false, false, false, false, false, false, false] (by kernel_rfl) rfl rfl ⟨(blk_cell BK136.out 0).trans rfl, (blk_cell BK136.out 1).trans rfl, (blk_cell BK136.out 2).trans rfl, (blk_cell BK136.out 3).trans rfl, (blk_cell BK142.out 0).trans rfl, (blk_cell BK142.out 1).trans rfl, (blk_cell BK142.out 2).trans rfl, (blk_cell BK142.out 3).trans rfl, hx143_0⟩ (fun hHeld => ?_); refine with_tabW shape_Ahead.tab11 shape_Ahead.bits11 (fun HT_ HW_ => ?_)
      generalize w42.drew = w43 at HO_3 BK127 BK136 BK142 HB GG37 HL143_0 HQ44 HR143_0 HX143_0 hf37_0 hx143_0 hx37_0 hHeld ⊢
      refine pv 0 38 HT_.out ?_
      refine pv 1 39 HT_.out ?_
      refine pv 2 40 HT_.out ?_
      refine pv 4 42 HT_.out ?_
      refine pv 5 43 HT_.out ?_
      refine pv 7 45 HT_.out ?_
      refine take_ (i := 3) (N := some 41) (v := ?_) (a' := ?_) #[true, true, true, true, true, true, false, true, false, false, false, false, false, false, false, false, false, false, false, false, false, false, false, false, false, false, false] rfl rfl (take_ofW HT_.out HW_.out (by kernel_rfl)) (fun _ _ _ h => h) (Or.inl ⟨by rfl, ?_⟩) hHeld ?_ ?_
      rotate_left
      ·
       rintro w' ⟨s0, s1, s2, s3, s4, s5, s6, s7, s8⟩
       go_simp
       with_reducible rfl
      rotate_left
      ·
       simp only [Act.put, List.setIfInBounds_toArray, List.set_cons_zero, List.set_cons_succ, i64_w, i32_w]
       rfl
      refine take_ (i := 6) (N := some 44) (v := ?_) (a' := ?_) #[true, true, true, true, true, true, true, true, false, false, false, false, false, false, false, false, false, false, false, false, false, false, false, false, false, false, false] rfl rfl (take_ofW HT_.out HW_.out (by kernel_rfl)) (fun _ _ _ h => h) (Or.inl ⟨by rfl, ?_⟩) hHeld ?_ ?_
      rotate_left
      ·
       rintro w' ⟨s0, s1, s2, s3, s4, s5, s6, s7, s8⟩
       go_simp
       with_reducible rfl
      rotate_left
      ·
       simp only [Act.put, List.setIfInBounds_toArray, List.set_cons_zero, List.set_cons_succ, i64_w, i32_w]
       rfl
      refine take_ (i := 8) (N := some 46) (v := ?_) (a' := ?_) #[true, true, true, true, true, true, true, true, true, false, false, false, false, false, false, false, false, false, false, false, false, false, false, false, false, false, false] rfl rfl (take_ofW HT_.out HW_.out (by kernel_rfl)) (fun _ _ _ h => h) (Or.inl ⟨by rfl, ?_⟩) hHeld ?_ ?_
      rotate_left
      ·
       rintro w' ⟨s0, s1, s2, s3, s4, s5, s6, s7, s8⟩
       go_simp
       with_reducible rfl
      rotate_left
      ·
       simp only [Act.put, List.setIfInBounds_toArray, List.set_cons_zero, List.set_cons_succ, i64_w, i32_w]
       rfl
      refine pv 9 47 HT_.out ?_
      refine pv 10 48 HT_.out ?_
      refine pv 11 49 HT_.out ?_
      refine pv 12 50 HT_.out ?_
      refine pv 13 51 HT_.out ?_
      refine pv 14 52 HT_.out ?_
      refine pv 15 53 HT_.out ?_
      refine pu 16 54 HT_.out ?_
      refine pu 17 55 HT_.out ?_
      refine pu 18 56 HT_.out ?_
      refine pu 19 57 HT_.out ?_
      refine pu 20 58 HT_.out ?_
      refine pu 21 59 HT_.out ?_
      refine pu 22 60 HT_.out ?_
      refine pu 23 61 HT_.out ?_
      refine pv 24 62 HT_.out ?_
      refine pv 25 63 HT_.out ?_
      refine last_ (i := 26) (N := none) #[true, true, true, true, true, true, true, true, true, true, true, true, true, true, true, true, true, true, true, true, true, true, true, true, true, true, true] rfl rfl (one_of HT_.out (by kernel_rfl)) (by decide) (fun K hK => ?_)
      refine skip_ (w1 := ?_) (by rfl) rfl ?_ ?_
      rotate_left
      ·
       go_simp
       rfl
      refine hK.out _ _ ?_
      clear hK K
      refine done_ (done_of HT_.out (by kernel_rfl)) ?_
      try go_wp2
      (try simp only [← hl3_2])
      go_roundg k2
      case measure => have := HK1.out; have := HK2.out; omega
      case rel => exact ⟨(y146), (wrap64 (x33_2 + 1)), rs, H', ⟨by have := HK1.out; have := HK2.out; omega⟩, ⟨by (try simp only [hl3_2]); refine sm ?_; exact HQ44.out⟩, ⟨by (try simp only [hl3_2]); refine bm ?_; refine blk_far ?_ (by have h_ := Kd.R_ne HL143_0.out BK127.out (by decide); intro e_; exact h_ (by rw [e_]; rfl)) _; refine bm ?_; exact BK127.out⟩, ⟨by (try simp only [hl3_2]); refine bm ?_; refine blk_far ?_ (by have h_ := Kd.R_ne HL143_0.out BK136.out (by decide); intro e_; exact h_ (by rw [e_]; rfl)) _; refine bm ?_; exact BK136.out⟩, ⟨by repeat (first | (with_reducible first | exact HB.out | apply below_alloc | apply pw_below_drewN | apply below_drew1 | refine below_set ?_ GB37.out | refine below_set ?_ GE127.out | refine below_set ?_ GE136.out | refine below_set ?_ GE142.out) | exact HB.out)⟩⟩
     rw [if_neg c35] at H
     have c35b0 : decide (x18_1 < x33_2) = false := decide_eq_false c35
     clear c35
     by_cases c46 : 0 ≤ ((rd_T38 l0_0 x33_2).f0)
     rotate_left
     ·
      rw [if_neg c46] at H
      exact absurd H (by simp)
     rw [if_pos c46] at H
     have c46b0 : decide (0 ≤ ((rd_T38 l0_0 x33_2).f0)) = true := decide_eq_true c46
     clear c46
     by_cases c47 : ((rd_T38 l0_0 x33_2).f0) < (l0_1.length : Int)
     rotate_left
     ·
      rw [if_neg c47] at H
      exact absurd H (by simp)
     rw [if_pos c47] at H
     have c47b0 : decide (((rd_T38 l0_0 x33_2).f0) < (l0_1.length : Int)) = true := decide_eq_true c47
     try (have c47b6_hl3_2 := c47b0; simp only [hl3_2] at c47b6_hl3_2)
     clear c47
     by_cases c48 : x33_2 < ((rd_L3 x3_2 x18_1).length : Int)
     rotate_left
     ·
      rw [if_neg c48] at H
      exact absurd H (by simp)
     rw [if_pos c48] at H
     have c48b0 : decide (x33_2 < ((rd_L3 x3_2 x18_1).length : Int)) = true := decide_eq_true c48
     try (have c48b6_hl3_2 := c48b0; simp only [hl3_2] at c48b6_hl3_2)
     clear c48
     obtain ⟨y148, hy148⟩ : ∃ y_ : List Bool, y_ = ((rd_L3 x3_2 x18_1).set (x33_2 : Int).toNat ((rd l0_1 ((rd_T38 l0_0 x33_2).f0)) == x18_1)) := ⟨_, rfl⟩
     replace H : (shape_Ahead.l1 k2 (x3_2.set (x18_1 : Int).toNat y148) x18_1 l0_0 (l0_0.length : Int) x18_1 l0_0 (l0_0.length : Int) (wrap64 (x33_2 + 1)) l0_0 l0_1 ((rd_T38 l0_0 x18_1).f0) ((rd_T38 l0_0 x18_1).f1) ((rd_T38 l0_0 x18_1).f2) ((rd_T38 l0_0 x18_1).f3)) = some r := by first | (rw [hy148]; with_reducible exact H) | (have H2_ := (Option.bind_some _ _).symm.trans H; rw [hy148]; with_reducible exact H2_) | (have H2_ := (Option.bind_some _ _).symm.trans H; with_reducible exact H2_) | with_reducible exact H | (rw [hy148]; exact H) | exact H
     have Ny148 := Aside0.mk hy148
     clear hy148
     obtain ⟨y150, hy150⟩ : ∃ y_ : List (List Bool), y_ = (x3_2.set (x18_1 : Int).toNat y148) := ⟨_, rfl⟩
     replace H : (shape_Ahead.l1 k2 y150 x18_1 l0_0 (l0_0.length : Int) x18_1 l0_0 (l0_0.length : Int) (wrap64 (x33_2 + 1)) l0_0 l0_1 ((rd_T38 l0_0 x18_1).f0) ((rd_T38 l0_0 x18_1).f1) ((rd_T38 l0_0 x18_1).f2) ((rd_T38 l0_0 x18_1).f3)) = some r := by first | (rw [hy150]; with_reducible exact H) | (have H2_ := (Option.bind_some _ _).symm.trans H; rw [hy150]; with_reducible exact H2_) | (have H2_ := (Option.bind_some _ _).symm.trans H; with_reducible exact H2_) | with_reducible exact H | (rw [hy150]; exact H) | exact H
     have Ny150 := Aside0.mk hy150
     clear hy150
     have H' := Aside0.mk H
     clear H
     have p141 : 0 ≤ (x33_2 : Int) := od
     have q141 : x33_2 < (l0_0.length : Int) := od
     obtain ⟨ad141, e141, hx141_0, hx141_1, hx141_2, hx141_3⟩ := at_T38 HR0_0.out x33_2 p141 q141
     obtain rfl : ad135 = ad141 := (by injection e141)
     replace hx141_0 := bl HB hx141_0
     replace hx141_1 := bl HB hx141_1
     replace hx141_2 := bl HB hx141_2
     replace hx141_3 := bl HB hx141_3
     replace p141 := eq_true p141
     replace q141 := eq_true q141
     try go_wp2_with (first | ((with_reducible refine gate_dst (N := 7) rfl ?_); refine bx 7 #[.int .i64 0, .int .i64 0, .int .i64 0, .int .i64 0] 38 ?_; intro gb142 hg w50 hbox hb; replace HO_3 := Aside0.mk (Kd.S_below (sk HO_3) hb); have BK142 := Aside0.mk (hbox); have GW142 := Aside0.mk ((bz hg : w.heap.size ≤ gb142)); have GE142 := Aside0.mk ((bz hg : w.heap.size ≤ gb142)); replace HB := Aside0.mk (below_step bb hb); have NB127_142 := Aside0.mk (nl BK127 hg); have NB142_127 := Aside0.mk (ng BK127 hg); replace BK127 := Aside0.mk (bw BK127 hb); have NB136_142 := Aside0.mk (nl BK136 hg); have NB142_136 := Aside0.mk (ng BK136 hg); replace BK136 := Aside0.mk (bw BK136 hb); clear hb hbox hg; have hnb51 := NB142_127.out; have hnc51 := NB127_142.out; have hnb52 := NB142_136.out; have hnc52 := NB136_142.out; obtain ⟨hcz53_0, hcz53_1, hcz53_2, hcz53_3, hfz53_0, hfz53_1, hfz53_2, hfz53_3⟩ := bo4 BK142))
     have n0_ : Aside0 (Kd.S (Kd.slice 4 Kd.bool) 33 ((((w50.setCell ⟨gb142, 0, none⟩ (.int .i64 ((rd_T38 l0_0 x33_2).f0))).setCell ⟨gb142, 1, none⟩ (.int .i64 ((rd_T38 l0_0 x33_2).f1))).setCell ⟨gb142, 2, none⟩ (.int .i64 ((rd_T38 l0_0 x33_2).f2))).setCell ⟨gb142, 3, none⟩ (.int .i64 ((rd_T38 l0_0 x33_2).f3))) w.heap.size (fun _ => True) (.slice (some ⟨go19, 0, none⟩) x3_2.length co19) x3_2) := ⟨by refine sm ?_; exact Kd.S_mono (Kd.S_far (p := ⟨gb142, 3, none⟩) (Kd.S_far (p := ⟨gb142, 2, none⟩) (Kd.S_far (p := ⟨gb142, 1, none⟩) (Kd.S_far (p := ⟨gb142, 0, none⟩) (Kd.S_types HO_3.out BK142.out (by decide)) (fun _ hk => hk.2) (.int .i64 ((rd_T38 l0_0 x33_2).f0))) (fun _ hk => hk.2) (.int .i64 ((rd_T38 l0_0 x33_2).f1))) (fun _ hk => hk.2) (.int .i64 ((rd_T38 l0_0 x33_2).f2))) (fun _ hk => hk.2) (.int .i64 ((rd_T38 l0_0 x33_2).f3))) (fun _ hk => trivial)⟩
     have n1_ : Aside0 (((((w50.setCell ⟨gb142, 0, none⟩ (.int .i64 ((rd_T38 l0_0 x33_2).f0))).setCell ⟨gb142, 1, none⟩ (.int .i64 ((rd_T38 l0_0 x33_2).f1))).setCell ⟨gb142, 2, none⟩ (.int .i64 ((rd_T38 l0_0 x33_2).f2))).setCell ⟨gb142, 3, none⟩ (.int .i64 ((rd_T38 l0_0 x33_2).f3))).heap[gb127]? = some (.cells #[.slice (some ad135) l0_0.length c0_0, .slice A0_1 l0_1.length c0_1] 25 (0, 0))) := ⟨by refine bm ?_; refine blk_far ?_ NB127_142.out _; refine bm ?_; refine blk_far ?_ NB127_142.out _; refine bm ?_; refine blk_far ?_ NB127_142.out _; refine bm ?_; refine blk_far ?_ NB127_142.out _; refine bm ?_; exact BK127.out⟩
     have n2_ : Aside0 (((((w50.setCell ⟨gb142, 0, none⟩ (.int .i64 ((rd_T38 l0_0 x33_2).f0))).setCell ⟨gb142, 1, none⟩ (.int .i64 ((rd_T38 l0_0 x33_2).f1))).setCell ⟨gb142, 2, none⟩ (.int .i64 ((rd_T38 l0_0 x33_2).f2))).setCell ⟨gb142, 3, none⟩ (.int .i64 ((rd_T38 l0_0 x33_2).f3))).heap[gb136]? = some (.cells #[.int .i64 ((rd_T38 l0_0 x18_1).f0), .int .i64 ((rd_T38 l0_0 x18_1).f1), .int .i64 ((rd_T38 l0_0 x18_1).f2), .int .i64 ((rd_T38 l0_0 x18_1).f3)] 38 (0, 0))) := ⟨by refine bm ?_; refine blk_far ?_ NB136_142.out _; refine bm ?_; refine blk_far ?_ NB136_142.out _; refine bm ?_; refine blk_far ?_ NB136_142.out _; refine bm ?_; refine blk_far ?_ NB136_142.out _; refine bm ?_; exact BK136.out⟩
     have n3_ : Aside0 (((((w50.setCell ⟨gb142, 0, none⟩ (.int .i64 ((rd_T38 l0_0 x33_2).f0))).setCell ⟨gb142, 1, none⟩ (.int .i64 ((rd_T38 l0_0 x33_2).f1))).setCell ⟨gb142, 2, none⟩ (.int .i64 ((rd_T38 l0_0 x33_2).f2))).setCell ⟨gb142, 3, none⟩ (.int .i64 ((rd_T38 l0_0 x33_2).f3))).heap[gb142]? = some (.cells #[.int .i64 ((rd_T38 l0_0 x33_2).f0), .int .i64 ((rd_T38 l0_0 x33_2).f1), .int .i64 ((rd_T38 l0_0 x33_2).f2), .int .i64 ((rd_T38 l0_0 x33_2).f3)] 38 (0, 0))) := ⟨by refine bm ?_; refine blk_put (cs := #[.int .i64 ((rd_T38 l0_0 x33_2).f0), .int .i64 ((rd_T38 l0_0 x33_2).f1), .int .i64 ((rd_T38 l0_0 x33_2).f2), .int .i64 0]) ?_ 3 _ rfl; refine bm ?_; refine blk_put (cs := #[.int .i64 ((rd_T38 l0_0 x33_2).f0), .int .i64 ((rd_T38 l0_0 x33_2).f1), .int .i64 0, .int .i64 0]) ?_ 2 _ rfl; refine bm ?_; refine blk_put (cs := #[.int .i64 ((rd_T38 l0_0 x33_2).f0), .int .i64 0, .int .i64 0, .int .i64 0]) ?_ 1 _ rfl; refine bm ?_; refine blk_put (cs := #[.int .i64 0, .int .i64 0, .int .i64 0, .int .i64 0]) ?_ 0 _ rfl; refine bm ?_; exact BK142.out⟩
     have n4_ : Aside0 (Below w.heap.size w ((((w50.setCell ⟨gb142, 0, none⟩ (.int .i64 ((rd_T38 l0_0 x33_2).f0))).setCell ⟨gb142, 1, none⟩ (.int .i64 ((rd_T38 l0_0 x33_2).f1))).setCell ⟨gb142, 2, none⟩ (.int .i64 ((rd_T38 l0_0 x33_2).f2))).setCell ⟨gb142, 3, none⟩ (.int .i64 ((rd_T38 l0_0 x33_2).f3)))) := ⟨bb⟩
     (try clear HO_3)
     (try clear BK127)
     (try clear BK136)
     (try clear BK142)
     (try clear HB)
     generalize ((((w50.setCell ⟨gb142, 0, none⟩ (.int .i64 ((rd_T38 l0_0 x33_2).f0))).setCell ⟨gb142, 1, none⟩ (.int .i64 ((rd_T38 l0_0 x33_2).f1))).setCell ⟨gb142, 2, none⟩ (.int .i64 ((rd_T38 l0_0 x33_2).f2))).setCell ⟨gb142, 3, none⟩ (.int .i64 ((rd_T38 l0_0 x33_2).f3))) = w54 at n0_ n1_ n2_ n3_ n4_ ⊢
     have HO_3 := n0_
     have BK127 := n1_
     have BK136 := n2_
     have BK142 := n3_
     have HB := n4_
     clear n0_ n1_ n2_ n3_ n4_
     have n0_ := Aside0.mk (Kd.S_drew HO_3.out)
     have n1_ := Aside0.mk (blk_drew BK127.out)
     have n2_ := Aside0.mk (blk_drew BK136.out)
     have n3_ := Aside0.mk (blk_drew BK142.out)
     have n4_ := Aside0.mk (below_drew1 HB.out)
     clear HO_3
     clear BK127
     clear BK136
     clear BK142
     clear HB
     have HO_3 := n0_
     have BK127 := n1_
     have BK136 := n2_
     have BK142 := n3_
     have HB := n4_
     clear n0_ n1_ n2_ n3_ n4_
     have p143 : 0 ≤ (x18_1 : Int) := od
     have q143 : x18_1 < (x3_2.length : Int) := od
     obtain ⟨ad143, A143_0, c143_0, e143, hx143_0, hl143_0, hi143_0⟩ := at_L3 (Kd.S_reads' HO_3.out).2.2 x18_1 p143 q143
     obtain rfl : (⟨go19, 0, none⟩ : Addr) = ad143 := (by injection e143)
     obtain ⟨ce143, hce143, hMe143, hcc143⟩ := Kd.S_get HO_3.out [] x18_1 p143 (by first | exact q143 | exact od | (have e_ := (Kd.S_reads' HO_3.out).1; omega))
     obtain ⟨ve143_0, rfl, ge143_0⟩ := hMe143
     have hv143_0 := hcc143 0 _ rfl
     rw [Nat.add_zero, show ((Kd.slice 4 Kd.bool)).sz = 1 from rfl, Nat.mul_one] at hv143_0
     replace hv143_0 := Option.some.inj (hv143_0.symm.trans hx143_0)
     rw [hv143_0] at ge143_0
     have HL143_0 := Aside0.mk (show Kd.R Kd.bool 4 _ _ _ _ (rd_L3 x3_2 x18_1) from ge143_0)
     clear hv143_0 ge143_0
     have HX143_0 := Aside0.mk hx143_0
     clear hcc143 hce143
     (first | simp only [add_plain] at hx143_0 | simp only [add_at] at hx143_0 | simp only [Addr.add, Nat.zero_add] at hx143_0 | skip)
     have HR143_0 := Aside0.mk hi143_0
     have HC143_0 := Aside0.mk hl143_0
     clear hi143_0 hl143_0
     replace p143 := eq_true p143
     replace q143 := eq_true q143
     have p147 : 0 ≤ (((rd_T38 l0_0 x33_2).f0) : Int) := od
     have q147 : ((rd_T38 l0_0 x33_2).f0) < (l0_1.length : Int) := od
     obtain ⟨ad147, e147, hx147_0⟩ := Kd.at_int HR0_1.out ((rd_T38 l0_0 x33_2).f0) p147 q147
     have hw147_0 := hx147_0
     cases e147
     replace hx147_0 := bl HB hx147_0
     replace p147 := eq_true p147
     replace q147 := eq_true q147
     have p49 : 0 ≤ (x33_2 : Int) := od
     have q49 : (x33_2 : Int) < (((rd_L3 x3_2 x18_1).length : Int) : Int) := od
     obtain ⟨go49, co49, eo49, gb49, gl49, cl49, HG49⟩ := Kd.R_form HL143_0.out (by omega)
     (first | cases eo49 | (injection eo49 with ea_ en_ ec_; (first | subst ea_ | (injection ea_ with ea_; subst ea_)); subst ec_; clear en_))
     have GB49 := Aside0.mk gb49
     have GG49 := Aside0.mk HG49
     clear gb49 gl49 HG49
     obtain ⟨hx49_0, hf49_0⟩ := Kd.R_celln false HL143_0.out (x33_2 : Int) p49 q49
     replace p49 := eq_true p49
     replace q49 := eq_true q49
     have hq56 : (x18_1 : Int) < (x3_2.length : Int) := (by have h_ : (x18_1 : Int) < ((x3_2.length : Int) : Int) := od; first | exact h_ | (have e_ := (Kd.S_reads' HO_3.out).1; omega) | simpa only [List.length_set, List.length_set] using h_)
     obtain ⟨oki56, ce56, hcl56, hM56, hcc56, hok56, hbk56⟩ := Kd.S_borrow HO_3.out [] (x18_1 : Int) (od) hq56
     obtain ⟨ve56_0, rfl, ge56_0⟩ := hM56
     have hv56 := hcc56 0 _ rfl
     rw [Nat.add_zero, show ((Kd.slice 4 Kd.bool)).sz = 1 from rfl, Nat.mul_one] at hv56
     replace hv56 := Option.some.inj (hv56.symm.trans HX143_0.out)
     subst hv56
     clear hcc56 hcl56
     replace ge56_0 := (show Kd.R Kd.bool 4 _ _ _ _ (rd_L3 x3_2 x18_1) from ge56_0)
     have HP56 := Kd.R_putg ge56_0 (x33_2 : Int) ((rd l0_1 ((rd_T38 l0_0 x33_2).f0)) == x18_1)
     rw [← Ny148.out] at HP56
     have HS56 := hbk56 HP56.2 (fun k_ e_ => by injection e_ with e_; subst e_; exact ge56_0.1 _ rfl) (x' := y148) (Kd.M_row HP56.1)
     rw [← Ny150.out] at HS56
     have HQ56 := Aside0.mk HS56
     clear HP56 HS56 hbk56 hok56
     refine start_ (n := 27) (S := fun w' => w'.cell? ⟨gb136, 0, none⟩ = some (.int .i64 ((rd_T38 l0_0 x18_1).f0)) ∧ w'.cell? ⟨gb136, 1, none⟩ = some (.int .i64 ((rd_T38 l0_0 x18_1).f1)) ∧ w'.cell? ⟨gb136, 2, none⟩ = some (.int .i64 ((rd_T38 l0_0 x18_1).f2)) ∧ w'.cell? ⟨gb136, 3, none⟩ = some (.int .i64 ((rd_T38 l0_0 x18_1).f3)) ∧ w'.cell? ⟨gb142, 0, none⟩ = some (.int .i64 ((rd_T38 l0_0 x33_2).f0)) ∧ w'.cell? ⟨gb142, 1, none⟩ = some (.int .i64 ((rd_T38 l0_0 x33_2).f1)) ∧ w'.cell? ⟨gb142, 2, none⟩ = some (.int .i64 ((rd_T38 l0_0 x33_2).f2)) ∧ w'.cell? ⟨gb142, 3, none⟩ = some (.int .i64 ((rd_T38 l0_0 x33_2).f3)) ∧ w'.cell? ⟨gb127, 0, none⟩ = some (.slice (some ad135) l0_0.length c0_0) ∧ w'.cell? ⟨gb127, 1, none⟩ = some (.slice (some ad147) l0_1.length c0_1) ∧ w'.cell? ⟨go19, (x18_1).toNat, none⟩ = some (.slice (some ⟨go49, 0, none⟩) (rd_L3 x3_2 x18_1).length c143_0) ∧ w'.cell? (ad147.add (((rd_T38 l0_0 x33_2).f0)).toNat) = some (.int .i64 (rd l0_1 ((rd_T38 l0_0 x33_2).f0)))) (ds := [26]) #[false, false, false, false, false, false, false, false, false, false, false, false, false, false, false, false, false, false, false, false, false, false, false, false, false, false, false] (by kernel_rfl) rfl rfl ⟨(blk_cell BK136.out 0).trans rfl, (blk_cell BK136.out 1).trans rfl, (blk_cell BK136.out 2).trans rfl, (blk_cell BK136.out 3).trans rfl, (blk_cell BK142.out 0).trans rfl, (blk_cell BK142.out 1).trans rfl, (blk_cell BK142.out 2).trans rfl, (blk_cell BK142.out 3).trans rfl, (blk_cell BK127.out 0).trans rfl, (blk_cell BK127.out 1).trans rfl, hx143_0, (bl HB hw147_0)⟩ (fun hHeld => ?_); refine with_tabW shape_Ahead.tab11 shape_Ahead.bits11 (fun HT_ HW_ => ?_)
     generalize w54.drew = w55 at HO_3 BK127 BK136 BK142 HB GG49 HL143_0 HQ56 HR143_0 HX143_0 hf49_0 hx143_0 hx147_0 hx49_0 hHeld ⊢
     refine pv 0 38 HT_.out ?_
     refine pv 1 39 HT_.out ?_
     refine pv 2 40 HT_.out ?_
     refine pv 4 42 HT_.out ?_
     refine pv 5 43 HT_.out ?_
     refine pv 7 45 HT_.out ?_
     refine take_ (i := 3) (N := some 41) (v := ?_) (a' := ?_) #[true, true, true, true, true, true, false, true, false, false, false, false, false, false, false, false, false, false, false, false, false, false, false, false, false, false, false] rfl rfl (take_ofW HT_.out HW_.out (by kernel_rfl)) (fun _ _ _ h => h) (Or.inl ⟨by rfl, ?_⟩) hHeld ?_ ?_
     rotate_left
     ·
      rintro w' ⟨s0, s1, s2, s3, s4, s5, s6, s7, s8, s9, s10, s11⟩
      go_simp
      with_reducible rfl
     rotate_left
     ·
      simp only [Act.put, List.setIfInBounds_toArray, List.set_cons_zero, List.set_cons_succ, i64_w, i32_w]
      rfl
     refine take_ (i := 6) (N := some 44) (v := ?_) (a' := ?_) #[true, true, true, true, true, true, true, true, false, false, false, false, false, false, false, false, false, false, false, false, false, false, false, false, false, false, false] rfl rfl (take_ofW HT_.out HW_.out (by kernel_rfl)) (fun _ _ _ h => h) (Or.inl ⟨by rfl, ?_⟩) hHeld ?_ ?_
     rotate_left
     ·
      rintro w' ⟨s0, s1, s2, s3, s4, s5, s6, s7, s8, s9, s10, s11⟩
      go_simp
      with_reducible rfl
     rotate_left
     ·
      simp only [Act.put, List.setIfInBounds_toArray, List.set_cons_zero, List.set_cons_succ, i64_w, i32_w]
      rfl
     refine take_ (i := 8) (N := some 46) (v := ?_) (a' := ?_) #[true, true, true, true, true, true, true, true, true, false, false, false, false, false, false, false, false, false, false, false, false, false, false, false, false, false, false] rfl rfl (take_ofW HT_.out HW_.out (by kernel_rfl)) (fun _ _ _ h => h) (Or.inl ⟨by rfl, ?_⟩) hHeld ?_ ?_
     rotate_left
     ·
      rintro w' ⟨s0, s1, s2, s3, s4, s5, s6, s7, s8, s9, s10, s11⟩
      go_simp
      with_reducible rfl
     rotate_left
     ·
      simp only [Act.put, List.setIfInBounds_toArray, List.set_cons_zero, List.set_cons_succ, i64_w, i32_w]
      rfl
     refine pv 9 47 HT_.out ?_
     refine pv 10 48 HT_.out ?_
     refine pv 11 49 HT_.out ?_
     refine pv 12 50 HT_.out ?_
     refine pv 13 51 HT_.out ?_
     refine pv 14 52 HT_.out ?_
     refine pv 15 53 HT_.out ?_
     refine pv 16 54 HT_.out ?_
     refine pv 18 56 HT_.out ?_
     refine pv 22 60 HT_.out ?_
     refine take_ (i := 17) (N := some 55) (v := ?_) (a' := ?_) #[true, true, true, true, true, true, true, true, true, true, true, true, true, true, true, true, true, true, true, false, false, false, true, false, false, false, false] rfl rfl (take_ofW HT_.out HW_.out (by kernel_rfl)) (fun _ _ _ h => h) (Or.inl ⟨by rfl, ?_⟩) hHeld ?_ ?_
     rotate_left
     ·
      rintro w' ⟨s0, s1, s2, s3, s4, s5, s6, s7, s8, s9, s10, s11⟩
      go_simp
      with_reducible rfl
     rotate_left
     ·
      simp only [Act.put, List.setIfInBounds_toArray, List.set_cons_zero, List.set_cons_succ, i64_w, i32_w]
      rfl
     refine take_ (i := 19) (N := some 57) (v := ?_) (a' := ?_) #[true, true, true, true, true, true, true, true, true, true, true, true, true, true, true, true, true, true, true, true, false, false, true, false, false, false, false] rfl rfl (take_ofW HT_.out HW_.out (by kernel_rfl)) (fun _ _ _ h => h) (Or.inl ⟨by rfl, ?_⟩) hHeld ?_ ?_
     rotate_left
     ·
      rintro w' ⟨s0, s1, s2, s3, s4, s5, s6, s7, s8, s9, s10, s11⟩
      go_simp
      with_reducible rfl
     rotate_left
     ·
      simp only [Act.put, List.setIfInBounds_toArray, List.set_cons_zero, List.set_cons_succ, i64_w, i32_w]
      rfl
     refine pv 20 58 HT_.out ?_
     refine take_ (i := 21) (N := some 59) (v := ?_) (a' := ?_) #[true, true, true, true, true, true, true, true, true, true, true, true, true, true, true, true, true, true, true, true, true, true, true, false, false, false, false] rfl rfl (take_ofW HT_.out HW_.out (by kernel_rfl)) (fun _ _ _ h => h) (Or.inl ⟨by rfl, ?_⟩) hHeld ?_ ?_
     rotate_left
     ·
      rintro w' ⟨s0, s1, s2, s3, s4, s5, s6, s7, s8, s9, s10, s11⟩
      go_simp
      with_reducible rfl
     rotate_left
     ·
      simp only [Act.put, List.setIfInBounds_toArray, List.set_cons_zero, List.set_cons_succ, i64_w, i32_w]
      rfl
     refine pv 23 61 HT_.out ?_
     refine pv 24 62 HT_.out ?_
     refine pv 25 63 HT_.out ?_
     refine last_ (i := 26) (N := none) #[true, true, true, true, true, true, true, true, true, true, true, true, true, true, true, true, true, true, true, true, true, true, true, true, true, true, true] rfl rfl (one_of HT_.out (by kernel_rfl)) (by decide) (fun K hK => ?_)
     refine skip_ (w1 := ?_) (by rfl) rfl ?_ ?_
     rotate_left
     ·
      go_simp
      rfl
     refine hK.out _ _ ?_
     clear hK K
     refine done_ (done_of HT_.out (by kernel_rfl)) ?_
     try go_wp2
     (try simp only [← hl3_2])
     go_roundg k2
     case measure => have := HK1.out; have := HK2.out; omega
     case rel => exact ⟨(y150), (wrap64 (x33_2 + 1)), rs, H', ⟨by have := HK1.out; have := HK2.out; omega⟩, ⟨by (try simp only [hl3_2]); refine sm ?_; exact HQ56.out⟩, ⟨by (try simp only [hl3_2]); refine bm ?_; refine blk_far ?_ (by have h_ := Kd.R_ne HL143_0.out BK127.out (by decide); intro e_; exact h_ (by rw [e_]; rfl)) _; refine bm ?_; exact BK127.out⟩, ⟨by (try simp only [hl3_2]); refine bm ?_; refine blk_far ?_ (by have h_ := Kd.R_ne HL143_0.out BK136.out (by decide); intro e_; exact h_ (by rw [e_]; rfl)) _; refine bm ?_; exact BK136.out⟩, ⟨by repeat (first | (with_reducible first | exact HB.out | apply below_alloc | apply pw_below_drewN | apply below_drew1 | refine below_set ?_ GB49.out | refine below_set ?_ GE127.out | refine below_set ?_ GE136.out | refine below_set ?_ GE142.out) | exact HB.out)⟩⟩

end Go.Proofs.Ytcoelecaigkfcaa.K
