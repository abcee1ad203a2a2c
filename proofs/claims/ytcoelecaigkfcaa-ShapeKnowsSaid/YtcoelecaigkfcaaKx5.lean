-- Laid by drive.py (a program of the session's) out of the translation. Lean checks it.
import Derived.Test.YtcoelecaigkfcaaKx0
import Derived.Test.YtcoelecaigkfcaaKx4
namespace Go.Proofs.Ytcoelecaigkfcaa.K
open Go.RowKit Go.Proofs.YtcoelecaigkfcaaW.PrintWords Go.Proofs.YtcoelecaigkfcaaW.PrintLast
set_option linter.unusedVariables false
set_option linter.unusedSimpArgs false

/-! ### rank_Closure: function 19 -/
mutual
def rank_Closure.l0 : Nat → List (List Bool) → List (List Bool) → Int → Int → Option ((List (List Bool)))
  | 0, _, _, _, _ => none
  | k + 1, x3, x12, x13, x14 => if x14 < x13 then (if 0 ≤ x14 then (if x14 < (x12.length : Int) then ((slices_Clone_bool_bool.f (rd_L3 x12 x14)).bind fun t103 => (if x3.length < 5864062014805 then (rank_Closure.l0 k (x3 ++ [t103]) x12 x13 (wrap64 (x14 + 1))) else (none))) else (none)) else (none)) else (rank_Closure.l1 k x3 (x3.length : Int) 0)
def rank_Closure.l1 : Nat → List (List Bool) → Int → Int → Option ((List (List Bool)))
  | 0, _, _, _ => none
  | k + 1, x3, x25, x26 => if x26 < x25 then (rank_Closure.l2 k x3 x26 x25 x26 (x3.length : Int) 0) else (some x3)
def rank_Closure.l2 : Nat → List (List Bool) → Int → Int → Int → Int → Int → Option ((List (List Bool)))
  | 0, _, _, _, _, _, _ => none
  | k + 1, x3, x6, x25, x26, x30, x31 => if x31 < x30 then (rank_Closure.l3 k x3 x6 x31 x25 x26 x30 x31 (x3.length : Int) 0) else (rank_Closure.l1 k x3 x25 (wrap64 (x26 + 1)))
def rank_Closure.l3 : Nat → List (List Bool) → Int → Int → Int → Int → Int → Int → Int → Int → Option ((List (List Bool)))
  | 0, _, _, _, _, _, _, _, _, _ => none
  | k + 1, x3, x6, x7, x25, x26, x30, x31, x35, x36 => if x36 < x35 then (if 0 ≤ x7 then (if x7 < (x3.length : Int) then (if 0 ≤ x36 then (if x36 < ((rd_L3 x3 x7).length : Int) then (if rdOf false (rd_L3 x3 x7) x36 = true then (rank_Closure.l3 k (x3.set (x7 : Int).toNat ((rd_L3 x3 x7).set (x36 : Int).toNat true)) x6 x7 x25 x26 x30 x31 x35 (wrap64 (x36 + 1))) else (if 0 ≤ x6 then (if x6 < ((rd_L3 x3 x7).length : Int) then (if rdOf false (rd_L3 x3 x7) x6 = true then (if x6 < (x3.length : Int) then (if x36 < ((rd_L3 x3 x6).length : Int) then (rank_Closure.l3 k (x3.set (x7 : Int).toNat ((rd_L3 x3 x7).set (x36 : Int).toNat (rdOf false (rd_L3 x3 x6) x36))) x6 x7 x25 x26 x30 x31 x35 (wrap64 (x36 + 1))) else (none)) else (none)) else (rank_Closure.l3 k (x3.set (x7 : Int).toNat ((rd_L3 x3 x7).set (x36 : Int).toNat false)) x6 x7 x25 x26 x30 x31 x35 (wrap64 (x36 + 1)))) else (none)) else (none))) else (none)) else (none)) else (none)) else (none)) else (rank_Closure.l2 k x3 x6 x25 x26 x30 (wrap64 (x31 + 1)))
end
def rank_Closure.f (k : Nat) (l0 : List (List Bool)) : Option ((List (List Bool))) := (rank_squared.f l0).bind fun t101 => (if t101 = true then (rank_Closure.l0 k ([] : List (List Bool)) l0 (l0.length : Int) 0) else (some ([] : List (List Bool))))
theorem rank_Closure.mono_l : ∀ k, (∀ y0 y1 y2 y3, LeO (rank_Closure.l0 k y0 y1 y2 y3) (rank_Closure.l0 (k + 1) y0 y1 y2 y3)) ∧ (∀ y0 y1 y2, LeO (rank_Closure.l1 k y0 y1 y2) (rank_Closure.l1 (k + 1) y0 y1 y2)) ∧ (∀ y0 y1 y2 y3 y4 y5, LeO (rank_Closure.l2 k y0 y1 y2 y3 y4 y5) (rank_Closure.l2 (k + 1) y0 y1 y2 y3 y4 y5)) ∧ (∀ y0 y1 y2 y3 y4 y5 y6 y7 y8, LeO (rank_Closure.l3 k y0 y1 y2 y3 y4 y5 y6 y7 y8) (rank_Closure.l3 (k + 1) y0 y1 y2 y3 y4 y5 y6 y7 y8))
  | 0 => ⟨fun _ _ _ _ r h => by simp [rank_Closure.l0] at h, fun _ _ _ r h => by simp [rank_Closure.l1] at h, fun _ _ _ _ _ _ r h => by simp [rank_Closure.l2] at h, fun _ _ _ _ _ _ _ _ _ r h => by simp [rank_Closure.l3] at h⟩
  | k + 1 => by
    obtain ⟨ih0, ih1, ih2, ih3⟩ := rank_Closure.mono_l k
    refine ⟨?_, ?_, ?_, ?_⟩
    · intro y0 y1 y2 y3
      unfold rank_Closure.l0
      repeat' first
      | (with_reducible exact ih0 _ _ _ _)
      | (with_reducible exact ih1 _ _ _)
      | (with_reducible exact ih2 _ _ _ _ _ _)
      | (with_reducible exact ih3 _ _ _ _ _ _ _ _ _)
      | (with_reducible exact LeO.refl _)
      | (with_reducible exact LeO.none _)
      | (with_reducible refine LeO.ite ?_ ?_)
      | (with_reducible refine LeO.bind ?_ (fun _ => ?_))
      | exact ih0 _ _ _ _
      | exact ih1 _ _ _
      | exact ih2 _ _ _ _ _ _
      | exact ih3 _ _ _ _ _ _ _ _ _
      | exact LeO.none _
      | refine LeO.ite ?_ ?_
      | refine LeO.bind ?_ (fun _ => ?_)
    · intro y0 y1 y2
      unfold rank_Closure.l1
      repeat' first
      | (with_reducible exact ih0 _ _ _ _)
      | (with_reducible exact ih1 _ _ _)
      | (with_reducible exact ih2 _ _ _ _ _ _)
      | (with_reducible exact ih3 _ _ _ _ _ _ _ _ _)
      | (with_reducible exact LeO.refl _)
      | (with_reducible exact LeO.none _)
      | (with_reducible refine LeO.ite ?_ ?_)
      | (with_reducible refine LeO.bind ?_ (fun _ => ?_))
      | exact ih0 _ _ _ _
      | exact ih1 _ _ _
      | exact ih2 _ _ _ _ _ _
      | exact ih3 _ _ _ _ _ _ _ _ _
      | exact LeO.none _
      | refine LeO.ite ?_ ?_
      | refine LeO.bind ?_ (fun _ => ?_)
    · intro y0 y1 y2 y3 y4 y5
      unfold rank_Closure.l2
      repeat' first
      | (with_reducible exact ih0 _ _ _ _)
      | (with_reducible exact ih1 _ _ _)
      | (with_reducible exact ih2 _ _ _ _ _ _)
      | (with_reducible exact ih3 _ _ _ _ _ _ _ _ _)
      | (with_reducible exact LeO.refl _)
      | (with_reducible exact LeO.none _)
      | (with_reducible refine LeO.ite ?_ ?_)
      | (with_reducible refine LeO.bind ?_ (fun _ => ?_))
      | exact ih0 _ _ _ _
      | exact ih1 _ _ _
      | exact ih2 _ _ _ _ _ _
      | exact ih3 _ _ _ _ _ _ _ _ _
      | exact LeO.none _
      | refine LeO.ite ?_ ?_
      | refine LeO.bind ?_ (fun _ => ?_)
    · intro y0 y1 y2 y3 y4 y5 y6 y7 y8
      unfold rank_Closure.l3
      repeat' first
      | (with_reducible exact ih0 _ _ _ _)
      | (with_reducible exact ih1 _ _ _)
      | (with_reducible exact ih2 _ _ _ _ _ _)
      | (with_reducible exact ih3 _ _ _ _ _ _ _ _ _)
      | (with_reducible exact LeO.refl _)
      | (with_reducible exact LeO.none _)
      | (with_reducible refine LeO.ite ?_ ?_)
      | (with_reducible refine LeO.bind ?_ (fun _ => ?_))
      | exact ih0 _ _ _ _
      | exact ih1 _ _ _
      | exact ih2 _ _ _ _ _ _
      | exact ih3 _ _ _ _ _ _ _ _ _
      | exact LeO.none _
      | refine LeO.ite ?_ ?_
      | refine LeO.bind ?_ (fun _ => ?_)
theorem rank_Closure.mono : ∀ a0 k, LeO (rank_Closure.f k a0) (rank_Closure.f (k + 1) a0) := by
  intro a0 k
  obtain ⟨ih0, ih1, ih2, ih3⟩ := rank_Closure.mono_l k
  unfold rank_Closure.f
  repeat' first
      | (with_reducible exact ih0 _ _ _ _)
      | (with_reducible exact ih1 _ _ _)
      | (with_reducible exact ih2 _ _ _ _ _ _)
      | (with_reducible exact ih3 _ _ _ _ _ _ _ _ _)
      | (with_reducible exact LeO.refl _)
      | (with_reducible exact LeO.none _)
      | (with_reducible refine LeO.ite ?_ ?_)
      | (with_reducible refine LeO.bind ?_ (fun _ => ?_))
      | exact ih0 _ _ _ _
      | exact ih1 _ _ _
      | exact ih2 _ _ _ _ _ _
      | exact ih3 _ _ _ _ _ _ _ _ _
      | exact LeO.none _
      | refine LeO.ite ?_ ?_
      | refine LeO.bind ?_ (fun _ => ?_)
def rank_Closure.T18 : Bool × List (List Nat × List Nat) := (true, [([], []), ([], []), ([0, 1], [0, 1]), ([2], [2]), ([], []), ([], []), ([], []), ([5, 6], [5, 6]), ([7], [7]), ([], []), ([8, 9], [8, 9]), ([10], [10]), ([11], [11]), ([12], [12]), ([12], [12]), ([13, 14, 12], [12, 13, 14]), ([15, 12], [12, 15]), ([12], [12]), ([16, 17, 12], [12, 16, 17]), ([18, 12], [12, 18]), ([19, 12, 12], [12, 19]), ([20], [20]), ([20], [20]), ([21, 22, 20], [20, 21, 22]), ([23, 20], [20, 23]), ([20], [20]), ([24, 25, 20], [20, 24, 25]), ([26, 20], [20, 26]), ([20, 27, 12], [12, 20, 27]), ([12, 28], [12, 28]), ([3, 4, 0, 1, 2, 3, 4, 5, 6, 7, 8, 9, 10, 11, 12, 13, 14, 15, 16, 17, 18, 19, 20, 21, 22, 23, 24, 25, 26, 27, 28, 29], [3, 4]), ([30, 29, 20, 0, 1, 2, 3, 4, 5, 6, 7, 8, 9, 10, 11, 12, 13, 14, 15, 16, 17, 18, 19, 20, 21, 22, 23, 24, 25, 26, 27, 28, 29], [29, 30])])
def rank_Closure.B18 : List Nat := [0, 0, 3, 7, 0, 0, 0, 96, 224, 0, 992, 2016, 4064, 8160, 8160, 32736, 65504, 8160, 262112, 524256, 1048544, 2097120, 2097120, 8388576, 16777184, 2097120, 67108832, 134217696, 268435424, 536870880, 1073741823, 2147483647]
theorem rank_Closure.tab18 : rtab .any (opsOf Try.f19 18) = rank_Closure.T18 := by kernel_rfl
theorem rank_Closure.bits18 : waitsOk rank_Closure.T18.2 rank_Closure.B18 = true := by kernel_rfl
set_option maxHeartbeats 8000000 in
set_option maxRecDepth 100000 in
theorem rank_Closure.calls (k : Nat) (A0 : Option Addr) (c0 : Nat) (l0 : List (List Bool)) (r : List (List Bool)) (w : World) (hr0 : Kd.C (Kd.slice 4 Kd.bool) w A0 l0.length l0) (hc0 : l0.length ≤ c0) (h : rank_Closure.f k l0 = some r) :
    Calls Try.prog 19 #[.slice A0 l0.length c0] w fun e w' => ∃ v0_ : Value, e = .returned (v0_) ∧ Kd.S (Kd.slice 4 Kd.bool) 33 w' w.heap.size (fun _ => True) v0_ r ∧ Below w.heap.size w w' := by
 have HR0 := Aside0.mk hr0
 have HC0 := Aside0.mk hc0
 clear hr0 hc0
 have HB := Aside0.mk (Below.refl w.heap.size w)
 have H : ((rank_squared.f l0).bind fun t101 => (if t101 = true then (rank_Closure.l0 k ([] : List (List Bool)) l0 (l0.length : Int) 0) else (some ([] : List (List Bool))))) = some r := h
 clear h
 replace H := Option.bind_eq_some_iff.mp H
 obtain ⟨t101, A20, H⟩ := H
 replace H : (if t101 = true then (rank_Closure.l0 k ([] : List (List Bool)) l0 (l0.length : Int) 0) else (some ([] : List (List Bool)))) = some r := H
 have A2 := Aside0.mk A20
 clear A20
 by_cases c3 : t101 = true
 rotate_left
 ·
  replace c3 := Bool.eq_false_iff.mpr c3
  subst c3
  have H1 : (some ([] : List (List Bool))) = some r := by rw [if_neg (show ¬ (false = true) by decide)] at H; exact H
  clear H
  have H := H1
  clear H1
  obtain rfl := Option.some.inj H
  go_enter Try.func19, Try.ntmps19
  go_wp2_with (first | ((with_reducible refine gate_callee (f := 28) rfl ?_); refine gl (some 10) Try.func28 #[.slice A0 l0.length c0] ?_; (with_reducible refine (rank_squared.calls _ _ l0 false _ ?side1 ?side2 A2.out).mono ?_); (case side1 => repeat (first | exact HR0.out | (with_reducible refine Kd.C_alloc ?_ _) | (with_reducible refine Kd.C_drewN ?_ _) | (with_reducible refine Kd.C_drew ?_))); (case side2 => exact HC0.out); rintro e w41 ⟨rfl, hb⟩; refine ⟨_, rfl, ?_⟩; replace HB := Aside0.mk (below_step bb hb); (try clear hb); (try clear hb2); (try clear hk); (try clear hi)))
  go_ret
  exact ⟨_, ew, by first | exact Kd.S_nil _ _ _ _ _ | exact Kd.N_nil _ _ _ _ _ | exact Kd.V_nil _ _ _ _ _ | exact Kd.Q_nil _ _ _ _ _ | exact Kd.R_nil _ _ _ _ _, bb⟩
 subst c3
 have H1 : (rank_Closure.l0 k ([] : List (List Bool)) l0 (l0.length : Int) 0) = some r := by rw [if_pos rfl] at H; exact H
 clear H
 have H := H1
 clear H1
 have H' := Aside0.mk H
 clear H
 go_enter Try.func19, Try.ntmps19
 go_wp2_with (first | ((with_reducible refine gate_callee (f := 28) rfl ?_); refine gl (some 10) Try.func28 #[.slice A0 l0.length c0] ?_; (with_reducible refine (rank_squared.calls _ _ l0 true _ ?side1 ?side2 A2.out).mono ?_); (case side1 => repeat (first | exact HR0.out | (with_reducible refine Kd.C_alloc ?_ _) | (with_reducible refine Kd.C_drewN ?_ _) | (with_reducible refine Kd.C_drew ?_))); (case side2 => exact HC0.out); rintro e w4 ⟨rfl, hb⟩; refine ⟨_, rfl, ?_⟩; replace HB := Aside0.mk (below_step bb hb); (try clear hb); (try clear hb2); (try clear hk); (try clear hi)))
 go_loopg [3, 14] k (fun kq v3 v14 w' => ∃ (x3_1 : List (List Bool)) (x14_1 : Int), v14 = .int .i64 x14_1 ∧ Aside0 (rank_Closure.l0 kq x3_1 l0 (l0.length : Int) x14_1 = some r) ∧ Aside0 (kq ≤ k) ∧ Aside0 (Kd.S (Kd.slice 4 Kd.bool) 33 w' w.heap.size (fun _ => True) v3 x3_1) ∧ Aside0 (Below w.heap.size w w'))
 case atStart => exact ⟨(([] : List (List Bool))), (0), rs, H', ⟨Nat.le_refl _⟩, ⟨by first | exact Kd.S_nil _ _ _ _ _ | exact Kd.N_nil _ _ _ _ _ | exact Kd.V_nil _ _ _ _ _ | exact Kd.Q_nil _ _ _ _ _ | exact Kd.R_nil _ _ _ _ _⟩, ⟨bb⟩⟩
 case round =>
  clear H'
  try clear c1
  try clear c2
  try clear p2
  try clear c3
  obtain ⟨x3_1, x14_1, rfl, HA, HK1, HO_3, HB⟩ := hrel
  cases gk with
  | zero => exact absurd HA.out (by simp [rank_Closure.l0])
  | succ k1 =>
   have H := HA.out
   clear HA
   simp only [rank_Closure.l0] at H
   by_cases c5 : x14_1 < (l0.length : Int)
   ·
    rw [if_pos c5] at H
    have c5b0 : decide (x14_1 < (l0.length : Int)) = true := decide_eq_true c5
    try (have c5b6_hl3_2 := c5b0; simp only [hl3_2] at c5b6_hl3_2)
    try (have c5b6_hl3_3 := c5b0; simp only [hl3_3] at c5b6_hl3_3)
    try (have c5b6_hl3_4 := c5b0; simp only [hl3_4] at c5b6_hl3_4)
    try (have c5b6_hl3_2 := c5b0; simp only [hl3_2] at c5b6_hl3_2)
    try (have c5b6_hl3_3 := c5b0; simp only [hl3_3] at c5b6_hl3_3)
    try (have c5b6_hl3_4 := c5b0; simp only [hl3_4] at c5b6_hl3_4)
    clear c5
    by_cases c6 : 0 ≤ x14_1
    rotate_left
    ·
     rw [if_neg c6] at H
     exact absurd H (by simp)
    rw [if_pos c6] at H
    have c6b0 : decide (0 ≤ x14_1) = true := decide_eq_true c6
    clear c6
    by_cases c7 : x14_1 < (l0.length : Int)
    rotate_left
    ·
     rw [if_neg c7] at H
     exact absurd H (by simp)
    rw [if_pos c7] at H
    have c7b0 : decide (x14_1 < (l0.length : Int)) = true := decide_eq_true c7
    try (have c7b6_hl3_2 := c7b0; simp only [hl3_2] at c7b6_hl3_2)
    try (have c7b6_hl3_3 := c7b0; simp only [hl3_3] at c7b6_hl3_3)
    try (have c7b6_hl3_4 := c7b0; simp only [hl3_4] at c7b6_hl3_4)
    try (have c7b6_hl3_2 := c7b0; simp only [hl3_2] at c7b6_hl3_2)
    try (have c7b6_hl3_3 := c7b0; simp only [hl3_3] at c7b6_hl3_3)
    try (have c7b6_hl3_4 := c7b0; simp only [hl3_4] at c7b6_hl3_4)
    clear c7
    replace H := Option.bind_eq_some_iff.mp H
    obtain ⟨t103, A80, H⟩ := H
    replace H : (if x3_1.length < 5864062014805 then (rank_Closure.l0 k1 (x3_1 ++ [t103]) l0 (l0.length : Int) (wrap64 (x14_1 + 1))) else (none)) = some r := H
    have A8 := Aside0.mk A80
    clear A80
    by_cases c9 : x3_1.length < 5864062014805
    rotate_left
    ·
     rw [if_neg c9] at H
     exact absurd H (by simp)
    rw [if_pos c9] at H
    have LMc9 := Aside0.mk c9
    clear c9
    obtain ⟨y106, hy106⟩ : ∃ y_ : List (List Bool), y_ = (x3_1 ++ [t103]) := ⟨_, rfl⟩
    replace H : (rank_Closure.l0 k1 y106 l0 (l0.length : Int) (wrap64 (x14_1 + 1))) = some r := by first | (rw [hy106]; with_reducible exact H) | (have H2_ := (Option.bind_some _ _).symm.trans H; rw [hy106]; with_reducible exact H2_) | (have H2_ := (Option.bind_some _ _).symm.trans H; with_reducible exact H2_) | with_reducible exact H | (rw [hy106]; exact H) | exact H
    have Ny106 := Aside0.mk hy106
    clear hy106
    have H' := Aside0.mk H
    clear H
    have p102 : 0 ≤ (x14_1 : Int) := od
    have q102 : x14_1 < (l0.length : Int) := od
    obtain ⟨ad102, A102_0, c102_0, e102, hx102_0, hl102_0, hi102_0⟩ := at_L3 HR0.out x14_1 p102 q102
    cases e102
    replace hx102_0 := bl HB hx102_0
    have HR102_0 := Aside0.mk hi102_0
    have HC102_0 := Aside0.mk hl102_0
    clear hi102_0 hl102_0
    replace p102 := eq_true p102
    replace q102 := eq_true q102
    go_wp2_with (first | ((with_reducible refine gate_callee (f := 29) rfl ?_); refine gl (some 20) Try.func29 #[.slice A102_0 (rd_L3 l0 x14_1).length c102_0] ?_; (with_reducible refine (slices_Clone_bool_bool.calls _ _ (rd_L3 l0 x14_1) t103 _ ?side1 ?side2 A8.out).mono ?_); (case side1 => exact cw HR102_0 HB); (case side2 => exact HC102_0.out); rintro e w10 ⟨v104, rfl, ho0, hb⟩; refine ⟨_, rfl, ?_⟩; replace HO_3 := Aside0.mk (Kd.S_elder' (sk HO_3) (Kd.R_base ho0) hb); have HO105 := Aside0.mk (Kd.R_lower ho0 (below_size bb)); replace HB := Aside0.mk (below_step bb hb); (try clear hb); (try clear hb2); (try clear hk); (try clear hi); (try clear ho0); obtain ⟨Ao12, co12, eo12⟩ := Kd.R_slice HO105.out; subst eo12) | ((with_reducible refine gate_builtin (b := .append) (xs := #[.tmp 18, .tmp 21]) rfl ?_); at_builtin; refine Kd.S_append (Kd.slice 4 Kd.bool) (w0 := w) w.heap.size rfl (.tmp 18) (.tmp 21) 28 33 (.slice none 0 0) 24 rfl Try.underlying28 info33 rfl (by decide) (by omega) u3 x3_1 t103 [.slice Ao12 t103.length co12] (fun _ => True) (fun k_ => some k_ = (.slice Ao12 t103.length co12 : Value).ownBlock) rfl rfl ?aP (fun k_ hk_ => ((Kd.R_mono (ok' := fun k_ => ((fun _ => True)) k_ ∧ some k_ ≠ (u3 : Value).ownBlock) (Kd.R_apart' (HO105.out) (Kd.S_typed HO_3.out) (by decide)) (fun k_ hk => ⟨trivial, hk.2⟩))).1 k_ hk_.symm) ?aF ?aO ?aB ?aS ?aL ?_; (case aP => exact Kd.M_row (Kd.R_mono (Kd.R_tight rfl (Kd.R_mono (ok' := fun k_ => ((fun _ => True)) k_ ∧ some k_ ≠ (u3 : Value).ownBlock) (Kd.R_apart' (HO105.out) (Kd.S_typed HO_3.out) (by decide)) (fun k_ hk => ⟨trivial, hk.2⟩))) (fun _ h_ => h_))); (case aB => exact bb); (case aF => exact (fun _ _ => trivial)); (case aO => exact (sm (Kd.S_mono HO_3.out (fun k_ hk => ⟨trivial, fun e_ => hk.2 e_⟩)))); (case aS => exact (below_size bb)); (case aL => have := LMc9.out; omega); intro v107 w11 ho hb hg hat; rw [← Ny106.out] at ho; replace HB := Aside0.mk (hb); have HO108 := Aside0.mk (ho); clear HO_3; clear HO105; clear ho hb hg hat))
    go_roundg k1
    case measure => have := HK1.out; omega
    case rel => exact ⟨(y106), (wrap64 (x14_1 + 1)), rs, H', ⟨by have := HK1.out; omega⟩, ⟨by refine sm ?_; exact HO108.out⟩, ⟨bb⟩⟩
   rw [if_neg c5] at H
   have c5b0 : decide (x14_1 < (l0.length : Int)) = false := decide_eq_false c5
   try (have c5b6_hl3_2 := c5b0; simp only [hl3_2] at c5b6_hl3_2)
   try (have c5b6_hl3_3 := c5b0; simp only [hl3_3] at c5b6_hl3_3)
   try (have c5b6_hl3_4 := c5b0; simp only [hl3_4] at c5b6_hl3_4)
   try (have c5b6_hl3_2 := c5b0; simp only [hl3_2] at c5b6_hl3_2)
   try (have c5b6_hl3_3 := c5b0; simp only [hl3_3] at c5b6_hl3_3)
   try (have c5b6_hl3_4 := c5b0; simp only [hl3_4] at c5b6_hl3_4)
   clear c5
   have H' := Aside0.mk H
   clear H
   obtain ⟨Ao13, co13, eo13⟩ := Kd.S_slice HO_3.out
   subst eo13
   go_wp2
   go_loopg [26] k1 (fun kq v26 w' => ∃ (x3_2 : List (List Bool)) (x26_2 : Int), v26 = .int .i64 x26_2 ∧ Aside0 (rank_Closure.l1 kq x3_2 (x3_1.length : Int) x26_2 = some r) ∧ Aside0 (kq ≤ k1) ∧ Aside0 (Kd.S (Kd.slice 4 Kd.bool) 33 w' w.heap.size (fun _ => True) (.slice Ao13 x3_1.length co13) x3_2) ∧ Aside0 (Below w.heap.size w w'))
   case atStart => exact ⟨(x3_1), (0), rs, H', ⟨Nat.le_refl _⟩, ⟨by refine sm ?_; exact HO_3.out⟩, ⟨bb⟩⟩
   case round =>
    clear H'
    try clear c1
    try clear p1
    try clear q1
    try clear hx1
    try clear c2
    try clear p2
    try clear c3
    try clear c5
    try clear c5b0
    try clear c6
    try clear c6b0
    try clear p6
    try clear c7
    try clear c7b0
    try clear c9
    try clear c10
    try clear p10
    try clear q10
    try clear hx10
    try clear hx102_0
    try clear p102
    try clear q102
    obtain ⟨x3_2, x26_2, rfl, HA, HK2, HO_3, HB⟩ := hrel
    have hl3_2 := (Kd.S_reads' HO_3.out).1
    rw [hl3_2] at HO_3
    (try simp only [hl3_2])
    cases gk with
    | zero => exact absurd HA.out (by simp [rank_Closure.l1])
    | succ k2 =>
     have H := HA.out
     clear HA
     simp only [rank_Closure.l1] at H
     by_cases c14 : x26_2 < (x3_1.length : Int)
     rotate_left
     ·
      rw [if_neg c14] at H
      have c14b0 : decide (x26_2 < (x3_1.length : Int)) = false := decide_eq_false c14
      try (have c14b6_hl3_2 := c14b0; simp only [hl3_2] at c14b6_hl3_2)
      try (have c14b6_hl3_3 := c14b0; simp only [hl3_3] at c14b6_hl3_3)
      try (have c14b6_hl3_4 := c14b0; simp only [hl3_4] at c14b6_hl3_4)
      try (have c14b6_hl3_2 := c14b0; simp only [hl3_2] at c14b6_hl3_2)
      try (have c14b6_hl3_3 := c14b0; simp only [hl3_3] at c14b6_hl3_3)
      try (have c14b6_hl3_4 := c14b0; simp only [hl3_4] at c14b6_hl3_4)
      clear c14
      obtain rfl := Option.some.inj H
      go_wp2
      go_ret
      exact ⟨_, ew, by refine sm ?_; exact HO_3.out, bb⟩
     rw [if_pos c14] at H
     have c14b0 : decide (x26_2 < (x3_1.length : Int)) = true := decide_eq_true c14
     try (have c14b6_hl3_2 := c14b0; simp only [hl3_2] at c14b6_hl3_2)
     try (have c14b6_hl3_3 := c14b0; simp only [hl3_3] at c14b6_hl3_3)
     try (have c14b6_hl3_4 := c14b0; simp only [hl3_4] at c14b6_hl3_4)
     try (have c14b6_hl3_2 := c14b0; simp only [hl3_2] at c14b6_hl3_2)
     try (have c14b6_hl3_3 := c14b0; simp only [hl3_3] at c14b6_hl3_3)
     try (have c14b6_hl3_4 := c14b0; simp only [hl3_4] at c14b6_hl3_4)
     clear c14
     have H' := Aside0.mk H
     clear H
     go_wp2
     go_loopg [31] k2 (fun kq v31 w' => ∃ (x3_3 : List (List Bool)) (x31_3 : Int), v31 = .int .i64 x31_3 ∧ Aside0 (rank_Closure.l2 kq x3_3 x26_2 (x3_1.length : Int) x26_2 (x3_2.length : Int) x31_3 = some r) ∧ Aside0 (kq ≤ k2) ∧ Aside0 (Kd.S (Kd.slice 4 Kd.bool) 33 w' w.heap.size (fun _ => True) (.slice Ao13 x3_2.length co13) x3_3) ∧ Aside0 (Below w.heap.size w w'))
     case atStart => exact ⟨(x3_2), (0), rs, H', ⟨Nat.le_refl _⟩, ⟨by (try simp only [hl3_2]); refine sm ?_; exact HO_3.out⟩, ⟨bb⟩⟩
     case round =>
      clear H'
      try clear c1
      try clear p1
      try clear q1
      try clear hx1
      try clear c2
      try clear p2
      try clear c3
      try clear c5
      try clear c5b0
      try clear c6
      try clear c6b0
      try clear p6
      try clear c7
      try clear c7b0
      try clear c9
      try clear c10
      try clear p10
      try clear q10
      try clear hx10
      try clear c14
      try clear c14b0
      try clear hx102_0
      try clear p102
      try clear q102
      obtain ⟨x3_3, x31_3, rfl, HA, HK3, HO_3, HB⟩ := hrel
      have hl3_3 := (Kd.S_reads' HO_3.out).1
      rw [hl3_3] at HO_3
      (try simp only [hl3_3])
      cases gk with
      | zero => exact absurd HA.out (by simp [rank_Closure.l2])
      | succ k3 =>
       have H := HA.out
       clear HA
       simp only [rank_Closure.l2] at H
       by_cases c15 : x31_3 < (x3_2.length : Int)
       rotate_left
       ·
        rw [if_neg c15] at H
        have c15b0 : decide (x31_3 < (x3_2.length : Int)) = false := decide_eq_false c15
        try (have c15b6_hl3_2 := c15b0; simp only [hl3_2] at c15b6_hl3_2)
        try (have c15b6_hl3_3 := c15b0; simp only [hl3_3] at c15b6_hl3_3)
        try (have c15b6_hl3_4 := c15b0; simp only [hl3_4] at c15b6_hl3_4)
        try (have c15b6_hl3_2 := c15b0; simp only [hl3_2] at c15b6_hl3_2)
        try (have c15b6_hl3_3 := c15b0; simp only [hl3_3] at c15b6_hl3_3)
        try (have c15b6_hl3_4 := c15b0; simp only [hl3_4] at c15b6_hl3_4)
        clear c15
        have H' := Aside0.mk H
        clear H
        go_wp2
        (try simp only [← hl3_2, ← hl3_3])
        go_roundg k3
        case measure => have := HK1.out; have := HK2.out; have := HK3.out; omega
        case rel => exact ⟨(x3_3), (wrap64 (x26_2 + 1)), rs, H', ⟨by have := HK1.out; have := HK2.out; have := HK3.out; omega⟩, ⟨by (try simp only [hl3_2]); (try simp only [hl3_3]); refine sm ?_; exact HO_3.out⟩, ⟨bb⟩⟩
       rw [if_pos c15] at H
       have c15b0 : decide (x31_3 < (x3_2.length : Int)) = true := decide_eq_true c15
       try (have c15b6_hl3_2 := c15b0; simp only [hl3_2] at c15b6_hl3_2)
       try (have c15b6_hl3_3 := c15b0; simp only [hl3_3] at c15b6_hl3_3)
       try (have c15b6_hl3_4 := c15b0; simp only [hl3_4] at c15b6_hl3_4)
       try (have c15b6_hl3_2 := c15b0; simp only [hl3_2] at c15b6_hl3_2)
       try (have c15b6_hl3_3 := c15b0; simp only [hl3_3] at c15b6_hl3_3)
       try (have c15b6_hl3_4 := c15b0; simp only [hl3_4] at c15b6_hl3_4)
       clear c15
       have H' := Aside0.mk H
       clear H
       go_wp2
       go_loopg [36] k3 (fun kq v36 w' => ∃ (x3_4 : List (List Bool)) (x36_4 : Int), v36 = .int .i64 x36_4 ∧ Aside0 (rank_Closure.l3 kq x3_4 x26_2 x31_3 (x3_1.length : Int) x26_2 (x3_2.length : Int) x31_3 (x3_3.length : Int) x36_4 = some r) ∧ Aside0 (kq ≤ k3) ∧ Aside0 (Kd.S (Kd.slice 4 Kd.bool) 33 w' w.heap.size (fun _ => True) (.slice Ao13 x3_3.length co13) x3_4) ∧ Aside0 (Below w.heap.size w w'))
       case atStart => exact ⟨(x3_3), (0), rs, H', ⟨Nat.le_refl _⟩, ⟨by (try simp only [hl3_2]); (try simp only [hl3_3]); refine sm ?_; exact HO_3.out⟩, ⟨bb⟩⟩
       case round =>
        clear H'
        try clear c1
        try clear p1
        try clear q1
        try clear hx1
        try clear c2
        try clear p2
        try clear c3
        try clear c5
        try clear c5b0
        try clear c6
        try clear c6b0
        try clear p6
        try clear c7
        try clear c7b0
        try clear c9
        try clear c10
        try clear p10
        try clear q10
        try clear hx10
        try clear c14
        try clear c14b0
        try clear c15
        try clear c15b0
        try clear hx102_0
        try clear p102
        try clear q102
        obtain ⟨x3_4, x36_4, rfl, HA, HK4, HO_3, HB⟩ := hrel
        have hl3_4 := (Kd.S_reads' HO_3.out).1
        rw [hl3_4] at HO_3
        (try simp only [hl3_4])
        cases gk with
        | zero => exact absurd HA.out (by simp [rank_Closure.l3])
        | succ k4 =>
         have H := HA.out
         clear HA
         simp only [rank_Closure.l3] at H
         by_cases c16 : x36_4 < (x3_3.length : Int)
         rotate_left
         ·
          rw [if_neg c16] at H
          have c16b0 : decide (x36_4 < (x3_3.length : Int)) = false := decide_eq_false c16
          try (have c16b6_hl3_2 := c16b0; simp only [hl3_2] at c16b6_hl3_2)
          try (have c16b6_hl3_3 := c16b0; simp only [hl3_3] at c16b6_hl3_3)
          try (have c16b6_hl3_4 := c16b0; simp only [hl3_4] at c16b6_hl3_4)
          try (have c16b6_hl3_2 := c16b0; simp only [hl3_2] at c16b6_hl3_2)
          try (have c16b6_hl3_3 := c16b0; simp only [hl3_3] at c16b6_hl3_3)
          try (have c16b6_hl3_4 := c16b0; simp only [hl3_4] at c16b6_hl3_4)
          clear c16
          have H' := Aside0.mk H
          clear H
          go_wp2
          (try simp only [← hl3_3, ← hl3_4])
          go_roundg k4
          case measure => have := HK1.out; have := HK2.out; have := HK3.out; have := HK4.out; omega
          case rel => exact ⟨(x3_4), (wrap64 (x31_3 + 1)), rs, H', ⟨by have := HK1.out; have := HK2.out; have := HK3.out; have := HK4.out; omega⟩, ⟨by (try simp only [hl3_2]); (try simp only [hl3_3]); (try simp only [hl3_4]); refine sm ?_; exact HO_3.out⟩, ⟨bb⟩⟩
         rw [if_pos c16] at H
         have c16b0 : decide (x36_4 < (x3_3.length : Int)) = true := decide_eq_true c16
         try (have c16b6_hl3_2 := c16b0; simp only [hl3_2] at c16b6_hl3_2)
         try (have c16b6_hl3_3 := c16b0; simp only [hl3_3] at c16b6_hl3_3)
         try (have c16b6_hl3_4 := c16b0; simp only [hl3_4] at c16b6_hl3_4)
         try (have c16b6_hl3_2 := c16b0; simp only [hl3_2] at c16b6_hl3_2)
         try (have c16b6_hl3_3 := c16b0; simp only [hl3_3] at c16b6_hl3_3)
         try (have c16b6_hl3_4 := c16b0; simp only [hl3_4] at c16b6_hl3_4)
         clear c16
         by_cases c17 : 0 ≤ x31_3
         rotate_left
         ·
          rw [if_neg c17] at H
          exact absurd H (by simp)
         rw [if_pos c17] at H
         have c17b0 : decide (0 ≤ x31_3) = true := decide_eq_true c17
         clear c17
         by_cases c18 : x31_3 < (x3_4.length : Int)
         rotate_left
         ·
          rw [if_neg c18] at H
          exact absurd H (by simp)
         rw [if_pos c18] at H
         have c18b0 : decide (x31_3 < (x3_4.length : Int)) = true := decide_eq_true c18
         try (have c18b6_hl3_2 := c18b0; simp only [hl3_2] at c18b6_hl3_2)
         try (have c18b6_hl3_3 := c18b0; simp only [hl3_3] at c18b6_hl3_3)
         try (have c18b6_hl3_4 := c18b0; simp only [hl3_4] at c18b6_hl3_4)
         try (have c18b6_hl3_2 := c18b0; simp only [hl3_2] at c18b6_hl3_2)
         try (have c18b6_hl3_3 := c18b0; simp only [hl3_3] at c18b6_hl3_3)
         try (have c18b6_hl3_4 := c18b0; simp only [hl3_4] at c18b6_hl3_4)
         clear c18
         by_cases c19 : 0 ≤ x36_4
         rotate_left
         ·
          rw [if_neg c19] at H
          exact absurd H (by simp)
         rw [if_pos c19] at H
         have c19b0 : decide (0 ≤ x36_4) = true := decide_eq_true c19
         clear c19
         by_cases c20 : x36_4 < ((rd_L3 x3_4 x31_3).length : Int)
         rotate_left
         ·
          rw [if_neg c20] at H
          exact absurd H (by simp)
         rw [if_pos c20] at H
         have c20b0 : decide (x36_4 < ((rd_L3 x3_4 x31_3).length : Int)) = true := decide_eq_true c20
         try (have c20b6_hl3_2 := c20b0; simp only [hl3_2] at c20b6_hl3_2)
         try (have c20b6_hl3_3 := c20b0; simp only [hl3_3] at c20b6_hl3_3)
         try (have c20b6_hl3_4 := c20b0; simp only [hl3_4] at c20b6_hl3_4)
         try (have c20b6_hl3_2 := c20b0; simp only [hl3_2] at c20b6_hl3_2)
         try (have c20b6_hl3_3 := c20b0; simp only [hl3_3] at c20b6_hl3_3)
         try (have c20b6_hl3_4 := c20b0; simp only [hl3_4] at c20b6_hl3_4)
         clear c20
         obtain ⟨bq21, hbq21⟩ : ∃ b_ : Bool, b_ = (rdOf false (rd_L3 x3_4 x31_3) x36_4) := ⟨_, rfl⟩
         replace H : (if bq21 = true then (rank_Closure.l3 k4 (x3_4.set (x31_3 : Int).toNat ((rd_L3 x3_4 x31_3).set (x36_4 : Int).toNat true)) x26_2 x31_3 (x3_1.length : Int) x26_2 (x3_2.length : Int) x31_3 (x3_3.length : Int) (wrap64 (x36_4 + 1))) else (if 0 ≤ x26_2 then (if x26_2 < ((rd_L3 x3_4 x31_3).length : Int) then (if rdOf false (rd_L3 x3_4 x31_3) x26_2 = true then (if x26_2 < (x3_4.length : Int) then (if x36_4 < ((rd_L3 x3_4 x26_2).length : Int) then (rank_Closure.l3 k4 (x3_4.set (x31_3 : Int).toNat ((rd_L3 x3_4 x31_3).set (x36_4 : Int).toNat (rdOf false (rd_L3 x3_4 x26_2) x36_4))) x26_2 x31_3 (x3_1.length : Int) x26_2 (x3_2.length : Int) x31_3 (x3_3.length : Int) (wrap64 (x36_4 + 1))) else (none)) else (none)) else (rank_Closure.l3 k4 (x3_4.set (x31_3 : Int).toNat ((rd_L3 x3_4 x31_3).set (x36_4 : Int).toNat false)) x26_2 x31_3 (x3_1.length : Int) x26_2 (x3_2.length : Int) x31_3 (x3_3.length : Int) (wrap64 (x36_4 + 1)))) else (none)) else (none))) = some r := by rw [← hbq21] at H; exact H
         have Nbq21 := Aside0.mk hbq21
         clear hbq21
         by_cases c22 : bq21 = true
         ·
          subst c22
          have H1 : (rank_Closure.l3 k4 (x3_4.set (x31_3 : Int).toNat ((rd_L3 x3_4 x31_3).set (x36_4 : Int).toNat true)) x26_2 x31_3 (x3_1.length : Int) x26_2 (x3_2.length : Int) x31_3 (x3_3.length : Int) (wrap64 (x36_4 + 1))) = some r := by rw [if_pos rfl] at H; exact H
          clear H
          have H := H1
          clear H1
          obtain ⟨y112, hy112⟩ : ∃ y_ : List Bool, y_ = ((rd_L3 x3_4 x31_3).set (x36_4 : Int).toNat true) := ⟨_, rfl⟩
          replace H : (rank_Closure.l3 k4 (x3_4.set (x31_3 : Int).toNat y112) x26_2 x31_3 (x3_1.length : Int) x26_2 (x3_2.length : Int) x31_3 (x3_3.length : Int) (wrap64 (x36_4 + 1))) = some r := by first | (rw [hy112]; with_reducible exact H) | (have H2_ := (Option.bind_some _ _).symm.trans H; rw [hy112]; with_reducible exact H2_) | (have H2_ := (Option.bind_some _ _).symm.trans H; with_reducible exact H2_) | with_reducible exact H | (rw [hy112]; exact H) | exact H
          have Ny112 := Aside0.mk hy112
          clear hy112
          obtain ⟨y114, hy114⟩ : ∃ y_ : List (List Bool), y_ = (x3_4.set (x31_3 : Int).toNat y112) := ⟨_, rfl⟩
          replace H : (rank_Closure.l3 k4 y114 x26_2 x31_3 (x3_1.length : Int) x26_2 (x3_2.length : Int) x31_3 (x3_3.length : Int) (wrap64 (x36_4 + 1))) = some r := by first | (rw [hy114]; with_reducible exact H) | (have H2_ := (Option.bind_some _ _).symm.trans H; rw [hy114]; with_reducible exact H2_) | (have H2_ := (Option.bind_some _ _).symm.trans H; with_reducible exact H2_) | with_reducible exact H | (rw [hy114]; exact H) | exact H
          have Ny114 := Aside0.mk hy114
          clear hy114
          have H' := Aside0.mk H
          clear H
          try go_wp2
          have n0_ := Aside0.mk (Kd.S_drew HO_3.out)
          have n1_ := Aside0.mk (below_drew1 HB.out)
          clear HO_3
          clear HB
          have HO_3 := n0_
          have HB := n1_
          clear n0_ n1_
          have p109 : 0 ≤ (x31_3 : Int) := od
          have q109 : x31_3 < (x3_4.length : Int) := od
          obtain ⟨ad109, A109_0, c109_0, e109, hx109_0, hl109_0, hi109_0⟩ := at_L3 (Kd.S_reads' HO_3.out).2.2 x31_3 p109 q109
          cases e109
          obtain ⟨ce109, hce109, hMe109, hcc109⟩ := Kd.S_get HO_3.out [] x31_3 p109 (by first | exact q109 | exact od | (have e_ := (Kd.S_reads' HO_3.out).1; omega))
          obtain ⟨ve109_0, rfl, ge109_0⟩ := hMe109
          have hv109_0 := hcc109 0 _ rfl
          rw [Nat.add_zero, show ((Kd.slice 4 Kd.bool)).sz = 1 from rfl, Nat.mul_one] at hv109_0
          replace hv109_0 := Option.some.inj (hv109_0.symm.trans hx109_0)
          rw [hv109_0] at ge109_0
          have HL109_0 := Aside0.mk (show Kd.R Kd.bool 4 _ _ _ _ (rd_L3 x3_4 x31_3) from ge109_0)
          clear hv109_0 ge109_0
          have HX109_0 := Aside0.mk hx109_0
          clear hcc109 hce109
          have HR109_0 := Aside0.mk hi109_0
          have HC109_0 := Aside0.mk hl109_0
          clear hi109_0 hl109_0
          replace p109 := eq_true p109
          replace q109 := eq_true q109
          have p110 : 0 ≤ (x31_3 : Int) := od
          have q110 : x31_3 < (x3_4.length : Int) := od
          obtain ⟨ad110, A110_0, c110_0, e110, hx110_0, hl110_0, hi110_0⟩ := at_L3 (Kd.S_reads' HO_3.out).2.2 x31_3 p110 q110
          obtain rfl : ad109 = ad110 := (by injection e110)
          obtain ⟨ce110, hce110, hMe110, hcc110⟩ := Kd.S_get HO_3.out [] x31_3 p110 (by first | exact q110 | exact od | (have e_ := (Kd.S_reads' HO_3.out).1; omega))
          obtain ⟨ve110_0, rfl, ge110_0⟩ := hMe110
          have hv110_0 := hcc110 0 _ rfl
          rw [Nat.add_zero, show ((Kd.slice 4 Kd.bool)).sz = 1 from rfl, Nat.mul_one] at hv110_0
          replace hv110_0 := Option.some.inj (hv110_0.symm.trans hx110_0)
          rw [hv110_0] at ge110_0
          have HL110_0 := Aside0.mk (show Kd.R Kd.bool 4 _ _ _ _ (rd_L3 x3_4 x31_3) from ge110_0)
          clear hv110_0 ge110_0
          have HX110_0 := Aside0.mk hx110_0
          clear hcc110 hce110
          have HR110_0 := Aside0.mk hi110_0
          have HC110_0 := Aside0.mk hl110_0
          clear hi110_0 hl110_0
          replace p110 := eq_true p110
          replace q110 := eq_true q110
          have ea_ := Option.some.inj (hx109_0.symm.trans hx110_0)
          injection ea_ with ea_ en_ ec_
          subst ea_
          subst ec_
          clear en_
          have p111 : 0 ≤ (x36_4 : Int) := od
          have q111 : x36_4 < ((rd_L3 x3_4 x31_3).length : Int) := od
          obtain ⟨ad111, e111, hx111_0⟩ := Kd.at_bool (by repeat (first | (with_reducible exact HR110_0.out) | (with_reducible refine Kd.C_alloc ?_ _) | (with_reducible refine Kd.C_drewN ?_ _) | (with_reducible refine Kd.C_drew ?_) | exact HR110_0.out)) x36_4 p111 q111
          (try rw [← Nbq21.out] at hx111_0)
          cases e111
          replace p111 := eq_true p111
          replace q111 := eq_true q111
          have p23 : 0 ≤ (x36_4 : Int) := od
          have q23 : (x36_4 : Int) < (((rd_L3 x3_4 x31_3).length : Int) : Int) := od
          obtain ⟨go23, co23, eo23, gb23, gl23, cl23, HG23⟩ := Kd.R_form HL109_0.out (by omega)
          (first | cases eo23 | (injection eo23 with ea_ en_ ec_; (first | subst ea_ | (injection ea_ with ea_; subst ea_)); subst ec_; clear en_))
          have GB23 := Aside0.mk gb23
          have GG23 := Aside0.mk HG23
          clear gb23 gl23 HG23
          (first | simp only [add_plain] at hx111_0 | skip)
          obtain ⟨hx23_0, hf23_0⟩ := Kd.R_celln false HL109_0.out (x36_4 : Int) p23 q23
          replace p23 := eq_true p23
          replace q23 := eq_true q23
          have hq25 : (x31_3 : Int) < (x3_4.length : Int) := (by have h_ : (x31_3 : Int) < ((x3_4.length : Int) : Int) := od; first | exact h_ | (have e_ := (Kd.S_reads' HO_3.out).1; omega) | simpa only [List.length_set, List.length_set] using h_)
          obtain ⟨oki25, ce25, hcl25, hM25, hcc25, hok25, hbk25⟩ := Kd.S_borrow HO_3.out [] (x31_3 : Int) (od) hq25
          obtain ⟨ve25_0, rfl, ge25_0⟩ := hM25
          have hv25 := hcc25 0 _ rfl
          rw [Nat.add_zero, show ((Kd.slice 4 Kd.bool)).sz = 1 from rfl, Nat.mul_one] at hv25
          replace hv25 := Option.some.inj (hv25.symm.trans HX109_0.out)
          subst hv25
          clear hcc25 hcl25
          replace ge25_0 := (show Kd.R Kd.bool 4 _ _ _ _ (rd_L3 x3_4 x31_3) from ge25_0)
          have HP25 := Kd.R_putg ge25_0 (x36_4 : Int) true
          rw [← Ny112.out] at HP25
          have HS25 := hbk25 HP25.2 (fun k_ e_ => by injection e_ with e_; subst e_; exact ge25_0.1 _ rfl) (x' := y112) (Kd.M_row HP25.1)
          rw [← Ny114.out] at HS25
          have HQ25 := Aside0.mk HS25
          clear HP25 HS25 hbk25 hok25
          refine start_ (n := 32) (S := fun w' => w'.cell? (ad109.add (x31_3).toNat) = some (.slice (some ⟨go23, 0, none⟩) (rd_L3 x3_4 x31_3).length c109_0) ∧ w'.cell? (ad109.add (x31_3).toNat) = some (.slice (some ⟨go23, 0, none⟩) (rd_L3 x3_4 x31_3).length c109_0) ∧ w'.cell? ⟨go23, (x36_4).toNat, none⟩ = some (.bool true)) (ds := [31]) #[false, false, false, false, false, false, false, false, false, false, false, false, false, false, false, false, false, false, false, false, false, false, false, false, false, false, false, false, false, false, false, false] (by kernel_rfl) rfl rfl ⟨hx109_0, hx110_0, hx111_0⟩ (fun hHeld => ?_); refine with_tabW rank_Closure.tab18 rank_Closure.bits18 (fun HT_ HW_ => ?_)
          generalize wr.drew = w24 at HO_3 HB GG23 HL109_0 HL110_0 HQ25 HR109_0 HR110_0 HX109_0 HX110_0 hf23_0 hx109_0 hx110_0 hx111_0 hx23_0 hHeld ⊢
          refine pv 0 39 HT_.out ?_
          refine pv 1 40 HT_.out ?_
          refine pv 2 41 HT_.out ?_
          refine pv 4 43 HT_.out ?_
          refine pv 5 44 HT_.out ?_
          refine pv 6 45 HT_.out ?_
          refine pv 7 46 HT_.out ?_
          refine pv 9 48 HT_.out ?_
          refine take_ (i := 3) (N := some 42) (v := ?_) (a' := ?_) #[true, true, true, true, true, true, true, true, false, true, false, false, false, false, false, false, false, false, false, false, false, false, false, false, false, false, false, false, false, false, false, false] rfl rfl (take_ofW HT_.out HW_.out (by kernel_rfl)) (fun _ _ _ h => h) (Or.inl ⟨by rfl, ?_⟩) hHeld ?_ ?_
          rotate_left
          ·
           rintro w' ⟨s0, s1, s2⟩
           go_simp
           with_reducible rfl
          rotate_left
          ·
           simp only [Act.put, List.setIfInBounds_toArray, List.set_cons_zero, List.set_cons_succ, i64_w, i32_w]
           rfl
          refine take_ (i := 8) (N := some 47) (v := ?_) (a' := ?_) #[true, true, true, true, true, true, true, true, true, true, false, false, false, false, false, false, false, false, false, false, false, false, false, false, false, false, false, false, false, false, false, false] rfl rfl (take_ofW HT_.out HW_.out (by kernel_rfl)) (fun _ _ _ h => h) (Or.inl ⟨by rfl, ?_⟩) hHeld ?_ ?_
          rotate_left
          ·
           rintro w' ⟨s0, s1, s2⟩
           go_simp
           with_reducible rfl
          rotate_left
          ·
           simp only [Act.put, List.setIfInBounds_toArray, List.set_cons_zero, List.set_cons_succ, i64_w, i32_w]
           rfl
          refine pv 10 49 HT_.out ?_
          refine take_ (i := 11) (N := some 50) (v := ?_) (a' := ?_) #[true, true, true, true, true, true, true, true, true, true, true, true, false, false, false, false, false, false, false, false, false, false, false, false, false, false, false, false, false, false, false, false] rfl rfl (take_ofW HT_.out HW_.out (by kernel_rfl)) (fun _ _ _ h => h) (Or.inl ⟨by rfl, ?_⟩) hHeld ?_ ?_
          rotate_left
          ·
           rintro w' ⟨s0, s1, s2⟩
           go_simp
           with_reducible rfl
          rotate_left
          ·
           simp only [Act.put, List.setIfInBounds_toArray, List.set_cons_zero, List.set_cons_succ, i64_w, i32_w]
           rfl
          refine pv 12 51 HT_.out ?_
          refine pu 13 52 HT_.out ?_
          refine pu 14 53 HT_.out ?_
          refine pu 15 54 HT_.out ?_
          refine pu 16 55 HT_.out ?_
          refine pu 17 56 HT_.out ?_
          refine pu 18 57 HT_.out ?_
          refine pu 19 58 HT_.out ?_
          refine pu 20 59 HT_.out ?_
          refine pu 21 60 HT_.out ?_
          refine pu 22 61 HT_.out ?_
          refine pu 23 62 HT_.out ?_
          refine pu 24 63 HT_.out ?_
          refine pu 25 64 HT_.out ?_
          refine pu 26 65 HT_.out ?_
          refine pu 27 66 HT_.out ?_
          refine pu 28 67 HT_.out ?_
          refine pv 29 68 HT_.out ?_
          refine pv 30 69 HT_.out ?_
          refine last_ (i := 31) (N := none) #[true, true, true, true, true, true, true, true, true, true, true, true, true, true, true, true, true, true, true, true, true, true, true, true, true, true, true, true, true, true, true, true] rfl rfl (one_of HT_.out (by kernel_rfl)) (by decide) (fun K hK => ?_)
          refine skip_ (w1 := ?_) (by rfl) rfl ?_ ?_
          rotate_left
          ·
           go_simp
           rfl
          refine hK.out _ _ ?_
          clear hK K
          refine done_ (done_of HT_.out (by kernel_rfl)) ?_
          try go_wp2
          (try simp only [← hl3_4])
          go_roundg k4
          case measure => have := HK1.out; have := HK2.out; have := HK3.out; have := HK4.out; omega
          case rel => exact ⟨(y114), (wrap64 (x36_4 + 1)), rs, H', ⟨by have := HK1.out; have := HK2.out; have := HK3.out; have := HK4.out; omega⟩, ⟨by (try simp only [hl3_2]); (try simp only [hl3_3]); (try simp only [hl3_4]); refine sm ?_; exact HQ25.out⟩, ⟨by repeat (first | (with_reducible first | exact HB.out | apply below_alloc | apply pw_below_drewN | apply below_drew1 | refine below_set ?_ GB23.out) | exact HB.out)⟩⟩
         replace c22 := Bool.eq_false_iff.mpr c22
         subst c22
         have H1 : (if 0 ≤ x26_2 then (if x26_2 < ((rd_L3 x3_4 x31_3).length : Int) then (if rdOf false (rd_L3 x3_4 x31_3) x26_2 = true then (if x26_2 < (x3_4.length : Int) then (if x36_4 < ((rd_L3 x3_4 x26_2).length : Int) then (rank_Closure.l3 k4 (x3_4.set (x31_3 : Int).toNat ((rd_L3 x3_4 x31_3).set (x36_4 : Int).toNat (rdOf false (rd_L3 x3_4 x26_2) x36_4))) x26_2 x31_3 (x3_1.length : Int) x26_2 (x3_2.length : Int) x31_3 (x3_3.length : Int) (wrap64 (x36_4 + 1))) else (none)) else (none)) else (rank_Closure.l3 k4 (x3_4.set (x31_3 : Int).toNat ((rd_L3 x3_4 x31_3).set (x36_4 : Int).toNat false)) x26_2 x31_3 (x3_1.length : Int) x26_2 (x3_2.length : Int) x31_3 (x3_3.length : Int) (wrap64 (x36_4 + 1)))) else (none)) else (none)) = some r := by rw [if_neg (show ¬ (false = true) by decide)] at H; exact H
         clear H
         have H := H1
         clear H1
         by_cases c27 : 0 ≤ x26_2
         rotate_left
         ·
          rw [if_neg c27] at H
          exact absurd H (by simp)
         rw [if_pos c27] at H
         have c27b0 : decide (0 ≤ x26_2) = true := decide_eq_true c27
         clear c27
         by_cases c28 : x26_2 < ((rd_L3 x3_4 x31_3).length : Int)
         rotate_left
         ·
          rw [if_neg c28] at H
          exact absurd H (by simp)
         rw [if_pos c28] at H
         have c28b0 : decide (x26_2 < ((rd_L3 x3_4 x31_3).length : Int)) = true := decide_eq_true c28
         try (have c28b6_hl3_2 := c28b0; simp only [hl3_2] at c28b6_hl3_2)
         try (have c28b6_hl3_3 := c28b0; simp only [hl3_3] at c28b6_hl3_3)
         try (have c28b6_hl3_4 := c28b0; simp only [hl3_4] at c28b6_hl3_4)
         try (have c28b6_hl3_2 := c28b0; simp only [hl3_2] at c28b6_hl3_2)
         try (have c28b6_hl3_3 := c28b0; simp only [hl3_3] at c28b6_hl3_3)
         try (have c28b6_hl3_4 := c28b0; simp only [hl3_4] at c28b6_hl3_4)
         clear c28
         obtain ⟨bq29, hbq29⟩ : ∃ b_ : Bool, b_ = (rdOf false (rd_L3 x3_4 x31_3) x26_2) := ⟨_, rfl⟩
         replace H : (if bq29 = true then (if x26_2 < (x3_4.length : Int) then (if x36_4 < ((rd_L3 x3_4 x26_2).length : Int) then (rank_Closure.l3 k4 (x3_4.set (x31_3 : Int).toNat ((rd_L3 x3_4 x31_3).set (x36_4 : Int).toNat (rdOf false (rd_L3 x3_4 x26_2) x36_4))) x26_2 x31_3 (x3_1.length : Int) x26_2 (x3_2.length : Int) x31_3 (x3_3.length : Int) (wrap64 (x36_4 + 1))) else (none)) else (none)) else (rank_Closure.l3 k4 (x3_4.set (x31_3 : Int).toNat ((rd_L3 x3_4 x31_3).set (x36_4 : Int).toNat false)) x26_2 x31_3 (x3_1.length : Int) x26_2 (x3_2.length : Int) x31_3 (x3_3.length : Int) (wrap64 (x36_4 + 1)))) = some r := by rw [← hbq29] at H; exact H
         have Nbq29 := Aside0.mk hbq29
         clear hbq29
         by_cases c30 : bq29 = true
         rotate_left
         ·
          replace c30 := Bool.eq_false_iff.mpr c30
          subst c30
          have H1 : (rank_Closure.l3 k4 (x3_4.set (x31_3 : Int).toNat ((rd_L3 x3_4 x31_3).set (x36_4 : Int).toNat false)) x26_2 x31_3 (x3_1.length : Int) x26_2 (x3_2.length : Int) x31_3 (x3_3.length : Int) (wrap64 (x36_4 + 1))) = some r := by rw [if_neg (show ¬ (false = true) by decide)] at H; exact H
          clear H
          have H := H1
          clear H1
          obtain ⟨y122, hy122⟩ : ∃ y_ : List Bool, y_ = ((rd_L3 x3_4 x31_3).set (x36_4 : Int).toNat false) := ⟨_, rfl⟩
          replace H : (rank_Closure.l3 k4 (x3_4.set (x31_3 : Int).toNat y122) x26_2 x31_3 (x3_1.length : Int) x26_2 (x3_2.length : Int) x31_3 (x3_3.length : Int) (wrap64 (x36_4 + 1))) = some r := by first | (rw [hy122]; with_reducible exact H) | (have H2_ := (Option.bind_some _ _).symm.trans H; rw [hy122]; with_reducible exact H2_) | (have H2_ := (Option.bind_some _ _).symm.trans H; with_reducible exact H2_) | with_reducible exact H | (rw [hy122]; exact H) | exact H
          have Ny122 := Aside0.mk hy122
          clear hy122
          obtain ⟨y124, hy124⟩ : ∃ y_ : List (List Bool), y_ = (x3_4.set (x31_3 : Int).toNat y122) := ⟨_, rfl⟩
          replace H : (rank_Closure.l3 k4 y124 x26_2 x31_3 (x3_1.length : Int) x26_2 (x3_2.length : Int) x31_3 (x3_3.length : Int) (wrap64 (x36_4 + 1))) = some r := by first | (rw [hy124]; with_reducible exact H) | (have H2_ := (Option.bind_some _ _).symm.trans H; rw [hy124]; with_reducible exact H2_) | (have H2_ := (Option.bind_some _ _).symm.trans H; with_reducible exact H2_) | with_reducible exact H | (rw [hy124]; exact H) | exact H
          have Ny124 := Aside0.mk hy124
          clear hy124
          have H' := Aside0.mk H
          clear H
          try go_wp2
          have n0_ := Aside0.mk (Kd.S_drew HO_3.out)
          have n1_ := Aside0.mk (below_drew1 HB.out)
          clear HO_3
          clear HB
          have HO_3 := n0_
          have HB := n1_
          clear n0_ n1_
          have p109 : 0 ≤ (x31_3 : Int) := od
          have q109 : x31_3 < (x3_4.length : Int) := od
          obtain ⟨ad109, A109_0, c109_0, e109, hx109_0, hl109_0, hi109_0⟩ := at_L3 (Kd.S_reads' HO_3.out).2.2 x31_3 p109 q109
          cases e109
          obtain ⟨ce109, hce109, hMe109, hcc109⟩ := Kd.S_get HO_3.out [] x31_3 p109 (by first | exact q109 | exact od | (have e_ := (Kd.S_reads' HO_3.out).1; omega))
          obtain ⟨ve109_0, rfl, ge109_0⟩ := hMe109
          have hv109_0 := hcc109 0 _ rfl
          rw [Nat.add_zero, show ((Kd.slice 4 Kd.bool)).sz = 1 from rfl, Nat.mul_one] at hv109_0
          replace hv109_0 := Option.some.inj (hv109_0.symm.trans hx109_0)
          rw [hv109_0] at ge109_0
          have HL109_0 := Aside0.mk (show Kd.R Kd.bool 4 _ _ _ _ (rd_L3 x3_4 x31_3) from ge109_0)
          clear hv109_0 ge109_0
          have HX109_0 := Aside0.mk hx109_0
          clear hcc109 hce109
          have HR109_0 := Aside0.mk hi109_0
          have HC109_0 := Aside0.mk hl109_0
          clear hi109_0 hl109_0
          replace p109 := eq_true p109
          replace q109 := eq_true q109
          have p110 : 0 ≤ (x31_3 : Int) := od
          have q110 : x31_3 < (x3_4.length : Int) := od
          obtain ⟨ad110, A110_0, c110_0, e110, hx110_0, hl110_0, hi110_0⟩ := at_L3 (Kd.S_reads' HO_3.out).2.2 x31_3 p110 q110
          obtain rfl : ad109 = ad110 := (by injection e110)
          obtain ⟨ce110, hce110, hMe110, hcc110⟩ := Kd.S_get HO_3.out [] x31_3 p110 (by first | exact q110 | exact od | (have e_ := (Kd.S_reads' HO_3.out).1; omega))
          obtain ⟨ve110_0, rfl, ge110_0⟩ := hMe110
          have hv110_0 := hcc110 0 _ rfl
          rw [Nat.add_zero, show ((Kd.slice 4 Kd.bool)).sz = 1 from rfl, Nat.mul_one] at hv110_0
          replace hv110_0 := Option.some.inj (hv110_0.symm.trans hx110_0)
          rw [hv110_0] at ge110_0
          have HL110_0 := Aside0.mk (show Kd.R Kd.bool 4 _ _ _ _ (rd_L3 x3_4 x31_3) from ge110_0)
          clear hv110_0 ge110_0
          have HX110_0 := Aside0.mk hx110_0
          clear hcc110 hce110
          have HR110_0 := Aside0.mk hi110_0
          have HC110_0 := Aside0.mk hl110_0
          clear hi110_0 hl110_0
          replace p110 := eq_true p110
          replace q110 := eq_true q110
          have ea_ := Option.some.inj (hx109_0.symm.trans hx110_0)
          injection ea_ with ea_ en_ ec_
          subst ea_
          subst ec_
          clear en_
          have p111 : 0 ≤ (x36_4 : Int) := od
          have q111 : x36_4 < ((rd_L3 x3_4 x31_3).length : Int) := od
          obtain ⟨ad111, e111, hx111_0⟩ := Kd.at_bool (by repeat (first | (with_reducible exact HR110_0.out) | (with_reducible refine Kd.C_alloc ?_ _) | (with_reducible refine Kd.C_drewN ?_ _) | (with_reducible refine Kd.C_drew ?_) | exact HR110_0.out)) x36_4 p111 q111
          (try rw [← Nbq21.out] at hx111_0)
          (try rw [← Nbq29.out] at hx111_0)
          cases e111
          replace p111 := eq_true p111
          replace q111 := eq_true q111
          have p115 : 0 ≤ (x31_3 : Int) := od
          have q115 : x31_3 < (x3_4.length : Int) := od
          obtain ⟨ad115, A115_0, c115_0, e115, hx115_0, hl115_0, hi115_0⟩ := at_L3 (Kd.S_reads' HO_3.out).2.2 x31_3 p115 q115
          obtain rfl : ad109 = ad115 := (by injection e115)
          obtain ⟨ce115, hce115, hMe115, hcc115⟩ := Kd.S_get HO_3.out [] x31_3 p115 (by first | exact q115 | exact od | (have e_ := (Kd.S_reads' HO_3.out).1; omega))
          obtain ⟨ve115_0, rfl, ge115_0⟩ := hMe115
          have hv115_0 := hcc115 0 _ rfl
          rw [Nat.add_zero, show ((Kd.slice 4 Kd.bool)).sz = 1 from rfl, Nat.mul_one] at hv115_0
          replace hv115_0 := Option.some.inj (hv115_0.symm.trans hx115_0)
          rw [hv115_0] at ge115_0
          have HL115_0 := Aside0.mk (show Kd.R Kd.bool 4 _ _ _ _ (rd_L3 x3_4 x31_3) from ge115_0)
          clear hv115_0 ge115_0
          have HX115_0 := Aside0.mk hx115_0
          clear hcc115 hce115
          have HR115_0 := Aside0.mk hi115_0
          have HC115_0 := Aside0.mk hl115_0
          clear hi115_0 hl115_0
          replace p115 := eq_true p115
          replace q115 := eq_true q115
          have ea_ := Option.some.inj (hx109_0.symm.trans hx115_0)
          injection ea_ with ea_ en_ ec_
          subst ea_
          subst ec_
          clear en_
          have p116 : 0 ≤ (x26_2 : Int) := od
          have q116 : x26_2 < ((rd_L3 x3_4 x31_3).length : Int) := od
          obtain ⟨ad116, e116, hx116_0⟩ := Kd.at_bool (by repeat (first | (with_reducible exact HR115_0.out) | (with_reducible refine Kd.C_alloc ?_ _) | (with_reducible refine Kd.C_drewN ?_ _) | (with_reducible refine Kd.C_drew ?_) | exact HR115_0.out)) x26_2 p116 q116
          (try rw [← Nbq21.out] at hx116_0)
          (try rw [← Nbq29.out] at hx116_0)
          cases e116
          replace p116 := eq_true p116
          replace q116 := eq_true q116
          have p37 : 0 ≤ (x36_4 : Int) := od
          have q37 : (x36_4 : Int) < (((rd_L3 x3_4 x31_3).length : Int) : Int) := od
          obtain ⟨go37, co37, eo37, gb37, gl37, cl37, HG37⟩ := Kd.R_form HL109_0.out (by omega)
          (first | cases eo37 | (injection eo37 with ea_ en_ ec_; (first | subst ea_ | (injection ea_ with ea_; subst ea_)); subst ec_; clear en_))
          have GB37 := Aside0.mk gb37
          have GG37 := Aside0.mk HG37
          clear gb37 gl37 HG37
          (first | simp only [add_plain] at hx116_0 | skip)
          obtain ⟨hx37_0, hf37_0⟩ := Kd.R_celln false HL109_0.out (x36_4 : Int) p37 q37
          replace p37 := eq_true p37
          replace q37 := eq_true q37
          have hq39 : (x31_3 : Int) < (x3_4.length : Int) := (by have h_ : (x31_3 : Int) < ((x3_4.length : Int) : Int) := od; first | exact h_ | (have e_ := (Kd.S_reads' HO_3.out).1; omega) | simpa only [List.length_set, List.length_set] using h_)
          obtain ⟨oki39, ce39, hcl39, hM39, hcc39, hok39, hbk39⟩ := Kd.S_borrow HO_3.out [] (x31_3 : Int) (od) hq39
          obtain ⟨ve39_0, rfl, ge39_0⟩ := hM39
          have hv39 := hcc39 0 _ rfl
          rw [Nat.add_zero, show ((Kd.slice 4 Kd.bool)).sz = 1 from rfl, Nat.mul_one] at hv39
          replace hv39 := Option.some.inj (hv39.symm.trans HX109_0.out)
          subst hv39
          clear hcc39 hcl39
          replace ge39_0 := (show Kd.R Kd.bool 4 _ _ _ _ (rd_L3 x3_4 x31_3) from ge39_0)
          have HP39 := Kd.R_putg ge39_0 (x36_4 : Int) false
          rw [← Ny122.out] at HP39
          have HS39 := hbk39 HP39.2 (fun k_ e_ => by injection e_ with e_; subst e_; exact ge39_0.1 _ rfl) (x' := y122) (Kd.M_row HP39.1)
          rw [← Ny124.out] at HS39
          have HQ39 := Aside0.mk HS39
          clear HP39 HS39 hbk39 hok39
          (first | simp only [add_plain] at hx111_0 | skip)
          refine start_ (n := 32) (S := fun w' => w'.cell? (ad109.add (x31_3).toNat) = some (.slice (some ⟨go37, 0, none⟩) (rd_L3 x3_4 x31_3).length c109_0) ∧ w'.cell? (ad109.add (x31_3).toNat) = some (.slice (some ⟨go37, 0, none⟩) (rd_L3 x3_4 x31_3).length c109_0) ∧ w'.cell? ⟨go37, (x36_4).toNat, none⟩ = some (.bool false) ∧ w'.cell? (ad109.add (x31_3).toNat) = some (.slice (some ⟨go37, 0, none⟩) (rd_L3 x3_4 x31_3).length c109_0) ∧ w'.cell? ⟨go37, (x26_2).toNat, none⟩ = some (.bool false)) (ds := [31]) #[false, false, false, false, false, false, false, false, false, false, false, false, false, false, false, false, false, false, false, false, false, false, false, false, false, false, false, false, false, false, false, false] (by kernel_rfl) rfl rfl ⟨hx109_0, hx110_0, hx111_0, hx115_0, hx116_0⟩ (fun hHeld => ?_); refine with_tabW rank_Closure.tab18 rank_Closure.bits18 (fun HT_ HW_ => ?_)
          generalize wr.drew = w38 at HO_3 HB GG37 HL109_0 HL110_0 HL115_0 HQ39 HR109_0 HR110_0 HR115_0 HX109_0 HX110_0 HX115_0 hf37_0 hx109_0 hx110_0 hx111_0 hx115_0 hx116_0 hx37_0 hHeld ⊢
          refine pv 0 39 HT_.out ?_
          refine pv 1 40 HT_.out ?_
          refine pv 2 41 HT_.out ?_
          refine pv 4 43 HT_.out ?_
          refine pv 5 44 HT_.out ?_
          refine pv 6 45 HT_.out ?_
          refine pv 7 46 HT_.out ?_
          refine pv 9 48 HT_.out ?_
          refine take_ (i := 3) (N := some 42) (v := ?_) (a' := ?_) #[true, true, true, true, true, true, true, true, false, true, false, false, false, false, false, false, false, false, false, false, false, false, false, false, false, false, false, false, false, false, false, false] rfl rfl (take_ofW HT_.out HW_.out (by kernel_rfl)) (fun _ _ _ h => h) (Or.inl ⟨by rfl, ?_⟩) hHeld ?_ ?_
          rotate_left
          ·
           rintro w' ⟨s0, s1, s2, s3, s4⟩
           go_simp
           with_reducible rfl
          rotate_left
          ·
           simp only [Act.put, List.setIfInBounds_toArray, List.set_cons_zero, List.set_cons_succ, i64_w, i32_w]
           rfl
          refine take_ (i := 8) (N := some 47) (v := ?_) (a' := ?_) #[true, true, true, true, true, true, true, true, true, true, false, false, false, false, false, false, false, false, false, false, false, false, false, false, false, false, false, false, false, false, false, false] rfl rfl (take_ofW HT_.out HW_.out (by kernel_rfl)) (fun _ _ _ h => h) (Or.inl ⟨by rfl, ?_⟩) hHeld ?_ ?_
          rotate_left
          ·
           rintro w' ⟨s0, s1, s2, s3, s4⟩
           go_simp
           with_reducible rfl
          rotate_left
          ·
           simp only [Act.put, List.setIfInBounds_toArray, List.set_cons_zero, List.set_cons_succ, i64_w, i32_w]
           rfl
          refine pv 10 49 HT_.out ?_
          refine take_ (i := 11) (N := some 50) (v := ?_) (a' := ?_) #[true, true, true, true, true, true, true, true, true, true, true, true, false, false, false, false, false, false, false, false, false, false, false, false, false, false, false, false, false, false, false, false] rfl rfl (take_ofW HT_.out HW_.out (by kernel_rfl)) (fun _ _ _ h => h) (Or.inl ⟨by rfl, ?_⟩) hHeld ?_ ?_
          rotate_left
          ·
           rintro w' ⟨s0, s1, s2, s3, s4⟩
           go_simp
           with_reducible rfl
          rotate_left
          ·
           simp only [Act.put, List.setIfInBounds_toArray, List.set_cons_zero, List.set_cons_succ, i64_w, i32_w]
           rfl
          refine pv 12 51 HT_.out ?_
          refine pv 13 52 HT_.out ?_
          refine pv 14 53 HT_.out ?_
          refine pv 15 54 HT_.out ?_
          refine pv 17 56 HT_.out ?_
          refine take_ (i := 16) (N := some 55) (v := ?_) (a' := ?_) #[true, true, true, true, true, true, true, true, true, true, true, true, true, true, true, true, true, true, false, false, false, false, false, false, false, false, false, false, false, false, false, false] rfl rfl (take_ofW HT_.out HW_.out (by kernel_rfl)) (fun _ _ _ h => h) (Or.inl ⟨by rfl, ?_⟩) hHeld ?_ ?_
          rotate_left
          ·
           rintro w' ⟨s0, s1, s2, s3, s4⟩
           go_simp
           with_reducible rfl
          rotate_left
          ·
           simp only [Act.put, List.setIfInBounds_toArray, List.set_cons_zero, List.set_cons_succ, i64_w, i32_w]
           rfl
          refine pv 18 57 HT_.out ?_
          refine take_ (i := 19) (N := some 58) (v := ?_) (a' := ?_) #[true, true, true, true, true, true, true, true, true, true, true, true, true, true, true, true, true, true, true, true, false, false, false, false, false, false, false, false, false, false, false, false] rfl rfl (take_ofW HT_.out HW_.out (by kernel_rfl)) (fun _ _ _ h => h) (Or.inl ⟨by rfl, ?_⟩) hHeld ?_ ?_
          rotate_left
          ·
           rintro w' ⟨s0, s1, s2, s3, s4⟩
           go_simp
           with_reducible rfl
          rotate_left
          ·
           simp only [Act.put, List.setIfInBounds_toArray, List.set_cons_zero, List.set_cons_succ, i64_w, i32_w]
           rfl
          refine pv 20 59 HT_.out ?_
          refine pu 21 60 HT_.out ?_
          refine pu 22 61 HT_.out ?_
          refine pu 23 62 HT_.out ?_
          refine pu 24 63 HT_.out ?_
          refine pu 25 64 HT_.out ?_
          refine pu 26 65 HT_.out ?_
          refine pu 27 66 HT_.out ?_
          refine pv 28 67 HT_.out ?_
          refine pv 29 68 HT_.out ?_
          refine pv 30 69 HT_.out ?_
          refine last_ (i := 31) (N := none) #[true, true, true, true, true, true, true, true, true, true, true, true, true, true, true, true, true, true, true, true, true, true, true, true, true, true, true, true, true, true, true, true] rfl rfl (one_of HT_.out (by kernel_rfl)) (by decide) (fun K hK => ?_)
          refine skip_ (w1 := ?_) (by rfl) rfl ?_ ?_
          rotate_left
          ·
           go_simp
           rfl
          refine hK.out _ _ ?_
          clear hK K
          refine done_ (done_of HT_.out (by kernel_rfl)) ?_
          try go_wp2
          (try simp only [← hl3_4])
          go_roundg k4
          case measure => have := HK1.out; have := HK2.out; have := HK3.out; have := HK4.out; omega
          case rel => exact ⟨(y124), (wrap64 (x36_4 + 1)), rs, H', ⟨by have := HK1.out; have := HK2.out; have := HK3.out; have := HK4.out; omega⟩, ⟨by (try simp only [hl3_2]); (try simp only [hl3_3]); (try simp only [hl3_4]); refine sm ?_; exact HQ39.out⟩, ⟨by repeat (first | (with_reducible first | exact HB.out | apply below_alloc | apply pw_below_drewN | apply below_drew1 | refine below_set ?_ GB37.out) | exact HB.out)⟩⟩
         subst c30
         have H1 : (if x26_2 < (x3_4.length : Int) then (if x36_4 < ((rd_L3 x3_4 x26_2).length : Int) then (rank_Closure.l3 k4 (x3_4.set (x31_3 : Int).toNat ((rd_L3 x3_4 x31_3).set (x36_4 : Int).toNat (rdOf false (rd_L3 x3_4 x26_2) x36_4))) x26_2 x31_3 (x3_1.length : Int) x26_2 (x3_2.length : Int) x31_3 (x3_3.length : Int) (wrap64 (x36_4 + 1))) else (none)) else (none)) = some r := by rw [if_pos rfl] at H; exact H
         clear H
         have H := H1
         clear H1
         by_cases c31 : x26_2 < (x3_4.length : Int)
         rotate_left
         ·
          rw [if_neg c31] at H
          exact absurd H (by simp)
         rw [if_pos c31] at H
         have c31b0 : decide (x26_2 < (x3_4.length : Int)) = true := decide_eq_true c31
         try (have c31b6_hl3_2 := c31b0; simp only [hl3_2] at c31b6_hl3_2)
         try (have c31b6_hl3_3 := c31b0; simp only [hl3_3] at c31b6_hl3_3)
         try (have c31b6_hl3_4 := c31b0; simp only [hl3_4] at c31b6_hl3_4)
         try (have c31b6_hl3_2 := c31b0; simp only [hl3_2] at c31b6_hl3_2)
         try (have c31b6_hl3_3 := c31b0; simp only [hl3_3] at c31b6_hl3_3)
         try (have c31b6_hl3_4 := c31b0; simp only [hl3_4] at c31b6_hl3_4)
         clear c31
         by_cases c32 : x36_4 < ((rd_L3 x3_4 x26_2).length : Int)
         rotate_left
         ·
          rw [if_neg c32] at H
          exact absurd H (by simp)
         rw [if_pos c32] at H
         have c32b0 : decide (x36_4 < ((rd_L3 x3_4 x26_2).length : Int)) = true := decide_eq_true c32
         try (have c32b6_hl3_2 := c32b0; simp only [hl3_2] at c32b6_hl3_2)
         try (have c32b6_hl3_3 := c32b0; simp only [hl3_3] at c32b6_hl3_3)
         try (have c32b6_hl3_4 := c32b0; simp only [hl3_4] at c32b6_hl3_4)
         try (have c32b6_hl3_2 := c32b0; simp only [hl3_2] at c32b6_hl3_2)
         try (have c32b6_hl3_3 := c32b0; simp only [hl3_3] at c32b6_hl3_3)
         try (have c32b6_hl3_4 := c32b0; simp only [hl3_4] at c32b6_hl3_4)
         clear c32
         obtain ⟨y119, hy119⟩ : ∃ y_ : List Bool, y_ = ((rd_L3 x3_4 x31_3).set (x36_4 : Int).toNat (rdOf false (rd_L3 x3_4 x26_2) x36_4)) := ⟨_, rfl⟩
         replace H : (rank_Closure.l3 k4 (x3_4.set (x31_3 : Int).toNat y119) x26_2 x31_3 (x3_1.length : Int) x26_2 (x3_2.length : Int) x31_3 (x3_3.length : Int) (wrap64 (x36_4 + 1))) = some r := by first | (rw [hy119]; with_reducible exact H) | (have H2_ := (Option.bind_some _ _).symm.trans H; rw [hy119]; with_reducible exact H2_) | (have H2_ := (Option.bind_some _ _).symm.trans H; with_reducible exact H2_) | with_reducible exact H | (rw [hy119]; exact H) | exact H
         have Ny119 := Aside0.mk hy119
         clear hy119
         obtain ⟨y121, hy121⟩ : ∃ y_ : List (List Bool), y_ = (x3_4.set (x31_3 : Int).toNat y119) := ⟨_, rfl⟩
         replace H : (rank_Closure.l3 k4 y121 x26_2 x31_3 (x3_1.length : Int) x26_2 (x3_2.length : Int) x31_3 (x3_3.length : Int) (wrap64 (x36_4 + 1))) = some r := by first | (rw [hy121]; with_reducible exact H) | (have H2_ := (Option.bind_some _ _).symm.trans H; rw [hy121]; with_reducible exact H2_) | (have H2_ := (Option.bind_some _ _).symm.trans H; with_reducible exact H2_) | with_reducible exact H | (rw [hy121]; exact H) | exact H
         have Ny121 := Aside0.mk hy121
         clear hy121
         have H' := Aside0.mk H
         clear H
         try go_wp2
         have n0_ := Aside0.mk (Kd.S_drew HO_3.out)
         have n1_ := Aside0.mk (below_drew1 HB.out)
         clear HO_3
         clear HB
         have HO_3 := n0_
         have HB := n1_
         clear n0_ n1_
         have p109 : 0 ≤ (x31_3 : Int) := od
         have q109 : x31_3 < (x3_4.length : Int) := od
         obtain ⟨ad109, A109_0, c109_0, e109, hx109_0, hl109_0, hi109_0⟩ := at_L3 (Kd.S_reads' HO_3.out).2.2 x31_3 p109 q109
         cases e109
         obtain ⟨ce109, hce109, hMe109, hcc109⟩ := Kd.S_get HO_3.out [] x31_3 p109 (by first | exact q109 | exact od | (have e_ := (Kd.S_reads' HO_3.out).1; omega))
         obtain ⟨ve109_0, rfl, ge109_0⟩ := hMe109
         have hv109_0 := hcc109 0 _ rfl
         rw [Nat.add_zero, show ((Kd.slice 4 Kd.bool)).sz = 1 from rfl, Nat.mul_one] at hv109_0
         replace hv109_0 := Option.some.inj (hv109_0.symm.trans hx109_0)
         rw [hv109_0] at ge109_0
         have HL109_0 := Aside0.mk (show Kd.R Kd.bool 4 _ _ _ _ (rd_L3 x3_4 x31_3) from ge109_0)
         clear hv109_0 ge109_0
         have HX109_0 := Aside0.mk hx109_0
         clear hcc109 hce109
         have HR109_0 := Aside0.mk hi109_0
         have HC109_0 := Aside0.mk hl109_0
         clear hi109_0 hl109_0
         replace p109 := eq_true p109
         replace q109 := eq_true q109
         have p110 : 0 ≤ (x31_3 : Int) := od
         have q110 : x31_3 < (x3_4.length : Int) := od
         obtain ⟨ad110, A110_0, c110_0, e110, hx110_0, hl110_0, hi110_0⟩ := at_L3 (Kd.S_reads' HO_3.out).2.2 x31_3 p110 q110
         obtain rfl : ad109 = ad110 := (by injection e110)
         obtain ⟨ce110, hce110, hMe110, hcc110⟩ := Kd.S_get HO_3.out [] x31_3 p110 (by first | exact q110 | exact od | (have e_ := (Kd.S_reads' HO_3.out).1; omega))
         obtain ⟨ve110_0, rfl, ge110_0⟩ := hMe110
         have hv110_0 := hcc110 0 _ rfl
         rw [Nat.add_zero, show ((Kd.slice 4 Kd.bool)).sz = 1 from rfl, Nat.mul_one] at hv110_0
         replace hv110_0 := Option.some.inj (hv110_0.symm.trans hx110_0)
         rw [hv110_0] at ge110_0
         have HL110_0 := Aside0.mk (show Kd.R Kd.bool 4 _ _ _ _ (rd_L3 x3_4 x31_3) from ge110_0)
         clear hv110_0 ge110_0
         have HX110_0 := Aside0.mk hx110_0
         clear hcc110 hce110
         have HR110_0 := Aside0.mk hi110_0
         have HC110_0 := Aside0.mk hl110_0
         clear hi110_0 hl110_0
         replace p110 := eq_true p110
         replace q110 := eq_true q110
         have ea_ := Option.some.inj (hx109_0.symm.trans hx110_0)
         injection ea_ with ea_ en_ ec_
         subst ea_
         subst ec_
         clear en_
         have p111 : 0 ≤ (x36_4 : Int) := od
         have q111 : x36_4 < ((rd_L3 x3_4 x31_3).length : Int) := od
         obtain ⟨ad111, e111, hx111_0⟩ := Kd.at_bool (by repeat (first | (with_reducible exact HR110_0.out) | (with_reducible refine Kd.C_alloc ?_ _) | (with_reducible refine Kd.C_drewN ?_ _) | (with_reducible refine Kd.C_drew ?_) | exact HR110_0.out)) x36_4 p111 q111
         (try rw [← Nbq21.out] at hx111_0)
         (try rw [← Nbq29.out] at hx111_0)
         cases e111
         replace p111 := eq_true p111
         replace q111 := eq_true q111
         have p115 : 0 ≤ (x31_3 : Int) := od
         have q115 : x31_3 < (x3_4.length : Int) := od
         obtain ⟨ad115, A115_0, c115_0, e115, hx115_0, hl115_0, hi115_0⟩ := at_L3 (Kd.S_reads' HO_3.out).2.2 x31_3 p115 q115
         obtain rfl : ad109 = ad115 := (by injection e115)
         obtain ⟨ce115, hce115, hMe115, hcc115⟩ := Kd.S_get HO_3.out [] x31_3 p115 (by first | exact q115 | exact od | (have e_ := (Kd.S_reads' HO_3.out).1; omega))
         obtain ⟨ve115_0, rfl, ge115_0⟩ := hMe115
         have hv115_0 := hcc115 0 _ rfl
         rw [Nat.add_zero, show ((Kd.slice 4 Kd.bool)).sz = 1 from rfl, Nat.mul_one] at hv115_0
         replace hv115_0 := Option.some.inj (hv115_0.symm.trans hx115_0)
         rw [hv115_0] at ge115_0
         have HL115_0 := Aside0.mk (show Kd.R Kd.bool 4 _ _ _ _ (rd_L3 x3_4 x31_3) from ge115_0)
         clear hv115_0 ge115_0
         have HX115_0 := Aside0.mk hx115_0
         clear hcc115 hce115
         have HR115_0 := Aside0.mk hi115_0
         have HC115_0 := Aside0.mk hl115_0
         clear hi115_0 hl115_0
         replace p115 := eq_true p115
         replace q115 := eq_true q115
         have ea_ := Option.some.inj (hx109_0.symm.trans hx115_0)
         injection ea_ with ea_ en_ ec_
         subst ea_
         subst ec_
         clear en_
         have p116 : 0 ≤ (x26_2 : Int) := od
         have q116 : x26_2 < ((rd_L3 x3_4 x31_3).length : Int) := od
         obtain ⟨ad116, e116, hx116_0⟩ := Kd.at_bool (by repeat (first | (with_reducible exact HR115_0.out) | (with_reducible refine Kd.C_alloc ?_ _) | (with_reducible refine Kd.C_drewN ?_ _) | (with_reducible refine Kd.C_drew ?_) | exact HR115_0.out)) x26_2 p116 q116
         (try rw [← Nbq21.out] at hx116_0)
         (try rw [← Nbq29.out] at hx116_0)
         cases e116
         replace p116 := eq_true p116
         replace q116 := eq_true q116
         have p117 : 0 ≤ (x26_2 : Int) := od
         have q117 : x26_2 < (x3_4.length : Int) := od
         obtain ⟨ad117, A117_0, c117_0, e117, hx117_0, hl117_0, hi117_0⟩ := at_L3 (Kd.S_reads' HO_3.out).2.2 x26_2 p117 q117
         obtain rfl : ad109 = ad117 := (by injection e117)
         obtain ⟨ce117, hce117, hMe117, hcc117⟩ := Kd.S_get HO_3.out [] x26_2 p117 (by first | exact q117 | exact od | (have e_ := (Kd.S_reads' HO_3.out).1; omega))
         obtain ⟨ve117_0, rfl, ge117_0⟩ := hMe117
         have hv117_0 := hcc117 0 _ rfl
         rw [Nat.add_zero, show ((Kd.slice 4 Kd.bool)).sz = 1 from rfl, Nat.mul_one] at hv117_0
         replace hv117_0 := Option.some.inj (hv117_0.symm.trans hx117_0)
         rw [hv117_0] at ge117_0
         have HL117_0 := Aside0.mk (show Kd.R Kd.bool 4 _ _ _ _ (rd_L3 x3_4 x26_2) from ge117_0)
         clear hv117_0 ge117_0
         have HX117_0 := Aside0.mk hx117_0
         clear hcc117 hce117
         have HR117_0 := Aside0.mk hi117_0
         have HC117_0 := Aside0.mk hl117_0
         clear hi117_0 hl117_0
         replace p117 := eq_true p117
         replace q117 := eq_true q117
         have p118 : 0 ≤ (x36_4 : Int) := od
         have q118 : x36_4 < ((rd_L3 x3_4 x26_2).length : Int) := od
         obtain ⟨ad118, e118, hx118_0⟩ := Kd.at_bool (by repeat (first | (with_reducible exact HR117_0.out) | (with_reducible refine Kd.C_alloc ?_ _) | (with_reducible refine Kd.C_drewN ?_ _) | (with_reducible refine Kd.C_drew ?_) | exact HR117_0.out)) x36_4 p118 q118
         (try rw [← Nbq21.out] at hx118_0)
         (try rw [← Nbq29.out] at hx118_0)
         cases e118
         replace p118 := eq_true p118
         replace q118 := eq_true q118
         have p33 : 0 ≤ (x36_4 : Int) := od
         have q33 : (x36_4 : Int) < (((rd_L3 x3_4 x31_3).length : Int) : Int) := od
         obtain ⟨go33, co33, eo33, gb33, gl33, cl33, HG33⟩ := Kd.R_form HL109_0.out (by omega)
         (first | cases eo33 | (injection eo33 with ea_ en_ ec_; (first | subst ea_ | (injection ea_ with ea_; subst ea_)); subst ec_; clear en_))
         have GB33 := Aside0.mk gb33
         have GG33 := Aside0.mk HG33
         clear gb33 gl33 HG33
         (first | simp only [add_plain] at hx116_0 | skip)
         obtain ⟨hx33_0, hf33_0⟩ := Kd.R_celln false HL109_0.out (x36_4 : Int) p33 q33
         replace p33 := eq_true p33
         replace q33 := eq_true q33
         have hq35 : (x31_3 : Int) < (x3_4.length : Int) := (by have h_ : (x31_3 : Int) < ((x3_4.length : Int) : Int) := od; first | exact h_ | (have e_ := (Kd.S_reads' HO_3.out).1; omega) | simpa only [List.length_set, List.length_set] using h_)
         obtain ⟨oki35, ce35, hcl35, hM35, hcc35, hok35, hbk35⟩ := Kd.S_borrow HO_3.out [] (x31_3 : Int) (od) hq35
         obtain ⟨ve35_0, rfl, ge35_0⟩ := hM35
         have hv35 := hcc35 0 _ rfl
         rw [Nat.add_zero, show ((Kd.slice 4 Kd.bool)).sz = 1 from rfl, Nat.mul_one] at hv35
         replace hv35 := Option.some.inj (hv35.symm.trans HX109_0.out)
         subst hv35
         clear hcc35 hcl35
         replace ge35_0 := (show Kd.R Kd.bool 4 _ _ _ _ (rd_L3 x3_4 x31_3) from ge35_0)
         have HP35 := Kd.R_putg ge35_0 (x36_4 : Int) (rdOf false (rd_L3 x3_4 x26_2) x36_4)
         rw [← Ny119.out] at HP35
         have HS35 := hbk35 HP35.2 (fun k_ e_ => by injection e_ with e_; subst e_; exact ge35_0.1 _ rfl) (x' := y119) (Kd.M_row HP35.1)
         rw [← Ny121.out] at HS35
         have HQ35 := Aside0.mk HS35
         clear HP35 HS35 hbk35 hok35
         (first | simp only [add_plain] at hx111_0 | skip)
         refine start_ (n := 32) (S := fun w' => w'.cell? (ad109.add (x31_3).toNat) = some (.slice (some ⟨go33, 0, none⟩) (rd_L3 x3_4 x31_3).length c109_0) ∧ w'.cell? (ad109.add (x31_3).toNat) = some (.slice (some ⟨go33, 0, none⟩) (rd_L3 x3_4 x31_3).length c109_0) ∧ w'.cell? ⟨go33, (x36_4).toNat, none⟩ = some (.bool false) ∧ w'.cell? (ad109.add (x31_3).toNat) = some (.slice (some ⟨go33, 0, none⟩) (rd_L3 x3_4 x31_3).length c109_0) ∧ w'.cell? ⟨go33, (x26_2).toNat, none⟩ = some (.bool true) ∧ w'.cell? (ad109.add (x26_2).toNat) = some (.slice (some ad118) (rd_L3 x3_4 x26_2).length c117_0) ∧ w'.cell? (ad118.add (x36_4).toNat) = some (.bool (rdOf false (rd_L3 x3_4 x26_2) x36_4))) (ds := [31]) #[false, false, false, false, false, false, false, false, false, false, false, false, false, false, false, false, false, false, false, false, false, false, false, false, false, false, false, false, false, false, false, false] (by kernel_rfl) rfl rfl ⟨hx109_0, hx110_0, hx111_0, hx115_0, hx116_0, hx117_0, hx118_0⟩ (fun hHeld => ?_); refine with_tabW rank_Closure.tab18 rank_Closure.bits18 (fun HT_ HW_ => ?_)
         generalize wr.drew = w34 at HO_3 HB GG33 HL109_0 HL110_0 HL115_0 HL117_0 HQ35 HR109_0 HR110_0 HR115_0 HR117_0 HX109_0 HX110_0 HX115_0 HX117_0 hf33_0 hx109_0 hx110_0 hx111_0 hx115_0 hx116_0 hx117_0 hx118_0 hx33_0 hHeld ⊢
         refine pv 0 39 HT_.out ?_
         refine pv 1 40 HT_.out ?_
         refine pv 2 41 HT_.out ?_
         refine pv 4 43 HT_.out ?_
         refine pv 5 44 HT_.out ?_
         refine pv 6 45 HT_.out ?_
         refine pv 7 46 HT_.out ?_
         refine pv 9 48 HT_.out ?_
         refine take_ (i := 3) (N := some 42) (v := ?_) (a' := ?_) #[true, true, true, true, true, true, true, true, false, true, false, false, false, false, false, false, false, false, false, false, false, false, false, false, false, false, false, false, false, false, false, false] rfl rfl (take_ofW HT_.out HW_.out (by kernel_rfl)) (fun _ _ _ h => h) (Or.inl ⟨by rfl, ?_⟩) hHeld ?_ ?_
         rotate_left
         ·
          rintro w' ⟨s0, s1, s2, s3, s4, s5, s6⟩
          go_simp
          with_reducible rfl
         rotate_left
         ·
          simp only [Act.put, List.setIfInBounds_toArray, List.set_cons_zero, List.set_cons_succ, i64_w, i32_w]
          rfl
         refine take_ (i := 8) (N := some 47) (v := ?_) (a' := ?_) #[true, true, true, true, true, true, true, true, true, true, false, false, false, false, false, false, false, false, false, false, false, false, false, false, false, false, false, false, false, false, false, false] rfl rfl (take_ofW HT_.out HW_.out (by kernel_rfl)) (fun _ _ _ h => h) (Or.inl ⟨by rfl, ?_⟩) hHeld ?_ ?_
         rotate_left
         ·
          rintro w' ⟨s0, s1, s2, s3, s4, s5, s6⟩
          go_simp
          with_reducible rfl
         rotate_left
         ·
          simp only [Act.put, List.setIfInBounds_toArray, List.set_cons_zero, List.set_cons_succ, i64_w, i32_w]
          rfl
         refine pv 10 49 HT_.out ?_
         refine take_ (i := 11) (N := some 50) (v := ?_) (a' := ?_) #[true, true, true, true, true, true, true, true, true, true, true, true, false, false, false, false, false, false, false, false, false, false, false, false, false, false, false, false, false, false, false, false] rfl rfl (take_ofW HT_.out HW_.out (by kernel_rfl)) (fun _ _ _ h => h) (Or.inl ⟨by rfl, ?_⟩) hHeld ?_ ?_
         rotate_left
         ·
          rintro w' ⟨s0, s1, s2, s3, s4, s5, s6⟩
          go_simp
          with_reducible rfl
         rotate_left
         ·
          simp only [Act.put, List.setIfInBounds_toArray, List.set_cons_zero, List.set_cons_succ, i64_w, i32_w]
          rfl
         refine pv 12 51 HT_.out ?_
         refine pv 13 52 HT_.out ?_
         refine pv 14 53 HT_.out ?_
         refine pv 15 54 HT_.out ?_
         refine pv 17 56 HT_.out ?_
         refine take_ (i := 16) (N := some 55) (v := ?_) (a' := ?_) #[true, true, true, true, true, true, true, true, true, true, true, true, true, true, true, true, true, true, false, false, false, false, false, false, false, false, false, false, false, false, false, false] rfl rfl (take_ofW HT_.out HW_.out (by kernel_rfl)) (fun _ _ _ h => h) (Or.inl ⟨by rfl, ?_⟩) hHeld ?_ ?_
         rotate_left
         ·
          rintro w' ⟨s0, s1, s2, s3, s4, s5, s6⟩
          go_simp
          with_reducible rfl
         rotate_left
         ·
          simp only [Act.put, List.setIfInBounds_toArray, List.set_cons_zero, List.set_cons_succ, i64_w, i32_w]
          rfl
         refine pv 18 57 HT_.out ?_
         refine take_ (i := 19) (N := some 58) (v := ?_) (a' := ?_) #[true, true, true, true, true, true, true, true, true, true, true, true, true, true, true, true, true, true, true, true, false, false, false, false, false, false, false, false, false, false, false, false] rfl rfl (take_ofW HT_.out HW_.out (by kernel_rfl)) (fun _ _ _ h => h) (Or.inl ⟨by rfl, ?_⟩) hHeld ?_ ?_
         rotate_left
         ·
          rintro w' ⟨s0, s1, s2, s3, s4, s5, s6⟩
          go_simp
          with_reducible rfl
         rotate_left
         ·
          simp only [Act.put, List.setIfInBounds_toArray, List.set_cons_zero, List.set_cons_succ, i64_w, i32_w]
          rfl
         refine pv 20 59 HT_.out ?_
         refine pv 21 60 HT_.out ?_
         refine pv 22 61 HT_.out ?_
         refine pv 23 62 HT_.out ?_
         refine pv 25 64 HT_.out ?_
         refine take_ (i := 24) (N := some 63) (v := ?_) (a' := ?_) #[true, true, true, true, true, true, true, true, true, true, true, true, true, true, true, true, true, true, true, true, true, true, true, true, true, true, false, false, false, false, false, false] rfl rfl (take_ofW HT_.out HW_.out (by kernel_rfl)) (fun _ _ _ h => h) (Or.inl ⟨by rfl, ?_⟩) hHeld ?_ ?_
         rotate_left
         ·
          rintro w' ⟨s0, s1, s2, s3, s4, s5, s6⟩
          go_simp
          with_reducible rfl
         rotate_left
         ·
          simp only [Act.put, List.setIfInBounds_toArray, List.set_cons_zero, List.set_cons_succ, i64_w, i32_w]
          rfl
         refine pv 26 65 HT_.out ?_
         refine take_ (i := 27) (N := some 66) (v := ?_) (a' := ?_) #[true, true, true, true, true, true, true, true, true, true, true, true, true, true, true, true, true, true, true, true, true, true, true, true, true, true, true, true, false, false, false, false] rfl rfl (take_ofW HT_.out HW_.out (by kernel_rfl)) (fun _ _ _ h => h) (Or.inl ⟨by rfl, ?_⟩) hHeld ?_ ?_
         rotate_left
         ·
          rintro w' ⟨s0, s1, s2, s3, s4, s5, s6⟩
          go_simp
          with_reducible rfl
         rotate_left
         ·
          simp only [Act.put, List.setIfInBounds_toArray, List.set_cons_zero, List.set_cons_succ, i64_w, i32_w]
          rfl
         refine pv 28 67 HT_.out ?_
         refine pv 29 68 HT_.out ?_
         refine pv 30 69 HT_.out ?_
         refine last_ (i := 31) (N := none) #[true, true, true, true, true, true, true, true, true, true, true, true, true, true, true, true, true, true, true, true, true, true, true, true, true, true, true, true, true, true, true, true] rfl rfl (one_of HT_.out (by kernel_rfl)) (by decide) (fun K hK => ?_)
         refine skip_ (w1 := ?_) (by rfl) rfl ?_ ?_
         rotate_left
         ·
          go_simp
          rfl
         refine hK.out _ _ ?_
         clear hK K
         refine done_ (done_of HT_.out (by kernel_rfl)) ?_
         try go_wp2
         (try simp only [← hl3_4])
         go_roundg k4
         case measure => have := HK1.out; have := HK2.out; have := HK3.out; have := HK4.out; omega
         case rel => exact ⟨(y121), (wrap64 (x36_4 + 1)), rs, H', ⟨by have := HK1.out; have := HK2.out; have := HK3.out; have := HK4.out; omega⟩, ⟨by (try simp only [hl3_2]); (try simp only [hl3_3]); (try simp only [hl3_4]); refine sm ?_; exact HQ35.out⟩, ⟨by repeat (first | (with_reducible first | exact HB.out | apply below_alloc | apply pw_below_drewN | apply below_drew1 | refine below_set ?_ GB33.out) | exact HB.out)⟩⟩

end Go.Proofs.Ytcoelecaigkfcaa.K
