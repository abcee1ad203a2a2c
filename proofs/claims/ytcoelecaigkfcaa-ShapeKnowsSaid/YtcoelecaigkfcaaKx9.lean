-- Laid by drive.py (a program of the session's) out of the translation. Lean checks it.
import Derived.Test.YtcoelecaigkfcaaKx0
import Derived.Test.YtcoelecaigkfcaaKx6
import Derived.Test.YtcoelecaigkfcaaKx7
import Derived.Test.YtcoelecaigkfcaaKx8
namespace Go.Proofs.Ytcoelecaigkfcaa.K
open Go.RowKit Go.Proofs.YtcoelecaigkfcaaW.PrintWords Go.Proofs.YtcoelecaigkfcaaW.PrintLast
set_option linter.unusedVariables false
set_option linter.unusedSimpArgs false

/-! ### shape_Sources: function 14 -/
def shape_Sources.l0 : Nat → Int → List Int → List (List Bool) → List (S38) → Int → Int → List (S38) → List Int → Option (List Int)
  | 0, _, _, _, _, _, _, _, _ => none
  | k + 1, x1, x5, x6, x16, x17, x18, x202000, x202001 => if x18 < x17 then (if 0 ≤ x18 then (if x18 < (x16.length : Int) then (if x18 = x1 then (shape_Sources.l0 k x1 x5 x6 x16 x17 (wrap64 (x18 + 1)) x202000 x202001) else (if 0 ≤ x1 then (if x1 < (x202000.length : Int) then (if ((rd_T38 x16 x18).f3) = ((rd_T38 x202000 x1).f3) then ((shape_feeds.f k ((rd_T38 x16 x18).f2) ((rd_T38 x202000 x1).f2)).bind fun t210 => (if t210 = true then (if x1 < (x6.length : Int) then (if x18 < ((rd_L3 x6 x1).length : Int) then (if (rdOf false (rd_L3 x6 x1) x18 = true) then (shape_Sources.l0 k x1 x5 x6 x16 x17 (wrap64 (x18 + 1)) x202000 x202001) else (if x5.length < 17592186044416 then (shape_Sources.l0 k x1 (x5 ++ [x18]) x6 x16 x17 (wrap64 (x18 + 1)) x202000 x202001) else (none))) else (none)) else (none)) else (shape_Sources.l0 k x1 x5 x6 x16 x17 (wrap64 (x18 + 1)) x202000 x202001))) else (shape_Sources.l0 k x1 x5 x6 x16 x17 (wrap64 (x18 + 1)) x202000 x202001)) else (none)) else (none))) else (none)) else (none)) else (some x5)
def shape_Sources.f (k : Nat) (l0_0 : List (S38)) (l0_1 : List Int) (a1 : Int) : Option (List Int) := (shape_there.f k l0_0 l0_1 a1).bind fun t202 => (if t202 = true then ((shape_Ahead.f k l0_0 l0_1).bind fun t203 => (shape_Sources.l0 k a1 ([] : List Int) t203 l0_0 (l0_0.length : Int) 0 l0_0 l0_1)) else (some ([] : List Int)))
theorem shape_Sources.mono_l : ∀ k, (∀ y0 y1 y2 y3 y4 y5 y6 y7, LeO (shape_Sources.l0 k y0 y1 y2 y3 y4 y5 y6 y7) (shape_Sources.l0 (k + 1) y0 y1 y2 y3 y4 y5 y6 y7))
  | 0 => fun _ _ _ _ _ _ _ _ r h => by simp [shape_Sources.l0] at h
  | k + 1 => by
    have ih0 := shape_Sources.mono_l k
    · intro y0 y1 y2 y3 y4 y5 y6 y7
      unfold shape_Sources.l0
      repeat' first
      | (with_reducible exact ih0 _ _ _ _ _ _ _ _)
      | (with_reducible exact shape_Ahead.mono _ _ _)
      | (with_reducible exact shape_feeds.mono _ _ _)
      | (with_reducible exact shape_there.mono _ _ _ _)
      | (with_reducible exact LeO.refl _)
      | (with_reducible exact LeO.none _)
      | (with_reducible refine LeO.ite ?_ ?_)
      | (with_reducible refine LeO.bind ?_ (fun _ => ?_))
      | exact ih0 _ _ _ _ _ _ _ _
      | exact shape_Ahead.mono _ _ _
      | exact shape_feeds.mono _ _ _
      | exact shape_there.mono _ _ _ _
      | exact LeO.none _
      | refine LeO.ite ?_ ?_
      | refine LeO.bind ?_ (fun _ => ?_)
theorem shape_Sources.mono : ∀ a0 a1 a2 k, LeO (shape_Sources.f k a0 a1 a2) (shape_Sources.f (k + 1) a0 a1 a2) := by
  intro a0 a1 a2 k
  have ih0 := shape_Sources.mono_l k
  unfold shape_Sources.f
  repeat' first
      | (with_reducible exact ih0 _ _ _ _ _ _ _ _)
      | (with_reducible exact shape_Ahead.mono _ _ _)
      | (with_reducible exact shape_feeds.mono _ _ _)
      | (with_reducible exact shape_there.mono _ _ _ _)
      | (with_reducible exact LeO.refl _)
      | (with_reducible exact LeO.none _)
      | (with_reducible refine LeO.ite ?_ ?_)
      | (with_reducible refine LeO.bind ?_ (fun _ => ?_))
      | exact ih0 _ _ _ _ _ _ _ _
      | exact shape_Ahead.mono _ _ _
      | exact shape_feeds.mono _ _ _
      | exact shape_there.mono _ _ _ _
      | exact LeO.none _
      | refine LeO.ite ?_ ?_
      | refine LeO.bind ?_ (fun _ => ?_)
def shape_Sources.T8 : Bool × List (List Nat × List Nat) := (true, [([], []), ([], []), ([0, 1], [0, 1]), ([2], [2]), ([3], [3]), ([4, 3], [3, 4]), ([3], [3]), ([6, 3], [3, 6]), ([3], [3]), ([7, 8, 3], [3, 7, 8]), ([9, 3], [3, 9]), ([10, 3], [3, 10]), ([5, 11, 3], [3, 5, 11]), ([3, 12], [3, 12]), ([13, 3], [13]), ([14], [14]), ([15, 14], [14, 15]), ([14], [14]), ([17, 14], [14, 17]), ([14], [14]), ([18, 19, 14], [14, 18, 19]), ([20, 14], [14, 20]), ([21, 14], [14, 21]), ([16, 22, 14, 14], [14, 16, 22]), ([14, 23], [14, 23]), ([24, 23], [24]), ([25], [25]), ([25], [25]), ([26, 27, 25], [25, 26, 27]), ([28, 25], [25, 28]), ([25], [25]), ([29, 30, 25], [25, 29, 30]), ([31, 25], [25, 31]), ([32, 25], [25, 32]), ([25, 33], [25, 33])])
def shape_Sources.B8 : List Nat := [0, 0, 3, 7, 15, 31, 15, 79, 15, 463, 975, 1999, 4095, 8191, 16383, 32767, 65535, 32767, 163839, 32767, 950271, 1998847, 4095999, 8388607, 16777215, 33554431, 67108863, 67108863, 268435455, 536870911, 67108863, 2147483647, 4294967295, 8589934591, 17179869183]
theorem shape_Sources.tab8 : rtab .any (opsOf Try.f14 8) = shape_Sources.T8 := by kernel_rfl
theorem shape_Sources.bits8 : waitsOk shape_Sources.T8.2 shape_Sources.B8 = true := by kernel_rfl
set_option maxHeartbeats 8000000 in
set_option maxRecDepth 100000 in
theorem shape_Sources.calls (k : Nat) (A0_0 : Option Addr) (c0_0 : Nat) (l0_0 : List (S38)) (A0_1 : Option Addr) (c0_1 : Nat) (l0_1 : List Int) (a1 : Int) (r : List Int) (w : World) (hr0_0 : Kd.C k38 w A0_0 l0_0.length l0_0) (hc0_0 : l0_0.length ≤ c0_0) (hr0_1 : Kd.C (Kd.int .i64) w A0_1 l0_1.length l0_1) (hc0_1 : l0_1.length ≤ c0_1) (h : shape_Sources.f k l0_0 l0_1 a1 = some r) :
    Calls Try.prog 14 #[.agg #[.slice A0_0 l0_0.length c0_0, .slice A0_1 l0_1.length c0_1], .int .i64 a1] w fun e w' => ∃ v0_ : Value, e = .returned (v0_) ∧ Kd.R (Kd.int .i64) 3 w' w.heap.size (fun _ => True) v0_ r ∧ Below w.heap.size w w' := by
 have hu25 := Try.underlying25
 have hu38 := Try.underlying38
 have HR0_0 := Aside0.mk hr0_0
 have HC0_0 := Aside0.mk hc0_0
 clear hr0_0 hc0_0
 have HR0_1 := Aside0.mk hr0_1
 have HC0_1 := Aside0.mk hc0_1
 clear hr0_1 hc0_1
 have HB := Aside0.mk (Below.refl w.heap.size w)
 have H : ((shape_there.f k l0_0 l0_1 a1).bind fun t202 => (if t202 = true then ((shape_Ahead.f k l0_0 l0_1).bind fun t203 => (shape_Sources.l0 k a1 ([] : List Int) t203 l0_0 (l0_0.length : Int) 0 l0_0 l0_1)) else (some ([] : List Int)))) = some r := h
 clear h
 replace H := Option.bind_eq_some_iff.mp H
 obtain ⟨t202, A30, H⟩ := H
 replace H : (if t202 = true then ((shape_Ahead.f k l0_0 l0_1).bind fun t203 => (shape_Sources.l0 k a1 ([] : List Int) t203 l0_0 (l0_0.length : Int) 0 l0_0 l0_1)) else (some ([] : List Int))) = some r := H
 have A3 := Aside0.mk A30
 clear A30
 by_cases c4 : t202 = true
 rotate_left
 ·
  replace c4 := Bool.eq_false_iff.mpr c4
  subst c4
  have H1 : (some ([] : List Int)) = some r := by rw [if_neg (show ¬ (false = true) by decide)] at H; exact H
  clear H
  have H := H1
  clear H1
  obtain rfl := Option.some.inj H
  go_enter Try.func14, Try.ntmps14
  go_wp2_with (first | ((with_reducible refine gate_dst (N := 2) rfl ?_); refine bx 2 #[.slice A0_0 l0_0.length c0_0, .slice A0_1 l0_1.length c0_1] 25 ?_; intro gb201 hg w54 hbox hb; have BK201 := Aside0.mk (hbox); have GW201 := Aside0.mk ((bz hg : w.heap.size ≤ gb201)); have GE201 := Aside0.mk ((bz hg : w.heap.size ≤ gb201)); replace HB := Aside0.mk (below_step bb hb); clear hb hbox hg; obtain ⟨hcz55_0, hcz55_1, hfz55_0, hfz55_1⟩ := bo2 BK201) | ((with_reducible refine gate_callee (f := 20) rfl ?_); refine gl (some 11) Try.func20 #[.agg #[.slice A0_0 l0_0.length c0_0, .slice A0_1 l0_1.length c0_1], .int .i64 a1] ?_; (with_reducible refine (shape_there.calls k _ _ l0_0 _ _ l0_1 a1 false _ ?side1 ?side2 ?side3 ?side4 A3.out).mono ?_); (case side1 => exact cw HR0_0 HB); (case side2 => exact HC0_0.out); (case side3 => exact cw HR0_1 HB); (case side4 => exact HC0_1.out); rintro e w56 ⟨rfl, hb⟩; refine ⟨_, rfl, ?_⟩; replace BK201 := Aside0.mk (bw BK201 hb); replace HB := Aside0.mk (below_step bb hb); (try clear hb); (try clear hb2); (try clear hk); (try clear hi)))
  go_ret
  exact ⟨_, ew, by first | exact Kd.R_nil _ _ _ _ _ | exact Kd.N_nil _ _ _ _ _ | exact Kd.V_nil _ _ _ _ _ | exact Kd.Q_nil _ _ _ _ _ | exact Kd.S_nil _ _ _ _ _, bb⟩
 subst c4
 have H1 : ((shape_Ahead.f k l0_0 l0_1).bind fun t203 => (shape_Sources.l0 k a1 ([] : List Int) t203 l0_0 (l0_0.length : Int) 0 l0_0 l0_1)) = some r := by rw [if_pos rfl] at H; exact H
 clear H
 have H := H1
 clear H1
 replace H := Option.bind_eq_some_iff.mp H
 obtain ⟨t203, A50, H⟩ := H
 replace H : (shape_Sources.l0 k a1 ([] : List Int) t203 l0_0 (l0_0.length : Int) 0 l0_0 l0_1) = some r := H
 have A5 := Aside0.mk A50
 clear A50
 have H' := Aside0.mk H
 clear H
 go_enter Try.func14, Try.ntmps14
 go_wp2_with (first | ((with_reducible refine gate_dst (N := 2) rfl ?_); refine bx 2 #[.slice A0_0 l0_0.length c0_0, .slice A0_1 l0_1.length c0_1] 25 ?_; intro gb201 hg w6 hbox hb; have BK201 := Aside0.mk (hbox); have GW201 := Aside0.mk ((bz hg : w.heap.size ≤ gb201)); have GE201 := Aside0.mk ((bz hg : w.heap.size ≤ gb201)); replace HB := Aside0.mk (below_step bb hb); clear hb hbox hg; obtain ⟨hcz7_0, hcz7_1, hfz7_0, hfz7_1⟩ := bo2 BK201) | ((with_reducible refine gate_callee (f := 20) rfl ?_); refine gl (some 11) Try.func20 #[.agg #[.slice A0_0 l0_0.length c0_0, .slice A0_1 l0_1.length c0_1], .int .i64 a1] ?_; (with_reducible refine (shape_there.calls k _ _ l0_0 _ _ l0_1 a1 true _ ?side1 ?side2 ?side3 ?side4 A3.out).mono ?_); (case side1 => exact cw HR0_0 HB); (case side2 => exact HC0_0.out); (case side3 => exact cw HR0_1 HB); (case side4 => exact HC0_1.out); rintro e w8 ⟨rfl, hb⟩; refine ⟨_, rfl, ?_⟩; replace BK201 := Aside0.mk (bw BK201 hb); replace HB := Aside0.mk (below_step bb hb); (try clear hb); (try clear hb2); (try clear hk); (try clear hi); obtain ⟨hcz9_0, hcz9_1, hfz9_0, hfz9_1⟩ := bo2 BK201) | ((with_reducible refine gate_callee (f := 8) rfl ?_); refine gl (some 14) Try.func8 #[.agg #[.slice A0_0 l0_0.length c0_0, .slice A0_1 l0_1.length c0_1]] ?_; (with_reducible refine (shape_Ahead.calls k _ _ l0_0 _ _ l0_1 t203 _ ?side1 ?side2 ?side3 ?side4 A5.out).mono ?_); (case side1 => exact cw HR0_0 HB); (case side2 => exact HC0_0.out); (case side3 => exact cw HR0_1 HB); (case side4 => exact HC0_1.out); rintro e w10 ⟨v204, rfl, ho0, hb⟩; refine ⟨_, rfl, ?_⟩; have HO205 := Aside0.mk (Kd.S_lower ho0 (below_size bb)); replace BK201 := Aside0.mk (bw BK201 hb); replace HB := Aside0.mk (below_step bb hb); (try clear hb); (try clear hb2); (try clear hk); (try clear hi); (try clear ho0); obtain ⟨hcz11_0, hcz11_1, hfz11_0, hfz11_1⟩ := bo2 BK201))
 go_loopg [5, 18] k (fun kq v5 v18 w' => ∃ (x5_1 : List Int) (x18_1 : Int), v18 = .int .i64 x18_1 ∧ Aside0 (shape_Sources.l0 kq a1 x5_1 t203 l0_0 (l0_0.length : Int) x18_1 l0_0 l0_1 = some r) ∧ Aside0 (kq ≤ k) ∧ Aside0 (Kd.R (Kd.int .i64) 3 w' w.heap.size (fun _ => True) v5 x5_1) ∧ Aside0 (Kd.S (Kd.slice 4 Kd.bool) 33 w' w.heap.size (fun _ => True) v204 t203) ∧ Aside0 (w'.heap[gb201]? = some (.cells #[(.slice A0_0 l0_0.length c0_0), (.slice A0_1 l0_1.length c0_1)] 25 (0, 0))) ∧ Aside0 (Below w.heap.size w w'))
 case atStart => exact ⟨(([] : List Int)), (0), rs, H', ⟨Nat.le_refl _⟩, ⟨by first | exact Kd.R_nil _ _ _ _ _ | exact Kd.N_nil _ _ _ _ _ | exact Kd.V_nil _ _ _ _ _ | exact Kd.Q_nil _ _ _ _ _ | exact Kd.S_nil _ _ _ _ _⟩, ⟨by refine sm ?_; exact HO205.out⟩, ⟨bk BK201⟩, ⟨bb⟩⟩
 case round =>
  clear H'
  try clear c1
  try clear c2
  try clear p2
  try clear c4
  try clear c8
  try clear hcz11_0
  try clear hcz11_1
  try clear hcz7_0
  try clear hcz7_1
  try clear hcz9_0
  try clear hcz9_1
  try clear hfz11_0
  try clear hfz11_1
  try clear hfz7_0
  try clear hfz7_1
  try clear hfz9_0
  try clear hfz9_1
  obtain ⟨x5_1, x18_1, rfl, HA, HK1, HO_5, HO_6, BK201, HB⟩ := hrel
  cases gk with
  | zero => exact absurd HA.out (by simp [shape_Sources.l0])
  | succ k1 =>
   have H := HA.out
   clear HA
   simp only [shape_Sources.l0] at H
   by_cases c12 : x18_1 < (l0_0.length : Int)
   rotate_left
   ·
    rw [if_neg c12] at H
    have c12b0 : decide (x18_1 < (l0_0.length : Int)) = false := decide_eq_false c12
    clear c12
    obtain rfl := Option.some.inj H
    go_wp2
    go_ret
    exact ⟨_, ew, by refine rm ?_; exact HO_5.out, bb⟩
   rw [if_pos c12] at H
   have c12b0 : decide (x18_1 < (l0_0.length : Int)) = true := decide_eq_true c12
   clear c12
   by_cases c13 : 0 ≤ x18_1
   rotate_left
   ·
    rw [if_neg c13] at H
    exact absurd H (by simp)
   rw [if_pos c13] at H
   have c13b0 : decide (0 ≤ x18_1) = true := decide_eq_true c13
   clear c13
   by_cases c14 : x18_1 < (l0_0.length : Int)
   rotate_left
   ·
    rw [if_neg c14] at H
    exact absurd H (by simp)
   rw [if_pos c14] at H
   have c14b0 : decide (x18_1 < (l0_0.length : Int)) = true := decide_eq_true c14
   clear c14
   by_cases c15 : x18_1 = a1
   ·
    rw [if_pos c15] at H
    have c15b0 : (x18_1 == a1) = true := beq_iff_eq.mpr c15
    have c15b1 : (x18_1 != a1) = false := bne_eq_false_iff_eq.mpr c15
    clear c15
    have H' := Aside0.mk H
    clear H
    have p206 : 0 ≤ (x18_1 : Int) := od
    have q206 : x18_1 < (l0_0.length : Int) := od
    obtain ⟨ad206, e206, hx206_0, hx206_1, hx206_2, hx206_3⟩ := at_T38 HR0_0.out x18_1 p206 q206
    cases e206
    replace hx206_0 := bl HB hx206_0
    replace hx206_1 := bl HB hx206_1
    replace hx206_2 := bl HB hx206_2
    replace hx206_3 := bl HB hx206_3
    replace p206 := eq_true p206
    replace q206 := eq_true q206
    try go_wp2_with (first | ((with_reducible refine gate_dst (N := 8) rfl ?_); refine bx 8 #[.int .i64 0, .int .i64 0, .int .i64 0, .int .i64 0] 38 ?_; intro gb207 hg w16 hbox hb; replace HO_5 := Aside0.mk (Kd.R_below (rk HO_5) hb); replace HO_6 := Aside0.mk (Kd.S_below (sk HO_6) hb); have BK207 := Aside0.mk (hbox); have GW207 := Aside0.mk ((bz hg : w.heap.size ≤ gb207)); have GE207 := Aside0.mk ((bz hg : w.heap.size ≤ gb207)); replace HB := Aside0.mk (below_step bb hb); have NB201_207 := Aside0.mk (nl BK201 hg); have NB207_201 := Aside0.mk (ng BK201 hg); replace BK201 := Aside0.mk (bw BK201 hb); clear hb hbox hg; have hnb17 := NB207_201.out; have hnc17 := NB201_207.out; obtain ⟨hcz18_0, hcz18_1, hcz18_2, hcz18_3, hfz18_0, hfz18_1, hfz18_2, hfz18_3⟩ := bo4 BK207))
    have n0_ : Aside0 (Kd.R (Kd.int .i64) 3 ((((w16.setCell ⟨gb207, 0, none⟩ (.int .i64 ((rd_T38 l0_0 x18_1).f0))).setCell ⟨gb207, 1, none⟩ (.int .i64 ((rd_T38 l0_0 x18_1).f1))).setCell ⟨gb207, 2, none⟩ (.int .i64 ((rd_T38 l0_0 x18_1).f2))).setCell ⟨gb207, 3, none⟩ (.int .i64 ((rd_T38 l0_0 x18_1).f3))) w.heap.size (fun _ => True) u5 x5_1) := ⟨by refine rm ?_; exact Kd.R_mono (Kd.R_far (p := ⟨gb207, 3, none⟩) (Kd.R_far (p := ⟨gb207, 2, none⟩) (Kd.R_far (p := ⟨gb207, 1, none⟩) (Kd.R_far (p := ⟨gb207, 0, none⟩) (Kd.R_types HO_5.out BK207.out (by decide)) (fun _ hk => hk.2) (.int .i64 ((rd_T38 l0_0 x18_1).f0))) (fun _ hk => hk.2) (.int .i64 ((rd_T38 l0_0 x18_1).f1))) (fun _ hk => hk.2) (.int .i64 ((rd_T38 l0_0 x18_1).f2))) (fun _ hk => hk.2) (.int .i64 ((rd_T38 l0_0 x18_1).f3))) (fun _ hk => trivial)⟩
    have n1_ : Aside0 (Kd.S (Kd.slice 4 Kd.bool) 33 ((((w16.setCell ⟨gb207, 0, none⟩ (.int .i64 ((rd_T38 l0_0 x18_1).f0))).setCell ⟨gb207, 1, none⟩ (.int .i64 ((rd_T38 l0_0 x18_1).f1))).setCell ⟨gb207, 2, none⟩ (.int .i64 ((rd_T38 l0_0 x18_1).f2))).setCell ⟨gb207, 3, none⟩ (.int .i64 ((rd_T38 l0_0 x18_1).f3))) w.heap.size (fun _ => True) v204 t203) := ⟨by refine sm ?_; exact Kd.S_mono (Kd.S_far (p := ⟨gb207, 3, none⟩) (Kd.S_far (p := ⟨gb207, 2, none⟩) (Kd.S_far (p := ⟨gb207, 1, none⟩) (Kd.S_far (p := ⟨gb207, 0, none⟩) (Kd.S_types HO_6.out BK207.out (by decide)) (fun _ hk => hk.2) (.int .i64 ((rd_T38 l0_0 x18_1).f0))) (fun _ hk => hk.2) (.int .i64 ((rd_T38 l0_0 x18_1).f1))) (fun _ hk => hk.2) (.int .i64 ((rd_T38 l0_0 x18_1).f2))) (fun _ hk => hk.2) (.int .i64 ((rd_T38 l0_0 x18_1).f3))) (fun _ hk => trivial)⟩
    have n2_ : Aside0 (((((w16.setCell ⟨gb207, 0, none⟩ (.int .i64 ((rd_T38 l0_0 x18_1).f0))).setCell ⟨gb207, 1, none⟩ (.int .i64 ((rd_T38 l0_0 x18_1).f1))).setCell ⟨gb207, 2, none⟩ (.int .i64 ((rd_T38 l0_0 x18_1).f2))).setCell ⟨gb207, 3, none⟩ (.int .i64 ((rd_T38 l0_0 x18_1).f3))).heap[gb201]? = some (.cells #[.slice (some ad206) l0_0.length c0_0, .slice A0_1 l0_1.length c0_1] 25 (0, 0))) := ⟨by refine bm ?_; refine blk_far ?_ NB201_207.out _; refine bm ?_; refine blk_far ?_ NB201_207.out _; refine bm ?_; refine blk_far ?_ NB201_207.out _; refine bm ?_; refine blk_far ?_ NB201_207.out _; refine bm ?_; exact BK201.out⟩
    have n3_ : Aside0 (((((w16.setCell ⟨gb207, 0, none⟩ (.int .i64 ((rd_T38 l0_0 x18_1).f0))).setCell ⟨gb207, 1, none⟩ (.int .i64 ((rd_T38 l0_0 x18_1).f1))).setCell ⟨gb207, 2, none⟩ (.int .i64 ((rd_T38 l0_0 x18_1).f2))).setCell ⟨gb207, 3, none⟩ (.int .i64 ((rd_T38 l0_0 x18_1).f3))).heap[gb207]? = some (.cells #[.int .i64 ((rd_T38 l0_0 x18_1).f0), .int .i64 ((rd_T38 l0_0 x18_1).f1), .int .i64 ((rd_T38 l0_0 x18_1).f2), .int .i64 ((rd_T38 l0_0 x18_1).f3)] 38 (0, 0))) := ⟨by refine bm ?_; refine blk_put (cs := #[.int .i64 ((rd_T38 l0_0 x18_1).f0), .int .i64 ((rd_T38 l0_0 x18_1).f1), .int .i64 ((rd_T38 l0_0 x18_1).f2), .int .i64 0]) ?_ 3 _ rfl; refine bm ?_; refine blk_put (cs := #[.int .i64 ((rd_T38 l0_0 x18_1).f0), .int .i64 ((rd_T38 l0_0 x18_1).f1), .int .i64 0, .int .i64 0]) ?_ 2 _ rfl; refine bm ?_; refine blk_put (cs := #[.int .i64 ((rd_T38 l0_0 x18_1).f0), .int .i64 0, .int .i64 0, .int .i64 0]) ?_ 1 _ rfl; refine bm ?_; refine blk_put (cs := #[.int .i64 0, .int .i64 0, .int .i64 0, .int .i64 0]) ?_ 0 _ rfl; refine bm ?_; exact BK207.out⟩
    have n4_ : Aside0 (Below w.heap.size w ((((w16.setCell ⟨gb207, 0, none⟩ (.int .i64 ((rd_T38 l0_0 x18_1).f0))).setCell ⟨gb207, 1, none⟩ (.int .i64 ((rd_T38 l0_0 x18_1).f1))).setCell ⟨gb207, 2, none⟩ (.int .i64 ((rd_T38 l0_0 x18_1).f2))).setCell ⟨gb207, 3, none⟩ (.int .i64 ((rd_T38 l0_0 x18_1).f3)))) := ⟨bb⟩
    (try clear HO_5)
    (try clear HO_6)
    (try clear BK201)
    (try clear BK207)
    (try clear HB)
    generalize ((((w16.setCell ⟨gb207, 0, none⟩ (.int .i64 ((rd_T38 l0_0 x18_1).f0))).setCell ⟨gb207, 1, none⟩ (.int .i64 ((rd_T38 l0_0 x18_1).f1))).setCell ⟨gb207, 2, none⟩ (.int .i64 ((rd_T38 l0_0 x18_1).f2))).setCell ⟨gb207, 3, none⟩ (.int .i64 ((rd_T38 l0_0 x18_1).f3))) = w19 at n0_ n1_ n2_ n3_ n4_ ⊢
    have HO_5 := n0_
    have HO_6 := n1_
    have BK201 := n2_
    have BK207 := n3_
    have HB := n4_
    clear n0_ n1_ n2_ n3_ n4_
    have n0_ := Aside0.mk (Kd.R_drew HO_5.out)
    have n1_ := Aside0.mk (Kd.S_drew HO_6.out)
    have n2_ := Aside0.mk (blk_drew BK201.out)
    have n3_ := Aside0.mk (blk_drew BK207.out)
    have n4_ := Aside0.mk (below_drew1 HB.out)
    clear HO_5
    clear HO_6
    clear BK201
    clear BK207
    clear HB
    have HO_5 := n0_
    have HO_6 := n1_
    have BK201 := n2_
    have BK207 := n3_
    have HB := n4_
    clear n0_ n1_ n2_ n3_ n4_
    refine start_ (n := 35) (S := fun w' => True) (ds := []) #[false, false, false, false, false, false, false, false, false, false, false, false, false, false, false, false, false, false, false, false, false, false, false, false, false, false, false, false, false, false, false, false, false, false, false] (by kernel_rfl) rfl rfl trivial (fun hHeld => ?_); refine with_tabW shape_Sources.tab8 shape_Sources.bits8 (fun HT_ HW_ => ?_)
    generalize w19.drew = w20 at HO_5 HO_6 BK201 BK207 HB hHeld ⊢
    refine pv 0 23 HT_.out ?_
    refine pv 1 24 HT_.out ?_
    refine pv 2 25 HT_.out ?_
    refine pv 3 26 HT_.out ?_
    refine pu 4 27 HT_.out ?_
    refine pu 5 28 HT_.out ?_
    refine pu 6 29 HT_.out ?_
    refine pu 7 30 HT_.out ?_
    refine pu 8 31 HT_.out ?_
    refine pu 9 32 HT_.out ?_
    refine pu 10 33 HT_.out ?_
    refine pu 11 34 HT_.out ?_
    refine pu 12 35 HT_.out ?_
    refine pv 13 36 HT_.out ?_
    refine pv 14 37 HT_.out ?_
    refine pu 15 38 HT_.out ?_
    refine pu 16 39 HT_.out ?_
    refine pu 17 40 HT_.out ?_
    refine pu 18 41 HT_.out ?_
    refine pu 19 42 HT_.out ?_
    refine pu 20 43 HT_.out ?_
    refine pu 21 44 HT_.out ?_
    refine pu 22 45 HT_.out ?_
    refine pu 23 46 HT_.out ?_
    refine pv 24 47 HT_.out ?_
    refine pv 25 48 HT_.out ?_
    refine pu 26 49 HT_.out ?_
    refine pu 27 50 HT_.out ?_
    refine pu 28 51 HT_.out ?_
    refine pu 29 52 HT_.out ?_
    refine pu 30 53 HT_.out ?_
    refine pu 31 54 HT_.out ?_
    refine pu 32 55 HT_.out ?_
    refine pu 33 56 HT_.out ?_
    refine pv 34 57 HT_.out ?_
    refine done_ (done_of HT_.out (by kernel_rfl)) ?_
    try go_wp2
    go_roundg k1
    case measure => have := HK1.out; omega
    case rel => exact ⟨(x5_1), (wrap64 (x18_1 + 1)), rs, H', ⟨by have := HK1.out; omega⟩, ⟨by refine rm ?_; exact HO_5.out⟩, ⟨by refine sm ?_; exact HO_6.out⟩, ⟨bk BK201⟩, ⟨bb⟩⟩
   rw [if_neg c15] at H
   have c15b0 : (x18_1 == a1) = false := beq_eq_false_iff_ne.mpr c15
   have c15b1 : (x18_1 != a1) = true := bne_iff_ne.mpr c15
   by_cases c21 : 0 ≤ a1
   rotate_left
   ·
    rw [if_neg c21] at H
    exact absurd H (by simp)
   rw [if_pos c21] at H
   have c21b0 : decide (0 ≤ a1) = true := decide_eq_true c21
   clear c21
   by_cases c22 : a1 < (l0_0.length : Int)
   rotate_left
   ·
    rw [if_neg c22] at H
    exact absurd H (by simp)
   rw [if_pos c22] at H
   have c22b0 : decide (a1 < (l0_0.length : Int)) = true := decide_eq_true c22
   clear c22
   by_cases c23 : ((rd_T38 l0_0 x18_1).f3) = ((rd_T38 l0_0 a1).f3)
   rotate_left
   ·
    rw [if_neg c23] at H
    have c23b0 : (((rd_T38 l0_0 x18_1).f3) == ((rd_T38 l0_0 a1).f3)) = false := beq_eq_false_iff_ne.mpr c23
    have c23b1 : (((rd_T38 l0_0 x18_1).f3) != ((rd_T38 l0_0 a1).f3)) = true := bne_iff_ne.mpr c23
    have H' := Aside0.mk H
    clear H
    have p206 : 0 ≤ (x18_1 : Int) := od
    have q206 : x18_1 < (l0_0.length : Int) := od
    obtain ⟨ad206, e206, hx206_0, hx206_1, hx206_2, hx206_3⟩ := at_T38 HR0_0.out x18_1 p206 q206
    cases e206
    replace hx206_0 := bl HB hx206_0
    replace hx206_1 := bl HB hx206_1
    replace hx206_2 := bl HB hx206_2
    replace hx206_3 := bl HB hx206_3
    replace p206 := eq_true p206
    replace q206 := eq_true q206
    try go_wp2_with (first | ((with_reducible refine gate_dst (N := 8) rfl ?_); refine bx 8 #[.int .i64 0, .int .i64 0, .int .i64 0, .int .i64 0] 38 ?_; intro gb207 hg w49 hbox hb; replace HO_5 := Aside0.mk (Kd.R_below (rk HO_5) hb); replace HO_6 := Aside0.mk (Kd.S_below (sk HO_6) hb); have BK207 := Aside0.mk (hbox); have GW207 := Aside0.mk ((bz hg : w.heap.size ≤ gb207)); have GE207 := Aside0.mk ((bz hg : w.heap.size ≤ gb207)); replace HB := Aside0.mk (below_step bb hb); have NB201_207 := Aside0.mk (nl BK201 hg); have NB207_201 := Aside0.mk (ng BK201 hg); replace BK201 := Aside0.mk (bw BK201 hb); clear hb hbox hg; have hnb50 := NB207_201.out; have hnc50 := NB201_207.out; obtain ⟨hcz51_0, hcz51_1, hcz51_2, hcz51_3, hfz51_0, hfz51_1, hfz51_2, hfz51_3⟩ := bo4 BK207))
    have n0_ : Aside0 (Kd.R (Kd.int .i64) 3 ((((w49.setCell ⟨gb207, 0, none⟩ (.int .i64 ((rd_T38 l0_0 x18_1).f0))).setCell ⟨gb207, 1, none⟩ (.int .i64 ((rd_T38 l0_0 x18_1).f1))).setCell ⟨gb207, 2, none⟩ (.int .i64 ((rd_T38 l0_0 x18_1).f2))).setCell ⟨gb207, 3, none⟩ (.int .i64 ((rd_T38 l0_0 x18_1).f3))) w.heap.size (fun _ => True) u5 x5_1) := ⟨by refine rm ?_; exact Kd.R_mono (Kd.R_far (p := ⟨gb207, 3, none⟩) (Kd.R_far (p := ⟨gb207, 2, none⟩) (Kd.R_far (p := ⟨gb207, 1, none⟩) (Kd.R_far (p := ⟨gb207, 0, none⟩) (Kd.R_types HO_5.out BK207.out (by decide)) (fun _ hk => hk.2) (.int .i64 ((rd_T38 l0_0 x18_1).f0))) (fun _ hk => hk.2) (.int .i64 ((rd_T38 l0_0 x18_1).f1))) (fun _ hk => hk.2) (.int .i64 ((rd_T38 l0_0 x18_1).f2))) (fun _ hk => hk.2) (.int .i64 ((rd_T38 l0_0 x18_1).f3))) (fun _ hk => trivial)⟩
    have n1_ : Aside0 (Kd.S (Kd.slice 4 Kd.bool) 33 ((((w49.setCell ⟨gb207, 0, none⟩ (.int .i64 ((rd_T38 l0_0 x18_1).f0))).setCell ⟨gb207, 1, none⟩ (.int .i64 ((rd_T38 l0_0 x18_1).f1))).setCell ⟨gb207, 2, none⟩ (.int .i64 ((rd_T38 l0_0 x18_1).f2))).setCell ⟨gb207, 3, none⟩ (.int .i64 ((rd_T38 l0_0 x18_1).f3))) w.heap.size (fun _ => True) v204 t203) := ⟨by refine sm ?_; exact Kd.S_mono (Kd.S_far (p := ⟨gb207, 3, none⟩) (Kd.S_far (p := ⟨gb207, 2, none⟩) (Kd.S_far (p := ⟨gb207, 1, none⟩) (Kd.S_far (p := ⟨gb207, 0, none⟩) (Kd.S_types HO_6.out BK207.out (by decide)) (fun _ hk => hk.2) (.int .i64 ((rd_T38 l0_0 x18_1).f0))) (fun _ hk => hk.2) (.int .i64 ((rd_T38 l0_0 x18_1).f1))) (fun _ hk => hk.2) (.int .i64 ((rd_T38 l0_0 x18_1).f2))) (fun _ hk => hk.2) (.int .i64 ((rd_T38 l0_0 x18_1).f3))) (fun _ hk => trivial)⟩
    have n2_ : Aside0 (((((w49.setCell ⟨gb207, 0, none⟩ (.int .i64 ((rd_T38 l0_0 x18_1).f0))).setCell ⟨gb207, 1, none⟩ (.int .i64 ((rd_T38 l0_0 x18_1).f1))).setCell ⟨gb207, 2, none⟩ (.int .i64 ((rd_T38 l0_0 x18_1).f2))).setCell ⟨gb207, 3, none⟩ (.int .i64 ((rd_T38 l0_0 x18_1).f3))).heap[gb201]? = some (.cells #[.slice (some ad206) l0_0.length c0_0, .slice A0_1 l0_1.length c0_1] 25 (0, 0))) := ⟨by refine bm ?_; refine blk_far ?_ NB201_207.out _; refine bm ?_; refine blk_far ?_ NB201_207.out _; refine bm ?_; refine blk_far ?_ NB201_207.out _; refine bm ?_; refine blk_far ?_ NB201_207.out _; refine bm ?_; exact BK201.out⟩
    have n3_ : Aside0 (((((w49.setCell ⟨gb207, 0, none⟩ (.int .i64 ((rd_T38 l0_0 x18_1).f0))).setCell ⟨gb207, 1, none⟩ (.int .i64 ((rd_T38 l0_0 x18_1).f1))).setCell ⟨gb207, 2, none⟩ (.int .i64 ((rd_T38 l0_0 x18_1).f2))).setCell ⟨gb207, 3, none⟩ (.int .i64 ((rd_T38 l0_0 x18_1).f3))).heap[gb207]? = some (.cells #[.int .i64 ((rd_T38 l0_0 x18_1).f0), .int .i64 ((rd_T38 l0_0 x18_1).f1), .int .i64 ((rd_T38 l0_0 x18_1).f2), .int .i64 ((rd_T38 l0_0 x18_1).f3)] 38 (0, 0))) := ⟨by refine bm ?_; refine blk_put (cs := #[.int .i64 ((rd_T38 l0_0 x18_1).f0), .int .i64 ((rd_T38 l0_0 x18_1).f1), .int .i64 ((rd_T38 l0_0 x18_1).f2), .int .i64 0]) ?_ 3 _ rfl; refine bm ?_; refine blk_put (cs := #[.int .i64 ((rd_T38 l0_0 x18_1).f0), .int .i64 ((rd_T38 l0_0 x18_1).f1), .int .i64 0, .int .i64 0]) ?_ 2 _ rfl; refine bm ?_; refine blk_put (cs := #[.int .i64 ((rd_T38 l0_0 x18_1).f0), .int .i64 0, .int .i64 0, .int .i64 0]) ?_ 1 _ rfl; refine bm ?_; refine blk_put (cs := #[.int .i64 0, .int .i64 0, .int .i64 0, .int .i64 0]) ?_ 0 _ rfl; refine bm ?_; exact BK207.out⟩
    have n4_ : Aside0 (Below w.heap.size w ((((w49.setCell ⟨gb207, 0, none⟩ (.int .i64 ((rd_T38 l0_0 x18_1).f0))).setCell ⟨gb207, 1, none⟩ (.int .i64 ((rd_T38 l0_0 x18_1).f1))).setCell ⟨gb207, 2, none⟩ (.int .i64 ((rd_T38 l0_0 x18_1).f2))).setCell ⟨gb207, 3, none⟩ (.int .i64 ((rd_T38 l0_0 x18_1).f3)))) := ⟨bb⟩
    (try clear HO_5)
    (try clear HO_6)
    (try clear BK201)
    (try clear BK207)
    (try clear HB)
    generalize ((((w49.setCell ⟨gb207, 0, none⟩ (.int .i64 ((rd_T38 l0_0 x18_1).f0))).setCell ⟨gb207, 1, none⟩ (.int .i64 ((rd_T38 l0_0 x18_1).f1))).setCell ⟨gb207, 2, none⟩ (.int .i64 ((rd_T38 l0_0 x18_1).f2))).setCell ⟨gb207, 3, none⟩ (.int .i64 ((rd_T38 l0_0 x18_1).f3))) = w52 at n0_ n1_ n2_ n3_ n4_ ⊢
    have HO_5 := n0_
    have HO_6 := n1_
    have BK201 := n2_
    have BK207 := n3_
    have HB := n4_
    clear n0_ n1_ n2_ n3_ n4_
    have n0_ := Aside0.mk (Kd.R_drew HO_5.out)
    have n1_ := Aside0.mk (Kd.S_drew HO_6.out)
    have n2_ := Aside0.mk (blk_drew BK201.out)
    have n3_ := Aside0.mk (blk_drew BK207.out)
    have n4_ := Aside0.mk (below_drew1 HB.out)
    clear HO_5
    clear HO_6
    clear BK201
    clear BK207
    clear HB
    have HO_5 := n0_
    have HO_6 := n1_
    have BK201 := n2_
    have BK207 := n3_
    have HB := n4_
    clear n0_ n1_ n2_ n3_ n4_
    have p208 : 0 ≤ (a1 : Int) := od
    have q208 : a1 < (l0_0.length : Int) := od
    obtain ⟨ad208, e208, hx208_0, hx208_1, hx208_2, hx208_3⟩ := at_T38 HR0_0.out a1 p208 q208
    have hw208_3 := hx208_3
    have hw208_2 := hx208_2
    have hw208_1 := hx208_1
    have hw208_0 := hx208_0
    obtain rfl : ad206 = ad208 := (by injection e208)
    replace hx208_0 := bl HB hx208_0
    replace hx208_1 := bl HB hx208_1
    replace hx208_2 := bl HB hx208_2
    replace hx208_3 := bl HB hx208_3
    replace p208 := eq_true p208
    replace q208 := eq_true q208
    refine start_ (n := 35) (S := fun w' => w'.cell? ⟨gb207, 0, none⟩ = some (.int .i64 ((rd_T38 l0_0 x18_1).f0)) ∧ w'.cell? ⟨gb207, 1, none⟩ = some (.int .i64 ((rd_T38 l0_0 x18_1).f1)) ∧ w'.cell? ⟨gb207, 2, none⟩ = some (.int .i64 ((rd_T38 l0_0 x18_1).f2)) ∧ w'.cell? ⟨gb207, 3, none⟩ = some (.int .i64 ((rd_T38 l0_0 x18_1).f3)) ∧ w'.cell? ⟨gb201, 0, none⟩ = some (.slice (some ad206) l0_0.length c0_0) ∧ w'.cell? ⟨gb201, 1, none⟩ = some (.slice A0_1 l0_1.length c0_1) ∧ w'.cell? (ad206.add ((a1).toNat * 4)) = some (.int .i64 ((rd_T38 l0_0 a1).f0)) ∧ w'.cell? ⟨(ad206.add ((a1).toNat * 4)).block, (ad206.add ((a1).toNat * 4)).off + 1, none⟩ = some (.int .i64 ((rd_T38 l0_0 a1).f1)) ∧ w'.cell? ⟨(ad206.add ((a1).toNat * 4)).block, (ad206.add ((a1).toNat * 4)).off + 2, none⟩ = some (.int .i64 ((rd_T38 l0_0 a1).f2)) ∧ w'.cell? ⟨(ad206.add ((a1).toNat * 4)).block, (ad206.add ((a1).toNat * 4)).off + 3, none⟩ = some (.int .i64 ((rd_T38 l0_0 a1).f3))) (ds := []) #[false, false, false, false, false, false, false, false, false, false, false, false, false, false, false, false, false, false, false, false, false, false, false, false, false, false, false, false, false, false, false, false, false, false, false] (by kernel_rfl) rfl rfl ⟨(blk_cell BK207.out 0).trans rfl, (blk_cell BK207.out 1).trans rfl, (blk_cell BK207.out 2).trans rfl, (blk_cell BK207.out 3).trans rfl, (blk_cell BK201.out 0).trans rfl, (blk_cell BK201.out 1).trans rfl, (bl HB hw208_0), (bl HB hw208_1), (bl HB hw208_2), (bl HB hw208_3)⟩ (fun hHeld => ?_); refine with_tabW shape_Sources.tab8 shape_Sources.bits8 (fun HT_ HW_ => ?_)
    generalize w52.drew = w53 at HO_5 HO_6 BK201 BK207 HB hx208_0 hx208_1 hx208_2 hx208_3 hHeld ⊢
    refine pv 0 23 HT_.out ?_
    refine pv 1 24 HT_.out ?_
    refine pv 2 25 HT_.out ?_
    refine pv 3 26 HT_.out ?_
    refine pv 4 27 HT_.out ?_
    refine pv 6 29 HT_.out ?_
    refine pv 8 31 HT_.out ?_
    refine take_ (i := 5) (N := some 28) (v := ?_) (a' := ?_) #[true, true, true, true, true, true, true, false, true, false, false, false, false, false, false, false, false, false, false, false, false, false, false, false, false, false, false, false, false, false, false, false, false, false, false] rfl rfl (take_ofW HT_.out HW_.out (by kernel_rfl)) (fun _ _ _ h => h) (Or.inl ⟨by rfl, ?_⟩) hHeld ?_ ?_
    rotate_left
    ·
     rintro w' ⟨s0, s1, s2, s3, s4, s5, s6, s7, s8, s9⟩
     go_simp
     with_reducible rfl
    rotate_left
    ·
     simp only [Act.put, List.setIfInBounds_toArray, List.set_cons_zero, List.set_cons_succ, i64_w, i32_w]
     rfl
    refine take_ (i := 7) (N := some 30) (v := ?_) (a' := ?_) #[true, true, true, true, true, true, true, true, true, false, false, false, false, false, false, false, false, false, false, false, false, false, false, false, false, false, false, false, false, false, false, false, false, false, false] rfl rfl (take_ofW HT_.out HW_.out (by kernel_rfl)) (fun _ _ _ h => h) (Or.inl ⟨by rfl, ?_⟩) hHeld ?_ ?_
    rotate_left
    ·
     rintro w' ⟨s0, s1, s2, s3, s4, s5, s6, s7, s8, s9⟩
     go_simp
     with_reducible rfl
    rotate_left
    ·
     simp only [Act.put, List.setIfInBounds_toArray, List.set_cons_zero, List.set_cons_succ, i64_w, i32_w]
     rfl
    refine pv 9 32 HT_.out ?_
    refine pv 10 33 HT_.out ?_
    refine take_ (i := 11) (N := some 34) (v := ?_) (a' := ?_) #[true, true, true, true, true, true, true, true, true, true, true, true, false, false, false, false, false, false, false, false, false, false, false, false, false, false, false, false, false, false, false, false, false, false, false] rfl rfl (take_ofW HT_.out HW_.out (by kernel_rfl)) (fun _ _ _ h => h) (Or.inl ⟨by rfl, ?_⟩) hHeld ?_ ?_
    rotate_left
    ·
     rintro w' ⟨s0, s1, s2, s3, s4, s5, s6, s7, s8, s9⟩
     go_simp
     with_reducible rfl
    rotate_left
    ·
     simp only [Act.put, List.setIfInBounds_toArray, List.set_cons_zero, List.set_cons_succ, i64_w, i32_w]
     rfl
    refine pv 12 35 HT_.out ?_
    refine pv 13 36 HT_.out ?_
    refine pv 14 37 HT_.out ?_
    refine pu 15 38 HT_.out ?_
    refine pu 16 39 HT_.out ?_
    refine pu 17 40 HT_.out ?_
    refine pu 18 41 HT_.out ?_
    refine pu 19 42 HT_.out ?_
    refine pu 20 43 HT_.out ?_
    refine pu 21 44 HT_.out ?_
    refine pu 22 45 HT_.out ?_
    refine pu 23 46 HT_.out ?_
    refine pv 24 47 HT_.out ?_
    refine pv 25 48 HT_.out ?_
    refine pu 26 49 HT_.out ?_
    refine pu 27 50 HT_.out ?_
    refine pu 28 51 HT_.out ?_
    refine pu 29 52 HT_.out ?_
    refine pu 30 53 HT_.out ?_
    refine pu 31 54 HT_.out ?_
    refine pu 32 55 HT_.out ?_
    refine pu 33 56 HT_.out ?_
    refine pv 34 57 HT_.out ?_
    refine done_ (done_of HT_.out (by kernel_rfl)) ?_
    try go_wp2
    go_roundg k1
    case measure => have := HK1.out; omega
    case rel => exact ⟨(x5_1), (wrap64 (x18_1 + 1)), rs, H', ⟨by have := HK1.out; omega⟩, ⟨by refine rm ?_; exact HO_5.out⟩, ⟨by refine sm ?_; exact HO_6.out⟩, ⟨bk BK201⟩, ⟨bb⟩⟩
   rw [if_pos c23] at H
   have c23b0 : (((rd_T38 l0_0 x18_1).f3) == ((rd_T38 l0_0 a1).f3)) = true := beq_iff_eq.mpr c23
   have c23b1 : (((rd_T38 l0_0 x18_1).f3) != ((rd_T38 l0_0 a1).f3)) = false := bne_eq_false_iff_eq.mpr c23
   clear c23
   replace H := Option.bind_eq_some_iff.mp H
   obtain ⟨t210, A240, H⟩ := H
   replace H : (if t210 = true then (if a1 < (t203.length : Int) then (if x18_1 < ((rd_L3 t203 a1).length : Int) then (if (rdOf false (rd_L3 t203 a1) x18_1 = true) then (shape_Sources.l0 k1 a1 x5_1 t203 l0_0 (l0_0.length : Int) (wrap64 (x18_1 + 1)) l0_0 l0_1) else (if x5_1.length < 17592186044416 then (shape_Sources.l0 k1 a1 (x5_1 ++ [x18_1]) t203 l0_0 (l0_0.length : Int) (wrap64 (x18_1 + 1)) l0_0 l0_1) else (none))) else (none)) else (none)) else (shape_Sources.l0 k1 a1 x5_1 t203 l0_0 (l0_0.length : Int) (wrap64 (x18_1 + 1)) l0_0 l0_1)) = some r := H
   have A24 := Aside0.mk A240
   clear A240
   by_cases c25 : t210 = true
   rotate_left
   ·
    replace c25 := Bool.eq_false_iff.mpr c25
    subst c25
    have H1 : (shape_Sources.l0 k1 a1 x5_1 t203 l0_0 (l0_0.length : Int) (wrap64 (x18_1 + 1)) l0_0 l0_1) = some r := by rw [if_neg (show ¬ (false = true) by decide)] at H; exact H
    clear H
    have H := H1
    clear H1
    have H' := Aside0.mk H
    clear H
    have p206 : 0 ≤ (x18_1 : Int) := od
    have q206 : x18_1 < (l0_0.length : Int) := od
    obtain ⟨ad206, e206, hx206_0, hx206_1, hx206_2, hx206_3⟩ := at_T38 HR0_0.out x18_1 p206 q206
    cases e206
    replace hx206_0 := bl HB hx206_0
    replace hx206_1 := bl HB hx206_1
    replace hx206_2 := bl HB hx206_2
    replace hx206_3 := bl HB hx206_3
    replace p206 := eq_true p206
    replace q206 := eq_true q206
    try go_wp2_with (first | ((with_reducible refine gate_dst (N := 8) rfl ?_); refine bx 8 #[.int .i64 0, .int .i64 0, .int .i64 0, .int .i64 0] 38 ?_; intro gb207 hg w44 hbox hb; replace HO_5 := Aside0.mk (Kd.R_below (rk HO_5) hb); replace HO_6 := Aside0.mk (Kd.S_below (sk HO_6) hb); have BK207 := Aside0.mk (hbox); have GW207 := Aside0.mk ((bz hg : w.heap.size ≤ gb207)); have GE207 := Aside0.mk ((bz hg : w.heap.size ≤ gb207)); replace HB := Aside0.mk (below_step bb hb); have NB201_207 := Aside0.mk (nl BK201 hg); have NB207_201 := Aside0.mk (ng BK201 hg); replace BK201 := Aside0.mk (bw BK201 hb); clear hb hbox hg; have hnb45 := NB207_201.out; have hnc45 := NB201_207.out; obtain ⟨hcz46_0, hcz46_1, hcz46_2, hcz46_3, hfz46_0, hfz46_1, hfz46_2, hfz46_3⟩ := bo4 BK207))
    have n0_ : Aside0 (Kd.R (Kd.int .i64) 3 ((((w44.setCell ⟨gb207, 0, none⟩ (.int .i64 ((rd_T38 l0_0 x18_1).f0))).setCell ⟨gb207, 1, none⟩ (.int .i64 ((rd_T38 l0_0 x18_1).f1))).setCell ⟨gb207, 2, none⟩ (.int .i64 ((rd_T38 l0_0 x18_1).f2))).setCell ⟨gb207, 3, none⟩ (.int .i64 ((rd_T38 l0_0 x18_1).f3))) w.heap.size (fun _ => True) u5 x5_1) := ⟨by refine rm ?_; exact Kd.R_mono (Kd.R_far (p := ⟨gb207, 3, none⟩) (Kd.R_far (p := ⟨gb207, 2, none⟩) (Kd.R_far (p := ⟨gb207, 1, none⟩) (Kd.R_far (p := ⟨gb207, 0, none⟩) (Kd.R_types HO_5.out BK207.out (by decide)) (fun _ hk => hk.2) (.int .i64 ((rd_T38 l0_0 x18_1).f0))) (fun _ hk => hk.2) (.int .i64 ((rd_T38 l0_0 x18_1).f1))) (fun _ hk => hk.2) (.int .i64 ((rd_T38 l0_0 x18_1).f2))) (fun _ hk => hk.2) (.int .i64 ((rd_T38 l0_0 x18_1).f3))) (fun _ hk => trivial)⟩
    have n1_ : Aside0 (Kd.S (Kd.slice 4 Kd.bool) 33 ((((w44.setCell ⟨gb207, 0, none⟩ (.int .i64 ((rd_T38 l0_0 x18_1).f0))).setCell ⟨gb207, 1, none⟩ (.int .i64 ((rd_T38 l0_0 x18_1).f1))).setCell ⟨gb207, 2, none⟩ (.int .i64 ((rd_T38 l0_0 x18_1).f2))).setCell ⟨gb207, 3, none⟩ (.int .i64 ((rd_T38 l0_0 x18_1).f3))) w.heap.size (fun _ => True) v204 t203) := ⟨by refine sm ?_; exact Kd.S_mono (Kd.S_far (p := ⟨gb207, 3, none⟩) (Kd.S_far (p := ⟨gb207, 2, none⟩) (Kd.S_far (p := ⟨gb207, 1, none⟩) (Kd.S_far (p := ⟨gb207, 0, none⟩) (Kd.S_types HO_6.out BK207.out (by decide)) (fun _ hk => hk.2) (.int .i64 ((rd_T38 l0_0 x18_1).f0))) (fun _ hk => hk.2) (.int .i64 ((rd_T38 l0_0 x18_1).f1))) (fun _ hk => hk.2) (.int .i64 ((rd_T38 l0_0 x18_1).f2))) (fun _ hk => hk.2) (.int .i64 ((rd_T38 l0_0 x18_1).f3))) (fun _ hk => trivial)⟩
    have n2_ : Aside0 (((((w44.setCell ⟨gb207, 0, none⟩ (.int .i64 ((rd_T38 l0_0 x18_1).f0))).setCell ⟨gb207, 1, none⟩ (.int .i64 ((rd_T38 l0_0 x18_1).f1))).setCell ⟨gb207, 2, none⟩ (.int .i64 ((rd_T38 l0_0 x18_1).f2))).setCell ⟨gb207, 3, none⟩ (.int .i64 ((rd_T38 l0_0 x18_1).f3))).heap[gb201]? = some (.cells #[.slice (some ad206) l0_0.length c0_0, .slice A0_1 l0_1.length c0_1] 25 (0, 0))) := ⟨by refine bm ?_; refine blk_far ?_ NB201_207.out _; refine bm ?_; refine blk_far ?_ NB201_207.out _; refine bm ?_; refine blk_far ?_ NB201_207.out _; refine bm ?_; refine blk_far ?_ NB201_207.out _; refine bm ?_; exact BK201.out⟩
    have n3_ : Aside0 (((((w44.setCell ⟨gb207, 0, none⟩ (.int .i64 ((rd_T38 l0_0 x18_1).f0))).setCell ⟨gb207, 1, none⟩ (.int .i64 ((rd_T38 l0_0 x18_1).f1))).setCell ⟨gb207, 2, none⟩ (.int .i64 ((rd_T38 l0_0 x18_1).f2))).setCell ⟨gb207, 3, none⟩ (.int .i64 ((rd_T38 l0_0 x18_1).f3))).heap[gb207]? = some (.cells #[.int .i64 ((rd_T38 l0_0 x18_1).f0), .int .i64 ((rd_T38 l0_0 x18_1).f1), .int .i64 ((rd_T38 l0_0 x18_1).f2), .int .i64 ((rd_T38 l0_0 x18_1).f3)] 38 (0, 0))) := ⟨by refine bm ?_; refine blk_put (cs := #[.int .i64 ((rd_T38 l0_0 x18_1).f0), .int .i64 ((rd_T38 l0_0 x18_1).f1), .int .i64 ((rd_T38 l0_0 x18_1).f2), .int .i64 0]) ?_ 3 _ rfl; refine bm ?_; refine blk_put (cs := #[.int .i64 ((rd_T38 l0_0 x18_1).f0), .int .i64 ((rd_T38 l0_0 x18_1).f1), .int .i64 0, .int .i64 0]) ?_ 2 _ rfl; refine bm ?_; refine blk_put (cs := #[.int .i64 ((rd_T38 l0_0 x18_1).f0), .int .i64 0, .int .i64 0, .int .i64 0]) ?_ 1 _ rfl; refine bm ?_; refine blk_put (cs := #[.int .i64 0, .int .i64 0, .int .i64 0, .int .i64 0]) ?_ 0 _ rfl; refine bm ?_; exact BK207.out⟩
    have n4_ : Aside0 (Below w.heap.size w ((((w44.setCell ⟨gb207, 0, none⟩ (.int .i64 ((rd_T38 l0_0 x18_1).f0))).setCell ⟨gb207, 1, none⟩ (.int .i64 ((rd_T38 l0_0 x18_1).f1))).setCell ⟨gb207, 2, none⟩ (.int .i64 ((rd_T38 l0_0 x18_1).f2))).setCell ⟨gb207, 3, none⟩ (.int .i64 ((rd_T38 l0_0 x18_1).f3)))) := ⟨bb⟩
    (try clear HO_5)
    (try clear HO_6)
    (try clear BK201)
    (try clear BK207)
    (try clear HB)
    generalize ((((w44.setCell ⟨gb207, 0, none⟩ (.int .i64 ((rd_T38 l0_0 x18_1).f0))).setCell ⟨gb207, 1, none⟩ (.int .i64 ((rd_T38 l0_0 x18_1).f1))).setCell ⟨gb207, 2, none⟩ (.int .i64 ((rd_T38 l0_0 x18_1).f2))).setCell ⟨gb207, 3, none⟩ (.int .i64 ((rd_T38 l0_0 x18_1).f3))) = w47 at n0_ n1_ n2_ n3_ n4_ ⊢
    have HO_5 := n0_
    have HO_6 := n1_
    have BK201 := n2_
    have BK207 := n3_
    have HB := n4_
    clear n0_ n1_ n2_ n3_ n4_
    have n0_ := Aside0.mk (Kd.R_drew HO_5.out)
    have n1_ := Aside0.mk (Kd.S_drew HO_6.out)
    have n2_ := Aside0.mk (blk_drew BK201.out)
    have n3_ := Aside0.mk (blk_drew BK207.out)
    have n4_ := Aside0.mk (below_drew1 HB.out)
    clear HO_5
    clear HO_6
    clear BK201
    clear BK207
    clear HB
    have HO_5 := n0_
    have HO_6 := n1_
    have BK201 := n2_
    have BK207 := n3_
    have HB := n4_
    clear n0_ n1_ n2_ n3_ n4_
    have p208 : 0 ≤ (a1 : Int) := od
    have q208 : a1 < (l0_0.length : Int) := od
    obtain ⟨ad208, e208, hx208_0, hx208_1, hx208_2, hx208_3⟩ := at_T38 HR0_0.out a1 p208 q208
    have hw208_3 := hx208_3
    have hw208_2 := hx208_2
    have hw208_1 := hx208_1
    have hw208_0 := hx208_0
    obtain rfl : ad206 = ad208 := (by injection e208)
    replace hx208_0 := bl HB hx208_0
    replace hx208_1 := bl HB hx208_1
    replace hx208_2 := bl HB hx208_2
    replace hx208_3 := bl HB hx208_3
    replace p208 := eq_true p208
    replace q208 := eq_true q208
    have p209 : 0 ≤ (a1 : Int) := od
    have q209 : a1 < (l0_0.length : Int) := od
    obtain ⟨ad209, e209, hx209_0, hx209_1, hx209_2, hx209_3⟩ := at_T38 HR0_0.out a1 p209 q209
    have hw209_3 := hx209_3
    have hw209_2 := hx209_2
    have hw209_1 := hx209_1
    have hw209_0 := hx209_0
    obtain rfl : ad206 = ad209 := (by injection e209)
    replace hx209_0 := bl HB hx209_0
    replace hx209_1 := bl HB hx209_1
    replace hx209_2 := bl HB hx209_2
    replace hx209_3 := bl HB hx209_3
    replace p209 := eq_true p209
    replace q209 := eq_true q209
    refine start_ (n := 35) (S := fun w' => w'.cell? ⟨gb207, 0, none⟩ = some (.int .i64 ((rd_T38 l0_0 x18_1).f0)) ∧ w'.cell? ⟨gb207, 1, none⟩ = some (.int .i64 ((rd_T38 l0_0 x18_1).f1)) ∧ w'.cell? ⟨gb207, 2, none⟩ = some (.int .i64 ((rd_T38 l0_0 x18_1).f2)) ∧ w'.cell? ⟨gb207, 3, none⟩ = some (.int .i64 ((rd_T38 l0_0 x18_1).f3)) ∧ w'.cell? ⟨gb201, 0, none⟩ = some (.slice (some ad206) l0_0.length c0_0) ∧ w'.cell? ⟨gb201, 1, none⟩ = some (.slice A0_1 l0_1.length c0_1) ∧ w'.cell? (ad206.add ((a1).toNat * 4)) = some (.int .i64 ((rd_T38 l0_0 a1).f0)) ∧ w'.cell? ⟨(ad206.add ((a1).toNat * 4)).block, (ad206.add ((a1).toNat * 4)).off + 1, none⟩ = some (.int .i64 ((rd_T38 l0_0 a1).f1)) ∧ w'.cell? ⟨(ad206.add ((a1).toNat * 4)).block, (ad206.add ((a1).toNat * 4)).off + 2, none⟩ = some (.int .i64 ((rd_T38 l0_0 a1).f2)) ∧ w'.cell? ⟨(ad206.add ((a1).toNat * 4)).block, (ad206.add ((a1).toNat * 4)).off + 3, none⟩ = some (.int .i64 ((rd_T38 l0_0 a1).f3)) ∧ w'.cell? (ad206.add ((a1).toNat * 4)) = some (.int .i64 ((rd_T38 l0_0 a1).f0)) ∧ w'.cell? ⟨(ad206.add ((a1).toNat * 4)).block, (ad206.add ((a1).toNat * 4)).off + 1, none⟩ = some (.int .i64 ((rd_T38 l0_0 a1).f1)) ∧ w'.cell? ⟨(ad206.add ((a1).toNat * 4)).block, (ad206.add ((a1).toNat * 4)).off + 2, none⟩ = some (.int .i64 ((rd_T38 l0_0 a1).f2)) ∧ w'.cell? ⟨(ad206.add ((a1).toNat * 4)).block, (ad206.add ((a1).toNat * 4)).off + 3, none⟩ = some (.int .i64 ((rd_T38 l0_0 a1).f3))) (ds := []) #[false, false, false, false, false, false, false, false, false, false, false, false, false, false, false, false, false, false, false, false, false, false, false, false, false, false, false, false, false, false, false, false, false, false, false] (by kernel_rfl) rfl rfl ⟨(blk_cell BK207.out 0).trans rfl, (blk_cell BK207.out 1).trans rfl, (blk_cell BK207.out 2).trans rfl, (blk_cell BK207.out 3).trans rfl, (blk_cell BK201.out 0).trans rfl, (blk_cell BK201.out 1).trans rfl, (bl HB hw208_0), (bl HB hw208_1), (bl HB hw208_2), (bl HB hw208_3), (bl HB hw209_0), (bl HB hw209_1), (bl HB hw209_2), (bl HB hw209_3)⟩ (fun hHeld => ?_); refine with_tabW shape_Sources.tab8 shape_Sources.bits8 (fun HT_ HW_ => ?_)
    generalize w47.drew = w48 at HO_5 HO_6 BK201 BK207 HB hx208_0 hx208_1 hx208_2 hx208_3 hx209_0 hx209_1 hx209_2 hx209_3 hHeld ⊢
    refine pv 0 23 HT_.out ?_
    refine pv 1 24 HT_.out ?_
    refine pv 2 25 HT_.out ?_
    refine pv 3 26 HT_.out ?_
    refine pv 4 27 HT_.out ?_
    refine pv 6 29 HT_.out ?_
    refine pv 8 31 HT_.out ?_
    refine take_ (i := 5) (N := some 28) (v := ?_) (a' := ?_) #[true, true, true, true, true, true, true, false, true, false, false, false, false, false, false, false, false, false, false, false, false, false, false, false, false, false, false, false, false, false, false, false, false, false, false] rfl rfl (take_ofW HT_.out HW_.out (by kernel_rfl)) (fun _ _ _ h => h) (Or.inl ⟨by rfl, ?_⟩) hHeld ?_ ?_
    rotate_left
    ·
     rintro w' ⟨s0, s1, s2, s3, s4, s5, s6, s7, s8, s9, s10, s11, s12, s13⟩
     go_simp
     with_reducible rfl
    rotate_left
    ·
     simp only [Act.put, List.setIfInBounds_toArray, List.set_cons_zero, List.set_cons_succ, i64_w, i32_w]
     rfl
    refine take_ (i := 7) (N := some 30) (v := ?_) (a' := ?_) #[true, true, true, true, true, true, true, true, true, false, false, false, false, false, false, false, false, false, false, false, false, false, false, false, false, false, false, false, false, false, false, false, false, false, false] rfl rfl (take_ofW HT_.out HW_.out (by kernel_rfl)) (fun _ _ _ h => h) (Or.inl ⟨by rfl, ?_⟩) hHeld ?_ ?_
    rotate_left
    ·
     rintro w' ⟨s0, s1, s2, s3, s4, s5, s6, s7, s8, s9, s10, s11, s12, s13⟩
     go_simp
     with_reducible rfl
    rotate_left
    ·
     simp only [Act.put, List.setIfInBounds_toArray, List.set_cons_zero, List.set_cons_succ, i64_w, i32_w]
     rfl
    refine pv 9 32 HT_.out ?_
    refine pv 10 33 HT_.out ?_
    refine take_ (i := 11) (N := some 34) (v := ?_) (a' := ?_) #[true, true, true, true, true, true, true, true, true, true, true, true, false, false, false, false, false, false, false, false, false, false, false, false, false, false, false, false, false, false, false, false, false, false, false] rfl rfl (take_ofW HT_.out HW_.out (by kernel_rfl)) (fun _ _ _ h => h) (Or.inl ⟨by rfl, ?_⟩) hHeld ?_ ?_
    rotate_left
    ·
     rintro w' ⟨s0, s1, s2, s3, s4, s5, s6, s7, s8, s9, s10, s11, s12, s13⟩
     go_simp
     with_reducible rfl
    rotate_left
    ·
     simp only [Act.put, List.setIfInBounds_toArray, List.set_cons_zero, List.set_cons_succ, i64_w, i32_w]
     rfl
    refine pv 12 35 HT_.out ?_
    refine pv 13 36 HT_.out ?_
    refine pv 14 37 HT_.out ?_
    refine pv 15 38 HT_.out ?_
    refine pv 17 40 HT_.out ?_
    refine pv 19 42 HT_.out ?_
    refine take_ (i := 16) (N := some 39) (v := ?_) (a' := ?_) #[true, true, true, true, true, true, true, true, true, true, true, true, true, true, true, true, true, true, false, true, false, false, false, false, false, false, false, false, false, false, false, false, false, false, false] rfl rfl (take_ofW HT_.out HW_.out (by kernel_rfl)) (fun _ _ _ h => h) (Or.inl ⟨by rfl, ?_⟩) hHeld ?_ ?_
    rotate_left
    ·
     rintro w' ⟨s0, s1, s2, s3, s4, s5, s6, s7, s8, s9, s10, s11, s12, s13⟩
     go_simp
     with_reducible rfl
    rotate_left
    ·
     simp only [Act.put, List.setIfInBounds_toArray, List.set_cons_zero, List.set_cons_succ, i64_w, i32_w]
     rfl
    refine take_ (i := 18) (N := some 41) (v := ?_) (a' := ?_) #[true, true, true, true, true, true, true, true, true, true, true, true, true, true, true, true, true, true, true, true, false, false, false, false, false, false, false, false, false, false, false, false, false, false, false] rfl rfl (take_ofW HT_.out HW_.out (by kernel_rfl)) (fun _ _ _ h => h) (Or.inl ⟨by rfl, ?_⟩) hHeld ?_ ?_
    rotate_left
    ·
     rintro w' ⟨s0, s1, s2, s3, s4, s5, s6, s7, s8, s9, s10, s11, s12, s13⟩
     go_simp
     with_reducible rfl
    rotate_left
    ·
     simp only [Act.put, List.setIfInBounds_toArray, List.set_cons_zero, List.set_cons_succ, i64_w, i32_w]
     rfl
    refine pv 20 43 HT_.out ?_
    refine pv 21 44 HT_.out ?_
    refine take_ (i := 22) (N := some 45) (v := ?_) (a' := ?_) #[true, true, true, true, true, true, true, true, true, true, true, true, true, true, true, true, true, true, true, true, true, true, true, false, false, false, false, false, false, false, false, false, false, false, false] rfl rfl (take_ofW HT_.out HW_.out (by kernel_rfl)) (fun _ _ _ h => h) (Or.inl ⟨by rfl, ?_⟩) hHeld ?_ ?_
    rotate_left
    ·
     rintro w' ⟨s0, s1, s2, s3, s4, s5, s6, s7, s8, s9, s10, s11, s12, s13⟩
     go_simp
     with_reducible rfl
    rotate_left
    ·
     simp only [Act.put, List.setIfInBounds_toArray, List.set_cons_zero, List.set_cons_succ, i64_w, i32_w]
     rfl
    refine one_ (i := 23) (N := some 46) #[true, true, true, true, true, true, true, true, true, true, true, true, true, true, true, true, true, true, true, true, true, true, true, true, false, false, false, false, false, false, false, false, false, false, false] rfl rfl (one_of HT_.out (by kernel_rfl)) (by decide) (fun K hK => ?_)
    refine goes_ Try.func26 (by kernel_rfl) rfl #[.int .i64 ((rd_T38 l0_0 x18_1).f2), .int .i64 ((rd_T38 l0_0 a1).f2)] (by rfl) rfl rfl mr ?_
    with_reducible refine (shape_feeds.calls k1 ((rd_T38 l0_0 x18_1).f2) ((rd_T38 l0_0 a1).f2) false _ A24.out).mono ?_
    rintro e w' ⟨rfl, ⟨nd, rfl⟩⟩
    refine ⟨_, rfl, ?_⟩
    refine hK.out _ _ ⟨(blk_cell BK207.out 0).trans rfl, (blk_cell BK207.out 1).trans rfl, (blk_cell BK207.out 2).trans rfl, (blk_cell BK207.out 3).trans rfl, (blk_cell BK201.out 0).trans rfl, (blk_cell BK201.out 1).trans rfl, (bl HB hw208_0), (bl HB hw208_1), (bl HB hw208_2), (bl HB hw208_3), (bl HB hw209_0), (bl HB hw209_1), (bl HB hw209_2), (bl HB hw209_3)⟩ (fun hHeld => ?_)
    clear hK K
    refine norm_ (a' := ?_) ?_ ?_
    rotate_left
    ·
     show Act.put _ (some 46) _ = _
     simp only [Act.put, List.setIfInBounds_toArray, List.set_cons_zero, List.set_cons_succ, i64_w, i32_w]
     rfl
    refine pv 24 47 HT_.out ?_
    refine pv 25 48 HT_.out ?_
    refine pu 26 49 HT_.out ?_
    refine pu 27 50 HT_.out ?_
    refine pu 28 51 HT_.out ?_
    refine pu 29 52 HT_.out ?_
    refine pu 30 53 HT_.out ?_
    refine pu 31 54 HT_.out ?_
    refine pu 32 55 HT_.out ?_
    refine pu 33 56 HT_.out ?_
    refine pv 34 57 HT_.out ?_
    refine done_ (done_of HT_.out (by kernel_rfl)) ?_
    try go_wp2
    go_roundg k1
    case measure => have := HK1.out; omega
    case rel => exact ⟨(x5_1), (wrap64 (x18_1 + 1)), rs, H', ⟨by have := HK1.out; omega⟩, ⟨by refine rm ?_; exact HO_5.out⟩, ⟨by refine sm ?_; exact HO_6.out⟩, ⟨bk BK201⟩, ⟨bb⟩⟩
   subst c25
   have H1 : (if a1 < (t203.length : Int) then (if x18_1 < ((rd_L3 t203 a1).length : Int) then (if (rdOf false (rd_L3 t203 a1) x18_1 = true) then (shape_Sources.l0 k1 a1 x5_1 t203 l0_0 (l0_0.length : Int) (wrap64 (x18_1 + 1)) l0_0 l0_1) else (if x5_1.length < 17592186044416 then (shape_Sources.l0 k1 a1 (x5_1 ++ [x18_1]) t203 l0_0 (l0_0.length : Int) (wrap64 (x18_1 + 1)) l0_0 l0_1) else (none))) else (none)) else (none)) = some r := by rw [if_pos rfl] at H; exact H
   clear H
   have H := H1
   clear H1
   by_cases c26 : a1 < (t203.length : Int)
   rotate_left
   ·
    rw [if_neg c26] at H
    exact absurd H (by simp)
   rw [if_pos c26] at H
   have c26b0 : decide (a1 < (t203.length : Int)) = true := decide_eq_true c26
   clear c26
   by_cases c27 : x18_1 < ((rd_L3 t203 a1).length : Int)
   rotate_left
   ·
    rw [if_neg c27] at H
    exact absurd H (by simp)
   rw [if_pos c27] at H
   have c27b0 : decide (x18_1 < ((rd_L3 t203 a1).length : Int)) = true := decide_eq_true c27
   clear c27
   obtain ⟨bq28, hbq28⟩ : ∃ b_ : Bool, b_ = (rdOf false (rd_L3 t203 a1) x18_1) := ⟨_, rfl⟩
   replace H : (if (bq28 = true) then (shape_Sources.l0 k1 a1 x5_1 t203 l0_0 (l0_0.length : Int) (wrap64 (x18_1 + 1)) l0_0 l0_1) else (if x5_1.length < 17592186044416 then (shape_Sources.l0 k1 a1 (x5_1 ++ [x18_1]) t203 l0_0 (l0_0.length : Int) (wrap64 (x18_1 + 1)) l0_0 l0_1) else (none))) = some r := by rw [← hbq28] at H; exact H
   have Nbq28 := Aside0.mk hbq28
   clear hbq28
   by_cases c29 : (bq28 = true)
   ·
    subst c29
    have H1 : (shape_Sources.l0 k1 a1 x5_1 t203 l0_0 (l0_0.length : Int) (wrap64 (x18_1 + 1)) l0_0 l0_1) = some r := by rw [if_pos rfl] at H; exact H
    clear H
    have H := H1
    clear H1
    have H' := Aside0.mk H
    clear H
    have p206 : 0 ≤ (x18_1 : Int) := od
    have q206 : x18_1 < (l0_0.length : Int) := od
    obtain ⟨ad206, e206, hx206_0, hx206_1, hx206_2, hx206_3⟩ := at_T38 HR0_0.out x18_1 p206 q206
    cases e206
    replace hx206_0 := bl HB hx206_0
    replace hx206_1 := bl HB hx206_1
    replace hx206_2 := bl HB hx206_2
    replace hx206_3 := bl HB hx206_3
    replace p206 := eq_true p206
    replace q206 := eq_true q206
    try go_wp2_with (first | ((with_reducible refine gate_dst (N := 8) rfl ?_); refine bx 8 #[.int .i64 0, .int .i64 0, .int .i64 0, .int .i64 0] 38 ?_; intro gb207 hg w30 hbox hb; replace HO_5 := Aside0.mk (Kd.R_below (rk HO_5) hb); replace HO_6 := Aside0.mk (Kd.S_below (sk HO_6) hb); have BK207 := Aside0.mk (hbox); have GW207 := Aside0.mk ((bz hg : w.heap.size ≤ gb207)); have GE207 := Aside0.mk ((bz hg : w.heap.size ≤ gb207)); replace HB := Aside0.mk (below_step bb hb); have NB201_207 := Aside0.mk (nl BK201 hg); have NB207_201 := Aside0.mk (ng BK201 hg); replace BK201 := Aside0.mk (bw BK201 hb); clear hb hbox hg; have hnb31 := NB207_201.out; have hnc31 := NB201_207.out; obtain ⟨hcz32_0, hcz32_1, hcz32_2, hcz32_3, hfz32_0, hfz32_1, hfz32_2, hfz32_3⟩ := bo4 BK207))
    have n0_ : Aside0 (Kd.R (Kd.int .i64) 3 ((((w30.setCell ⟨gb207, 0, none⟩ (.int .i64 ((rd_T38 l0_0 x18_1).f0))).setCell ⟨gb207, 1, none⟩ (.int .i64 ((rd_T38 l0_0 x18_1).f1))).setCell ⟨gb207, 2, none⟩ (.int .i64 ((rd_T38 l0_0 x18_1).f2))).setCell ⟨gb207, 3, none⟩ (.int .i64 ((rd_T38 l0_0 x18_1).f3))) w.heap.size (fun _ => True) u5 x5_1) := ⟨by refine rm ?_; exact Kd.R_mono (Kd.R_far (p := ⟨gb207, 3, none⟩) (Kd.R_far (p := ⟨gb207, 2, none⟩) (Kd.R_far (p := ⟨gb207, 1, none⟩) (Kd.R_far (p := ⟨gb207, 0, none⟩) (Kd.R_types HO_5.out BK207.out (by decide)) (fun _ hk => hk.2) (.int .i64 ((rd_T38 l0_0 x18_1).f0))) (fun _ hk => hk.2) (.int .i64 ((rd_T38 l0_0 x18_1).f1))) (fun _ hk => hk.2) (.int .i64 ((rd_T38 l0_0 x18_1).f2))) (fun _ hk => hk.2) (.int .i64 ((rd_T38 l0_0 x18_1).f3))) (fun _ hk => trivial)⟩
    have n1_ : Aside0 (Kd.S (Kd.slice 4 Kd.bool) 33 ((((w30.setCell ⟨gb207, 0, none⟩ (.int .i64 ((rd_T38 l0_0 x18_1).f0))).setCell ⟨gb207, 1, none⟩ (.int .i64 ((rd_T38 l0_0 x18_1).f1))).setCell ⟨gb207, 2, none⟩ (.int .i64 ((rd_T38 l0_0 x18_1).f2))).setCell ⟨gb207, 3, none⟩ (.int .i64 ((rd_T38 l0_0 x18_1).f3))) w.heap.size (fun _ => True) v204 t203) := ⟨by refine sm ?_; exact Kd.S_mono (Kd.S_far (p := ⟨gb207, 3, none⟩) (Kd.S_far (p := ⟨gb207, 2, none⟩) (Kd.S_far (p := ⟨gb207, 1, none⟩) (Kd.S_far (p := ⟨gb207, 0, none⟩) (Kd.S_types HO_6.out BK207.out (by decide)) (fun _ hk => hk.2) (.int .i64 ((rd_T38 l0_0 x18_1).f0))) (fun _ hk => hk.2) (.int .i64 ((rd_T38 l0_0 x18_1).f1))) (fun _ hk => hk.2) (.int .i64 ((rd_T38 l0_0 x18_1).f2))) (fun _ hk => hk.2) (.int .i64 ((rd_T38 l0_0 x18_1).f3))) (fun _ hk => trivial)⟩
    have n2_ : Aside0 (((((w30.setCell ⟨gb207, 0, none⟩ (.int .i64 ((rd_T38 l0_0 x18_1).f0))).setCell ⟨gb207, 1, none⟩ (.int .i64 ((rd_T38 l0_0 x18_1).f1))).setCell ⟨gb207, 2, none⟩ (.int .i64 ((rd_T38 l0_0 x18_1).f2))).setCell ⟨gb207, 3, none⟩ (.int .i64 ((rd_T38 l0_0 x18_1).f3))).heap[gb201]? = some (.cells #[.slice (some ad206) l0_0.length c0_0, .slice A0_1 l0_1.length c0_1] 25 (0, 0))) := ⟨by refine bm ?_; refine blk_far ?_ NB201_207.out _; refine bm ?_; refine blk_far ?_ NB201_207.out _; refine bm ?_; refine blk_far ?_ NB201_207.out _; refine bm ?_; refine blk_far ?_ NB201_207.out _; refine bm ?_; exact BK201.out⟩
    have n3_ : Aside0 (((((w30.setCell ⟨gb207, 0, none⟩ (.int .i64 ((rd_T38 l0_0 x18_1).f0))).setCell ⟨gb207, 1, none⟩ (.int .i64 ((rd_T38 l0_0 x18_1).f1))).setCell ⟨gb207, 2, none⟩ (.int .i64 ((rd_T38 l0_0 x18_1).f2))).setCell ⟨gb207, 3, none⟩ (.int .i64 ((rd_T38 l0_0 x18_1).f3))).heap[gb207]? = some (.cells #[.int .i64 ((rd_T38 l0_0 x18_1).f0), .int .i64 ((rd_T38 l0_0 x18_1).f1), .int .i64 ((rd_T38 l0_0 x18_1).f2), .int .i64 ((rd_T38 l0_0 x18_1).f3)] 38 (0, 0))) := ⟨by refine bm ?_; refine blk_put (cs := #[.int .i64 ((rd_T38 l0_0 x18_1).f0), .int .i64 ((rd_T38 l0_0 x18_1).f1), .int .i64 ((rd_T38 l0_0 x18_1).f2), .int .i64 0]) ?_ 3 _ rfl; refine bm ?_; refine blk_put (cs := #[.int .i64 ((rd_T38 l0_0 x18_1).f0), .int .i64 ((rd_T38 l0_0 x18_1).f1), .int .i64 0, .int .i64 0]) ?_ 2 _ rfl; refine bm ?_; refine blk_put (cs := #[.int .i64 ((rd_T38 l0_0 x18_1).f0), .int .i64 0, .int .i64 0, .int .i64 0]) ?_ 1 _ rfl; refine bm ?_; refine blk_put (cs := #[.int .i64 0, .int .i64 0, .int .i64 0, .int .i64 0]) ?_ 0 _ rfl; refine bm ?_; exact BK207.out⟩
    have n4_ : Aside0 (Below w.heap.size w ((((w30.setCell ⟨gb207, 0, none⟩ (.int .i64 ((rd_T38 l0_0 x18_1).f0))).setCell ⟨gb207, 1, none⟩ (.int .i64 ((rd_T38 l0_0 x18_1).f1))).setCell ⟨gb207, 2, none⟩ (.int .i64 ((rd_T38 l0_0 x18_1).f2))).setCell ⟨gb207, 3, none⟩ (.int .i64 ((rd_T38 l0_0 x18_1).f3)))) := ⟨bb⟩
    (try clear HO_5)
    (try clear HO_6)
    (try clear BK201)
    (try clear BK207)
    (try clear HB)
    generalize ((((w30.setCell ⟨gb207, 0, none⟩ (.int .i64 ((rd_T38 l0_0 x18_1).f0))).setCell ⟨gb207, 1, none⟩ (.int .i64 ((rd_T38 l0_0 x18_1).f1))).setCell ⟨gb207, 2, none⟩ (.int .i64 ((rd_T38 l0_0 x18_1).f2))).setCell ⟨gb207, 3, none⟩ (.int .i64 ((rd_T38 l0_0 x18_1).f3))) = w33 at n0_ n1_ n2_ n3_ n4_ ⊢
    have HO_5 := n0_
    have HO_6 := n1_
    have BK201 := n2_
    have BK207 := n3_
    have HB := n4_
    clear n0_ n1_ n2_ n3_ n4_
    have n0_ := Aside0.mk (Kd.R_drew HO_5.out)
    have n1_ := Aside0.mk (Kd.S_drew HO_6.out)
    have n2_ := Aside0.mk (blk_drew BK201.out)
    have n3_ := Aside0.mk (blk_drew BK207.out)
    have n4_ := Aside0.mk (below_drew1 HB.out)
    clear HO_5
    clear HO_6
    clear BK201
    clear BK207
    clear HB
    have HO_5 := n0_
    have HO_6 := n1_
    have BK201 := n2_
    have BK207 := n3_
    have HB := n4_
    clear n0_ n1_ n2_ n3_ n4_
    have p208 : 0 ≤ (a1 : Int) := od
    have q208 : a1 < (l0_0.length : Int) := od
    obtain ⟨ad208, e208, hx208_0, hx208_1, hx208_2, hx208_3⟩ := at_T38 HR0_0.out a1 p208 q208
    have hw208_3 := hx208_3
    have hw208_2 := hx208_2
    have hw208_1 := hx208_1
    have hw208_0 := hx208_0
    obtain rfl : ad206 = ad208 := (by injection e208)
    replace hx208_0 := bl HB hx208_0
    replace hx208_1 := bl HB hx208_1
    replace hx208_2 := bl HB hx208_2
    replace hx208_3 := bl HB hx208_3
    replace p208 := eq_true p208
    replace q208 := eq_true q208
    have p209 : 0 ≤ (a1 : Int) := od
    have q209 : a1 < (l0_0.length : Int) := od
    obtain ⟨ad209, e209, hx209_0, hx209_1, hx209_2, hx209_3⟩ := at_T38 HR0_0.out a1 p209 q209
    have hw209_3 := hx209_3
    have hw209_2 := hx209_2
    have hw209_1 := hx209_1
    have hw209_0 := hx209_0
    obtain rfl : ad206 = ad209 := (by injection e209)
    replace hx209_0 := bl HB hx209_0
    replace hx209_1 := bl HB hx209_1
    replace hx209_2 := bl HB hx209_2
    replace hx209_3 := bl HB hx209_3
    replace p209 := eq_true p209
    replace q209 := eq_true q209
    have p211 : 0 ≤ (a1 : Int) := od
    have q211 : a1 < (t203.length : Int) := od
    obtain ⟨AoX, coX, eoX⟩ := Kd.S_slice HO_6.out
    subst eoX
    obtain ⟨ad211, A211_0, c211_0, e211, hx211_0, hl211_0, hi211_0⟩ := at_L3 (Kd.S_reads' HO_6.out).2.2 a1 p211 q211
    cases e211
    obtain ⟨ce211, hce211, hMe211, hcc211⟩ := Kd.S_get HO_6.out [] a1 p211 (by first | exact q211 | exact od | (have e_ := (Kd.S_reads' HO_6.out).1; omega))
    obtain ⟨ve211_0, rfl, ge211_0⟩ := hMe211
    have hv211_0 := hcc211 0 _ rfl
    rw [Nat.add_zero, show ((Kd.slice 4 Kd.bool)).sz = 1 from rfl, Nat.mul_one] at hv211_0
    replace hv211_0 := Option.some.inj (hv211_0.symm.trans hx211_0)
    rw [hv211_0] at ge211_0
    have HL211_0 := Aside0.mk (show Kd.R Kd.bool 4 _ _ _ _ (rd_L3 t203 a1) from ge211_0)
    clear hv211_0 ge211_0
    clear hcc211 hce211
    have HR211_0 := Aside0.mk hi211_0
    have HC211_0 := Aside0.mk hl211_0
    clear hi211_0 hl211_0
    replace p211 := eq_true p211
    replace q211 := eq_true q211
    have p212 : 0 ≤ (x18_1 : Int) := od
    have q212 : x18_1 < ((rd_L3 t203 a1).length : Int) := od
    obtain ⟨ad212, e212, hx212_0⟩ := Kd.at_bool (by repeat (first | (with_reducible exact HR211_0.out) | (with_reducible refine Kd.C_alloc ?_ _) | (with_reducible refine Kd.C_drewN ?_ _) | (with_reducible refine Kd.C_drew ?_) | exact HR211_0.out)) x18_1 p212 q212
    (try rw [← Nbq28.out] at hx212_0)
    cases e212
    replace p212 := eq_true p212
    replace q212 := eq_true q212
    refine start_ (n := 35) (S := fun w' => w'.cell? ⟨gb207, 0, none⟩ = some (.int .i64 ((rd_T38 l0_0 x18_1).f0)) ∧ w'.cell? ⟨gb207, 1, none⟩ = some (.int .i64 ((rd_T38 l0_0 x18_1).f1)) ∧ w'.cell? ⟨gb207, 2, none⟩ = some (.int .i64 ((rd_T38 l0_0 x18_1).f2)) ∧ w'.cell? ⟨gb207, 3, none⟩ = some (.int .i64 ((rd_T38 l0_0 x18_1).f3)) ∧ w'.cell? ⟨gb201, 0, none⟩ = some (.slice (some ad206) l0_0.length c0_0) ∧ w'.cell? ⟨gb201, 1, none⟩ = some (.slice A0_1 l0_1.length c0_1) ∧ w'.cell? (ad206.add ((a1).toNat * 4)) = some (.int .i64 ((rd_T38 l0_0 a1).f0)) ∧ w'.cell? ⟨(ad206.add ((a1).toNat * 4)).block, (ad206.add ((a1).toNat * 4)).off + 1, none⟩ = some (.int .i64 ((rd_T38 l0_0 a1).f1)) ∧ w'.cell? ⟨(ad206.add ((a1).toNat * 4)).block, (ad206.add ((a1).toNat * 4)).off + 2, none⟩ = some (.int .i64 ((rd_T38 l0_0 a1).f2)) ∧ w'.cell? ⟨(ad206.add ((a1).toNat * 4)).block, (ad206.add ((a1).toNat * 4)).off + 3, none⟩ = some (.int .i64 ((rd_T38 l0_0 a1).f3)) ∧ w'.cell? (ad206.add ((a1).toNat * 4)) = some (.int .i64 ((rd_T38 l0_0 a1).f0)) ∧ w'.cell? ⟨(ad206.add ((a1).toNat * 4)).block, (ad206.add ((a1).toNat * 4)).off + 1, none⟩ = some (.int .i64 ((rd_T38 l0_0 a1).f1)) ∧ w'.cell? ⟨(ad206.add ((a1).toNat * 4)).block, (ad206.add ((a1).toNat * 4)).off + 2, none⟩ = some (.int .i64 ((rd_T38 l0_0 a1).f2)) ∧ w'.cell? ⟨(ad206.add ((a1).toNat * 4)).block, (ad206.add ((a1).toNat * 4)).off + 3, none⟩ = some (.int .i64 ((rd_T38 l0_0 a1).f3)) ∧ w'.cell? (ad211.add (a1).toNat) = some (.slice (some ad212) (rd_L3 t203 a1).length c211_0) ∧ w'.cell? (ad212.add (x18_1).toNat) = some (.bool true)) (ds := []) #[false, false, false, false, false, false, false, false, false, false, false, false, false, false, false, false, false, false, false, false, false, false, false, false, false, false, false, false, false, false, false, false, false, false, false] (by kernel_rfl) rfl rfl ⟨(blk_cell BK207.out 0).trans rfl, (blk_cell BK207.out 1).trans rfl, (blk_cell BK207.out 2).trans rfl, (blk_cell BK207.out 3).trans rfl, (blk_cell BK201.out 0).trans rfl, (blk_cell BK201.out 1).trans rfl, (bl HB hw208_0), (bl HB hw208_1), (bl HB hw208_2), (bl HB hw208_3), (bl HB hw209_0), (bl HB hw209_1), (bl HB hw209_2), (bl HB hw209_3), hx211_0, hx212_0⟩ (fun hHeld => ?_); refine with_tabW shape_Sources.tab8 shape_Sources.bits8 (fun HT_ HW_ => ?_)
    generalize w33.drew = w34 at HO_5 HO_6 BK201 BK207 HB HL211_0 HR211_0 hx208_0 hx208_1 hx208_2 hx208_3 hx209_0 hx209_1 hx209_2 hx209_3 hx211_0 hx212_0 hHeld ⊢
    refine pv 0 23 HT_.out ?_
    refine pv 1 24 HT_.out ?_
    refine pv 2 25 HT_.out ?_
    refine pv 3 26 HT_.out ?_
    refine pv 4 27 HT_.out ?_
    refine pv 6 29 HT_.out ?_
    refine pv 8 31 HT_.out ?_
    refine take_ (i := 5) (N := some 28) (v := ?_) (a' := ?_) #[true, true, true, true, true, true, true, false, true, false, false, false, false, false, false, false, false, false, false, false, false, false, false, false, false, false, false, false, false, false, false, false, false, false, false] rfl rfl (take_ofW HT_.out HW_.out (by kernel_rfl)) (fun _ _ _ h => h) (Or.inl ⟨by rfl, ?_⟩) hHeld ?_ ?_
    rotate_left
    ·
     rintro w' ⟨s0, s1, s2, s3, s4, s5, s6, s7, s8, s9, s10, s11, s12, s13, s14, s15⟩
     go_simp
     with_reducible rfl
    rotate_left
    ·
     simp only [Act.put, List.setIfInBounds_toArray, List.set_cons_zero, List.set_cons_succ, i64_w, i32_w]
     rfl
    refine take_ (i := 7) (N := some 30) (v := ?_) (a' := ?_) #[true, true, true, true, true, true, true, true, true, false, false, false, false, false, false, false, false, false, false, false, false, false, false, false, false, false, false, false, false, false, false, false, false, false, false] rfl rfl (take_ofW HT_.out HW_.out (by kernel_rfl)) (fun _ _ _ h => h) (Or.inl ⟨by rfl, ?_⟩) hHeld ?_ ?_
    rotate_left
    ·
     rintro w' ⟨s0, s1, s2, s3, s4, s5, s6, s7, s8, s9, s10, s11, s12, s13, s14, s15⟩
     go_simp
     with_reducible rfl
    rotate_left
    ·
     simp only [Act.put, List.setIfInBounds_toArray, List.set_cons_zero, List.set_cons_succ, i64_w, i32_w]
     rfl
    refine pv 9 32 HT_.out ?_
    refine pv 10 33 HT_.out ?_
    refine take_ (i := 11) (N := some 34) (v := ?_) (a' := ?_) #[true, true, true, true, true, true, true, true, true, true, true, true, false, false, false, false, false, false, false, false, false, false, false, false, false, false, false, false, false, false, false, false, false, false, false] rfl rfl (take_ofW HT_.out HW_.out (by kernel_rfl)) (fun _ _ _ h => h) (Or.inl ⟨by rfl, ?_⟩) hHeld ?_ ?_
    rotate_left
    ·
     rintro w' ⟨s0, s1, s2, s3, s4, s5, s6, s7, s8, s9, s10, s11, s12, s13, s14, s15⟩
     go_simp
     with_reducible rfl
    rotate_left
    ·
     simp only [Act.put, List.setIfInBounds_toArray, List.set_cons_zero, List.set_cons_succ, i64_w, i32_w]
     rfl
    refine pv 12 35 HT_.out ?_
    refine pv 13 36 HT_.out ?_
    refine pv 14 37 HT_.out ?_
    refine pv 15 38 HT_.out ?_
    refine pv 17 40 HT_.out ?_
    refine pv 19 42 HT_.out ?_
    refine take_ (i := 16) (N := some 39) (v := ?_) (a' := ?_) #[true, true, true, true, true, true, true, true, true, true, true, true, true, true, true, true, true, true, false, true, false, false, false, false, false, false, false, false, false, false, false, false, false, false, false] rfl rfl (take_ofW HT_.out HW_.out (by kernel_rfl)) (fun _ _ _ h => h) (Or.inl ⟨by rfl, ?_⟩) hHeld ?_ ?_
    rotate_left
    ·
     rintro w' ⟨s0, s1, s2, s3, s4, s5, s6, s7, s8, s9, s10, s11, s12, s13, s14, s15⟩
     go_simp
     with_reducible rfl
    rotate_left
    ·
     simp only [Act.put, List.setIfInBounds_toArray, List.set_cons_zero, List.set_cons_succ, i64_w, i32_w]
     rfl
    refine take_ (i := 18) (N := some 41) (v := ?_) (a' := ?_) #[true, true, true, true, true, true, true, true, true, true, true, true, true, true, true, true, true, true, true, true, false, false, false, false, false, false, false, false, false, false, false, false, false, false, false] rfl rfl (take_ofW HT_.out HW_.out (by kernel_rfl)) (fun _ _ _ h => h) (Or.inl ⟨by rfl, ?_⟩) hHeld ?_ ?_
    rotate_left
    ·
     rintro w' ⟨s0, s1, s2, s3, s4, s5, s6, s7, s8, s9, s10, s11, s12, s13, s14, s15⟩
     go_simp
     with_reducible rfl
    rotate_left
    ·
     simp only [Act.put, List.setIfInBounds_toArray, List.set_cons_zero, List.set_cons_succ, i64_w, i32_w]
     rfl
    refine pv 20 43 HT_.out ?_
    refine pv 21 44 HT_.out ?_
    refine take_ (i := 22) (N := some 45) (v := ?_) (a' := ?_) #[true, true, true, true, true, true, true, true, true, true, true, true, true, true, true, true, true, true, true, true, true, true, true, false, false, false, false, false, false, false, false, false, false, false, false] rfl rfl (take_ofW HT_.out HW_.out (by kernel_rfl)) (fun _ _ _ h => h) (Or.inl ⟨by rfl, ?_⟩) hHeld ?_ ?_
    rotate_left
    ·
     rintro w' ⟨s0, s1, s2, s3, s4, s5, s6, s7, s8, s9, s10, s11, s12, s13, s14, s15⟩
     go_simp
     with_reducible rfl
    rotate_left
    ·
     simp only [Act.put, List.setIfInBounds_toArray, List.set_cons_zero, List.set_cons_succ, i64_w, i32_w]
     rfl
    refine one_ (i := 23) (N := some 46) #[true, true, true, true, true, true, true, true, true, true, true, true, true, true, true, true, true, true, true, true, true, true, true, true, false, false, false, false, false, false, false, false, false, false, false] rfl rfl (one_of HT_.out (by kernel_rfl)) (by decide) (fun K hK => ?_)
    refine goes_ Try.func26 (by kernel_rfl) rfl #[.int .i64 ((rd_T38 l0_0 x18_1).f2), .int .i64 ((rd_T38 l0_0 a1).f2)] (by rfl) rfl rfl mr ?_
    with_reducible refine (shape_feeds.calls k1 ((rd_T38 l0_0 x18_1).f2) ((rd_T38 l0_0 a1).f2) true _ A24.out).mono ?_
    rintro e w' ⟨rfl, ⟨nd, rfl⟩⟩
    refine ⟨_, rfl, ?_⟩
    obtain ⟨Ao35, co35, eo35⟩ := Kd.S_slice HO_6.out
    (first | subst eo35 | (injection eo35 with f1_ f2_ f3_; have f4_ := f1_.symm; have f5_ := f3_.symm; clear f1_ f2_ f3_; subst f4_; subst f5_))
    refine hK.out _ _ ⟨(blk_cell BK207.out 0).trans rfl, (blk_cell BK207.out 1).trans rfl, (blk_cell BK207.out 2).trans rfl, (blk_cell BK207.out 3).trans rfl, (blk_cell BK201.out 0).trans rfl, (blk_cell BK201.out 1).trans rfl, (bl HB hw208_0), (bl HB hw208_1), (bl HB hw208_2), (bl HB hw208_3), (bl HB hw209_0), (bl HB hw209_1), (bl HB hw209_2), (bl HB hw209_3), hHeld.2.2.2.2.2.2.2.2.2.2.2.2.2.2.1, hHeld.2.2.2.2.2.2.2.2.2.2.2.2.2.2.2⟩ (fun hHeld => ?_)
    clear hK K
    refine norm_ (a' := ?_) ?_ ?_
    rotate_left
    ·
     show Act.put _ (some 46) _ = _
     simp only [Act.put, List.setIfInBounds_toArray, List.set_cons_zero, List.set_cons_succ, i64_w, i32_w]
     rfl
    refine pv 24 47 HT_.out ?_
    refine pv 25 48 HT_.out ?_
    refine pv 26 49 HT_.out ?_
    refine pv 27 50 HT_.out ?_
    refine pv 28 51 HT_.out ?_
    refine pv 30 53 HT_.out ?_
    refine take_ (i := 29) (N := some 52) (v := ?_) (a' := ?_) #[true, true, true, true, true, true, true, true, true, true, true, true, true, true, true, true, true, true, true, true, true, true, true, true, true, true, true, true, true, true, true, false, false, false, false] rfl rfl (take_ofW HT_.out HW_.out (by kernel_rfl)) (fun _ _ _ h => h) (Or.inl ⟨by rfl, ?_⟩) hHeld ?_ ?_
    rotate_left
    ·
     rintro w' ⟨s0, s1, s2, s3, s4, s5, s6, s7, s8, s9, s10, s11, s12, s13, s14, s15⟩
     go_simp
     with_reducible rfl
    rotate_left
    ·
     simp only [Act.put, List.setIfInBounds_toArray, List.set_cons_zero, List.set_cons_succ, i64_w, i32_w]
     rfl
    refine pv 31 54 HT_.out ?_
    refine take_ (i := 32) (N := some 55) (v := ?_) (a' := ?_) #[true, true, true, true, true, true, true, true, true, true, true, true, true, true, true, true, true, true, true, true, true, true, true, true, true, true, true, true, true, true, true, true, true, false, false] rfl rfl (take_ofW HT_.out HW_.out (by kernel_rfl)) (fun _ _ _ h => h) (Or.inl ⟨by rfl, ?_⟩) hHeld ?_ ?_
    rotate_left
    ·
     rintro w' ⟨s0, s1, s2, s3, s4, s5, s6, s7, s8, s9, s10, s11, s12, s13, s14, s15⟩
     go_simp
     with_reducible rfl
    rotate_left
    ·
     simp only [Act.put, List.setIfInBounds_toArray, List.set_cons_zero, List.set_cons_succ, i64_w, i32_w]
     rfl
    refine pv 33 56 HT_.out ?_
    refine pv 34 57 HT_.out ?_
    refine done_ (done_of HT_.out (by kernel_rfl)) ?_
    try go_wp2
    go_roundg k1
    case measure => have := HK1.out; omega
    case rel => exact ⟨(x5_1), (wrap64 (x18_1 + 1)), rs, H', ⟨by have := HK1.out; omega⟩, ⟨by refine rm ?_; exact HO_5.out⟩, ⟨by refine sm ?_; exact HO_6.out⟩, ⟨bk BK201⟩, ⟨bb⟩⟩
   replace c29 := Bool.eq_false_iff.mpr c29
   subst c29
   have H1 : (if x5_1.length < 17592186044416 then (shape_Sources.l0 k1 a1 (x5_1 ++ [x18_1]) t203 l0_0 (l0_0.length : Int) (wrap64 (x18_1 + 1)) l0_0 l0_1) else (none)) = some r := by rw [if_neg (show ¬ (false = true) by decide)] at H; exact H
   clear H
   have H := H1
   clear H1
   by_cases c36 : x5_1.length < 17592186044416
   rotate_left
   ·
    rw [if_neg c36] at H
    exact absurd H (by simp)
   rw [if_pos c36] at H
   have LMc36 := Aside0.mk c36
   clear c36
   obtain ⟨y213, hy213⟩ : ∃ y_ : List Int, y_ = (x5_1 ++ [x18_1]) := ⟨_, rfl⟩
   replace H : (shape_Sources.l0 k1 a1 y213 t203 l0_0 (l0_0.length : Int) (wrap64 (x18_1 + 1)) l0_0 l0_1) = some r := by first | (rw [hy213]; with_reducible exact H) | (have H2_ := (Option.bind_some _ _).symm.trans H; rw [hy213]; with_reducible exact H2_) | (have H2_ := (Option.bind_some _ _).symm.trans H; with_reducible exact H2_) | with_reducible exact H | (rw [hy213]; exact H) | exact H
   have Ny213 := Aside0.mk hy213
   clear hy213
   have H' := Aside0.mk H
   clear H
   have p206 : 0 ≤ (x18_1 : Int) := od
   have q206 : x18_1 < (l0_0.length : Int) := od
   obtain ⟨ad206, e206, hx206_0, hx206_1, hx206_2, hx206_3⟩ := at_T38 HR0_0.out x18_1 p206 q206
   cases e206
   replace hx206_0 := bl HB hx206_0
   replace hx206_1 := bl HB hx206_1
   replace hx206_2 := bl HB hx206_2
   replace hx206_3 := bl HB hx206_3
   replace p206 := eq_true p206
   replace q206 := eq_true q206
   try go_wp2_with (first | ((with_reducible refine gate_dst (N := 8) rfl ?_); refine bx 8 #[.int .i64 0, .int .i64 0, .int .i64 0, .int .i64 0] 38 ?_; intro gb207 hg w37 hbox hb; replace HO_5 := Aside0.mk (Kd.R_below (rk HO_5) hb); replace HO_6 := Aside0.mk (Kd.S_below (sk HO_6) hb); have BK207 := Aside0.mk (hbox); have GW207 := Aside0.mk ((bz hg : w.heap.size ≤ gb207)); have GE207 := Aside0.mk ((bz hg : w.heap.size ≤ gb207)); replace HB := Aside0.mk (below_step bb hb); have NB201_207 := Aside0.mk (nl BK201 hg); have NB207_201 := Aside0.mk (ng BK201 hg); replace BK201 := Aside0.mk (bw BK201 hb); clear hb hbox hg; have hnb38 := NB207_201.out; have hnc38 := NB201_207.out; obtain ⟨hcz39_0, hcz39_1, hcz39_2, hcz39_3, hfz39_0, hfz39_1, hfz39_2, hfz39_3⟩ := bo4 BK207))
   have n0_ : Aside0 (Kd.R (Kd.int .i64) 3 ((((w37.setCell ⟨gb207, 0, none⟩ (.int .i64 ((rd_T38 l0_0 x18_1).f0))).setCell ⟨gb207, 1, none⟩ (.int .i64 ((rd_T38 l0_0 x18_1).f1))).setCell ⟨gb207, 2, none⟩ (.int .i64 ((rd_T38 l0_0 x18_1).f2))).setCell ⟨gb207, 3, none⟩ (.int .i64 ((rd_T38 l0_0 x18_1).f3))) w.heap.size (fun _ => True) u5 x5_1) := ⟨by refine rm ?_; exact Kd.R_mono (Kd.R_far (p := ⟨gb207, 3, none⟩) (Kd.R_far (p := ⟨gb207, 2, none⟩) (Kd.R_far (p := ⟨gb207, 1, none⟩) (Kd.R_far (p := ⟨gb207, 0, none⟩) (Kd.R_types HO_5.out BK207.out (by decide)) (fun _ hk => hk.2) (.int .i64 ((rd_T38 l0_0 x18_1).f0))) (fun _ hk => hk.2) (.int .i64 ((rd_T38 l0_0 x18_1).f1))) (fun _ hk => hk.2) (.int .i64 ((rd_T38 l0_0 x18_1).f2))) (fun _ hk => hk.2) (.int .i64 ((rd_T38 l0_0 x18_1).f3))) (fun _ hk => trivial)⟩
   have n1_ : Aside0 (Kd.S (Kd.slice 4 Kd.bool) 33 ((((w37.setCell ⟨gb207, 0, none⟩ (.int .i64 ((rd_T38 l0_0 x18_1).f0))).setCell ⟨gb207, 1, none⟩ (.int .i64 ((rd_T38 l0_0 x18_1).f1))).setCell ⟨gb207, 2, none⟩ (.int .i64 ((rd_T38 l0_0 x18_1).f2))).setCell ⟨gb207, 3, none⟩ (.int .i64 ((rd_T38 l0_0 x18_1).f3))) w.heap.size (fun _ => True) v204 t203) := ⟨by refine sm ?_; exact Kd.S_mono (Kd.S_far (p := ⟨gb207, 3, none⟩) (Kd.S_far (p := ⟨gb207, 2, none⟩) (Kd.S_far (p := ⟨gb207, 1, none⟩) (Kd.S_far (p := ⟨gb207, 0, none⟩) (Kd.S_types HO_6.out BK207.out (by decide)) (fun _ hk => hk.2) (.int .i64 ((rd_T38 l0_0 x18_1).f0))) (fun _ hk => hk.2) (.int .i64 ((rd_T38 l0_0 x18_1).f1))) (fun _ hk => hk.2) (.int .i64 ((rd_T38 l0_0 x18_1).f2))) (fun _ hk => hk.2) (.int .i64 ((rd_T38 l0_0 x18_1).f3))) (fun _ hk => trivial)⟩
   have n2_ : Aside0 (((((w37.setCell ⟨gb207, 0, none⟩ (.int .i64 ((rd_T38 l0_0 x18_1).f0))).setCell ⟨gb207, 1, none⟩ (.int .i64 ((rd_T38 l0_0 x18_1).f1))).setCell ⟨gb207, 2, none⟩ (.int .i64 ((rd_T38 l0_0 x18_1).f2))).setCell ⟨gb207, 3, none⟩ (.int .i64 ((rd_T38 l0_0 x18_1).f3))).heap[gb201]? = some (.cells #[.slice (some ad206) l0_0.length c0_0, .slice A0_1 l0_1.length c0_1] 25 (0, 0))) := ⟨by refine bm ?_; refine blk_far ?_ NB201_207.out _; refine bm ?_; refine blk_far ?_ NB201_207.out _; refine bm ?_; refine blk_far ?_ NB201_207.out _; refine bm ?_; refine blk_far ?_ NB201_207.out _; refine bm ?_; exact BK201.out⟩
   have n3_ : Aside0 (((((w37.setCell ⟨gb207, 0, none⟩ (.int .i64 ((rd_T38 l0_0 x18_1).f0))).setCell ⟨gb207, 1, none⟩ (.int .i64 ((rd_T38 l0_0 x18_1).f1))).setCell ⟨gb207, 2, none⟩ (.int .i64 ((rd_T38 l0_0 x18_1).f2))).setCell ⟨gb207, 3, none⟩ (.int .i64 ((rd_T38 l0_0 x18_1).f3))).heap[gb207]? = some (.cells #[.int .i64 ((rd_T38 l0_0 x18_1).f0), .int .i64 ((rd_T38 l0_0 x18_1).f1), .int .i64 ((rd_T38 l0_0 x18_1).f2), .int .i64 ((rd_T38 l0_0 x18_1).f3)] 38 (0, 0))) := ⟨by refine bm ?_; refine blk_put (cs := #[.int .i64 ((rd_T38 l0_0 x18_1).f0), .int .i64 ((rd_T38 l0_0 x18_1).f1), .int .i64 ((rd_T38 l0_0 x18_1).f2), .int .i64 0]) ?_ 3 _ rfl; refine bm ?_; refine blk_put (cs := #[.int .i64 ((rd_T38 l0_0 x18_1).f0), .int .i64 ((rd_T38 l0_0 x18_1).f1), .int .i64 0, .int .i64 0]) ?_ 2 _ rfl; refine bm ?_; refine blk_put (cs := #[.int .i64 ((rd_T38 l0_0 x18_1).f0), .int .i64 0, .int .i64 0, .int .i64 0]) ?_ 1 _ rfl; refine bm ?_; refine blk_put (cs := #[.int .i64 0, .int .i64 0, .int .i64 0, .int .i64 0]) ?_ 0 _ rfl; refine bm ?_; exact BK207.out⟩
   have n4_ : Aside0 (Below w.heap.size w ((((w37.setCell ⟨gb207, 0, none⟩ (.int .i64 ((rd_T38 l0_0 x18_1).f0))).setCell ⟨gb207, 1, none⟩ (.int .i64 ((rd_T38 l0_0 x18_1).f1))).setCell ⟨gb207, 2, none⟩ (.int .i64 ((rd_T38 l0_0 x18_1).f2))).setCell ⟨gb207, 3, none⟩ (.int .i64 ((rd_T38 l0_0 x18_1).f3)))) := ⟨bb⟩
   (try clear HO_5)
   (try clear HO_6)
   (try clear BK201)
   (try clear BK207)
   (try clear HB)
   generalize ((((w37.setCell ⟨gb207, 0, none⟩ (.int .i64 ((rd_T38 l0_0 x18_1).f0))).setCell ⟨gb207, 1, none⟩ (.int .i64 ((rd_T38 l0_0 x18_1).f1))).setCell ⟨gb207, 2, none⟩ (.int .i64 ((rd_T38 l0_0 x18_1).f2))).setCell ⟨gb207, 3, none⟩ (.int .i64 ((rd_T38 l0_0 x18_1).f3))) = w40 at n0_ n1_ n2_ n3_ n4_ ⊢
   have HO_5 := n0_
   have HO_6 := n1_
   have BK201 := n2_
   have BK207 := n3_
   have HB := n4_
   clear n0_ n1_ n2_ n3_ n4_
   have n0_ := Aside0.mk (Kd.R_drew HO_5.out)
   have n1_ := Aside0.mk (Kd.S_drew HO_6.out)
   have n2_ := Aside0.mk (blk_drew BK201.out)
   have n3_ := Aside0.mk (blk_drew BK207.out)
   have n4_ := Aside0.mk (below_drew1 HB.out)
   clear HO_5
   clear HO_6
   clear BK201
   clear BK207
   clear HB
   have HO_5 := n0_
   have HO_6 := n1_
   have BK201 := n2_
   have BK207 := n3_
   have HB := n4_
   clear n0_ n1_ n2_ n3_ n4_
   have p208 : 0 ≤ (a1 : Int) := od
   have q208 : a1 < (l0_0.length : Int) := od
   obtain ⟨ad208, e208, hx208_0, hx208_1, hx208_2, hx208_3⟩ := at_T38 HR0_0.out a1 p208 q208
   have hw208_3 := hx208_3
   have hw208_2 := hx208_2
   have hw208_1 := hx208_1
   have hw208_0 := hx208_0
   obtain rfl : ad206 = ad208 := (by injection e208)
   replace hx208_0 := bl HB hx208_0
   replace hx208_1 := bl HB hx208_1
   replace hx208_2 := bl HB hx208_2
   replace hx208_3 := bl HB hx208_3
   replace p208 := eq_true p208
   replace q208 := eq_true q208
   have p209 : 0 ≤ (a1 : Int) := od
   have q209 : a1 < (l0_0.length : Int) := od
   obtain ⟨ad209, e209, hx209_0, hx209_1, hx209_2, hx209_3⟩ := at_T38 HR0_0.out a1 p209 q209
   have hw209_3 := hx209_3
   have hw209_2 := hx209_2
   have hw209_1 := hx209_1
   have hw209_0 := hx209_0
   obtain rfl : ad206 = ad209 := (by injection e209)
   replace hx209_0 := bl HB hx209_0
   replace hx209_1 := bl HB hx209_1
   replace hx209_2 := bl HB hx209_2
   replace hx209_3 := bl HB hx209_3
   replace p209 := eq_true p209
   replace q209 := eq_true q209
   have p211 : 0 ≤ (a1 : Int) := od
   have q211 : a1 < (t203.length : Int) := od
   obtain ⟨AoX, coX, eoX⟩ := Kd.S_slice HO_6.out
   subst eoX
   obtain ⟨ad211, A211_0, c211_0, e211, hx211_0, hl211_0, hi211_0⟩ := at_L3 (Kd.S_reads' HO_6.out).2.2 a1 p211 q211
   cases e211
   obtain ⟨ce211, hce211, hMe211, hcc211⟩ := Kd.S_get HO_6.out [] a1 p211 (by first | exact q211 | exact od | (have e_ := (Kd.S_reads' HO_6.out).1; omega))
   obtain ⟨ve211_0, rfl, ge211_0⟩ := hMe211
   have hv211_0 := hcc211 0 _ rfl
   rw [Nat.add_zero, show ((Kd.slice 4 Kd.bool)).sz = 1 from rfl, Nat.mul_one] at hv211_0
   replace hv211_0 := Option.some.inj (hv211_0.symm.trans hx211_0)
   rw [hv211_0] at ge211_0
   have HL211_0 := Aside0.mk (show Kd.R Kd.bool 4 _ _ _ _ (rd_L3 t203 a1) from ge211_0)
   clear hv211_0 ge211_0
   clear hcc211 hce211
   have HR211_0 := Aside0.mk hi211_0
   have HC211_0 := Aside0.mk hl211_0
   clear hi211_0 hl211_0
   replace p211 := eq_true p211
   replace q211 := eq_true q211
   have p212 : 0 ≤ (x18_1 : Int) := od
   have q212 : x18_1 < ((rd_L3 t203 a1).length : Int) := od
   obtain ⟨ad212, e212, hx212_0⟩ := Kd.at_bool (by repeat (first | (with_reducible exact HR211_0.out) | (with_reducible refine Kd.C_alloc ?_ _) | (with_reducible refine Kd.C_drewN ?_ _) | (with_reducible refine Kd.C_drew ?_) | exact HR211_0.out)) x18_1 p212 q212
   (try rw [← Nbq28.out] at hx212_0)
   cases e212
   replace p212 := eq_true p212
   replace q212 := eq_true q212
   refine start_ (n := 35) (S := fun w' => w'.cell? ⟨gb207, 0, none⟩ = some (.int .i64 ((rd_T38 l0_0 x18_1).f0)) ∧ w'.cell? ⟨gb207, 1, none⟩ = some (.int .i64 ((rd_T38 l0_0 x18_1).f1)) ∧ w'.cell? ⟨gb207, 2, none⟩ = some (.int .i64 ((rd_T38 l0_0 x18_1).f2)) ∧ w'.cell? ⟨gb207, 3, none⟩ = some (.int .i64 ((rd_T38 l0_0 x18_1).f3)) ∧ w'.cell? ⟨gb201, 0, none⟩ = some (.slice (some ad206) l0_0.length c0_0) ∧ w'.cell? ⟨gb201, 1, none⟩ = some (.slice A0_1 l0_1.length c0_1) ∧ w'.cell? (ad206.add ((a1).toNat * 4)) = some (.int .i64 ((rd_T38 l0_0 a1).f0)) ∧ w'.cell? ⟨(ad206.add ((a1).toNat * 4)).block, (ad206.add ((a1).toNat * 4)).off + 1, none⟩ = some (.int .i64 ((rd_T38 l0_0 a1).f1)) ∧ w'.cell? ⟨(ad206.add ((a1).toNat * 4)).block, (ad206.add ((a1).toNat * 4)).off + 2, none⟩ = some (.int .i64 ((rd_T38 l0_0 a1).f2)) ∧ w'.cell? ⟨(ad206.add ((a1).toNat * 4)).block, (ad206.add ((a1).toNat * 4)).off + 3, none⟩ = some (.int .i64 ((rd_T38 l0_0 a1).f3)) ∧ w'.cell? (ad206.add ((a1).toNat * 4)) = some (.int .i64 ((rd_T38 l0_0 a1).f0)) ∧ w'.cell? ⟨(ad206.add ((a1).toNat * 4)).block, (ad206.add ((a1).toNat * 4)).off + 1, none⟩ = some (.int .i64 ((rd_T38 l0_0 a1).f1)) ∧ w'.cell? ⟨(ad206.add ((a1).toNat * 4)).block, (ad206.add ((a1).toNat * 4)).off + 2, none⟩ = some (.int .i64 ((rd_T38 l0_0 a1).f2)) ∧ w'.cell? ⟨(ad206.add ((a1).toNat * 4)).block, (ad206.add ((a1).toNat * 4)).off + 3, none⟩ = some (.int .i64 ((rd_T38 l0_0 a1).f3)) ∧ w'.cell? (ad211.add (a1).toNat) = some (.slice (some ad212) (rd_L3 t203 a1).length c211_0) ∧ w'.cell? (ad212.add (x18_1).toNat) = some (.bool false)) (ds := []) #[false, false, false, false, false, false, false, false, false, false, false, false, false, false, false, false, false, false, false, false, false, false, false, false, false, false, false, false, false, false, false, false, false, false, false] (by kernel_rfl) rfl rfl ⟨(blk_cell BK207.out 0).trans rfl, (blk_cell BK207.out 1).trans rfl, (blk_cell BK207.out 2).trans rfl, (blk_cell BK207.out 3).trans rfl, (blk_cell BK201.out 0).trans rfl, (blk_cell BK201.out 1).trans rfl, (bl HB hw208_0), (bl HB hw208_1), (bl HB hw208_2), (bl HB hw208_3), (bl HB hw209_0), (bl HB hw209_1), (bl HB hw209_2), (bl HB hw209_3), hx211_0, hx212_0⟩ (fun hHeld => ?_); refine with_tabW shape_Sources.tab8 shape_Sources.bits8 (fun HT_ HW_ => ?_)
   generalize w40.drew = w41 at HO_5 HO_6 BK201 BK207 HB HL211_0 HR211_0 hx208_0 hx208_1 hx208_2 hx208_3 hx209_0 hx209_1 hx209_2 hx209_3 hx211_0 hx212_0 hHeld ⊢
   refine pv 0 23 HT_.out ?_
   refine pv 1 24 HT_.out ?_
   refine pv 2 25 HT_.out ?_
   refine pv 3 26 HT_.out ?_
   refine pv 4 27 HT_.out ?_
   refine pv 6 29 HT_.out ?_
   refine pv 8 31 HT_.out ?_
   refine take_ (i := 5) (N := some 28) (v := ?_) (a' := ?_) #[true, true, true, true, true, true, true, false, true, false, false, false, false, false, false, false, false, false, false, false, false, false, false, false, false, false, false, false, false, false, false, false, false, false, false] rfl rfl (take_ofW HT_.out HW_.out (by kernel_rfl)) (fun _ _ _ h => h) (Or.inl ⟨by rfl, ?_⟩) hHeld ?_ ?_
   rotate_left
   ·
    rintro w' ⟨s0, s1, s2, s3, s4, s5, s6, s7, s8, s9, s10, s11, s12, s13, s14, s15⟩
    go_simp
    with_reducible rfl
   rotate_left
   ·
    simp only [Act.put, List.setIfInBounds_toArray, List.set_cons_zero, List.set_cons_succ, i64_w, i32_w]
    rfl
   refine take_ (i := 7) (N := some 30) (v := ?_) (a' := ?_) #[true, true, true, true, true, true, true, true, true, false, false, false, false, false, false, false, false, false, false, false, false, false, false, false, false, false, false, false, false, false, false, false, false, false, false] rfl rfl (take_ofW HT_.out HW_.out (by kernel_rfl)) (fun _ _ _ h => h) (Or.inl ⟨by rfl, ?_⟩) hHeld ?_ ?_
   rotate_left
   ·
    rintro w' ⟨s0, s1, s2, s3, s4, s5, s6, s7, s8, s9, s10, s11, s12, s13, s14, s15⟩
    go_simp
    with_reducible rfl
   rotate_left
   ·
    simp only [Act.put, List.setIfInBounds_toArray, List.set_cons_zero, List.set_cons_succ, i64_w, i32_w]
    rfl
   refine pv 9 32 HT_.out ?_
   refine pv 10 33 HT_.out ?_
   refine take_ (i := 11) (N := some 34) (v := ?_) (a' := ?_) #[true, true, true, true, true, true, true, true, true, true, true, true, false, false, false, false, false, false, false, false, false, false, false, false, false, false, false, false, false, false, false, false, false, false, false] rfl rfl (take_ofW HT_.out HW_.out (by kernel_rfl)) (fun _ _ _ h => h) (Or.inl ⟨by rfl, ?_⟩) hHeld ?_ ?_
   rotate_left
   ·
    rintro w' ⟨s0, s1, s2, s3, s4, s5, s6, s7, s8, s9, s10, s11, s12, s13, s14, s15⟩
    go_simp
    with_reducible rfl
   rotate_left
   ·
    simp only [Act.put, List.setIfInBounds_toArray, List.set_cons_zero, List.set_cons_succ, i64_w, i32_w]
    rfl
   refine pv 12 35 HT_.out ?_
   refine pv 13 36 HT_.out ?_
   refine pv 14 37 HT_.out ?_
   refine pv 15 38 HT_.out ?_
   refine pv 17 40 HT_.out ?_
   refine pv 19 42 HT_.out ?_
   refine take_ (i := 16) (N := some 39) (v := ?_) (a' := ?_) #[true, true, true, true, true, true, true, true, true, true, true, true, true, true, true, true, true, true, false, true, false, false, false, false, false, false, false, false, false, false, false, false, false, false, false] rfl rfl (take_ofW HT_.out HW_.out (by kernel_rfl)) (fun _ _ _ h => h) (Or.inl ⟨by rfl, ?_⟩) hHeld ?_ ?_
   rotate_left
   ·
    rintro w' ⟨s0, s1, s2, s3, s4, s5, s6, s7, s8, s9, s10, s11, s12, s13, s14, s15⟩
    go_simp
    with_reducible rfl
   rotate_left
   ·
    simp only [Act.put, List.setIfInBounds_toArray, List.set_cons_zero, List.set_cons_succ, i64_w, i32_w]
    rfl
   refine take_ (i := 18) (N := some 41) (v := ?_) (a' := ?_) #[true, true, true, true, true, true, true, true, true, true, true, true, true, true, true, true, true, true, true, true, false, false, false, false, false, false, false, false, false, false, false, false, false, false, false] rfl rfl (take_ofW HT_.out HW_.out (by kernel_rfl)) (fun _ _ _ h => h) (Or.inl ⟨by rfl, ?_⟩) hHeld ?_ ?_
   rotate_left
   ·
    rintro w' ⟨s0, s1, s2, s3, s4, s5, s6, s7, s8, s9, s10, s11, s12, s13, s14, s15⟩
    go_simp
    with_reducible rfl
   rotate_left
   ·
    simp only [Act.put, List.setIfInBounds_toArray, List.set_cons_zero, List.set_cons_succ, i64_w, i32_w]
    rfl
   refine pv 20 43 HT_.out ?_
   refine pv 21 44 HT_.out ?_
   refine take_ (i := 22) (N := some 45) (v := ?_) (a' := ?_) #[true, true, true, true, true, true, true, true, true, true, true, true, true, true, true, true, true, true, true, true, true, true, true, false, false, false, false, false, false, false, false, false, false, false, false] rfl rfl (take_ofW HT_.out HW_.out (by kernel_rfl)) (fun _ _ _ h => h) (Or.inl ⟨by rfl, ?_⟩) hHeld ?_ ?_
   rotate_left
   ·
    rintro w' ⟨s0, s1, s2, s3, s4, s5, s6, s7, s8, s9, s10, s11, s12, s13, s14, s15⟩
    go_simp
    with_reducible rfl
   rotate_left
   ·
    simp only [Act.put, List.setIfInBounds_toArray, List.set_cons_zero, List.set_cons_succ, i64_w, i32_w]
    rfl
   refine one_ (i := 23) (N := some 46) #[true, true, true, true, true, true, true, true, true, true, true, true, true, true, true, true, true, true, true, true, true, true, true, true, false, false, false, false, false, false, false, false, false, false, false] rfl rfl (one_of HT_.out (by kernel_rfl)) (by decide) (fun K hK => ?_)
   refine goes_ Try.func26 (by kernel_rfl) rfl #[.int .i64 ((rd_T38 l0_0 x18_1).f2), .int .i64 ((rd_T38 l0_0 a1).f2)] (by rfl) rfl rfl mr ?_
   with_reducible refine (shape_feeds.calls k1 ((rd_T38 l0_0 x18_1).f2) ((rd_T38 l0_0 a1).f2) true _ A24.out).mono ?_
   rintro e w' ⟨rfl, ⟨nd, rfl⟩⟩
   refine ⟨_, rfl, ?_⟩
   obtain ⟨Ao42, co42, eo42⟩ := Kd.S_slice HO_6.out
   (first | subst eo42 | (injection eo42 with f1_ f2_ f3_; have f4_ := f1_.symm; have f5_ := f3_.symm; clear f1_ f2_ f3_; subst f4_; subst f5_))
   refine hK.out _ _ ⟨(blk_cell BK207.out 0).trans rfl, (blk_cell BK207.out 1).trans rfl, (blk_cell BK207.out 2).trans rfl, (blk_cell BK207.out 3).trans rfl, (blk_cell BK201.out 0).trans rfl, (blk_cell BK201.out 1).trans rfl, (bl HB hw208_0), (bl HB hw208_1), (bl HB hw208_2), (bl HB hw208_3), (bl HB hw209_0), (bl HB hw209_1), (bl HB hw209_2), (bl HB hw209_3), hHeld.2.2.2.2.2.2.2.2.2.2.2.2.2.2.1, hHeld.2.2.2.2.2.2.2.2.2.2.2.2.2.2.2⟩ (fun hHeld => ?_)
   clear hK K
   refine norm_ (a' := ?_) ?_ ?_
   rotate_left
   ·
    show Act.put _ (some 46) _ = _
    simp only [Act.put, List.setIfInBounds_toArray, List.set_cons_zero, List.set_cons_succ, i64_w, i32_w]
    rfl
   refine pv 24 47 HT_.out ?_
   refine pv 25 48 HT_.out ?_
   refine pv 26 49 HT_.out ?_
   refine pv 27 50 HT_.out ?_
   refine pv 28 51 HT_.out ?_
   refine pv 30 53 HT_.out ?_
   refine take_ (i := 29) (N := some 52) (v := ?_) (a' := ?_) #[true, true, true, true, true, true, true, true, true, true, true, true, true, true, true, true, true, true, true, true, true, true, true, true, true, true, true, true, true, true, true, false, false, false, false] rfl rfl (take_ofW HT_.out HW_.out (by kernel_rfl)) (fun _ _ _ h => h) (Or.inl ⟨by rfl, ?_⟩) hHeld ?_ ?_
   rotate_left
   ·
    rintro w' ⟨s0, s1, s2, s3, s4, s5, s6, s7, s8, s9, s10, s11, s12, s13, s14, s15⟩
    go_simp
    with_reducible rfl
   rotate_left
   ·
    simp only [Act.put, List.setIfInBounds_toArray, List.set_cons_zero, List.set_cons_succ, i64_w, i32_w]
    rfl
   refine pv 31 54 HT_.out ?_
   refine take_ (i := 32) (N := some 55) (v := ?_) (a' := ?_) #[true, true, true, true, true, true, true, true, true, true, true, true, true, true, true, true, true, true, true, true, true, true, true, true, true, true, true, true, true, true, true, true, true, false, false] rfl rfl (take_ofW HT_.out HW_.out (by kernel_rfl)) (fun _ _ _ h => h) (Or.inl ⟨by rfl, ?_⟩) hHeld ?_ ?_
   rotate_left
   ·
    rintro w' ⟨s0, s1, s2, s3, s4, s5, s6, s7, s8, s9, s10, s11, s12, s13, s14, s15⟩
    go_simp
    with_reducible rfl
   rotate_left
   ·
    simp only [Act.put, List.setIfInBounds_toArray, List.set_cons_zero, List.set_cons_succ, i64_w, i32_w]
    rfl
   refine pv 33 56 HT_.out ?_
   refine pv 34 57 HT_.out ?_
   refine done_ (done_of HT_.out (by kernel_rfl)) ?_
   try go_wp2_with (first | ((with_reducible refine gate_builtin (b := .append) (xs := #[.tmp 58, .tmp 60]) rfl ?_); at_builtin; refine Kd.R_append (Kd.int .i64) (w0 := w) w.heap.size rfl (.tmp 58) (.tmp 60) 23 3 (.int .i64 0) 8 rfl Try.underlying23 info3 rfl (by decide) (by omega) u5 x5_1 x18_1 [.int .i64 x18_1] (fun _ => True) (fun _ => False) rfl rfl ?aP (fun _ hk => hk.elim) ?aF ?aO ?aB ?aS ?aL ?_; (case aP => exact rfl); (case aB => exact bb); (case aF => exact (fun _ _ => trivial)); (case aO => exact (rk HO_5)); (case aS => exact (below_size bb)); (case aL => have := LMc36.out; omega); intro v214 w43 ho hb hg hat; rw [← Ny213.out] at ho; replace HO_6 := Aside0.mk (Kd.S_over' (sk HO_6) (Kd.R_typed (rk HO_5)) (by decide) hg); replace BK201 := Aside0.mk (blk_grown (g := gb201) (o := .cells #[.slice (some ad206) l0_0.length c0_0, .slice A0_1 l0_1.length c0_1] 25 (0, 0)) (bk BK201) hg (Kd.R_ne HO_5.out BK201.out (by decide))); replace BK207 := Aside0.mk (blk_grown (g := gb207) (o := .cells #[.int .i64 ((rd_T38 l0_0 x18_1).f0), .int .i64 ((rd_T38 l0_0 x18_1).f1), .int .i64 ((rd_T38 l0_0 x18_1).f2), .int .i64 ((rd_T38 l0_0 x18_1).f3)] 38 (0, 0)) (bk BK207) hg (Kd.R_ne HO_5.out BK207.out (by decide))); replace HL211_0 := Aside0.mk (Kd.R_over' (rm (HL211_0.out)) (Kd.R_typed (rk HO_5)) (by decide) hg); replace HB := Aside0.mk (hb); have HO215 := Aside0.mk (ho); clear HO_5; clear ho hb hg hat))
   go_roundg k1
   case measure => have := HK1.out; omega
   case rel => exact ⟨(y213), (wrap64 (x18_1 + 1)), rs, H', ⟨by have := HK1.out; omega⟩, ⟨by refine rm ?_; exact HO215.out⟩, ⟨by refine sm ?_; exact HO_6.out⟩, ⟨bk BK201⟩, ⟨bb⟩⟩

end Go.Proofs.Ytcoelecaigkfcaa.K
