-- Laid by drive.py (a program of the session's) out of the translation. Lean checks it.
import Derived.Test.YtcoelecaigkfcaaKx0
import Derived.Test.YtcoelecaigkfcaaKx3
import Derived.Test.YtcoelecaigkfcaaKx6
namespace Go.Proofs.Ytcoelecaigkfcaa.K
open Go.RowKit Go.Proofs.YtcoelecaigkfcaaW.PrintWords Go.Proofs.YtcoelecaigkfcaaW.PrintLast
set_option linter.unusedVariables false
set_option linter.unusedSimpArgs false

/-! ### shape_there: function 20 -/
def shape_there.f (k : Nat) (l0_0 : List (S38)) (l0_1 : List Int) (a1 : Int) : Option (Bool) := (shape_Check.f k l0_0 l0_1).bind fun t156 => (if t156 = 0 then (if a1 ≥ 0 then (some (decide (a1 < (l0_0.length : Int)))) else (some false)) else (some false))
theorem shape_there.mono : ∀ a0 a1 a2 k, LeO (shape_there.f k a0 a1 a2) (shape_there.f (k + 1) a0 a1 a2) := by
  intro a0 a1 a2 k
  unfold shape_there.f
  repeat' first
      | (with_reducible exact shape_Check.mono _ _ _)
      | (with_reducible exact LeO.refl _)
      | (with_reducible exact LeO.none _)
      | (with_reducible refine LeO.ite ?_ ?_)
      | (with_reducible refine LeO.bind ?_ (fun _ => ?_))
      | exact shape_Check.mono _ _ _
      | exact LeO.none _
      | refine LeO.ite ?_ ?_
      | refine LeO.bind ?_ (fun _ => ?_)
set_option maxHeartbeats 8000000 in
set_option maxRecDepth 100000 in
theorem shape_there.calls (k : Nat) (A0_0 : Option Addr) (c0_0 : Nat) (l0_0 : List (S38)) (A0_1 : Option Addr) (c0_1 : Nat) (l0_1 : List Int) (a1 : Int) (r : Bool) (w : World) (hr0_0 : Kd.C k38 w A0_0 l0_0.length l0_0) (hc0_0 : l0_0.length ≤ c0_0) (hr0_1 : Kd.C (Kd.int .i64) w A0_1 l0_1.length l0_1) (hc0_1 : l0_1.length ≤ c0_1) (h : shape_there.f k l0_0 l0_1 a1 = some r) :
    Calls Try.prog 20 #[.agg #[.slice A0_0 l0_0.length c0_0, .slice A0_1 l0_1.length c0_1], .int .i64 a1] w fun e w' => e = .returned (.bool r) ∧ Below w.heap.size w w' := by
 have hu25 := Try.underlying25
 have HR0_0 := Aside0.mk hr0_0
 have HC0_0 := Aside0.mk hc0_0
 clear hr0_0 hc0_0
 have HR0_1 := Aside0.mk hr0_1
 have HC0_1 := Aside0.mk hc0_1
 clear hr0_1 hc0_1
 have HB := Aside0.mk (Below.refl w.heap.size w)
 have H : ((shape_Check.f k l0_0 l0_1).bind fun t156 => (if t156 = 0 then (if a1 ≥ 0 then (some (decide (a1 < (l0_0.length : Int)))) else (some false)) else (some false))) = some r := h
 clear h
 replace H := Option.bind_eq_some_iff.mp H
 obtain ⟨t156, A30, H⟩ := H
 replace H : (if t156 = 0 then (if a1 ≥ 0 then (some (decide (a1 < (l0_0.length : Int)))) else (some false)) else (some false)) = some r := H
 have A3 := Aside0.mk A30
 clear A30
 by_cases c4 : t156 = 0
 rotate_left
 ·
  rw [if_neg c4] at H
  have c4b0 : (t156 == 0) = false := beq_eq_false_iff_ne.mpr c4
  have c4b1 : (t156 != 0) = true := bne_iff_ne.mpr c4
  obtain rfl := Option.some.inj H
  go_enter Try.func20, Try.ntmps20
  go_wp2_with (first | ((with_reducible refine gate_dst (N := 2) rfl ?_); (try (refine gate_guard (by rfl) ?_; dsimp only)); refine bx 2 #[.slice A0_0 l0_0.length c0_0, .slice A0_1 l0_1.length c0_1] 25 ?_; intro gb155 hg w13 hbox hb; have BK155 := Aside0.mk (hbox); have GW155 := Aside0.mk ((bz hg : w.heap.size ≤ gb155)); have GE155 := Aside0.mk ((bz hg : w.heap.size ≤ gb155)); replace HB := Aside0.mk (below_step bb hb); clear hb hbox hg; obtain ⟨hcz14_0, hcz14_1, hfz14_0, hfz14_1⟩ := bo2 BK155) | ((with_reducible refine gate_callee (f := 13) rfl ?_); refine gl (some 6) Try.func13 #[.agg #[.slice A0_0 l0_0.length c0_0, .slice A0_1 l0_1.length c0_1]] ?_; (with_reducible refine (shape_Check.calls k _ _ l0_0 _ _ l0_1 t156 _ ?side1 ?side2 ?side3 ?side4 A3.out).mono ?_); (case side1 => exact cw HR0_0 HB); (case side2 => exact HC0_0.out); (case side3 => exact cw HR0_1 HB); (case side4 => exact HC0_1.out); rintro e w15 ⟨rfl, hb⟩; refine ⟨_, rfl, ?_⟩; replace BK155 := Aside0.mk (bw BK155 hb); replace HB := Aside0.mk (below_step bb hb); (try clear hb); (try clear hb2); (try clear hk); (try clear hi)))
  go_ret
  exact ⟨ew, bb⟩
 rw [if_pos c4] at H
 have c4b0 : (t156 == 0) = true := beq_iff_eq.mpr c4
 have c4b1 : (t156 != 0) = false := bne_eq_false_iff_eq.mpr c4
 clear c4
 by_cases c5 : a1 ≥ 0
 rotate_left
 ·
  rw [if_neg c5] at H
  have c5b0 : decide (0 ≤ a1) = false := decide_eq_false c5
  clear c5
  obtain rfl := Option.some.inj H
  go_enter Try.func20, Try.ntmps20
  go_wp2_with (first | ((with_reducible refine gate_dst (N := 2) rfl ?_); (try (refine gate_guard (by rfl) ?_; dsimp only)); refine bx 2 #[.slice A0_0 l0_0.length c0_0, .slice A0_1 l0_1.length c0_1] 25 ?_; intro gb155 hg w10 hbox hb; have BK155 := Aside0.mk (hbox); have GW155 := Aside0.mk ((bz hg : w.heap.size ≤ gb155)); have GE155 := Aside0.mk ((bz hg : w.heap.size ≤ gb155)); replace HB := Aside0.mk (below_step bb hb); clear hb hbox hg; obtain ⟨hcz11_0, hcz11_1, hfz11_0, hfz11_1⟩ := bo2 BK155) | ((with_reducible refine gate_callee (f := 13) rfl ?_); refine gl (some 6) Try.func13 #[.agg #[.slice A0_0 l0_0.length c0_0, .slice A0_1 l0_1.length c0_1]] ?_; (with_reducible refine (shape_Check.calls k _ _ l0_0 _ _ l0_1 t156 _ ?side1 ?side2 ?side3 ?side4 A3.out).mono ?_); (case side1 => exact cw HR0_0 HB); (case side2 => exact HC0_0.out); (case side3 => exact cw HR0_1 HB); (case side4 => exact HC0_1.out); rintro e w12 ⟨rfl, hb⟩; refine ⟨_, rfl, ?_⟩; replace BK155 := Aside0.mk (bw BK155 hb); replace HB := Aside0.mk (below_step bb hb); (try clear hb); (try clear hb2); (try clear hk); (try clear hi)))
  go_ret
  exact ⟨ew, bb⟩
 rw [if_pos c5] at H
 have c5b0 : decide (0 ≤ a1) = true := decide_eq_true c5
 clear c5
 obtain rfl := Option.some.inj H
 go_enter Try.func20, Try.ntmps20
 go_wp2_with (first | ((with_reducible refine gate_dst (N := 2) rfl ?_); (try (refine gate_guard (by rfl) ?_; dsimp only)); refine bx 2 #[.slice A0_0 l0_0.length c0_0, .slice A0_1 l0_1.length c0_1] 25 ?_; intro gb155 hg w6 hbox hb; have BK155 := Aside0.mk (hbox); have GW155 := Aside0.mk ((bz hg : w.heap.size ≤ gb155)); have GE155 := Aside0.mk ((bz hg : w.heap.size ≤ gb155)); replace HB := Aside0.mk (below_step bb hb); clear hb hbox hg; obtain ⟨hcz7_0, hcz7_1, hfz7_0, hfz7_1⟩ := bo2 BK155) | ((with_reducible refine gate_callee (f := 13) rfl ?_); refine gl (some 6) Try.func13 #[.agg #[.slice A0_0 l0_0.length c0_0, .slice A0_1 l0_1.length c0_1]] ?_; (with_reducible refine (shape_Check.calls k _ _ l0_0 _ _ l0_1 t156 _ ?side1 ?side2 ?side3 ?side4 A3.out).mono ?_); (case side1 => exact cw HR0_0 HB); (case side2 => exact HC0_0.out); (case side3 => exact cw HR0_1 HB); (case side4 => exact HC0_1.out); rintro e w8 ⟨rfl, hb⟩; refine ⟨_, rfl, ?_⟩; replace BK155 := Aside0.mk (bw BK155 hb); replace HB := Aside0.mk (below_step bb hb); (try clear hb); (try clear hb2); (try clear hk); (try clear hi); obtain ⟨hcz9_0, hcz9_1, hfz9_0, hfz9_1⟩ := bo2 BK155))
 go_ret
 exact ⟨ew, bb⟩

/-! ### shape_plain: function 21 -/
def shape_plain.f (a0 : Int) : Option (Bool) := if a0 = 1 then (some true) else (some (a0 == 2))
set_option maxHeartbeats 8000000 in
set_option maxRecDepth 100000 in
theorem shape_plain.calls (a0 : Int) (r : Bool) (w : World) (h : shape_plain.f a0 = some r) :
    Calls Try.prog 21 #[.int .i64 a0] w fun e w' => e = .returned (.bool r) ∧ Drawn0 w w' := by
 have H : (if a0 = 1 then (some true) else (some (a0 == 2))) = some r := h
 clear h
 by_cases c2 : a0 = 1
 rotate_left
 ·
  rw [if_neg c2] at H
  have c2b0 : (a0 == 1) = false := beq_eq_false_iff_ne.mpr c2
  have c2b1 : (a0 != 1) = true := bne_iff_ne.mpr c2
  obtain rfl := Option.some.inj H
  go_enter Try.func21, Try.ntmps21
  go_wp2
  go_ret
  exact ⟨rs, by repeat (first | exact Drawn0.refl _ | apply Drawn0.step)⟩
 rw [if_pos c2] at H
 have c2b0 : (a0 == 1) = true := beq_iff_eq.mpr c2
 have c2b1 : (a0 != 1) = false := bne_eq_false_iff_eq.mpr c2
 clear c2
 obtain rfl := Option.some.inj H
 go_enter Try.func21, Try.ntmps21
 go_wp2
 go_ret
 exact ⟨rs, by repeat (first | exact Drawn0.refl _ | apply Drawn0.step)⟩

/-! ### shape_Rivals: function 10 -/
mutual
def shape_Rivals.j0 : Nat → Int → Bool → List (S38) → List Int → Option (List Int)
  | 0, _, _, _, _ => none
  | k + 1, x1, x23, x158000, x158001 => if x23 = true then (some ([] : List Int)) else ((shape_Ahead.f k x158000 x158001).bind fun t161 => (if 0 ≤ x1 then (if x1 < (x158000.length : Int) then (shape_Rivals.l0 k x1 ([] : List Int) t161 x158000 (x158000.length : Int) 0 ((rd_T38 x158000 x1).f0) ((rd_T38 x158000 x1).f1) ((rd_T38 x158000 x1).f2) ((rd_T38 x158000 x1).f3)) else (none)) else (none)))
def shape_Rivals.l0 : Nat → Int → List Int → List (List Bool) → List (S38) → Int → Int → Int → Int → Int → Int → Option (List Int)
  | 0, _, _, _, _, _, _, _, _, _, _ => none
  | k + 1, x1, x5, x6, x32, x33, x34, x166000, x166001, x166002, x166003 => if x34 < x33 then (if 0 ≤ x34 then (if x34 < (x32.length : Int) then ((shape_plain.f ((rd_T38 x32 x34).f2)).bind fun t168 => (if t168 = true then (if ((rd_T38 x32 x34).f0) = x166000 then (shape_Rivals.l0 k x1 x5 x6 x32 x33 (wrap64 (x34 + 1)) x166000 x166001 x166002 x166003) else (if ((rd_T38 x32 x34).f3) = x166003 then (if x166002 = 2 then (if 0 ≤ x1 then (if x1 < (x6.length : Int) then (if x34 < ((rd_L3 x6 x1).length : Int) then (if (rdOf false (rd_L3 x6 x1) x34 = true) then (shape_Rivals.l0 k x1 x5 x6 x32 x33 (wrap64 (x34 + 1)) x166000 x166001 x166002 x166003) else (if x34 < (x6.length : Int) then (if x1 < ((rd_L3 x6 x34).length : Int) then (if (rdOf false (rd_L3 x6 x34) x1 = true) then (shape_Rivals.l0 k x1 x5 x6 x32 x33 (wrap64 (x34 + 1)) x166000 x166001 x166002 x166003) else (if x5.length < 17592186044416 then (shape_Rivals.l0 k x1 (x5 ++ [x34]) x6 x32 x33 (wrap64 (x34 + 1)) x166000 x166001 x166002 x166003) else (none))) else (none)) else (none))) else (none)) else (none)) else (none)) else (if ((rd_T38 x32 x34).f2) = 2 then (if 0 ≤ x1 then (if x1 < (x6.length : Int) then (if x34 < ((rd_L3 x6 x1).length : Int) then (if (rdOf false (rd_L3 x6 x1) x34 = true) then (shape_Rivals.l0 k x1 x5 x6 x32 x33 (wrap64 (x34 + 1)) x166000 x166001 x166002 x166003) else (if x34 < (x6.length : Int) then (if x1 < ((rd_L3 x6 x34).length : Int) then (if (rdOf false (rd_L3 x6 x34) x1 = true) then (shape_Rivals.l0 k x1 x5 x6 x32 x33 (wrap64 (x34 + 1)) x166000 x166001 x166002 x166003) else (if x5.length < 17592186044416 then (shape_Rivals.l0 k x1 (x5 ++ [x34]) x6 x32 x33 (wrap64 (x34 + 1)) x166000 x166001 x166002 x166003) else (none))) else (none)) else (none))) else (none)) else (none)) else (none)) else (shape_Rivals.l0 k x1 x5 x6 x32 x33 (wrap64 (x34 + 1)) x166000 x166001 x166002 x166003))) else (shape_Rivals.l0 k x1 x5 x6 x32 x33 (wrap64 (x34 + 1)) x166000 x166001 x166002 x166003))) else (shape_Rivals.l0 k x1 x5 x6 x32 x33 (wrap64 (x34 + 1)) x166000 x166001 x166002 x166003))) else (none)) else (none)) else (some x5)
end
def shape_Rivals.f (k : Nat) (l0_0 : List (S38)) (l0_1 : List Int) (a1 : Int) : Option (List Int) := (shape_there.f k l0_0 l0_1 a1).bind fun t158 => (if t158 = true then (if 0 ≤ a1 then (if a1 < (l0_0.length : Int) then ((shape_plain.f ((rd_T38 l0_0 a1).f2)).bind fun t160 => (shape_Rivals.j0 k a1 (!t160) l0_0 l0_1)) else (none)) else (none)) else (shape_Rivals.j0 k a1 true l0_0 l0_1))
theorem shape_Rivals.mono_l : ∀ k, (∀ y0 y1 y2 y3, LeO (shape_Rivals.j0 k y0 y1 y2 y3) (shape_Rivals.j0 (k + 1) y0 y1 y2 y3)) ∧ (∀ y0 y1 y2 y3 y4 y5 y6 y7 y8 y9, LeO (shape_Rivals.l0 k y0 y1 y2 y3 y4 y5 y6 y7 y8 y9) (shape_Rivals.l0 (k + 1) y0 y1 y2 y3 y4 y5 y6 y7 y8 y9))
  | 0 => ⟨fun _ _ _ _ r h => by simp [shape_Rivals.j0] at h, fun _ _ _ _ _ _ _ _ _ _ r h => by simp [shape_Rivals.l0] at h⟩
  | k + 1 => by
    obtain ⟨ih0, ih1⟩ := shape_Rivals.mono_l k
    refine ⟨?_, ?_⟩
    · intro y0 y1 y2 y3
      unfold shape_Rivals.j0
      repeat' first
      | (with_reducible exact ih0 _ _ _ _)
      | (with_reducible exact ih1 _ _ _ _ _ _ _ _ _ _)
      | (with_reducible exact shape_Ahead.mono _ _ _)
      | (with_reducible exact shape_there.mono _ _ _ _)
      | (with_reducible exact LeO.refl _)
      | (with_reducible exact LeO.none _)
      | (with_reducible refine LeO.ite ?_ ?_)
      | (with_reducible refine LeO.bind ?_ (fun _ => ?_))
      | exact ih0 _ _ _ _
      | exact ih1 _ _ _ _ _ _ _ _ _ _
      | exact shape_Ahead.mono _ _ _
      | exact shape_there.mono _ _ _ _
      | exact LeO.none _
      | refine LeO.ite ?_ ?_
      | refine LeO.bind ?_ (fun _ => ?_)
    · intro y0 y1 y2 y3 y4 y5 y6 y7 y8 y9
      unfold shape_Rivals.l0
      repeat' first
      | (with_reducible exact ih0 _ _ _ _)
      | (with_reducible exact ih1 _ _ _ _ _ _ _ _ _ _)
      | (with_reducible exact shape_Ahead.mono _ _ _)
      | (with_reducible exact shape_there.mono _ _ _ _)
      | (with_reducible exact LeO.refl _)
      | (with_reducible exact LeO.none _)
      | (with_reducible refine LeO.ite ?_ ?_)
      | (with_reducible refine LeO.bind ?_ (fun _ => ?_))
      | exact ih0 _ _ _ _
      | exact ih1 _ _ _ _ _ _ _ _ _ _
      | exact shape_Ahead.mono _ _ _
      | exact shape_there.mono _ _ _ _
      | exact LeO.none _
      | refine LeO.ite ?_ ?_
      | refine LeO.bind ?_ (fun _ => ?_)
theorem shape_Rivals.mono : ∀ a0 a1 a2 k, LeO (shape_Rivals.f k a0 a1 a2) (shape_Rivals.f (k + 1) a0 a1 a2) := by
  intro a0 a1 a2 k
  obtain ⟨ih0, ih1⟩ := shape_Rivals.mono_l k
  unfold shape_Rivals.f
  repeat' first
      | (with_reducible exact ih0 _ _ _ _)
      | (with_reducible exact ih1 _ _ _ _ _ _ _ _ _ _)
      | (with_reducible exact shape_Ahead.mono _ _ _)
      | (with_reducible exact shape_there.mono _ _ _ _)
      | (with_reducible exact LeO.refl _)
      | (with_reducible exact LeO.none _)
      | (with_reducible refine LeO.ite ?_ ?_)
      | (with_reducible refine LeO.bind ?_ (fun _ => ?_))
      | exact ih0 _ _ _ _
      | exact ih1 _ _ _ _ _ _ _ _ _ _
      | exact shape_Ahead.mono _ _ _
      | exact shape_there.mono _ _ _ _
      | exact LeO.none _
      | refine LeO.ite ?_ ?_
      | refine LeO.bind ?_ (fun _ => ?_)
set_option maxHeartbeats 8000000 in
set_option maxRecDepth 100000 in
theorem shape_Rivals.calls (k : Nat) (A0_0 : Option Addr) (c0_0 : Nat) (l0_0 : List (S38)) (A0_1 : Option Addr) (c0_1 : Nat) (l0_1 : List Int) (a1 : Int) (r : List Int) (w : World) (hr0_0 : Kd.C k38 w A0_0 l0_0.length l0_0) (hc0_0 : l0_0.length ≤ c0_0) (hr0_1 : Kd.C (Kd.int .i64) w A0_1 l0_1.length l0_1) (hc0_1 : l0_1.length ≤ c0_1) (h : shape_Rivals.f k l0_0 l0_1 a1 = some r) :
    Calls Try.prog 10 #[.agg #[.slice A0_0 l0_0.length c0_0, .slice A0_1 l0_1.length c0_1], .int .i64 a1] w fun e w' => ∃ v0_ : Value, e = .returned (v0_) ∧ Kd.R (Kd.int .i64) 3 w' w.heap.size (fun _ => True) v0_ r ∧ Below w.heap.size w w' := by
 have hu25 := Try.underlying25
 have hu38 := Try.underlying38
 have HR0_0 := Aside0.mk hr0_0
 have HC0_0 := Aside0.mk hc0_0
 clear hr0_0 hc0_0
 have HR0_1 := Aside0.mk hr0_1
 have HC0_1 := Aside0.mk hc0_1
 clear hr0_1 hc0_1
 have HB := Aside0.mk (Below.refl w.heap.size w)
 have H : ((shape_there.f k l0_0 l0_1 a1).bind fun t158 => (if t158 = true then (if 0 ≤ a1 then (if a1 < (l0_0.length : Int) then ((shape_plain.f ((rd_T38 l0_0 a1).f2)).bind fun t160 => (shape_Rivals.j0 k a1 (!t160) l0_0 l0_1)) else (none)) else (none)) else (shape_Rivals.j0 k a1 true l0_0 l0_1))) = some r := h
 clear h
 have HC3 := Aside0.mk H
 clear H
 go_enter Try.func10, Try.ntmps10
 go_upto_region 1 with (first | ((with_reducible refine gate_dst (N := 2) rfl ?_); refine bx 2 #[.slice A0_0 l0_0.length c0_0, .slice A0_1 l0_1.length c0_1] 25 ?_; intro gb157 hg w4 hbox hb; have BK157 := Aside0.mk (hbox); have GW157 := Aside0.mk ((bz hg : w.heap.size ≤ gb157)); have GE157 := Aside0.mk ((bz hg : w.heap.size ≤ gb157)); replace HB := Aside0.mk (below_step bb hb); clear hb hbox hg))
 repeat ((with_reducible refine upon_gate ?_); go_simp; go_upto_region 1 with (first | ((with_reducible refine gate_dst (N := 2) rfl ?_); refine bx 2 #[.slice A0_0 l0_0.length c0_0, .slice A0_1 l0_1.length c0_1] 25 ?_; intro gb157 hg w4 hbox hb; have BK157 := Aside0.mk (hbox); have GW157 := Aside0.mk ((bz hg : w.heap.size ≤ gb157)); have GE157 := Aside0.mk ((bz hg : w.heap.size ≤ gb157)); replace HB := Aside0.mk (below_step bb hb); clear hb hbox hg)))
 (try simp only [Act.put, List.setIfInBounds_toArray, List.set_cons_zero, List.set_cons_succ])
 go_cut [23] (fun v23 wc => ∃ (kq : Nat) (x23_2 : Bool), v23 = .bool x23_2 ∧ Aside0 (shape_Rivals.j0 kq a1 x23_2 l0_0 l0_1 = some r) ∧ Aside0 (kq ≤ k) ∧ Aside0 (wc.heap[gb157]? = some (.cells #[(.slice A0_0 l0_0.length c0_0), (.slice A0_1 l0_1.length c0_1)] 25 (0, 0))) ∧ Aside0 (Below w.heap.size w wc))
 case first =>
  have H := HC3.out
  clear HC3
  replace H := Option.bind_eq_some_iff.mp H
  obtain ⟨t158, A50, H⟩ := H
  replace H : (if t158 = true then (if 0 ≤ a1 then (if a1 < (l0_0.length : Int) then ((shape_plain.f ((rd_T38 l0_0 a1).f2)).bind fun t160 => (shape_Rivals.j0 k a1 (!t160) l0_0 l0_1)) else (none)) else (none)) else (shape_Rivals.j0 k a1 true l0_0 l0_1)) = some r := H
  have A5 := Aside0.mk A50
  clear A50
  by_cases c6 : t158 = true
  rotate_left
  ·
   replace c6 := Bool.eq_false_iff.mpr c6
   subst c6
   have H1 : (shape_Rivals.j0 k a1 true l0_0 l0_1) = some r := by rw [if_neg (show ¬ (false = true) by decide)] at H; exact H
   clear H
   have H := H1
   clear H1
   have H' := Aside0.mk H
   clear H
   obtain ⟨hcz13_0, hcz13_1, hfz13_0, hfz13_1⟩ := bo2 BK157
   go_wp2_with (first | ((with_reducible refine gate_callee (f := 20) rfl ?_); refine gl (some 12) Try.func20 #[.agg #[.slice A0_0 l0_0.length c0_0, .slice A0_1 l0_1.length c0_1], .int .i64 a1] ?_; (with_reducible refine (shape_there.calls k _ _ l0_0 _ _ l0_1 a1 false _ ?side1 ?side2 ?side3 ?side4 A5.out).mono ?_); (case side1 => exact cw HR0_0 HB); (case side2 => exact HC0_0.out); (case side3 => exact cw HR0_1 HB); (case side4 => exact HC0_1.out); rintro e w14 ⟨rfl, hb⟩; refine ⟨_, rfl, ?_⟩; replace BK157 := Aside0.mk (bw BK157 hb); replace HB := Aside0.mk (below_step bb hb); (try clear hb); (try clear hb2); (try clear hk); (try clear hi)))
   go_meet
   case rel => exact ⟨_, (true), rs, H', ⟨by first | omega | exact Nat.le_refl _⟩, ⟨bk BK157⟩, ⟨bb⟩⟩
  subst c6
  have H1 : (if 0 ≤ a1 then (if a1 < (l0_0.length : Int) then ((shape_plain.f ((rd_T38 l0_0 a1).f2)).bind fun t160 => (shape_Rivals.j0 k a1 (!t160) l0_0 l0_1)) else (none)) else (none)) = some r := by rw [if_pos rfl] at H; exact H
  clear H
  have H := H1
  clear H1
  by_cases c7 : 0 ≤ a1
  rotate_left
  ·
   rw [if_neg c7] at H
   exact absurd H (by simp)
  rw [if_pos c7] at H
  have c7b0 : decide (0 ≤ a1) = true := decide_eq_true c7
  clear c7
  (first | rw [c7b0] | (simp only [i64_w, i32_w]; rw [c7b0]) | skip)
  by_cases c8 : a1 < (l0_0.length : Int)
  rotate_left
  ·
   rw [if_neg c8] at H
   exact absurd H (by simp)
  rw [if_pos c8] at H
  have c8b0 : decide (a1 < (l0_0.length : Int)) = true := decide_eq_true c8
  clear c8
  replace H := Option.bind_eq_some_iff.mp H
  obtain ⟨t160, A90, H⟩ := H
  replace H : (shape_Rivals.j0 k a1 (!t160) l0_0 l0_1) = some r := H
  have A9 := Aside0.mk A90
  clear A90
  have H' := Aside0.mk H
  clear H
  obtain ⟨hcz10_0, hcz10_1, hfz10_0, hfz10_1⟩ := bo2 BK157
  go_wp2_with (first | ((with_reducible refine gate_callee (f := 20) rfl ?_); refine gl (some 12) Try.func20 #[.agg #[.slice A0_0 l0_0.length c0_0, .slice A0_1 l0_1.length c0_1], .int .i64 a1] ?_; (with_reducible refine (shape_there.calls k _ _ l0_0 _ _ l0_1 a1 true _ ?side1 ?side2 ?side3 ?side4 A5.out).mono ?_); (case side1 => exact cw HR0_0 HB); (case side2 => exact HC0_0.out); (case side3 => exact cw HR0_1 HB); (case side4 => exact HC0_1.out); rintro e w11 ⟨rfl, hb⟩; refine ⟨_, rfl, ?_⟩; replace BK157 := Aside0.mk (bw BK157 hb); replace HB := Aside0.mk (below_step bb hb); (try clear hb); (try clear hb2); (try clear hk); (try clear hi); obtain ⟨hcz12_0, hcz12_1, hfz12_0, hfz12_1⟩ := bo2 BK157; have p159 : 0 ≤ (a1 : Int) := od; have q159 : a1 < (l0_0.length : Int) := od; obtain ⟨ad159, e159, hx159_0, hx159_1, hx159_2, hx159_3⟩ := at_T38 HR0_0.out a1 p159 q159; cases e159; replace hx159_0 := bl HB hx159_0; replace hx159_1 := bl HB hx159_1; replace hx159_2 := bl HB hx159_2; replace hx159_3 := bl HB hx159_3; replace p159 := eq_true p159; replace q159 := eq_true q159) | (go_at_call 21; (with_reducible refine (shape_plain.calls ((rd_T38 l0_0 a1).f2) t160 _ A9.out).mono ?_); rintro e w' ⟨rfl, ⟨nd, rfl⟩⟩))
  go_meet
  case rel => exact ⟨_, (!t160), rs, H', ⟨by first | omega | exact Nat.le_refl _⟩, ⟨bk BK157⟩, ⟨bb⟩⟩
 case rest =>
  clear HC3
  try clear c1
  try clear p1
  try clear q1
  try clear hx1
  try clear c2
  try clear p2
  try clear c6
  try clear c7
  try clear c7b0
  try clear c8
  try clear c8b0
  try clear c10
  try clear hcz10_0
  try clear hcz10_1
  try clear hcz12_0
  try clear hcz12_1
  try clear hcz13_0
  try clear hcz13_1
  try clear hfz10_0
  try clear hfz10_1
  try clear hfz12_0
  try clear hfz12_1
  try clear hfz13_0
  try clear hfz13_1
  try clear hx159_0
  try clear hx159_1
  try clear hx159_2
  try clear hx159_3
  try clear p159
  try clear q159
  obtain ⟨kq, x23_2, rfl, HA, HJ2, BK157, HB⟩ := hcut
  cases kq with
  | zero => exact absurd HA.out (by simp [shape_Rivals.j0])
  | succ kj2 =>
   have H := HA.out
   clear HA
   simp only [shape_Rivals.j0] at H
   by_cases c15 : x23_2 = true
   ·
    subst c15
    have H1 : (some ([] : List Int)) = some r := by rw [if_pos rfl] at H; exact H
    clear H
    have H := H1
    clear H1
    obtain rfl := Option.some.inj H
    go_wp2
    go_ret
    exact ⟨_, ew, by first | exact Kd.R_nil _ _ _ _ _ | exact Kd.N_nil _ _ _ _ _ | exact Kd.V_nil _ _ _ _ _ | exact Kd.Q_nil _ _ _ _ _ | exact Kd.S_nil _ _ _ _ _, bb⟩
   replace c15 := Bool.eq_false_iff.mpr c15
   subst c15
   have H1 : ((shape_Ahead.f kj2 l0_0 l0_1).bind fun t161 => (if 0 ≤ a1 then (if a1 < (l0_0.length : Int) then (shape_Rivals.l0 kj2 a1 ([] : List Int) t161 l0_0 (l0_0.length : Int) 0 ((rd_T38 l0_0 a1).f0) ((rd_T38 l0_0 a1).f1) ((rd_T38 l0_0 a1).f2) ((rd_T38 l0_0 a1).f3)) else (none)) else (none))) = some r := by rw [if_neg (show ¬ (false = true) by decide)] at H; exact H
   clear H
   have H := H1
   clear H1
   replace H := Option.bind_eq_some_iff.mp H
   obtain ⟨t161, A160, H⟩ := H
   replace H : (if 0 ≤ a1 then (if a1 < (l0_0.length : Int) then (shape_Rivals.l0 kj2 a1 ([] : List Int) t161 l0_0 (l0_0.length : Int) 0 ((rd_T38 l0_0 a1).f0) ((rd_T38 l0_0 a1).f1) ((rd_T38 l0_0 a1).f2) ((rd_T38 l0_0 a1).f3)) else (none)) else (none)) = some r := H
   have A16 := Aside0.mk A160
   clear A160
   by_cases c17 : 0 ≤ a1
   rotate_left
   ·
    rw [if_neg c17] at H
    exact absurd H (by simp)
   rw [if_pos c17] at H
   have c17b0 : decide (0 ≤ a1) = true := decide_eq_true c17
   clear c17
   by_cases c18 : a1 < (l0_0.length : Int)
   rotate_left
   ·
    rw [if_neg c18] at H
    exact absurd H (by simp)
   rw [if_pos c18] at H
   have c18b0 : decide (a1 < (l0_0.length : Int)) = true := decide_eq_true c18
   clear c18
   have H' := Aside0.mk H
   clear H
   obtain ⟨hcz19_0, hcz19_1, hfz19_0, hfz19_1⟩ := bo2 BK157
   go_wp2_with (first | ((with_reducible refine gate_callee (f := 8) rfl ?_); refine gl (some 25) Try.func8 #[.agg #[.slice A0_0 l0_0.length c0_0, .slice A0_1 l0_1.length c0_1]] ?_; (with_reducible refine (shape_Ahead.calls kj2 _ _ l0_0 _ _ l0_1 t161 _ ?side1 ?side2 ?side3 ?side4 A16.out).mono ?_); (case side1 => exact cw HR0_0 HB); (case side2 => exact HC0_0.out); (case side3 => exact cw HR0_1 HB); (case side4 => exact HC0_1.out); rintro e w20 ⟨v162, rfl, ho0, hb⟩; refine ⟨_, rfl, ?_⟩; have HO163 := Aside0.mk (Kd.S_lower ho0 (below_size bb)); replace BK157 := Aside0.mk (bw BK157 hb); replace HB := Aside0.mk (below_step bb hb); (try clear hb); (try clear hb2); (try clear hk); (try clear hi); (try clear ho0); obtain ⟨hcz21_0, hcz21_1, hfz21_0, hfz21_1⟩ := bo2 BK157; have p164 : 0 ≤ (a1 : Int) := od; have q164 : a1 < (l0_0.length : Int) := od; obtain ⟨ad164, e164, hx164_0, hx164_1, hx164_2, hx164_3⟩ := at_T38 HR0_0.out a1 p164 q164; cases e164; replace hx164_0 := bl HB hx164_0; replace hx164_1 := bl HB hx164_1; replace hx164_2 := bl HB hx164_2; replace hx164_3 := bl HB hx164_3; replace p164 := eq_true p164; replace q164 := eq_true q164) | ((with_reducible refine gate_dst (N := 7) rfl ?_); refine bx 7 #[.int .i64 0, .int .i64 0, .int .i64 0, .int .i64 0] 38 ?_; intro gb165 hg w22 hbox hb; replace HO163 := Aside0.mk (Kd.S_below (sk HO163) hb); have BK165 := Aside0.mk (hbox); have GW165 := Aside0.mk ((bz hg : w.heap.size ≤ gb165)); have GE165 := Aside0.mk ((bz hg : w.heap.size ≤ gb165)); replace HB := Aside0.mk (below_step bb hb); have NB157_165 := Aside0.mk (nl BK157 hg); have NB165_157 := Aside0.mk (ng BK157 hg); replace BK157 := Aside0.mk (bw BK157 hb); clear hb hbox hg; have hnb23 := NB165_157.out; have hnc23 := NB157_165.out; obtain ⟨hcz24_0, hcz24_1, hcz24_2, hcz24_3, hfz24_0, hfz24_1, hfz24_2, hfz24_3⟩ := bo4 BK165; obtain ⟨hcz25_0, hcz25_1, hfz25_0, hfz25_1⟩ := bo2 BK157))
   go_loopg [5, 34] kj2 (fun kq v5 v34 w' => ∃ (x5_2 : List Int) (x34_2 : Int), v34 = .int .i64 x34_2 ∧ Aside0 (shape_Rivals.l0 kq a1 x5_2 t161 l0_0 (l0_0.length : Int) x34_2 ((rd_T38 l0_0 a1).f0) ((rd_T38 l0_0 a1).f1) ((rd_T38 l0_0 a1).f2) ((rd_T38 l0_0 a1).f3) = some r) ∧ Aside0 (kq ≤ kj2) ∧ Aside0 (Kd.R (Kd.int .i64) 3 w' w.heap.size (fun _ => True) v5 x5_2) ∧ Aside0 (Kd.S (Kd.slice 4 Kd.bool) 33 w' w.heap.size (fun _ => True) v162 t161) ∧ Aside0 (w'.heap[gb157]? = some (.cells #[(.slice (some ad164) l0_0.length c0_0), (.slice A0_1 l0_1.length c0_1)] 25 (0, 0))) ∧ Aside0 (w'.heap[gb165]? = some (.cells #[.int .i64 ((rd_T38 l0_0 a1).f0), .int .i64 ((rd_T38 l0_0 a1).f1), .int .i64 ((rd_T38 l0_0 a1).f2), .int .i64 ((rd_T38 l0_0 a1).f3)] 38 (0, 0))) ∧ Aside0 (Below w.heap.size w w'))
   case atStart => exact ⟨(([] : List Int)), (0), rs, H', ⟨Nat.le_refl _⟩, ⟨by first | exact Kd.R_nil _ _ _ _ _ | exact Kd.N_nil _ _ _ _ _ | exact Kd.V_nil _ _ _ _ _ | exact Kd.Q_nil _ _ _ _ _ | exact Kd.S_nil _ _ _ _ _⟩, ⟨by refine sm ?_; exact Kd.S_mono (Kd.S_far (p := ⟨gb165, 3, none⟩) (Kd.S_far (p := ⟨gb165, 2, none⟩) (Kd.S_far (p := ⟨gb165, 1, none⟩) (Kd.S_far (p := ⟨gb165, 0, none⟩) (Kd.S_types HO163.out BK165.out (by decide)) (fun _ hk => hk.2) (.int .i64 ((rd_T38 l0_0 a1).f0))) (fun _ hk => hk.2) (.int .i64 ((rd_T38 l0_0 a1).f1))) (fun _ hk => hk.2) (.int .i64 ((rd_T38 l0_0 a1).f2))) (fun _ hk => hk.2) (.int .i64 ((rd_T38 l0_0 a1).f3))) (fun _ hk => trivial)⟩, ⟨by refine bm ?_; refine blk_far ?_ NB157_165.out _; refine bm ?_; refine blk_far ?_ NB157_165.out _; refine bm ?_; refine blk_far ?_ NB157_165.out _; refine bm ?_; refine blk_far ?_ NB157_165.out _; refine bm ?_; exact BK157.out⟩, ⟨by refine bm ?_; refine blk_put (cs := #[.int .i64 ((rd_T38 l0_0 a1).f0), .int .i64 ((rd_T38 l0_0 a1).f1), .int .i64 ((rd_T38 l0_0 a1).f2), .int .i64 0]) ?_ 3 _ rfl; refine bm ?_; refine blk_put (cs := #[.int .i64 ((rd_T38 l0_0 a1).f0), .int .i64 ((rd_T38 l0_0 a1).f1), .int .i64 0, .int .i64 0]) ?_ 2 _ rfl; refine bm ?_; refine blk_put (cs := #[.int .i64 ((rd_T38 l0_0 a1).f0), .int .i64 0, .int .i64 0, .int .i64 0]) ?_ 1 _ rfl; refine bm ?_; refine blk_put (cs := #[.int .i64 0, .int .i64 0, .int .i64 0, .int .i64 0]) ?_ 0 _ rfl; refine bm ?_; exact BK165.out⟩, ⟨bb⟩⟩
   case round =>
    clear H'
    try clear c1
    try clear p1
    try clear q1
    try clear hx1
    try clear c2
    try clear p2
    try clear c6
    try clear c7
    try clear c7b0
    try clear c8
    try clear c8b0
    try clear c10
    try clear c15
    try clear p15
    try clear q15
    try clear hx15
    try clear p16
    try clear q16
    try clear hx16
    try clear c17
    try clear c17b0
    try clear c18
    try clear c18b0
    try clear c20
    try clear c23
    try clear hcz10_0
    try clear hcz10_1
    try clear hcz12_0
    try clear hcz12_1
    try clear hcz13_0
    try clear hcz13_1
    try clear hcz19_0
    try clear hcz19_1
    try clear hcz21_0
    try clear hcz21_1
    try clear hcz24_0
    try clear hcz24_1
    try clear hcz24_2
    try clear hcz24_3
    try clear hcz25_0
    try clear hcz25_1
    try clear hfz10_0
    try clear hfz10_1
    try clear hfz12_0
    try clear hfz12_1
    try clear hfz13_0
    try clear hfz13_1
    try clear hfz19_0
    try clear hfz19_1
    try clear hfz21_0
    try clear hfz21_1
    try clear hfz24_0
    try clear hfz24_1
    try clear hfz24_2
    try clear hfz24_3
    try clear hfz25_0
    try clear hfz25_1
    try clear hx159_0
    try clear hx159_1
    try clear hx159_2
    try clear hx159_3
    try clear hx164_0
    try clear hx164_1
    try clear hx164_2
    try clear hx164_3
    try clear p159
    try clear p164
    try clear q159
    try clear q164
    obtain ⟨x5_2, x34_2, rfl, HA, HK2, HO_5, HO_6, BK157, BK165, HB⟩ := hrel
    cases gk with
    | zero => exact absurd HA.out (by simp [shape_Rivals.l0])
    | succ k2 =>
     have H := HA.out
     clear HA
     simp only [shape_Rivals.l0] at H
     by_cases c26 : x34_2 < (l0_0.length : Int)
     rotate_left
     ·
      rw [if_neg c26] at H
      have c26b0 : decide (x34_2 < (l0_0.length : Int)) = false := decide_eq_false c26
      clear c26
      obtain rfl := Option.some.inj H
      go_wp2
      go_ret
      exact ⟨_, ew, by refine rm ?_; exact HO_5.out, bb⟩
     rw [if_pos c26] at H
     have c26b0 : decide (x34_2 < (l0_0.length : Int)) = true := decide_eq_true c26
     clear c26
     by_cases c27 : 0 ≤ x34_2
     rotate_left
     ·
      rw [if_neg c27] at H
      exact absurd H (by simp)
     rw [if_pos c27] at H
     have c27b0 : decide (0 ≤ x34_2) = true := decide_eq_true c27
     clear c27
     by_cases c28 : x34_2 < (l0_0.length : Int)
     rotate_left
     ·
      rw [if_neg c28] at H
      exact absurd H (by simp)
     rw [if_pos c28] at H
     have c28b0 : decide (x34_2 < (l0_0.length : Int)) = true := decide_eq_true c28
     clear c28
     replace H := Option.bind_eq_some_iff.mp H
     obtain ⟨t168, A290, H⟩ := H
     replace H : (if t168 = true then (if ((rd_T38 l0_0 x34_2).f0) = ((rd_T38 l0_0 a1).f0) then (shape_Rivals.l0 k2 a1 x5_2 t161 l0_0 (l0_0.length : Int) (wrap64 (x34_2 + 1)) ((rd_T38 l0_0 a1).f0) ((rd_T38 l0_0 a1).f1) ((rd_T38 l0_0 a1).f2) ((rd_T38 l0_0 a1).f3)) else (if ((rd_T38 l0_0 x34_2).f3) = ((rd_T38 l0_0 a1).f3) then (if ((rd_T38 l0_0 a1).f2) = 2 then (if 0 ≤ a1 then (if a1 < (t161.length : Int) then (if x34_2 < ((rd_L3 t161 a1).length : Int) then (if (rdOf false (rd_L3 t161 a1) x34_2 = true) then (shape_Rivals.l0 k2 a1 x5_2 t161 l0_0 (l0_0.length : Int) (wrap64 (x34_2 + 1)) ((rd_T38 l0_0 a1).f0) ((rd_T38 l0_0 a1).f1) ((rd_T38 l0_0 a1).f2) ((rd_T38 l0_0 a1).f3)) else (if x34_2 < (t161.length : Int) then (if a1 < ((rd_L3 t161 x34_2).length : Int) then (if (rdOf false (rd_L3 t161 x34_2) a1 = true) then (shape_Rivals.l0 k2 a1 x5_2 t161 l0_0 (l0_0.length : Int) (wrap64 (x34_2 + 1)) ((rd_T38 l0_0 a1).f0) ((rd_T38 l0_0 a1).f1) ((rd_T38 l0_0 a1).f2) ((rd_T38 l0_0 a1).f3)) else (if x5_2.length < 17592186044416 then (shape_Rivals.l0 k2 a1 (x5_2 ++ [x34_2]) t161 l0_0 (l0_0.length : Int) (wrap64 (x34_2 + 1)) ((rd_T38 l0_0 a1).f0) ((rd_T38 l0_0 a1).f1) ((rd_T38 l0_0 a1).f2) ((rd_T38 l0_0 a1).f3)) else (none))) else (none)) else (none))) else (none)) else (none)) else (none)) else (if ((rd_T38 l0_0 x34_2).f2) = 2 then (if 0 ≤ a1 then (if a1 < (t161.length : Int) then (if x34_2 < ((rd_L3 t161 a1).length : Int) then (if (rdOf false (rd_L3 t161 a1) x34_2 = true) then (shape_Rivals.l0 k2 a1 x5_2 t161 l0_0 (l0_0.length : Int) (wrap64 (x34_2 + 1)) ((rd_T38 l0_0 a1).f0) ((rd_T38 l0_0 a1).f1) ((rd_T38 l0_0 a1).f2) ((rd_T38 l0_0 a1).f3)) else (if x34_2 < (t161.length : Int) then (if a1 < ((rd_L3 t161 x34_2).length : Int) then (if (rdOf false (rd_L3 t161 x34_2) a1 = true) then (shape_Rivals.l0 k2 a1 x5_2 t161 l0_0 (l0_0.length : Int) (wrap64 (x34_2 + 1)) ((rd_T38 l0_0 a1).f0) ((rd_T38 l0_0 a1).f1) ((rd_T38 l0_0 a1).f2) ((rd_T38 l0_0 a1).f3)) else (if x5_2.length < 17592186044416 then (shape_Rivals.l0 k2 a1 (x5_2 ++ [x34_2]) t161 l0_0 (l0_0.length : Int) (wrap64 (x34_2 + 1)) ((rd_T38 l0_0 a1).f0) ((rd_T38 l0_0 a1).f1) ((rd_T38 l0_0 a1).f2) ((rd_T38 l0_0 a1).f3)) else (none))) else (none)) else (none))) else (none)) else (none)) else (none)) else (shape_Rivals.l0 k2 a1 x5_2 t161 l0_0 (l0_0.length : Int) (wrap64 (x34_2 + 1)) ((rd_T38 l0_0 a1).f0) ((rd_T38 l0_0 a1).f1) ((rd_T38 l0_0 a1).f2) ((rd_T38 l0_0 a1).f3)))) else (shape_Rivals.l0 k2 a1 x5_2 t161 l0_0 (l0_0.length : Int) (wrap64 (x34_2 + 1)) ((rd_T38 l0_0 a1).f0) ((rd_T38 l0_0 a1).f1) ((rd_T38 l0_0 a1).f2) ((rd_T38 l0_0 a1).f3)))) else (shape_Rivals.l0 k2 a1 x5_2 t161 l0_0 (l0_0.length : Int) (wrap64 (x34_2 + 1)) ((rd_T38 l0_0 a1).f0) ((rd_T38 l0_0 a1).f1) ((rd_T38 l0_0 a1).f2) ((rd_T38 l0_0 a1).f3))) = some r := H
     have A29 := Aside0.mk A290
     clear A290
     by_cases c30 : t168 = true
     rotate_left
     ·
      replace c30 := Bool.eq_false_iff.mpr c30
      subst c30
      have H1 : (shape_Rivals.l0 k2 a1 x5_2 t161 l0_0 (l0_0.length : Int) (wrap64 (x34_2 + 1)) ((rd_T38 l0_0 a1).f0) ((rd_T38 l0_0 a1).f1) ((rd_T38 l0_0 a1).f2) ((rd_T38 l0_0 a1).f3)) = some r := by rw [if_neg (show ¬ (false = true) by decide)] at H; exact H
      clear H
      have H := H1
      clear H1
      have H' := Aside0.mk H
      clear H
      have p166 : 0 ≤ (x34_2 : Int) := od
      have q166 : x34_2 < (l0_0.length : Int) := od
      obtain ⟨ad166, e166, hx166_0, hx166_1, hx166_2, hx166_3⟩ := at_T38 HR0_0.out x34_2 p166 q166
      obtain rfl : ad164 = ad166 := (by injection e166)
      replace hx166_0 := bl HB hx166_0
      replace hx166_1 := bl HB hx166_1
      replace hx166_2 := bl HB hx166_2
      replace hx166_3 := bl HB hx166_3
      replace p166 := eq_true p166
      replace q166 := eq_true q166
      go_wp2_with (first | ((with_reducible refine gate_dst (N := 9) rfl ?_); refine bx 9 #[.int .i64 0, .int .i64 0, .int .i64 0, .int .i64 0] 38 ?_; intro gb167 hg w129 hbox hb; replace HO_5 := Aside0.mk (Kd.R_below (rk HO_5) hb); replace HO_6 := Aside0.mk (Kd.S_below (sk HO_6) hb); have BK167 := Aside0.mk (hbox); have GW167 := Aside0.mk ((bz hg : w.heap.size ≤ gb167)); have GE167 := Aside0.mk ((bz hg : w.heap.size ≤ gb167)); replace HB := Aside0.mk (below_step bb hb); have NB157_167 := Aside0.mk (nl BK157 hg); have NB167_157 := Aside0.mk (ng BK157 hg); replace BK157 := Aside0.mk (bw BK157 hb); have NB165_167 := Aside0.mk (nl BK165 hg); have NB167_165 := Aside0.mk (ng BK165 hg); replace BK165 := Aside0.mk (bw BK165 hb); clear hb hbox hg; have hnb130 := NB167_157.out; have hnc130 := NB157_167.out; have hnb131 := NB167_165.out; have hnc131 := NB165_167.out; obtain ⟨hcz132_0, hcz132_1, hcz132_2, hcz132_3, hfz132_0, hfz132_1, hfz132_2, hfz132_3⟩ := bo4 BK167) | ((with_reducible refine gate_callee (f := 21) rfl ?_); refine gl (some 41) Try.func21 #[.int .i64 ((rd_T38 l0_0 x34_2).f2)] ?_; (with_reducible refine (shape_plain.calls ((rd_T38 l0_0 x34_2).f2) false _ A29.out).mono ?_); rintro e w' ⟨rfl, ⟨nd, rfl⟩⟩; refine ⟨_, rfl, ?_⟩))
      go_roundg k2
      case measure => have := HJ2.out; have := HK2.out; omega
      case rel => exact ⟨(x5_2), (wrap64 (x34_2 + 1)), rs, H', ⟨by have := HJ2.out; have := HK2.out; omega⟩, ⟨by refine rm ?_; exact Kd.R_mono (Kd.R_far (p := ⟨gb167, 3, none⟩) (Kd.R_far (p := ⟨gb167, 2, none⟩) (Kd.R_far (p := ⟨gb167, 1, none⟩) (Kd.R_far (p := ⟨gb167, 0, none⟩) (Kd.R_types HO_5.out BK167.out (by decide)) (fun _ hk => hk.2) (.int .i64 ((rd_T38 l0_0 x34_2).f0))) (fun _ hk => hk.2) (.int .i64 ((rd_T38 l0_0 x34_2).f1))) (fun _ hk => hk.2) (.int .i64 ((rd_T38 l0_0 x34_2).f2))) (fun _ hk => hk.2) (.int .i64 ((rd_T38 l0_0 x34_2).f3))) (fun _ hk => trivial)⟩, ⟨by refine sm ?_; exact Kd.S_mono (Kd.S_far (p := ⟨gb167, 3, none⟩) (Kd.S_far (p := ⟨gb167, 2, none⟩) (Kd.S_far (p := ⟨gb167, 1, none⟩) (Kd.S_far (p := ⟨gb167, 0, none⟩) (Kd.S_types HO_6.out BK167.out (by decide)) (fun _ hk => hk.2) (.int .i64 ((rd_T38 l0_0 x34_2).f0))) (fun _ hk => hk.2) (.int .i64 ((rd_T38 l0_0 x34_2).f1))) (fun _ hk => hk.2) (.int .i64 ((rd_T38 l0_0 x34_2).f2))) (fun _ hk => hk.2) (.int .i64 ((rd_T38 l0_0 x34_2).f3))) (fun _ hk => trivial)⟩, ⟨by refine bm ?_; refine blk_far ?_ NB157_167.out _; refine bm ?_; refine blk_far ?_ NB157_167.out _; refine bm ?_; refine blk_far ?_ NB157_167.out _; refine bm ?_; refine blk_far ?_ NB157_167.out _; refine bm ?_; exact BK157.out⟩, ⟨by refine bm ?_; refine blk_far ?_ NB165_167.out _; refine bm ?_; refine blk_far ?_ NB165_167.out _; refine bm ?_; refine blk_far ?_ NB165_167.out _; refine bm ?_; refine blk_far ?_ NB165_167.out _; refine bm ?_; exact BK165.out⟩, ⟨bb⟩⟩
     subst c30
     have H1 : (if ((rd_T38 l0_0 x34_2).f0) = ((rd_T38 l0_0 a1).f0) then (shape_Rivals.l0 k2 a1 x5_2 t161 l0_0 (l0_0.length : Int) (wrap64 (x34_2 + 1)) ((rd_T38 l0_0 a1).f0) ((rd_T38 l0_0 a1).f1) ((rd_T38 l0_0 a1).f2) ((rd_T38 l0_0 a1).f3)) else (if ((rd_T38 l0_0 x34_2).f3) = ((rd_T38 l0_0 a1).f3) then (if ((rd_T38 l0_0 a1).f2) = 2 then (if 0 ≤ a1 then (if a1 < (t161.length : Int) then (if x34_2 < ((rd_L3 t161 a1).length : Int) then (if (rdOf false (rd_L3 t161 a1) x34_2 = true) then (shape_Rivals.l0 k2 a1 x5_2 t161 l0_0 (l0_0.length : Int) (wrap64 (x34_2 + 1)) ((rd_T38 l0_0 a1).f0) ((rd_T38 l0_0 a1).f1) ((rd_T38 l0_0 a1).f2) ((rd_T38 l0_0 a1).f3)) else (if x34_2 < (t161.length : Int) then (if a1 < ((rd_L3 t161 x34_2).length : Int) then (if (rdOf false (rd_L3 t161 x34_2) a1 = true) then (shape_Rivals.l0 k2 a1 x5_2 t161 l0_0 (l0_0.length : Int) (wrap64 (x34_2 + 1)) ((rd_T38 l0_0 a1).f0) ((rd_T38 l0_0 a1).f1) ((rd_T38 l0_0 a1).f2) ((rd_T38 l0_0 a1).f3)) else (if x5_2.length < 17592186044416 then (shape_Rivals.l0 k2 a1 (x5_2 ++ [x34_2]) t161 l0_0 (l0_0.length : Int) (wrap64 (x34_2 + 1)) ((rd_T38 l0_0 a1).f0) ((rd_T38 l0_0 a1).f1) ((rd_T38 l0_0 a1).f2) ((rd_T38 l0_0 a1).f3)) else (none))) else (none)) else (none))) else (none)) else (none)) else (none)) else (if ((rd_T38 l0_0 x34_2).f2) = 2 then (if 0 ≤ a1 then (if a1 < (t161.length : Int) then (if x34_2 < ((rd_L3 t161 a1).length : Int) then (if (rdOf false (rd_L3 t161 a1) x34_2 = true) then (shape_Rivals.l0 k2 a1 x5_2 t161 l0_0 (l0_0.length : Int) (wrap64 (x34_2 + 1)) ((rd_T38 l0_0 a1).f0) ((rd_T38 l0_0 a1).f1) ((rd_T38 l0_0 a1).f2) ((rd_T38 l0_0 a1).f3)) else (if x34_2 < (t161.length : Int) then (if a1 < ((rd_L3 t161 x34_2).length : Int) then (if (rdOf false (rd_L3 t161 x34_2) a1 = true) then (shape_Rivals.l0 k2 a1 x5_2 t161 l0_0 (l0_0.length : Int) (wrap64 (x34_2 + 1)) ((rd_T38 l0_0 a1).f0) ((rd_T38 l0_0 a1).f1) ((rd_T38 l0_0 a1).f2) ((rd_T38 l0_0 a1).f3)) else (if x5_2.length < 17592186044416 then (shape_Rivals.l0 k2 a1 (x5_2 ++ [x34_2]) t161 l0_0 (l0_0.length : Int) (wrap64 (x34_2 + 1)) ((rd_T38 l0_0 a1).f0) ((rd_T38 l0_0 a1).f1) ((rd_T38 l0_0 a1).f2) ((rd_T38 l0_0 a1).f3)) else (none))) else (none)) else (none))) else (none)) else (none)) else (none)) else (shape_Rivals.l0 k2 a1 x5_2 t161 l0_0 (l0_0.length : Int) (wrap64 (x34_2 + 1)) ((rd_T38 l0_0 a1).f0) ((rd_T38 l0_0 a1).f1) ((rd_T38 l0_0 a1).f2) ((rd_T38 l0_0 a1).f3)))) else (shape_Rivals.l0 k2 a1 x5_2 t161 l0_0 (l0_0.length : Int) (wrap64 (x34_2 + 1)) ((rd_T38 l0_0 a1).f0) ((rd_T38 l0_0 a1).f1) ((rd_T38 l0_0 a1).f2) ((rd_T38 l0_0 a1).f3)))) = some r := by rw [if_pos rfl] at H; exact H
     clear H
     have H := H1
     clear H1
     by_cases c31 : ((rd_T38 l0_0 x34_2).f0) = ((rd_T38 l0_0 a1).f0)
     ·
      rw [if_pos c31] at H
      have c31b0 : (((rd_T38 l0_0 x34_2).f0) == ((rd_T38 l0_0 a1).f0)) = true := beq_iff_eq.mpr c31
      have c31b1 : (((rd_T38 l0_0 x34_2).f0) != ((rd_T38 l0_0 a1).f0)) = false := bne_eq_false_iff_eq.mpr c31
      clear c31
      have H' := Aside0.mk H
      clear H
      have p166 : 0 ≤ (x34_2 : Int) := od
      have q166 : x34_2 < (l0_0.length : Int) := od
      obtain ⟨ad166, e166, hx166_0, hx166_1, hx166_2, hx166_3⟩ := at_T38 HR0_0.out x34_2 p166 q166
      obtain rfl : ad164 = ad166 := (by injection e166)
      replace hx166_0 := bl HB hx166_0
      replace hx166_1 := bl HB hx166_1
      replace hx166_2 := bl HB hx166_2
      replace hx166_3 := bl HB hx166_3
      replace p166 := eq_true p166
      replace q166 := eq_true q166
      go_wp2_with (first | ((with_reducible refine gate_dst (N := 9) rfl ?_); refine bx 9 #[.int .i64 0, .int .i64 0, .int .i64 0, .int .i64 0] 38 ?_; intro gb167 hg w32 hbox hb; replace HO_5 := Aside0.mk (Kd.R_below (rk HO_5) hb); replace HO_6 := Aside0.mk (Kd.S_below (sk HO_6) hb); have BK167 := Aside0.mk (hbox); have GW167 := Aside0.mk ((bz hg : w.heap.size ≤ gb167)); have GE167 := Aside0.mk ((bz hg : w.heap.size ≤ gb167)); replace HB := Aside0.mk (below_step bb hb); have NB157_167 := Aside0.mk (nl BK157 hg); have NB167_157 := Aside0.mk (ng BK157 hg); replace BK157 := Aside0.mk (bw BK157 hb); have NB165_167 := Aside0.mk (nl BK165 hg); have NB167_165 := Aside0.mk (ng BK165 hg); replace BK165 := Aside0.mk (bw BK165 hb); clear hb hbox hg; have hnb33 := NB167_157.out; have hnc33 := NB157_167.out; have hnb34 := NB167_165.out; have hnc34 := NB165_167.out; obtain ⟨hcz35_0, hcz35_1, hcz35_2, hcz35_3, hfz35_0, hfz35_1, hfz35_2, hfz35_3⟩ := bo4 BK167) | ((with_reducible refine gate_callee (f := 21) rfl ?_); refine gl (some 41) Try.func21 #[.int .i64 ((rd_T38 l0_0 x34_2).f2)] ?_; (with_reducible refine (shape_plain.calls ((rd_T38 l0_0 x34_2).f2) true _ A29.out).mono ?_); rintro e w' ⟨rfl, ⟨nd, rfl⟩⟩; refine ⟨_, rfl, ?_⟩; have hnb36 := NB165_157.out; have hnc36 := NB157_165.out; obtain ⟨hcz37_0, hcz37_1, hcz37_2, hcz37_3, hfz37_0, hfz37_1, hfz37_2, hfz37_3⟩ := bo4 BK165))
      go_roundg k2
      case measure => have := HJ2.out; have := HK2.out; omega
      case rel => exact ⟨(x5_2), (wrap64 (x34_2 + 1)), rs, H', ⟨by have := HJ2.out; have := HK2.out; omega⟩, ⟨by refine rm ?_; exact Kd.R_mono (Kd.R_far (p := ⟨gb167, 3, none⟩) (Kd.R_far (p := ⟨gb167, 2, none⟩) (Kd.R_far (p := ⟨gb167, 1, none⟩) (Kd.R_far (p := ⟨gb167, 0, none⟩) (Kd.R_types HO_5.out BK167.out (by decide)) (fun _ hk => hk.2) (.int .i64 ((rd_T38 l0_0 x34_2).f0))) (fun _ hk => hk.2) (.int .i64 ((rd_T38 l0_0 x34_2).f1))) (fun _ hk => hk.2) (.int .i64 ((rd_T38 l0_0 x34_2).f2))) (fun _ hk => hk.2) (.int .i64 ((rd_T38 l0_0 x34_2).f3))) (fun _ hk => trivial)⟩, ⟨by refine sm ?_; exact Kd.S_mono (Kd.S_far (p := ⟨gb167, 3, none⟩) (Kd.S_far (p := ⟨gb167, 2, none⟩) (Kd.S_far (p := ⟨gb167, 1, none⟩) (Kd.S_far (p := ⟨gb167, 0, none⟩) (Kd.S_types HO_6.out BK167.out (by decide)) (fun _ hk => hk.2) (.int .i64 ((rd_T38 l0_0 x34_2).f0))) (fun _ hk => hk.2) (.int .i64 ((rd_T38 l0_0 x34_2).f1))) (fun _ hk => hk.2) (.int .i64 ((rd_T38 l0_0 x34_2).f2))) (fun _ hk => hk.2) (.int .i64 ((rd_T38 l0_0 x34_2).f3))) (fun _ hk => trivial)⟩, ⟨by refine bm ?_; refine blk_far ?_ NB157_167.out _; refine bm ?_; refine blk_far ?_ NB157_167.out _; refine bm ?_; refine blk_far ?_ NB157_167.out _; refine bm ?_; refine blk_far ?_ NB157_167.out _; refine bm ?_; exact BK157.out⟩, ⟨by refine bm ?_; refine blk_far ?_ NB165_167.out _; refine bm ?_; refine blk_far ?_ NB165_167.out _; refine bm ?_; refine blk_far ?_ NB165_167.out _; refine bm ?_; refine blk_far ?_ NB165_167.out _; refine bm ?_; exact BK165.out⟩, ⟨bb⟩⟩
     rw [if_neg c31] at H
     have c31b0 : (((rd_T38 l0_0 x34_2).f0) == ((rd_T38 l0_0 a1).f0)) = false := beq_eq_false_iff_ne.mpr c31
     have c31b1 : (((rd_T38 l0_0 x34_2).f0) != ((rd_T38 l0_0 a1).f0)) = true := bne_iff_ne.mpr c31
     by_cases c38 : ((rd_T38 l0_0 x34_2).f3) = ((rd_T38 l0_0 a1).f3)
     rotate_left
     ·
      rw [if_neg c38] at H
      have c38b0 : (((rd_T38 l0_0 x34_2).f3) == ((rd_T38 l0_0 a1).f3)) = false := beq_eq_false_iff_ne.mpr c38
      have c38b1 : (((rd_T38 l0_0 x34_2).f3) != ((rd_T38 l0_0 a1).f3)) = true := bne_iff_ne.mpr c38
      have H' := Aside0.mk H
      clear H
      have p166 : 0 ≤ (x34_2 : Int) := od
      have q166 : x34_2 < (l0_0.length : Int) := od
      obtain ⟨ad166, e166, hx166_0, hx166_1, hx166_2, hx166_3⟩ := at_T38 HR0_0.out x34_2 p166 q166
      obtain rfl : ad164 = ad166 := (by injection e166)
      replace hx166_0 := bl HB hx166_0
      replace hx166_1 := bl HB hx166_1
      replace hx166_2 := bl HB hx166_2
      replace hx166_3 := bl HB hx166_3
      replace p166 := eq_true p166
      replace q166 := eq_true q166
      go_wp2_with (first | ((with_reducible refine gate_dst (N := 9) rfl ?_); refine bx 9 #[.int .i64 0, .int .i64 0, .int .i64 0, .int .i64 0] 38 ?_; intro gb167 hg w123 hbox hb; replace HO_5 := Aside0.mk (Kd.R_below (rk HO_5) hb); replace HO_6 := Aside0.mk (Kd.S_below (sk HO_6) hb); have BK167 := Aside0.mk (hbox); have GW167 := Aside0.mk ((bz hg : w.heap.size ≤ gb167)); have GE167 := Aside0.mk ((bz hg : w.heap.size ≤ gb167)); replace HB := Aside0.mk (below_step bb hb); have NB157_167 := Aside0.mk (nl BK157 hg); have NB167_157 := Aside0.mk (ng BK157 hg); replace BK157 := Aside0.mk (bw BK157 hb); have NB165_167 := Aside0.mk (nl BK165 hg); have NB167_165 := Aside0.mk (ng BK165 hg); replace BK165 := Aside0.mk (bw BK165 hb); clear hb hbox hg; have hnb124 := NB167_157.out; have hnc124 := NB157_167.out; have hnb125 := NB167_165.out; have hnc125 := NB165_167.out; obtain ⟨hcz126_0, hcz126_1, hcz126_2, hcz126_3, hfz126_0, hfz126_1, hfz126_2, hfz126_3⟩ := bo4 BK167) | ((with_reducible refine gate_callee (f := 21) rfl ?_); refine gl (some 41) Try.func21 #[.int .i64 ((rd_T38 l0_0 x34_2).f2)] ?_; (with_reducible refine (shape_plain.calls ((rd_T38 l0_0 x34_2).f2) true _ A29.out).mono ?_); rintro e w' ⟨rfl, ⟨nd, rfl⟩⟩; refine ⟨_, rfl, ?_⟩; have hnb127 := NB165_157.out; have hnc127 := NB157_165.out; obtain ⟨hcz128_0, hcz128_1, hcz128_2, hcz128_3, hfz128_0, hfz128_1, hfz128_2, hfz128_3⟩ := bo4 BK165))
      go_roundg k2
      case measure => have := HJ2.out; have := HK2.out; omega
      case rel => exact ⟨(x5_2), (wrap64 (x34_2 + 1)), rs, H', ⟨by have := HJ2.out; have := HK2.out; omega⟩, ⟨by refine rm ?_; exact Kd.R_mono (Kd.R_far (p := ⟨gb167, 3, none⟩) (Kd.R_far (p := ⟨gb167, 2, none⟩) (Kd.R_far (p := ⟨gb167, 1, none⟩) (Kd.R_far (p := ⟨gb167, 0, none⟩) (Kd.R_types HO_5.out BK167.out (by decide)) (fun _ hk => hk.2) (.int .i64 ((rd_T38 l0_0 x34_2).f0))) (fun _ hk => hk.2) (.int .i64 ((rd_T38 l0_0 x34_2).f1))) (fun _ hk => hk.2) (.int .i64 ((rd_T38 l0_0 x34_2).f2))) (fun _ hk => hk.2) (.int .i64 ((rd_T38 l0_0 x34_2).f3))) (fun _ hk => trivial)⟩, ⟨by refine sm ?_; exact Kd.S_mono (Kd.S_far (p := ⟨gb167, 3, none⟩) (Kd.S_far (p := ⟨gb167, 2, none⟩) (Kd.S_far (p := ⟨gb167, 1, none⟩) (Kd.S_far (p := ⟨gb167, 0, none⟩) (Kd.S_types HO_6.out BK167.out (by decide)) (fun _ hk => hk.2) (.int .i64 ((rd_T38 l0_0 x34_2).f0))) (fun _ hk => hk.2) (.int .i64 ((rd_T38 l0_0 x34_2).f1))) (fun _ hk => hk.2) (.int .i64 ((rd_T38 l0_0 x34_2).f2))) (fun _ hk => hk.2) (.int .i64 ((rd_T38 l0_0 x34_2).f3))) (fun _ hk => trivial)⟩, ⟨by refine bm ?_; refine blk_far ?_ NB157_167.out _; refine bm ?_; refine blk_far ?_ NB157_167.out _; refine bm ?_; refine blk_far ?_ NB157_167.out _; refine bm ?_; refine blk_far ?_ NB157_167.out _; refine bm ?_; exact BK157.out⟩, ⟨by refine bm ?_; refine blk_far ?_ NB165_167.out _; refine bm ?_; refine blk_far ?_ NB165_167.out _; refine bm ?_; refine blk_far ?_ NB165_167.out _; refine bm ?_; refine blk_far ?_ NB165_167.out _; refine bm ?_; exact BK165.out⟩, ⟨bb⟩⟩
     rw [if_pos c38] at H
     have c38b0 : (((rd_T38 l0_0 x34_2).f3) == ((rd_T38 l0_0 a1).f3)) = true := beq_iff_eq.mpr c38
     have c38b1 : (((rd_T38 l0_0 x34_2).f3) != ((rd_T38 l0_0 a1).f3)) = false := bne_eq_false_iff_eq.mpr c38
     clear c38
     by_cases c39 : ((rd_T38 l0_0 a1).f2) = 2
     ·
      rw [if_pos c39] at H
      have c39b0 : (((rd_T38 l0_0 a1).f2) == 2) = true := beq_iff_eq.mpr c39
      have c39b1 : (((rd_T38 l0_0 a1).f2) != 2) = false := bne_eq_false_iff_eq.mpr c39
      clear c39
      by_cases c40 : 0 ≤ a1
      rotate_left
      ·
       rw [if_neg c40] at H
       exact absurd H (by simp)
      rw [if_pos c40] at H
      have c40b0 : decide (0 ≤ a1) = true := decide_eq_true c40
      clear c40
      by_cases c41 : a1 < (t161.length : Int)
      rotate_left
      ·
       rw [if_neg c41] at H
       exact absurd H (by simp)
      rw [if_pos c41] at H
      have c41b0 : decide (a1 < (t161.length : Int)) = true := decide_eq_true c41
      clear c41
      by_cases c42 : x34_2 < ((rd_L3 t161 a1).length : Int)
      rotate_left
      ·
       rw [if_neg c42] at H
       exact absurd H (by simp)
      rw [if_pos c42] at H
      have c42b0 : decide (x34_2 < ((rd_L3 t161 a1).length : Int)) = true := decide_eq_true c42
      clear c42
      obtain ⟨bq43, hbq43⟩ : ∃ b_ : Bool, b_ = (rdOf false (rd_L3 t161 a1) x34_2) := ⟨_, rfl⟩
      replace H : (if (bq43 = true) then (shape_Rivals.l0 k2 a1 x5_2 t161 l0_0 (l0_0.length : Int) (wrap64 (x34_2 + 1)) ((rd_T38 l0_0 a1).f0) ((rd_T38 l0_0 a1).f1) ((rd_T38 l0_0 a1).f2) ((rd_T38 l0_0 a1).f3)) else (if x34_2 < (t161.length : Int) then (if a1 < ((rd_L3 t161 x34_2).length : Int) then (if (rdOf false (rd_L3 t161 x34_2) a1 = true) then (shape_Rivals.l0 k2 a1 x5_2 t161 l0_0 (l0_0.length : Int) (wrap64 (x34_2 + 1)) ((rd_T38 l0_0 a1).f0) ((rd_T38 l0_0 a1).f1) ((rd_T38 l0_0 a1).f2) ((rd_T38 l0_0 a1).f3)) else (if x5_2.length < 17592186044416 then (shape_Rivals.l0 k2 a1 (x5_2 ++ [x34_2]) t161 l0_0 (l0_0.length : Int) (wrap64 (x34_2 + 1)) ((rd_T38 l0_0 a1).f0) ((rd_T38 l0_0 a1).f1) ((rd_T38 l0_0 a1).f2) ((rd_T38 l0_0 a1).f3)) else (none))) else (none)) else (none))) = some r := by rw [← hbq43] at H; exact H
      have Nbq43 := Aside0.mk hbq43
      clear hbq43
      by_cases c44 : (bq43 = true)
      ·
       subst c44
       have H1 : (shape_Rivals.l0 k2 a1 x5_2 t161 l0_0 (l0_0.length : Int) (wrap64 (x34_2 + 1)) ((rd_T38 l0_0 a1).f0) ((rd_T38 l0_0 a1).f1) ((rd_T38 l0_0 a1).f2) ((rd_T38 l0_0 a1).f3)) = some r := by rw [if_pos rfl] at H; exact H
       clear H
       have H := H1
       clear H1
       have H' := Aside0.mk H
       clear H
       have p166 : 0 ≤ (x34_2 : Int) := od
       have q166 : x34_2 < (l0_0.length : Int) := od
       obtain ⟨ad166, e166, hx166_0, hx166_1, hx166_2, hx166_3⟩ := at_T38 HR0_0.out x34_2 p166 q166
       obtain rfl : ad164 = ad166 := (by injection e166)
       replace hx166_0 := bl HB hx166_0
       replace hx166_1 := bl HB hx166_1
       replace hx166_2 := bl HB hx166_2
       replace hx166_3 := bl HB hx166_3
       replace p166 := eq_true p166
       replace q166 := eq_true q166
       go_wp2_with (first | ((with_reducible refine gate_dst (N := 9) rfl ?_); refine bx 9 #[.int .i64 0, .int .i64 0, .int .i64 0, .int .i64 0] 38 ?_; intro gb167 hg w45 hbox hb; replace HO_5 := Aside0.mk (Kd.R_below (rk HO_5) hb); replace HO_6 := Aside0.mk (Kd.S_below (sk HO_6) hb); have BK167 := Aside0.mk (hbox); have GW167 := Aside0.mk ((bz hg : w.heap.size ≤ gb167)); have GE167 := Aside0.mk ((bz hg : w.heap.size ≤ gb167)); replace HB := Aside0.mk (below_step bb hb); have NB157_167 := Aside0.mk (nl BK157 hg); have NB167_157 := Aside0.mk (ng BK157 hg); replace BK157 := Aside0.mk (bw BK157 hb); have NB165_167 := Aside0.mk (nl BK165 hg); have NB167_165 := Aside0.mk (ng BK165 hg); replace BK165 := Aside0.mk (bw BK165 hb); clear hb hbox hg; have hnb46 := NB167_157.out; have hnc46 := NB157_167.out; have hnb47 := NB167_165.out; have hnc47 := NB165_167.out; obtain ⟨hcz48_0, hcz48_1, hcz48_2, hcz48_3, hfz48_0, hfz48_1, hfz48_2, hfz48_3⟩ := bo4 BK167) | ((with_reducible refine gate_store (t := 38) (p := 9) rfl ?_); refine store_event (t := 38) (p := 9) (v := ?vo_w49) (w1 := ((((w45.setCell ⟨gb167, 0, none⟩ (.int .i64 ((rd_T38 l0_0 x34_2).f0))).setCell ⟨gb167, 1, none⟩ (.int .i64 ((rd_T38 l0_0 x34_2).f1))).setCell ⟨gb167, 2, none⟩ (.int .i64 ((rd_T38 l0_0 x34_2).f2))).setCell ⟨gb167, 3, none⟩ (.int .i64 ((rd_T38 l0_0 x34_2).f3)))) ?hg ?ho ?hn ?hr ?_; (case ho => rfl); (case hg => rfl); (case hn => rfl); (case hr => first | (go_simp; done) | (go_simp; rfl)); intro w49 hw; have n0_ : Aside0 (Kd.R (Kd.int .i64) 3 w49 w.heap.size (fun _ => True) u5 x5_2) := ⟨(by rw [hw]; exact (rm (Kd.R_mono (Kd.R_far (p := ⟨gb167, 3, none⟩) (Kd.R_far (p := ⟨gb167, 2, none⟩) (Kd.R_far (p := ⟨gb167, 1, none⟩) (Kd.R_far (p := ⟨gb167, 0, none⟩) (Kd.R_types HO_5.out BK167.out (by decide)) (fun _ hk => hk.2) (.int .i64 ((rd_T38 l0_0 x34_2).f0))) (fun _ hk => hk.2) (.int .i64 ((rd_T38 l0_0 x34_2).f1))) (fun _ hk => hk.2) (.int .i64 ((rd_T38 l0_0 x34_2).f2))) (fun _ hk => hk.2) (.int .i64 ((rd_T38 l0_0 x34_2).f3))) (fun _ hk => trivial))))⟩; have n1_ : Aside0 (Kd.S (Kd.slice 4 Kd.bool) 33 w49 w.heap.size (fun _ => True) v162 t161) := ⟨(by rw [hw]; exact (sm (Kd.S_mono (Kd.S_far (p := ⟨gb167, 3, none⟩) (Kd.S_far (p := ⟨gb167, 2, none⟩) (Kd.S_far (p := ⟨gb167, 1, none⟩) (Kd.S_far (p := ⟨gb167, 0, none⟩) (Kd.S_types HO_6.out BK167.out (by decide)) (fun _ hk => hk.2) (.int .i64 ((rd_T38 l0_0 x34_2).f0))) (fun _ hk => hk.2) (.int .i64 ((rd_T38 l0_0 x34_2).f1))) (fun _ hk => hk.2) (.int .i64 ((rd_T38 l0_0 x34_2).f2))) (fun _ hk => hk.2) (.int .i64 ((rd_T38 l0_0 x34_2).f3))) (fun _ hk => trivial))))⟩; have n2_ : Aside0 (w49.heap[gb157]? = some (.cells #[.slice (some ad164) l0_0.length c0_0, .slice A0_1 l0_1.length c0_1] 25 (0, 0))) := ⟨(by rw [hw]; exact (by refine bm ?_; refine blk_far ?_ NB157_167.out _; refine bm ?_; refine blk_far ?_ NB157_167.out _; refine bm ?_; refine blk_far ?_ NB157_167.out _; refine bm ?_; refine blk_far ?_ NB157_167.out _; refine bm ?_; exact BK157.out))⟩; have n3_ : Aside0 (w49.heap[gb165]? = some (.cells #[.int .i64 ((rd_T38 l0_0 a1).f0), .int .i64 ((rd_T38 l0_0 a1).f1), .int .i64 ((rd_T38 l0_0 a1).f2), .int .i64 ((rd_T38 l0_0 a1).f3)] 38 (0, 0))) := ⟨(by rw [hw]; exact (by refine bm ?_; refine blk_far ?_ NB165_167.out _; refine bm ?_; refine blk_far ?_ NB165_167.out _; refine bm ?_; refine blk_far ?_ NB165_167.out _; refine bm ?_; refine blk_far ?_ NB165_167.out _; refine bm ?_; exact BK165.out))⟩; have n4_ : Aside0 (w49.heap[gb167]? = some (.cells #[.int .i64 ((rd_T38 l0_0 x34_2).f0), .int .i64 ((rd_T38 l0_0 x34_2).f1), .int .i64 ((rd_T38 l0_0 x34_2).f2), .int .i64 ((rd_T38 l0_0 x34_2).f3)] 38 (0, 0))) := ⟨(by rw [hw]; exact (by refine bm ?_; refine blk_put (cs := #[.int .i64 ((rd_T38 l0_0 x34_2).f0), .int .i64 ((rd_T38 l0_0 x34_2).f1), .int .i64 ((rd_T38 l0_0 x34_2).f2), .int .i64 0]) ?_ 3 _ rfl; refine bm ?_; refine blk_put (cs := #[.int .i64 ((rd_T38 l0_0 x34_2).f0), .int .i64 ((rd_T38 l0_0 x34_2).f1), .int .i64 0, .int .i64 0]) ?_ 2 _ rfl; refine bm ?_; refine blk_put (cs := #[.int .i64 ((rd_T38 l0_0 x34_2).f0), .int .i64 0, .int .i64 0, .int .i64 0]) ?_ 1 _ rfl; refine bm ?_; refine blk_put (cs := #[.int .i64 0, .int .i64 0, .int .i64 0, .int .i64 0]) ?_ 0 _ rfl; refine bm ?_; exact BK167.out))⟩; have n5_ : Aside0 (Below w.heap.size w w49) := ⟨(by rw [hw]; exact bb)⟩; clear hw; clear HO_5; clear HO_6; clear BK157; clear BK165; clear BK167; clear HB; have HO_5 := n0_; have HO_6 := n1_; have BK157 := n2_; have BK165 := n3_; have BK167 := n4_; have HB := n5_; clear n0_ n1_ n2_ n3_ n4_ n5_; obtain ⟨hcz50_0, hcz50_1, hcz50_2, hcz50_3, hfz50_0, hfz50_1, hfz50_2, hfz50_3⟩ := bo4 BK167) | ((with_reducible refine gate_callee (f := 21) rfl ?_); refine gl (some 41) Try.func21 #[.int .i64 ((rd_T38 l0_0 x34_2).f2)] ?_; (with_reducible refine (shape_plain.calls ((rd_T38 l0_0 x34_2).f2) true _ A29.out).mono ?_); rintro e w' ⟨rfl, ⟨nd, rfl⟩⟩; refine ⟨_, rfl, ?_⟩; have hnb51 := NB165_157.out; have hnc51 := NB157_165.out; obtain ⟨hcz52_0, hcz52_1, hcz52_2, hcz52_3, hfz52_0, hfz52_1, hfz52_2, hfz52_3⟩ := bo4 BK165; obtain ⟨Ao53, co53, eo53⟩ := Kd.S_slice HO_6.out; subst eo53; have p169 : 0 ≤ (a1 : Int) := od; have q169 : a1 < (t161.length : Int) := od; obtain ⟨ad169, A169_0, c169_0, e169, hx169_0, hl169_0, hi169_0⟩ := at_L3 (Kd.S_reads' HO_6.out).2.2 a1 p169 q169; cases e169; obtain ⟨ce169, hce169, hMe169, hcc169⟩ := Kd.S_get HO_6.out [] a1 p169 (by first | exact q169 | exact od | (have e_ := (Kd.S_reads' HO_6.out).1; omega)); obtain ⟨ve169_0, rfl, ge169_0⟩ := hMe169; have hv169_0 := hcc169 0 _ rfl; rw [Nat.add_zero, show ((Kd.slice 4 Kd.bool)).sz = 1 from rfl, Nat.mul_one] at hv169_0; replace hv169_0 := Option.some.inj (hv169_0.symm.trans hx169_0); rw [hv169_0] at ge169_0; have HL169_0 := Aside0.mk (show Kd.R Kd.bool 4 _ _ _ _ (rd_L3 t161 a1) from ge169_0); clear hv169_0 ge169_0; clear hcc169 hce169; have HR169_0 := Aside0.mk hi169_0; have HC169_0 := Aside0.mk hl169_0; clear hi169_0 hl169_0; replace p169 := eq_true p169; replace q169 := eq_true q169; have p170 : 0 ≤ (x34_2 : Int) := od; have q170 : x34_2 < ((rd_L3 t161 a1).length : Int) := od; obtain ⟨ad170, e170, hx170_0⟩ := Kd.at_bool (by repeat (first | (with_reducible exact HR169_0.out) | (with_reducible refine Kd.C_alloc ?_ _) | (with_reducible refine Kd.C_drewN ?_ _) | (with_reducible refine Kd.C_drew ?_) | exact HR169_0.out)) x34_2 p170 q170; (try rw [← Nbq43.out] at hx170_0); cases e170; replace p170 := eq_true p170; replace q170 := eq_true q170))
       go_roundg k2
       case measure => have := HJ2.out; have := HK2.out; omega
       case rel => exact ⟨(x5_2), (wrap64 (x34_2 + 1)), rs, H', ⟨by have := HJ2.out; have := HK2.out; omega⟩, ⟨by refine rm ?_; exact HO_5.out⟩, ⟨by refine sm ?_; exact HO_6.out⟩, ⟨bk BK157⟩, ⟨bk BK165⟩, ⟨bb⟩⟩
      replace c44 := Bool.eq_false_iff.mpr c44
      subst c44
      have H1 : (if x34_2 < (t161.length : Int) then (if a1 < ((rd_L3 t161 x34_2).length : Int) then (if (rdOf false (rd_L3 t161 x34_2) a1 = true) then (shape_Rivals.l0 k2 a1 x5_2 t161 l0_0 (l0_0.length : Int) (wrap64 (x34_2 + 1)) ((rd_T38 l0_0 a1).f0) ((rd_T38 l0_0 a1).f1) ((rd_T38 l0_0 a1).f2) ((rd_T38 l0_0 a1).f3)) else (if x5_2.length < 17592186044416 then (shape_Rivals.l0 k2 a1 (x5_2 ++ [x34_2]) t161 l0_0 (l0_0.length : Int) (wrap64 (x34_2 + 1)) ((rd_T38 l0_0 a1).f0) ((rd_T38 l0_0 a1).f1) ((rd_T38 l0_0 a1).f2) ((rd_T38 l0_0 a1).f3)) else (none))) else (none)) else (none)) = some r := by rw [if_neg (show ¬ (false = true) by decide)] at H; exact H
      clear H
      have H := H1
      clear H1
      by_cases c54 : x34_2 < (t161.length : Int)
      rotate_left
      ·
       rw [if_neg c54] at H
       exact absurd H (by simp)
      rw [if_pos c54] at H
      have c54b0 : decide (x34_2 < (t161.length : Int)) = true := decide_eq_true c54
      clear c54
      by_cases c55 : a1 < ((rd_L3 t161 x34_2).length : Int)
      rotate_left
      ·
       rw [if_neg c55] at H
       exact absurd H (by simp)
      rw [if_pos c55] at H
      have c55b0 : decide (a1 < ((rd_L3 t161 x34_2).length : Int)) = true := decide_eq_true c55
      clear c55
      obtain ⟨bq56, hbq56⟩ : ∃ b_ : Bool, b_ = (rdOf false (rd_L3 t161 x34_2) a1) := ⟨_, rfl⟩
      replace H : (if (bq56 = true) then (shape_Rivals.l0 k2 a1 x5_2 t161 l0_0 (l0_0.length : Int) (wrap64 (x34_2 + 1)) ((rd_T38 l0_0 a1).f0) ((rd_T38 l0_0 a1).f1) ((rd_T38 l0_0 a1).f2) ((rd_T38 l0_0 a1).f3)) else (if x5_2.length < 17592186044416 then (shape_Rivals.l0 k2 a1 (x5_2 ++ [x34_2]) t161 l0_0 (l0_0.length : Int) (wrap64 (x34_2 + 1)) ((rd_T38 l0_0 a1).f0) ((rd_T38 l0_0 a1).f1) ((rd_T38 l0_0 a1).f2) ((rd_T38 l0_0 a1).f3)) else (none))) = some r := by rw [← hbq56] at H; exact H
      have Nbq56 := Aside0.mk hbq56
      clear hbq56
      by_cases c57 : (bq56 = true)
      ·
       subst c57
       have H1 : (shape_Rivals.l0 k2 a1 x5_2 t161 l0_0 (l0_0.length : Int) (wrap64 (x34_2 + 1)) ((rd_T38 l0_0 a1).f0) ((rd_T38 l0_0 a1).f1) ((rd_T38 l0_0 a1).f2) ((rd_T38 l0_0 a1).f3)) = some r := by rw [if_pos rfl] at H; exact H
       clear H
       have H := H1
       clear H1
       have H' := Aside0.mk H
       clear H
       have p166 : 0 ≤ (x34_2 : Int) := od
       have q166 : x34_2 < (l0_0.length : Int) := od
       obtain ⟨ad166, e166, hx166_0, hx166_1, hx166_2, hx166_3⟩ := at_T38 HR0_0.out x34_2 p166 q166
       obtain rfl : ad164 = ad166 := (by injection e166)
       replace hx166_0 := bl HB hx166_0
       replace hx166_1 := bl HB hx166_1
       replace hx166_2 := bl HB hx166_2
       replace hx166_3 := bl HB hx166_3
       replace p166 := eq_true p166
       replace q166 := eq_true q166
       go_wp2_with (first | ((with_reducible refine gate_dst (N := 9) rfl ?_); refine bx 9 #[.int .i64 0, .int .i64 0, .int .i64 0, .int .i64 0] 38 ?_; intro gb167 hg w58 hbox hb; replace HO_5 := Aside0.mk (Kd.R_below (rk HO_5) hb); replace HO_6 := Aside0.mk (Kd.S_below (sk HO_6) hb); have BK167 := Aside0.mk (hbox); have GW167 := Aside0.mk ((bz hg : w.heap.size ≤ gb167)); have GE167 := Aside0.mk ((bz hg : w.heap.size ≤ gb167)); replace HB := Aside0.mk (below_step bb hb); have NB157_167 := Aside0.mk (nl BK157 hg); have NB167_157 := Aside0.mk (ng BK157 hg); replace BK157 := Aside0.mk (bw BK157 hb); have NB165_167 := Aside0.mk (nl BK165 hg); have NB167_165 := Aside0.mk (ng BK165 hg); replace BK165 := Aside0.mk (bw BK165 hb); clear hb hbox hg; have hnb59 := NB167_157.out; have hnc59 := NB157_167.out; have hnb60 := NB167_165.out; have hnc60 := NB165_167.out; obtain ⟨hcz61_0, hcz61_1, hcz61_2, hcz61_3, hfz61_0, hfz61_1, hfz61_2, hfz61_3⟩ := bo4 BK167) | ((with_reducible refine gate_store (t := 38) (p := 9) rfl ?_); refine store_event (t := 38) (p := 9) (v := ?vo_w62) (w1 := ((((w58.setCell ⟨gb167, 0, none⟩ (.int .i64 ((rd_T38 l0_0 x34_2).f0))).setCell ⟨gb167, 1, none⟩ (.int .i64 ((rd_T38 l0_0 x34_2).f1))).setCell ⟨gb167, 2, none⟩ (.int .i64 ((rd_T38 l0_0 x34_2).f2))).setCell ⟨gb167, 3, none⟩ (.int .i64 ((rd_T38 l0_0 x34_2).f3)))) ?hg ?ho ?hn ?hr ?_; (case ho => rfl); (case hg => rfl); (case hn => rfl); (case hr => first | (go_simp; done) | (go_simp; rfl)); intro w62 hw; have n0_ : Aside0 (Kd.R (Kd.int .i64) 3 w62 w.heap.size (fun _ => True) u5 x5_2) := ⟨(by rw [hw]; exact (rm (Kd.R_mono (Kd.R_far (p := ⟨gb167, 3, none⟩) (Kd.R_far (p := ⟨gb167, 2, none⟩) (Kd.R_far (p := ⟨gb167, 1, none⟩) (Kd.R_far (p := ⟨gb167, 0, none⟩) (Kd.R_types HO_5.out BK167.out (by decide)) (fun _ hk => hk.2) (.int .i64 ((rd_T38 l0_0 x34_2).f0))) (fun _ hk => hk.2) (.int .i64 ((rd_T38 l0_0 x34_2).f1))) (fun _ hk => hk.2) (.int .i64 ((rd_T38 l0_0 x34_2).f2))) (fun _ hk => hk.2) (.int .i64 ((rd_T38 l0_0 x34_2).f3))) (fun _ hk => trivial))))⟩; have n1_ : Aside0 (Kd.S (Kd.slice 4 Kd.bool) 33 w62 w.heap.size (fun _ => True) v162 t161) := ⟨(by rw [hw]; exact (sm (Kd.S_mono (Kd.S_far (p := ⟨gb167, 3, none⟩) (Kd.S_far (p := ⟨gb167, 2, none⟩) (Kd.S_far (p := ⟨gb167, 1, none⟩) (Kd.S_far (p := ⟨gb167, 0, none⟩) (Kd.S_types HO_6.out BK167.out (by decide)) (fun _ hk => hk.2) (.int .i64 ((rd_T38 l0_0 x34_2).f0))) (fun _ hk => hk.2) (.int .i64 ((rd_T38 l0_0 x34_2).f1))) (fun _ hk => hk.2) (.int .i64 ((rd_T38 l0_0 x34_2).f2))) (fun _ hk => hk.2) (.int .i64 ((rd_T38 l0_0 x34_2).f3))) (fun _ hk => trivial))))⟩; have n2_ : Aside0 (w62.heap[gb157]? = some (.cells #[.slice (some ad164) l0_0.length c0_0, .slice A0_1 l0_1.length c0_1] 25 (0, 0))) := ⟨(by rw [hw]; exact (by refine bm ?_; refine blk_far ?_ NB157_167.out _; refine bm ?_; refine blk_far ?_ NB157_167.out _; refine bm ?_; refine blk_far ?_ NB157_167.out _; refine bm ?_; refine blk_far ?_ NB157_167.out _; refine bm ?_; exact BK157.out))⟩; have n3_ : Aside0 (w62.heap[gb165]? = some (.cells #[.int .i64 ((rd_T38 l0_0 a1).f0), .int .i64 ((rd_T38 l0_0 a1).f1), .int .i64 ((rd_T38 l0_0 a1).f2), .int .i64 ((rd_T38 l0_0 a1).f3)] 38 (0, 0))) := ⟨(by rw [hw]; exact (by refine bm ?_; refine blk_far ?_ NB165_167.out _; refine bm ?_; refine blk_far ?_ NB165_167.out _; refine bm ?_; refine blk_far ?_ NB165_167.out _; refine bm ?_; refine blk_far ?_ NB165_167.out _; refine bm ?_; exact BK165.out))⟩; have n4_ : Aside0 (w62.heap[gb167]? = some (.cells #[.int .i64 ((rd_T38 l0_0 x34_2).f0), .int .i64 ((rd_T38 l0_0 x34_2).f1), .int .i64 ((rd_T38 l0_0 x34_2).f2), .int .i64 ((rd_T38 l0_0 x34_2).f3)] 38 (0, 0))) := ⟨(by rw [hw]; exact (by refine bm ?_; refine blk_put (cs := #[.int .i64 ((rd_T38 l0_0 x34_2).f0), .int .i64 ((rd_T38 l0_0 x34_2).f1), .int .i64 ((rd_T38 l0_0 x34_2).f2), .int .i64 0]) ?_ 3 _ rfl; refine bm ?_; refine blk_put (cs := #[.int .i64 ((rd_T38 l0_0 x34_2).f0), .int .i64 ((rd_T38 l0_0 x34_2).f1), .int .i64 0, .int .i64 0]) ?_ 2 _ rfl; refine bm ?_; refine blk_put (cs := #[.int .i64 ((rd_T38 l0_0 x34_2).f0), .int .i64 0, .int .i64 0, .int .i64 0]) ?_ 1 _ rfl; refine bm ?_; refine blk_put (cs := #[.int .i64 0, .int .i64 0, .int .i64 0, .int .i64 0]) ?_ 0 _ rfl; refine bm ?_; exact BK167.out))⟩; have n5_ : Aside0 (Below w.heap.size w w62) := ⟨(by rw [hw]; exact bb)⟩; clear hw; clear HO_5; clear HO_6; clear BK157; clear BK165; clear BK167; clear HB; have HO_5 := n0_; have HO_6 := n1_; have BK157 := n2_; have BK165 := n3_; have BK167 := n4_; have HB := n5_; clear n0_ n1_ n2_ n3_ n4_ n5_; obtain ⟨hcz63_0, hcz63_1, hcz63_2, hcz63_3, hfz63_0, hfz63_1, hfz63_2, hfz63_3⟩ := bo4 BK167) | ((with_reducible refine gate_callee (f := 21) rfl ?_); refine gl (some 41) Try.func21 #[.int .i64 ((rd_T38 l0_0 x34_2).f2)] ?_; (with_reducible refine (shape_plain.calls ((rd_T38 l0_0 x34_2).f2) true _ A29.out).mono ?_); rintro e w' ⟨rfl, ⟨nd, rfl⟩⟩; refine ⟨_, rfl, ?_⟩; have hnb64 := NB165_157.out; have hnc64 := NB157_165.out; obtain ⟨hcz65_0, hcz65_1, hcz65_2, hcz65_3, hfz65_0, hfz65_1, hfz65_2, hfz65_3⟩ := bo4 BK165; obtain ⟨Ao66, co66, eo66⟩ := Kd.S_slice HO_6.out; subst eo66; have p169 : 0 ≤ (a1 : Int) := od; have q169 : a1 < (t161.length : Int) := od; obtain ⟨ad169, A169_0, c169_0, e169, hx169_0, hl169_0, hi169_0⟩ := at_L3 (Kd.S_reads' HO_6.out).2.2 a1 p169 q169; cases e169; obtain ⟨ce169, hce169, hMe169, hcc169⟩ := Kd.S_get HO_6.out [] a1 p169 (by first | exact q169 | exact od | (have e_ := (Kd.S_reads' HO_6.out).1; omega)); obtain ⟨ve169_0, rfl, ge169_0⟩ := hMe169; have hv169_0 := hcc169 0 _ rfl; rw [Nat.add_zero, show ((Kd.slice 4 Kd.bool)).sz = 1 from rfl, Nat.mul_one] at hv169_0; replace hv169_0 := Option.some.inj (hv169_0.symm.trans hx169_0); rw [hv169_0] at ge169_0; have HL169_0 := Aside0.mk (show Kd.R Kd.bool 4 _ _ _ _ (rd_L3 t161 a1) from ge169_0); clear hv169_0 ge169_0; clear hcc169 hce169; have HR169_0 := Aside0.mk hi169_0; have HC169_0 := Aside0.mk hl169_0; clear hi169_0 hl169_0; replace p169 := eq_true p169; replace q169 := eq_true q169; have p170 : 0 ≤ (x34_2 : Int) := od; have q170 : x34_2 < ((rd_L3 t161 a1).length : Int) := od; obtain ⟨ad170, e170, hx170_0⟩ := Kd.at_bool (by repeat (first | (with_reducible exact HR169_0.out) | (with_reducible refine Kd.C_alloc ?_ _) | (with_reducible refine Kd.C_drewN ?_ _) | (with_reducible refine Kd.C_drew ?_) | exact HR169_0.out)) x34_2 p170 q170; (try rw [← Nbq43.out] at hx170_0); (try rw [← Nbq56.out] at hx170_0); cases e170; replace p170 := eq_true p170; replace q170 := eq_true q170; have p171 : 0 ≤ (x34_2 : Int) := od; have q171 : x34_2 < (t161.length : Int) := od; obtain ⟨ad171, A171_0, c171_0, e171, hx171_0, hl171_0, hi171_0⟩ := at_L3 (Kd.S_reads' HO_6.out).2.2 x34_2 p171 q171; obtain rfl : ad169 = ad171 := (by injection e171); obtain ⟨ce171, hce171, hMe171, hcc171⟩ := Kd.S_get HO_6.out [] x34_2 p171 (by first | exact q171 | exact od | (have e_ := (Kd.S_reads' HO_6.out).1; omega)); obtain ⟨ve171_0, rfl, ge171_0⟩ := hMe171; have hv171_0 := hcc171 0 _ rfl; rw [Nat.add_zero, show ((Kd.slice 4 Kd.bool)).sz = 1 from rfl, Nat.mul_one] at hv171_0; replace hv171_0 := Option.some.inj (hv171_0.symm.trans hx171_0); rw [hv171_0] at ge171_0; have HL171_0 := Aside0.mk (show Kd.R Kd.bool 4 _ _ _ _ (rd_L3 t161 x34_2) from ge171_0); clear hv171_0 ge171_0; clear hcc171 hce171; have HR171_0 := Aside0.mk hi171_0; have HC171_0 := Aside0.mk hl171_0; clear hi171_0 hl171_0; replace p171 := eq_true p171; replace q171 := eq_true q171; have p172 : 0 ≤ (a1 : Int) := od; have q172 : a1 < ((rd_L3 t161 x34_2).length : Int) := od; obtain ⟨ad172, e172, hx172_0⟩ := Kd.at_bool (by repeat (first | (with_reducible exact HR171_0.out) | (with_reducible refine Kd.C_alloc ?_ _) | (with_reducible refine Kd.C_drewN ?_ _) | (with_reducible refine Kd.C_drew ?_) | exact HR171_0.out)) a1 p172 q172; (try rw [← Nbq43.out] at hx172_0); (try rw [← Nbq56.out] at hx172_0); cases e172; replace p172 := eq_true p172; replace q172 := eq_true q172))
       go_roundg k2
       case measure => have := HJ2.out; have := HK2.out; omega
       case rel => exact ⟨(x5_2), (wrap64 (x34_2 + 1)), rs, H', ⟨by have := HJ2.out; have := HK2.out; omega⟩, ⟨by refine rm ?_; exact HO_5.out⟩, ⟨by refine sm ?_; exact HO_6.out⟩, ⟨bk BK157⟩, ⟨bk BK165⟩, ⟨bb⟩⟩
      replace c57 := Bool.eq_false_iff.mpr c57
      subst c57
      have H1 : (if x5_2.length < 17592186044416 then (shape_Rivals.l0 k2 a1 (x5_2 ++ [x34_2]) t161 l0_0 (l0_0.length : Int) (wrap64 (x34_2 + 1)) ((rd_T38 l0_0 a1).f0) ((rd_T38 l0_0 a1).f1) ((rd_T38 l0_0 a1).f2) ((rd_T38 l0_0 a1).f3)) else (none)) = some r := by rw [if_neg (show ¬ (false = true) by decide)] at H; exact H
      clear H
      have H := H1
      clear H1
      by_cases c67 : x5_2.length < 17592186044416
      rotate_left
      ·
       rw [if_neg c67] at H
       exact absurd H (by simp)
      rw [if_pos c67] at H
      have LMc67 := Aside0.mk c67
      clear c67
      obtain ⟨y173, hy173⟩ : ∃ y_ : List Int, y_ = (x5_2 ++ [x34_2]) := ⟨_, rfl⟩
      replace H : (shape_Rivals.l0 k2 a1 y173 t161 l0_0 (l0_0.length : Int) (wrap64 (x34_2 + 1)) ((rd_T38 l0_0 a1).f0) ((rd_T38 l0_0 a1).f1) ((rd_T38 l0_0 a1).f2) ((rd_T38 l0_0 a1).f3)) = some r := by first | (rw [hy173]; with_reducible exact H) | (have H2_ := (Option.bind_some _ _).symm.trans H; rw [hy173]; with_reducible exact H2_) | (have H2_ := (Option.bind_some _ _).symm.trans H; with_reducible exact H2_) | with_reducible exact H | (rw [hy173]; exact H) | exact H
      have Ny173 := Aside0.mk hy173
      clear hy173
      have H' := Aside0.mk H
      clear H
      have p166 : 0 ≤ (x34_2 : Int) := od
      have q166 : x34_2 < (l0_0.length : Int) := od
      obtain ⟨ad166, e166, hx166_0, hx166_1, hx166_2, hx166_3⟩ := at_T38 HR0_0.out x34_2 p166 q166
      obtain rfl : ad164 = ad166 := (by injection e166)
      replace hx166_0 := bl HB hx166_0
      replace hx166_1 := bl HB hx166_1
      replace hx166_2 := bl HB hx166_2
      replace hx166_3 := bl HB hx166_3
      replace p166 := eq_true p166
      replace q166 := eq_true q166
      go_wp2_with (first | ((with_reducible refine gate_dst (N := 9) rfl ?_); refine bx 9 #[.int .i64 0, .int .i64 0, .int .i64 0, .int .i64 0] 38 ?_; intro gb167 hg w68 hbox hb; replace HO_5 := Aside0.mk (Kd.R_below (rk HO_5) hb); replace HO_6 := Aside0.mk (Kd.S_below (sk HO_6) hb); have BK167 := Aside0.mk (hbox); have GW167 := Aside0.mk ((bz hg : w.heap.size ≤ gb167)); have GE167 := Aside0.mk ((bz hg : w.heap.size ≤ gb167)); replace HB := Aside0.mk (below_step bb hb); have NB157_167 := Aside0.mk (nl BK157 hg); have NB167_157 := Aside0.mk (ng BK157 hg); replace BK157 := Aside0.mk (bw BK157 hb); have NB165_167 := Aside0.mk (nl BK165 hg); have NB167_165 := Aside0.mk (ng BK165 hg); replace BK165 := Aside0.mk (bw BK165 hb); clear hb hbox hg; have hnb69 := NB167_157.out; have hnc69 := NB157_167.out; have hnb70 := NB167_165.out; have hnc70 := NB165_167.out; obtain ⟨hcz71_0, hcz71_1, hcz71_2, hcz71_3, hfz71_0, hfz71_1, hfz71_2, hfz71_3⟩ := bo4 BK167) | ((with_reducible refine gate_store (t := 38) (p := 9) rfl ?_); refine store_event (t := 38) (p := 9) (v := ?vo_w72) (w1 := ((((w68.setCell ⟨gb167, 0, none⟩ (.int .i64 ((rd_T38 l0_0 x34_2).f0))).setCell ⟨gb167, 1, none⟩ (.int .i64 ((rd_T38 l0_0 x34_2).f1))).setCell ⟨gb167, 2, none⟩ (.int .i64 ((rd_T38 l0_0 x34_2).f2))).setCell ⟨gb167, 3, none⟩ (.int .i64 ((rd_T38 l0_0 x34_2).f3)))) ?hg ?ho ?hn ?hr ?_; (case ho => rfl); (case hg => rfl); (case hn => rfl); (case hr => first | (go_simp; done) | (go_simp; rfl)); intro w72 hw; have n0_ : Aside0 (Kd.R (Kd.int .i64) 3 w72 w.heap.size (fun _ => True) u5 x5_2) := ⟨(by rw [hw]; exact (rm (Kd.R_mono (Kd.R_far (p := ⟨gb167, 3, none⟩) (Kd.R_far (p := ⟨gb167, 2, none⟩) (Kd.R_far (p := ⟨gb167, 1, none⟩) (Kd.R_far (p := ⟨gb167, 0, none⟩) (Kd.R_types HO_5.out BK167.out (by decide)) (fun _ hk => hk.2) (.int .i64 ((rd_T38 l0_0 x34_2).f0))) (fun _ hk => hk.2) (.int .i64 ((rd_T38 l0_0 x34_2).f1))) (fun _ hk => hk.2) (.int .i64 ((rd_T38 l0_0 x34_2).f2))) (fun _ hk => hk.2) (.int .i64 ((rd_T38 l0_0 x34_2).f3))) (fun _ hk => trivial))))⟩; have n1_ : Aside0 (Kd.S (Kd.slice 4 Kd.bool) 33 w72 w.heap.size (fun _ => True) v162 t161) := ⟨(by rw [hw]; exact (sm (Kd.S_mono (Kd.S_far (p := ⟨gb167, 3, none⟩) (Kd.S_far (p := ⟨gb167, 2, none⟩) (Kd.S_far (p := ⟨gb167, 1, none⟩) (Kd.S_far (p := ⟨gb167, 0, none⟩) (Kd.S_types HO_6.out BK167.out (by decide)) (fun _ hk => hk.2) (.int .i64 ((rd_T38 l0_0 x34_2).f0))) (fun _ hk => hk.2) (.int .i64 ((rd_T38 l0_0 x34_2).f1))) (fun _ hk => hk.2) (.int .i64 ((rd_T38 l0_0 x34_2).f2))) (fun _ hk => hk.2) (.int .i64 ((rd_T38 l0_0 x34_2).f3))) (fun _ hk => trivial))))⟩; have n2_ : Aside0 (w72.heap[gb157]? = some (.cells #[.slice (some ad164) l0_0.length c0_0, .slice A0_1 l0_1.length c0_1] 25 (0, 0))) := ⟨(by rw [hw]; exact (by refine bm ?_; refine blk_far ?_ NB157_167.out _; refine bm ?_; refine blk_far ?_ NB157_167.out _; refine bm ?_; refine blk_far ?_ NB157_167.out _; refine bm ?_; refine blk_far ?_ NB157_167.out _; refine bm ?_; exact BK157.out))⟩; have n3_ : Aside0 (w72.heap[gb165]? = some (.cells #[.int .i64 ((rd_T38 l0_0 a1).f0), .int .i64 ((rd_T38 l0_0 a1).f1), .int .i64 ((rd_T38 l0_0 a1).f2), .int .i64 ((rd_T38 l0_0 a1).f3)] 38 (0, 0))) := ⟨(by rw [hw]; exact (by refine bm ?_; refine blk_far ?_ NB165_167.out _; refine bm ?_; refine blk_far ?_ NB165_167.out _; refine bm ?_; refine blk_far ?_ NB165_167.out _; refine bm ?_; refine blk_far ?_ NB165_167.out _; refine bm ?_; exact BK165.out))⟩; have n4_ : Aside0 (w72.heap[gb167]? = some (.cells #[.int .i64 ((rd_T38 l0_0 x34_2).f0), .int .i64 ((rd_T38 l0_0 x34_2).f1), .int .i64 ((rd_T38 l0_0 x34_2).f2), .int .i64 ((rd_T38 l0_0 x34_2).f3)] 38 (0, 0))) := ⟨(by rw [hw]; exact (by refine bm ?_; refine blk_put (cs := #[.int .i64 ((rd_T38 l0_0 x34_2).f0), .int .i64 ((rd_T38 l0_0 x34_2).f1), .int .i64 ((rd_T38 l0_0 x34_2).f2), .int .i64 0]) ?_ 3 _ rfl; refine bm ?_; refine blk_put (cs := #[.int .i64 ((rd_T38 l0_0 x34_2).f0), .int .i64 ((rd_T38 l0_0 x34_2).f1), .int .i64 0, .int .i64 0]) ?_ 2 _ rfl; refine bm ?_; refine blk_put (cs := #[.int .i64 ((rd_T38 l0_0 x34_2).f0), .int .i64 0, .int .i64 0, .int .i64 0]) ?_ 1 _ rfl; refine bm ?_; refine blk_put (cs := #[.int .i64 0, .int .i64 0, .int .i64 0, .int .i64 0]) ?_ 0 _ rfl; refine bm ?_; exact BK167.out))⟩; have n5_ : Aside0 (Below w.heap.size w w72) := ⟨(by rw [hw]; exact bb)⟩; clear hw; clear HO_5; clear HO_6; clear BK157; clear BK165; clear BK167; clear HB; have HO_5 := n0_; have HO_6 := n1_; have BK157 := n2_; have BK165 := n3_; have BK167 := n4_; have HB := n5_; clear n0_ n1_ n2_ n3_ n4_ n5_; obtain ⟨hcz73_0, hcz73_1, hcz73_2, hcz73_3, hfz73_0, hfz73_1, hfz73_2, hfz73_3⟩ := bo4 BK167) | ((with_reducible refine gate_callee (f := 21) rfl ?_); refine gl (some 41) Try.func21 #[.int .i64 ((rd_T38 l0_0 x34_2).f2)] ?_; (with_reducible refine (shape_plain.calls ((rd_T38 l0_0 x34_2).f2) true _ A29.out).mono ?_); rintro e w' ⟨rfl, ⟨nd, rfl⟩⟩; refine ⟨_, rfl, ?_⟩; have hnb74 := NB165_157.out; have hnc74 := NB157_165.out; obtain ⟨hcz75_0, hcz75_1, hcz75_2, hcz75_3, hfz75_0, hfz75_1, hfz75_2, hfz75_3⟩ := bo4 BK165; obtain ⟨Ao76, co76, eo76⟩ := Kd.S_slice HO_6.out; subst eo76; have p169 : 0 ≤ (a1 : Int) := od; have q169 : a1 < (t161.length : Int) := od; obtain ⟨ad169, A169_0, c169_0, e169, hx169_0, hl169_0, hi169_0⟩ := at_L3 (Kd.S_reads' HO_6.out).2.2 a1 p169 q169; cases e169; obtain ⟨ce169, hce169, hMe169, hcc169⟩ := Kd.S_get HO_6.out [] a1 p169 (by first | exact q169 | exact od | (have e_ := (Kd.S_reads' HO_6.out).1; omega)); obtain ⟨ve169_0, rfl, ge169_0⟩ := hMe169; have hv169_0 := hcc169 0 _ rfl; rw [Nat.add_zero, show ((Kd.slice 4 Kd.bool)).sz = 1 from rfl, Nat.mul_one] at hv169_0; replace hv169_0 := Option.some.inj (hv169_0.symm.trans hx169_0); rw [hv169_0] at ge169_0; have HL169_0 := Aside0.mk (show Kd.R Kd.bool 4 _ _ _ _ (rd_L3 t161 a1) from ge169_0); clear hv169_0 ge169_0; clear hcc169 hce169; have HR169_0 := Aside0.mk hi169_0; have HC169_0 := Aside0.mk hl169_0; clear hi169_0 hl169_0; replace p169 := eq_true p169; replace q169 := eq_true q169; have p170 : 0 ≤ (x34_2 : Int) := od; have q170 : x34_2 < ((rd_L3 t161 a1).length : Int) := od; obtain ⟨ad170, e170, hx170_0⟩ := Kd.at_bool (by repeat (first | (with_reducible exact HR169_0.out) | (with_reducible refine Kd.C_alloc ?_ _) | (with_reducible refine Kd.C_drewN ?_ _) | (with_reducible refine Kd.C_drew ?_) | exact HR169_0.out)) x34_2 p170 q170; (try rw [← Nbq43.out] at hx170_0); (try rw [← Nbq56.out] at hx170_0); cases e170; replace p170 := eq_true p170; replace q170 := eq_true q170; have p171 : 0 ≤ (x34_2 : Int) := od; have q171 : x34_2 < (t161.length : Int) := od; obtain ⟨ad171, A171_0, c171_0, e171, hx171_0, hl171_0, hi171_0⟩ := at_L3 (Kd.S_reads' HO_6.out).2.2 x34_2 p171 q171; obtain rfl : ad169 = ad171 := (by injection e171); obtain ⟨ce171, hce171, hMe171, hcc171⟩ := Kd.S_get HO_6.out [] x34_2 p171 (by first | exact q171 | exact od | (have e_ := (Kd.S_reads' HO_6.out).1; omega)); obtain ⟨ve171_0, rfl, ge171_0⟩ := hMe171; have hv171_0 := hcc171 0 _ rfl; rw [Nat.add_zero, show ((Kd.slice 4 Kd.bool)).sz = 1 from rfl, Nat.mul_one] at hv171_0; replace hv171_0 := Option.some.inj (hv171_0.symm.trans hx171_0); rw [hv171_0] at ge171_0; have HL171_0 := Aside0.mk (show Kd.R Kd.bool 4 _ _ _ _ (rd_L3 t161 x34_2) from ge171_0); clear hv171_0 ge171_0; clear hcc171 hce171; have HR171_0 := Aside0.mk hi171_0; have HC171_0 := Aside0.mk hl171_0; clear hi171_0 hl171_0; replace p171 := eq_true p171; replace q171 := eq_true q171; have p172 : 0 ≤ (a1 : Int) := od; have q172 : a1 < ((rd_L3 t161 x34_2).length : Int) := od; obtain ⟨ad172, e172, hx172_0⟩ := Kd.at_bool (by repeat (first | (with_reducible exact HR171_0.out) | (with_reducible refine Kd.C_alloc ?_ _) | (with_reducible refine Kd.C_drewN ?_ _) | (with_reducible refine Kd.C_drew ?_) | exact HR171_0.out)) a1 p172 q172; (try rw [← Nbq43.out] at hx172_0); (try rw [← Nbq56.out] at hx172_0); cases e172; replace p172 := eq_true p172; replace q172 := eq_true q172) | ((with_reducible refine gate_builtin (b := .append) (xs := #[.tmp 86, .tmp 88]) rfl ?_); at_builtin; refine Kd.R_append (Kd.int .i64) (w0 := w) w.heap.size rfl (.tmp 86) (.tmp 88) 23 3 (.int .i64 0) 8 rfl Try.underlying23 info3 rfl (by decide) (by omega) u5 x5_2 x34_2 [.int .i64 x34_2] (fun _ => True) (fun _ => False) rfl rfl ?aP (fun _ hk => hk.elim) ?aF ?aO ?aB ?aS ?aL ?_; (case aP => exact rfl); (case aB => exact bb); (case aF => exact (fun _ _ => trivial)); (case aO => exact (rk HO_5)); (case aS => exact (below_size bb)); (case aL => have := LMc67.out; omega); intro v174 w77 ho hb hg hat; rw [← Ny173.out] at ho; replace HO_6 := Aside0.mk (Kd.S_over' (sk HO_6) (Kd.R_typed (rk HO_5)) (by decide) hg); replace BK157 := Aside0.mk (blk_grown (g := gb157) (o := .cells #[.slice (some ad164) l0_0.length c0_0, .slice A0_1 l0_1.length c0_1] 25 (0, 0)) (bk BK157) hg (Kd.R_ne HO_5.out BK157.out (by decide))); replace BK165 := Aside0.mk (blk_grown (g := gb165) (o := .cells #[.int .i64 ((rd_T38 l0_0 a1).f0), .int .i64 ((rd_T38 l0_0 a1).f1), .int .i64 ((rd_T38 l0_0 a1).f2), .int .i64 ((rd_T38 l0_0 a1).f3)] 38 (0, 0)) (bk BK165) hg (Kd.R_ne HO_5.out BK165.out (by decide))); replace BK167 := Aside0.mk (blk_grown (g := gb167) (o := .cells #[.int .i64 ((rd_T38 l0_0 x34_2).f0), .int .i64 ((rd_T38 l0_0 x34_2).f1), .int .i64 ((rd_T38 l0_0 x34_2).f2), .int .i64 ((rd_T38 l0_0 x34_2).f3)] 38 (0, 0)) (bk BK167) hg (Kd.R_ne HO_5.out BK167.out (by decide))); replace HL169_0 := Aside0.mk (Kd.R_over' (rm (HL169_0.out)) (Kd.R_typed (rk HO_5)) (by decide) hg); replace HL171_0 := Aside0.mk (Kd.R_over' (rm (HL171_0.out)) (Kd.R_typed (rk HO_5)) (by decide) hg); replace HB := Aside0.mk (hb); have HO175 := Aside0.mk (ho); clear HO_5; clear ho hb hg hat))
      go_roundg k2
      case measure => have := HJ2.out; have := HK2.out; omega
      case rel => exact ⟨(y173), (wrap64 (x34_2 + 1)), rs, H', ⟨by have := HJ2.out; have := HK2.out; omega⟩, ⟨by refine rm ?_; exact HO175.out⟩, ⟨by refine sm ?_; exact HO_6.out⟩, ⟨bk BK157⟩, ⟨bk BK165⟩, ⟨bb⟩⟩
     rw [if_neg c39] at H
     have c39b0 : (((rd_T38 l0_0 a1).f2) == 2) = false := beq_eq_false_iff_ne.mpr c39
     have c39b1 : (((rd_T38 l0_0 a1).f2) != 2) = true := bne_iff_ne.mpr c39
     by_cases c78 : ((rd_T38 l0_0 x34_2).f2) = 2
     rotate_left
     ·
      rw [if_neg c78] at H
      have c78b0 : (((rd_T38 l0_0 x34_2).f2) == 2) = false := beq_eq_false_iff_ne.mpr c78
      have c78b1 : (((rd_T38 l0_0 x34_2).f2) != 2) = true := bne_iff_ne.mpr c78
      have H' := Aside0.mk H
      clear H
      have p166 : 0 ≤ (x34_2 : Int) := od
      have q166 : x34_2 < (l0_0.length : Int) := od
      obtain ⟨ad166, e166, hx166_0, hx166_1, hx166_2, hx166_3⟩ := at_T38 HR0_0.out x34_2 p166 q166
      obtain rfl : ad164 = ad166 := (by injection e166)
      replace hx166_0 := bl HB hx166_0
      replace hx166_1 := bl HB hx166_1
      replace hx166_2 := bl HB hx166_2
      replace hx166_3 := bl HB hx166_3
      replace p166 := eq_true p166
      replace q166 := eq_true q166
      go_wp2_with (first | ((with_reducible refine gate_dst (N := 9) rfl ?_); refine bx 9 #[.int .i64 0, .int .i64 0, .int .i64 0, .int .i64 0] 38 ?_; intro gb167 hg w117 hbox hb; replace HO_5 := Aside0.mk (Kd.R_below (rk HO_5) hb); replace HO_6 := Aside0.mk (Kd.S_below (sk HO_6) hb); have BK167 := Aside0.mk (hbox); have GW167 := Aside0.mk ((bz hg : w.heap.size ≤ gb167)); have GE167 := Aside0.mk ((bz hg : w.heap.size ≤ gb167)); replace HB := Aside0.mk (below_step bb hb); have NB157_167 := Aside0.mk (nl BK157 hg); have NB167_157 := Aside0.mk (ng BK157 hg); replace BK157 := Aside0.mk (bw BK157 hb); have NB165_167 := Aside0.mk (nl BK165 hg); have NB167_165 := Aside0.mk (ng BK165 hg); replace BK165 := Aside0.mk (bw BK165 hb); clear hb hbox hg; have hnb118 := NB167_157.out; have hnc118 := NB157_167.out; have hnb119 := NB167_165.out; have hnc119 := NB165_167.out; obtain ⟨hcz120_0, hcz120_1, hcz120_2, hcz120_3, hfz120_0, hfz120_1, hfz120_2, hfz120_3⟩ := bo4 BK167) | ((with_reducible refine gate_callee (f := 21) rfl ?_); refine gl (some 41) Try.func21 #[.int .i64 ((rd_T38 l0_0 x34_2).f2)] ?_; (with_reducible refine (shape_plain.calls ((rd_T38 l0_0 x34_2).f2) true _ A29.out).mono ?_); rintro e w' ⟨rfl, ⟨nd, rfl⟩⟩; refine ⟨_, rfl, ?_⟩; have hnb121 := NB165_157.out; have hnc121 := NB157_165.out; obtain ⟨hcz122_0, hcz122_1, hcz122_2, hcz122_3, hfz122_0, hfz122_1, hfz122_2, hfz122_3⟩ := bo4 BK165))
      go_roundg k2
      case measure => have := HJ2.out; have := HK2.out; omega
      case rel => exact ⟨(x5_2), (wrap64 (x34_2 + 1)), rs, H', ⟨by have := HJ2.out; have := HK2.out; omega⟩, ⟨by refine rm ?_; exact Kd.R_mono (Kd.R_far (p := ⟨gb167, 3, none⟩) (Kd.R_far (p := ⟨gb167, 2, none⟩) (Kd.R_far (p := ⟨gb167, 1, none⟩) (Kd.R_far (p := ⟨gb167, 0, none⟩) (Kd.R_types HO_5.out BK167.out (by decide)) (fun _ hk => hk.2) (.int .i64 ((rd_T38 l0_0 x34_2).f0))) (fun _ hk => hk.2) (.int .i64 ((rd_T38 l0_0 x34_2).f1))) (fun _ hk => hk.2) (.int .i64 ((rd_T38 l0_0 x34_2).f2))) (fun _ hk => hk.2) (.int .i64 ((rd_T38 l0_0 x34_2).f3))) (fun _ hk => trivial)⟩, ⟨by refine sm ?_; exact Kd.S_mono (Kd.S_far (p := ⟨gb167, 3, none⟩) (Kd.S_far (p := ⟨gb167, 2, none⟩) (Kd.S_far (p := ⟨gb167, 1, none⟩) (Kd.S_far (p := ⟨gb167, 0, none⟩) (Kd.S_types HO_6.out BK167.out (by decide)) (fun _ hk => hk.2) (.int .i64 ((rd_T38 l0_0 x34_2).f0))) (fun _ hk => hk.2) (.int .i64 ((rd_T38 l0_0 x34_2).f1))) (fun _ hk => hk.2) (.int .i64 ((rd_T38 l0_0 x34_2).f2))) (fun _ hk => hk.2) (.int .i64 ((rd_T38 l0_0 x34_2).f3))) (fun _ hk => trivial)⟩, ⟨by refine bm ?_; refine blk_far ?_ NB157_167.out _; refine bm ?_; refine blk_far ?_ NB157_167.out _; refine bm ?_; refine blk_far ?_ NB157_167.out _; refine bm ?_; refine blk_far ?_ NB157_167.out _; refine bm ?_; exact BK157.out⟩, ⟨by refine bm ?_; refine blk_far ?_ NB165_167.out _; refine bm ?_; refine blk_far ?_ NB165_167.out _; refine bm ?_; refine blk_far ?_ NB165_167.out _; refine bm ?_; refine blk_far ?_ NB165_167.out _; refine bm ?_; exact BK165.out⟩, ⟨bb⟩⟩
     rw [if_pos c78] at H
     have c78b0 : (((rd_T38 l0_0 x34_2).f2) == 2) = true := beq_iff_eq.mpr c78
     have c78b1 : (((rd_T38 l0_0 x34_2).f2) != 2) = false := bne_eq_false_iff_eq.mpr c78
     clear c78
     by_cases c79 : 0 ≤ a1
     rotate_left
     ·
      rw [if_neg c79] at H
      exact absurd H (by simp)
     rw [if_pos c79] at H
     have c79b0 : decide (0 ≤ a1) = true := decide_eq_true c79
     clear c79
     by_cases c80 : a1 < (t161.length : Int)
     rotate_left
     ·
      rw [if_neg c80] at H
      exact absurd H (by simp)
     rw [if_pos c80] at H
     have c80b0 : decide (a1 < (t161.length : Int)) = true := decide_eq_true c80
     clear c80
     by_cases c81 : x34_2 < ((rd_L3 t161 a1).length : Int)
     rotate_left
     ·
      rw [if_neg c81] at H
      exact absurd H (by simp)
     rw [if_pos c81] at H
     have c81b0 : decide (x34_2 < ((rd_L3 t161 a1).length : Int)) = true := decide_eq_true c81
     clear c81
     obtain ⟨bq82, hbq82⟩ : ∃ b_ : Bool, b_ = (rdOf false (rd_L3 t161 a1) x34_2) := ⟨_, rfl⟩
     replace H : (if (bq82 = true) then (shape_Rivals.l0 k2 a1 x5_2 t161 l0_0 (l0_0.length : Int) (wrap64 (x34_2 + 1)) ((rd_T38 l0_0 a1).f0) ((rd_T38 l0_0 a1).f1) ((rd_T38 l0_0 a1).f2) ((rd_T38 l0_0 a1).f3)) else (if x34_2 < (t161.length : Int) then (if a1 < ((rd_L3 t161 x34_2).length : Int) then (if (rdOf false (rd_L3 t161 x34_2) a1 = true) then (shape_Rivals.l0 k2 a1 x5_2 t161 l0_0 (l0_0.length : Int) (wrap64 (x34_2 + 1)) ((rd_T38 l0_0 a1).f0) ((rd_T38 l0_0 a1).f1) ((rd_T38 l0_0 a1).f2) ((rd_T38 l0_0 a1).f3)) else (if x5_2.length < 17592186044416 then (shape_Rivals.l0 k2 a1 (x5_2 ++ [x34_2]) t161 l0_0 (l0_0.length : Int) (wrap64 (x34_2 + 1)) ((rd_T38 l0_0 a1).f0) ((rd_T38 l0_0 a1).f1) ((rd_T38 l0_0 a1).f2) ((rd_T38 l0_0 a1).f3)) else (none))) else (none)) else (none))) = some r := by rw [← hbq82] at H; exact H
     have Nbq82 := Aside0.mk hbq82
     clear hbq82
     by_cases c83 : (bq82 = true)
     ·
      subst c83
      have H1 : (shape_Rivals.l0 k2 a1 x5_2 t161 l0_0 (l0_0.length : Int) (wrap64 (x34_2 + 1)) ((rd_T38 l0_0 a1).f0) ((rd_T38 l0_0 a1).f1) ((rd_T38 l0_0 a1).f2) ((rd_T38 l0_0 a1).f3)) = some r := by rw [if_pos rfl] at H; exact H
      clear H
      have H := H1
      clear H1
      have H' := Aside0.mk H
      clear H
      have p166 : 0 ≤ (x34_2 : Int) := od
      have q166 : x34_2 < (l0_0.length : Int) := od
      obtain ⟨ad166, e166, hx166_0, hx166_1, hx166_2, hx166_3⟩ := at_T38 HR0_0.out x34_2 p166 q166
      obtain rfl : ad164 = ad166 := (by injection e166)
      replace hx166_0 := bl HB hx166_0
      replace hx166_1 := bl HB hx166_1
      replace hx166_2 := bl HB hx166_2
      replace hx166_3 := bl HB hx166_3
      replace p166 := eq_true p166
      replace q166 := eq_true q166
      go_wp2_with (first | ((with_reducible refine gate_dst (N := 9) rfl ?_); refine bx 9 #[.int .i64 0, .int .i64 0, .int .i64 0, .int .i64 0] 38 ?_; intro gb167 hg w84 hbox hb; replace HO_5 := Aside0.mk (Kd.R_below (rk HO_5) hb); replace HO_6 := Aside0.mk (Kd.S_below (sk HO_6) hb); have BK167 := Aside0.mk (hbox); have GW167 := Aside0.mk ((bz hg : w.heap.size ≤ gb167)); have GE167 := Aside0.mk ((bz hg : w.heap.size ≤ gb167)); replace HB := Aside0.mk (below_step bb hb); have NB157_167 := Aside0.mk (nl BK157 hg); have NB167_157 := Aside0.mk (ng BK157 hg); replace BK157 := Aside0.mk (bw BK157 hb); have NB165_167 := Aside0.mk (nl BK165 hg); have NB167_165 := Aside0.mk (ng BK165 hg); replace BK165 := Aside0.mk (bw BK165 hb); clear hb hbox hg; have hnb85 := NB167_157.out; have hnc85 := NB157_167.out; have hnb86 := NB167_165.out; have hnc86 := NB165_167.out; obtain ⟨hcz87_0, hcz87_1, hcz87_2, hcz87_3, hfz87_0, hfz87_1, hfz87_2, hfz87_3⟩ := bo4 BK167) | ((with_reducible refine gate_store (t := 38) (p := 9) rfl ?_); refine store_event (t := 38) (p := 9) (v := ?vo_w88) (w1 := ((((w84.setCell ⟨gb167, 0, none⟩ (.int .i64 ((rd_T38 l0_0 x34_2).f0))).setCell ⟨gb167, 1, none⟩ (.int .i64 ((rd_T38 l0_0 x34_2).f1))).setCell ⟨gb167, 2, none⟩ (.int .i64 ((rd_T38 l0_0 x34_2).f2))).setCell ⟨gb167, 3, none⟩ (.int .i64 ((rd_T38 l0_0 x34_2).f3)))) ?hg ?ho ?hn ?hr ?_; (case ho => rfl); (case hg => rfl); (case hn => rfl); (case hr => first | (go_simp; done) | (go_simp; rfl)); intro w88 hw; have n0_ : Aside0 (Kd.R (Kd.int .i64) 3 w88 w.heap.size (fun _ => True) u5 x5_2) := ⟨(by rw [hw]; exact (rm (Kd.R_mono (Kd.R_far (p := ⟨gb167, 3, none⟩) (Kd.R_far (p := ⟨gb167, 2, none⟩) (Kd.R_far (p := ⟨gb167, 1, none⟩) (Kd.R_far (p := ⟨gb167, 0, none⟩) (Kd.R_types HO_5.out BK167.out (by decide)) (fun _ hk => hk.2) (.int .i64 ((rd_T38 l0_0 x34_2).f0))) (fun _ hk => hk.2) (.int .i64 ((rd_T38 l0_0 x34_2).f1))) (fun _ hk => hk.2) (.int .i64 ((rd_T38 l0_0 x34_2).f2))) (fun _ hk => hk.2) (.int .i64 ((rd_T38 l0_0 x34_2).f3))) (fun _ hk => trivial))))⟩; have n1_ : Aside0 (Kd.S (Kd.slice 4 Kd.bool) 33 w88 w.heap.size (fun _ => True) v162 t161) := ⟨(by rw [hw]; exact (sm (Kd.S_mono (Kd.S_far (p := ⟨gb167, 3, none⟩) (Kd.S_far (p := ⟨gb167, 2, none⟩) (Kd.S_far (p := ⟨gb167, 1, none⟩) (Kd.S_far (p := ⟨gb167, 0, none⟩) (Kd.S_types HO_6.out BK167.out (by decide)) (fun _ hk => hk.2) (.int .i64 ((rd_T38 l0_0 x34_2).f0))) (fun _ hk => hk.2) (.int .i64 ((rd_T38 l0_0 x34_2).f1))) (fun _ hk => hk.2) (.int .i64 ((rd_T38 l0_0 x34_2).f2))) (fun _ hk => hk.2) (.int .i64 ((rd_T38 l0_0 x34_2).f3))) (fun _ hk => trivial))))⟩; have n2_ : Aside0 (w88.heap[gb157]? = some (.cells #[.slice (some ad164) l0_0.length c0_0, .slice A0_1 l0_1.length c0_1] 25 (0, 0))) := ⟨(by rw [hw]; exact (by refine bm ?_; refine blk_far ?_ NB157_167.out _; refine bm ?_; refine blk_far ?_ NB157_167.out _; refine bm ?_; refine blk_far ?_ NB157_167.out _; refine bm ?_; refine blk_far ?_ NB157_167.out _; refine bm ?_; exact BK157.out))⟩; have n3_ : Aside0 (w88.heap[gb165]? = some (.cells #[.int .i64 ((rd_T38 l0_0 a1).f0), .int .i64 ((rd_T38 l0_0 a1).f1), .int .i64 ((rd_T38 l0_0 a1).f2), .int .i64 ((rd_T38 l0_0 a1).f3)] 38 (0, 0))) := ⟨(by rw [hw]; exact (by refine bm ?_; refine blk_far ?_ NB165_167.out _; refine bm ?_; refine blk_far ?_ NB165_167.out _; refine bm ?_; refine blk_far ?_ NB165_167.out _; refine bm ?_; refine blk_far ?_ NB165_167.out _; refine bm ?_; exact BK165.out))⟩; have n4_ : Aside0 (w88.heap[gb167]? = some (.cells #[.int .i64 ((rd_T38 l0_0 x34_2).f0), .int .i64 ((rd_T38 l0_0 x34_2).f1), .int .i64 ((rd_T38 l0_0 x34_2).f2), .int .i64 ((rd_T38 l0_0 x34_2).f3)] 38 (0, 0))) := ⟨(by rw [hw]; exact (by refine bm ?_; refine blk_put (cs := #[.int .i64 ((rd_T38 l0_0 x34_2).f0), .int .i64 ((rd_T38 l0_0 x34_2).f1), .int .i64 ((rd_T38 l0_0 x34_2).f2), .int .i64 0]) ?_ 3 _ rfl; refine bm ?_; refine blk_put (cs := #[.int .i64 ((rd_T38 l0_0 x34_2).f0), .int .i64 ((rd_T38 l0_0 x34_2).f1), .int .i64 0, .int .i64 0]) ?_ 2 _ rfl; refine bm ?_; refine blk_put (cs := #[.int .i64 ((rd_T38 l0_0 x34_2).f0), .int .i64 0, .int .i64 0, .int .i64 0]) ?_ 1 _ rfl; refine bm ?_; refine blk_put (cs := #[.int .i64 0, .int .i64 0, .int .i64 0, .int .i64 0]) ?_ 0 _ rfl; refine bm ?_; exact BK167.out))⟩; have n5_ : Aside0 (Below w.heap.size w w88) := ⟨(by rw [hw]; exact bb)⟩; clear hw; clear HO_5; clear HO_6; clear BK157; clear BK165; clear BK167; clear HB; have HO_5 := n0_; have HO_6 := n1_; have BK157 := n2_; have BK165 := n3_; have BK167 := n4_; have HB := n5_; clear n0_ n1_ n2_ n3_ n4_ n5_; obtain ⟨hcz89_0, hcz89_1, hcz89_2, hcz89_3, hfz89_0, hfz89_1, hfz89_2, hfz89_3⟩ := bo4 BK167) | ((with_reducible refine gate_callee (f := 21) rfl ?_); refine gl (some 41) Try.func21 #[.int .i64 ((rd_T38 l0_0 x34_2).f2)] ?_; (with_reducible refine (shape_plain.calls ((rd_T38 l0_0 x34_2).f2) true _ A29.out).mono ?_); rintro e w' ⟨rfl, ⟨nd, rfl⟩⟩; refine ⟨_, rfl, ?_⟩; have hnb90 := NB165_157.out; have hnc90 := NB157_165.out; obtain ⟨hcz91_0, hcz91_1, hcz91_2, hcz91_3, hfz91_0, hfz91_1, hfz91_2, hfz91_3⟩ := bo4 BK165; obtain ⟨Ao92, co92, eo92⟩ := Kd.S_slice HO_6.out; subst eo92; have p176 : 0 ≤ (a1 : Int) := od; have q176 : a1 < (t161.length : Int) := od; obtain ⟨ad176, A176_0, c176_0, e176, hx176_0, hl176_0, hi176_0⟩ := at_L3 (Kd.S_reads' HO_6.out).2.2 a1 p176 q176; cases e176; obtain ⟨ce176, hce176, hMe176, hcc176⟩ := Kd.S_get HO_6.out [] a1 p176 (by first | exact q176 | exact od | (have e_ := (Kd.S_reads' HO_6.out).1; omega)); obtain ⟨ve176_0, rfl, ge176_0⟩ := hMe176; have hv176_0 := hcc176 0 _ rfl; rw [Nat.add_zero, show ((Kd.slice 4 Kd.bool)).sz = 1 from rfl, Nat.mul_one] at hv176_0; replace hv176_0 := Option.some.inj (hv176_0.symm.trans hx176_0); rw [hv176_0] at ge176_0; have HL176_0 := Aside0.mk (show Kd.R Kd.bool 4 _ _ _ _ (rd_L3 t161 a1) from ge176_0); clear hv176_0 ge176_0; clear hcc176 hce176; have HR176_0 := Aside0.mk hi176_0; have HC176_0 := Aside0.mk hl176_0; clear hi176_0 hl176_0; replace p176 := eq_true p176; replace q176 := eq_true q176; have p177 : 0 ≤ (x34_2 : Int) := od; have q177 : x34_2 < ((rd_L3 t161 a1).length : Int) := od; obtain ⟨ad177, e177, hx177_0⟩ := Kd.at_bool (by repeat (first | (with_reducible exact HR176_0.out) | (with_reducible refine Kd.C_alloc ?_ _) | (with_reducible refine Kd.C_drewN ?_ _) | (with_reducible refine Kd.C_drew ?_) | exact HR176_0.out)) x34_2 p177 q177; (try rw [← Nbq82.out] at hx177_0); cases e177; replace p177 := eq_true p177; replace q177 := eq_true q177))
      go_roundg k2
      case measure => have := HJ2.out; have := HK2.out; omega
      case rel => exact ⟨(x5_2), (wrap64 (x34_2 + 1)), rs, H', ⟨by have := HJ2.out; have := HK2.out; omega⟩, ⟨by refine rm ?_; exact HO_5.out⟩, ⟨by refine sm ?_; exact HO_6.out⟩, ⟨bk BK157⟩, ⟨bk BK165⟩, ⟨bb⟩⟩
     replace c83 := Bool.eq_false_iff.mpr c83
     subst c83
     have H1 : (if x34_2 < (t161.length : Int) then (if a1 < ((rd_L3 t161 x34_2).length : Int) then (if (rdOf false (rd_L3 t161 x34_2) a1 = true) then (shape_Rivals.l0 k2 a1 x5_2 t161 l0_0 (l0_0.length : Int) (wrap64 (x34_2 + 1)) ((rd_T38 l0_0 a1).f0) ((rd_T38 l0_0 a1).f1) ((rd_T38 l0_0 a1).f2) ((rd_T38 l0_0 a1).f3)) else (if x5_2.length < 17592186044416 then (shape_Rivals.l0 k2 a1 (x5_2 ++ [x34_2]) t161 l0_0 (l0_0.length : Int) (wrap64 (x34_2 + 1)) ((rd_T38 l0_0 a1).f0) ((rd_T38 l0_0 a1).f1) ((rd_T38 l0_0 a1).f2) ((rd_T38 l0_0 a1).f3)) else (none))) else (none)) else (none)) = some r := by rw [if_neg (show ¬ (false = true) by decide)] at H; exact H
     clear H
     have H := H1
     clear H1
     by_cases c93 : x34_2 < (t161.length : Int)
     rotate_left
     ·
      rw [if_neg c93] at H
      exact absurd H (by simp)
     rw [if_pos c93] at H
     have c93b0 : decide (x34_2 < (t161.length : Int)) = true := decide_eq_true c93
     clear c93
     by_cases c94 : a1 < ((rd_L3 t161 x34_2).length : Int)
     rotate_left
     ·
      rw [if_neg c94] at H
      exact absurd H (by simp)
     rw [if_pos c94] at H
     have c94b0 : decide (a1 < ((rd_L3 t161 x34_2).length : Int)) = true := decide_eq_true c94
     clear c94
     obtain ⟨bq95, hbq95⟩ : ∃ b_ : Bool, b_ = (rdOf false (rd_L3 t161 x34_2) a1) := ⟨_, rfl⟩
     replace H : (if (bq95 = true) then (shape_Rivals.l0 k2 a1 x5_2 t161 l0_0 (l0_0.length : Int) (wrap64 (x34_2 + 1)) ((rd_T38 l0_0 a1).f0) ((rd_T38 l0_0 a1).f1) ((rd_T38 l0_0 a1).f2) ((rd_T38 l0_0 a1).f3)) else (if x5_2.length < 17592186044416 then (shape_Rivals.l0 k2 a1 (x5_2 ++ [x34_2]) t161 l0_0 (l0_0.length : Int) (wrap64 (x34_2 + 1)) ((rd_T38 l0_0 a1).f0) ((rd_T38 l0_0 a1).f1) ((rd_T38 l0_0 a1).f2) ((rd_T38 l0_0 a1).f3)) else (none))) = some r := by rw [← hbq95] at H; exact H
     have Nbq95 := Aside0.mk hbq95
     clear hbq95
     by_cases c96 : (bq95 = true)
     ·
      subst c96
      have H1 : (shape_Rivals.l0 k2 a1 x5_2 t161 l0_0 (l0_0.length : Int) (wrap64 (x34_2 + 1)) ((rd_T38 l0_0 a1).f0) ((rd_T38 l0_0 a1).f1) ((rd_T38 l0_0 a1).f2) ((rd_T38 l0_0 a1).f3)) = some r := by rw [if_pos rfl] at H; exact H
      clear H
      have H := H1
      clear H1
      have H' := Aside0.mk H
      clear H
      have p166 : 0 ≤ (x34_2 : Int) := od
      have q166 : x34_2 < (l0_0.length : Int) := od
      obtain ⟨ad166, e166, hx166_0, hx166_1, hx166_2, hx166_3⟩ := at_T38 HR0_0.out x34_2 p166 q166
      obtain rfl : ad164 = ad166 := (by injection e166)
      replace hx166_0 := bl HB hx166_0
      replace hx166_1 := bl HB hx166_1
      replace hx166_2 := bl HB hx166_2
      replace hx166_3 := bl HB hx166_3
      replace p166 := eq_true p166
      replace q166 := eq_true q166
      go_wp2_with (first | ((with_reducible refine gate_dst (N := 9) rfl ?_); refine bx 9 #[.int .i64 0, .int .i64 0, .int .i64 0, .int .i64 0] 38 ?_; intro gb167 hg w97 hbox hb; replace HO_5 := Aside0.mk (Kd.R_below (rk HO_5) hb); replace HO_6 := Aside0.mk (Kd.S_below (sk HO_6) hb); have BK167 := Aside0.mk (hbox); have GW167 := Aside0.mk ((bz hg : w.heap.size ≤ gb167)); have GE167 := Aside0.mk ((bz hg : w.heap.size ≤ gb167)); replace HB := Aside0.mk (below_step bb hb); have NB157_167 := Aside0.mk (nl BK157 hg); have NB167_157 := Aside0.mk (ng BK157 hg); replace BK157 := Aside0.mk (bw BK157 hb); have NB165_167 := Aside0.mk (nl BK165 hg); have NB167_165 := Aside0.mk (ng BK165 hg); replace BK165 := Aside0.mk (bw BK165 hb); clear hb hbox hg; have hnb98 := NB167_157.out; have hnc98 := NB157_167.out; have hnb99 := NB167_165.out; have hnc99 := NB165_167.out; obtain ⟨hcz100_0, hcz100_1, hcz100_2, hcz100_3, hfz100_0, hfz100_1, hfz100_2, hfz100_3⟩ := bo4 BK167) | ((with_reducible refine gate_store (t := 38) (p := 9) rfl ?_); refine store_event (t := 38) (p := 9) (v := ?vo_w101) (w1 := ((((w97.setCell ⟨gb167, 0, none⟩ (.int .i64 ((rd_T38 l0_0 x34_2).f0))).setCell ⟨gb167, 1, none⟩ (.int .i64 ((rd_T38 l0_0 x34_2).f1))).setCell ⟨gb167, 2, none⟩ (.int .i64 ((rd_T38 l0_0 x34_2).f2))).setCell ⟨gb167, 3, none⟩ (.int .i64 ((rd_T38 l0_0 x34_2).f3)))) ?hg ?ho ?hn ?hr ?_; (case ho => rfl); (case hg => rfl); (case hn => rfl); (case hr => first | (go_simp; done) | (go_simp; rfl)); intro w101 hw; have n0_ : Aside0 (Kd.R (Kd.int .i64) 3 w101 w.heap.size (fun _ => True) u5 x5_2) := ⟨(by rw [hw]; exact (rm (Kd.R_mono (Kd.R_far (p := ⟨gb167, 3, none⟩) (Kd.R_far (p := ⟨gb167, 2, none⟩) (Kd.R_far (p := ⟨gb167, 1, none⟩) (Kd.R_far (p := ⟨gb167, 0, none⟩) (Kd.R_types HO_5.out BK167.out (by decide)) (fun _ hk => hk.2) (.int .i64 ((rd_T38 l0_0 x34_2).f0))) (fun _ hk => hk.2) (.int .i64 ((rd_T38 l0_0 x34_2).f1))) (fun _ hk => hk.2) (.int .i64 ((rd_T38 l0_0 x34_2).f2))) (fun _ hk => hk.2) (.int .i64 ((rd_T38 l0_0 x34_2).f3))) (fun _ hk => trivial))))⟩; have n1_ : Aside0 (Kd.S (Kd.slice 4 Kd.bool) 33 w101 w.heap.size (fun _ => True) v162 t161) := ⟨(by rw [hw]; exact (sm (Kd.S_mono (Kd.S_far (p := ⟨gb167, 3, none⟩) (Kd.S_far (p := ⟨gb167, 2, none⟩) (Kd.S_far (p := ⟨gb167, 1, none⟩) (Kd.S_far (p := ⟨gb167, 0, none⟩) (Kd.S_types HO_6.out BK167.out (by decide)) (fun _ hk => hk.2) (.int .i64 ((rd_T38 l0_0 x34_2).f0))) (fun _ hk => hk.2) (.int .i64 ((rd_T38 l0_0 x34_2).f1))) (fun _ hk => hk.2) (.int .i64 ((rd_T38 l0_0 x34_2).f2))) (fun _ hk => hk.2) (.int .i64 ((rd_T38 l0_0 x34_2).f3))) (fun _ hk => trivial))))⟩; have n2_ : Aside0 (w101.heap[gb157]? = some (.cells #[.slice (some ad164) l0_0.length c0_0, .slice A0_1 l0_1.length c0_1] 25 (0, 0))) := ⟨(by rw [hw]; exact (by refine bm ?_; refine blk_far ?_ NB157_167.out _; refine bm ?_; refine blk_far ?_ NB157_167.out _; refine bm ?_; refine blk_far ?_ NB157_167.out _; refine bm ?_; refine blk_far ?_ NB157_167.out _; refine bm ?_; exact BK157.out))⟩; have n3_ : Aside0 (w101.heap[gb165]? = some (.cells #[.int .i64 ((rd_T38 l0_0 a1).f0), .int .i64 ((rd_T38 l0_0 a1).f1), .int .i64 ((rd_T38 l0_0 a1).f2), .int .i64 ((rd_T38 l0_0 a1).f3)] 38 (0, 0))) := ⟨(by rw [hw]; exact (by refine bm ?_; refine blk_far ?_ NB165_167.out _; refine bm ?_; refine blk_far ?_ NB165_167.out _; refine bm ?_; refine blk_far ?_ NB165_167.out _; refine bm ?_; refine blk_far ?_ NB165_167.out _; refine bm ?_; exact BK165.out))⟩; have n4_ : Aside0 (w101.heap[gb167]? = some (.cells #[.int .i64 ((rd_T38 l0_0 x34_2).f0), .int .i64 ((rd_T38 l0_0 x34_2).f1), .int .i64 ((rd_T38 l0_0 x34_2).f2), .int .i64 ((rd_T38 l0_0 x34_2).f3)] 38 (0, 0))) := ⟨(by rw [hw]; exact (by refine bm ?_; refine blk_put (cs := #[.int .i64 ((rd_T38 l0_0 x34_2).f0), .int .i64 ((rd_T38 l0_0 x34_2).f1), .int .i64 ((rd_T38 l0_0 x34_2).f2), .int .i64 0]) ?_ 3 _ rfl; refine bm ?_; refine blk_put (cs := #[.int .i64 ((rd_T38 l0_0 x34_2).f0), .int .i64 ((rd_T38 l0_0 x34_2).f1), .int .i64 0, .int .i64 0]) ?_ 2 _ rfl; refine bm ?_; refine blk_put (cs := #[.int .i64 ((rd_T38 l0_0 x34_2).f0), .int .i64 0, .int .i64 0, .int .i64 0]) ?_ 1 _ rfl; refine bm ?_; refine blk_put (cs := #[.int .i64 0, .int .i64 0, .int .i64 0, .int .i64 0]) ?_ 0 _ rfl; refine bm ?_; exact BK167.out))⟩; have n5_ : Aside0 (Below w.heap.size w w101) := ⟨(by rw [hw]; exact bb)⟩; clear hw; clear HO_5; clear HO_6; clear BK157; clear BK165; clear BK167; clear HB; have HO_5 := n0_; have HO_6 := n1_; have BK157 := n2_; have BK165 := n3_; have BK167 := n4_; have HB := n5_; clear n0_ n1_ n2_ n3_ n4_ n5_; obtain ⟨hcz102_0, hcz102_1, hcz102_2, hcz102_3, hfz102_0, hfz102_1, hfz102_2, hfz102_3⟩ := bo4 BK167) | ((with_reducible refine gate_callee (f := 21) rfl ?_); refine gl (some 41) Try.func21 #[.int .i64 ((rd_T38 l0_0 x34_2).f2)] ?_; (with_reducible refine (shape_plain.calls ((rd_T38 l0_0 x34_2).f2) true _ A29.out).mono ?_); rintro e w' ⟨rfl, ⟨nd, rfl⟩⟩; refine ⟨_, rfl, ?_⟩; have hnb103 := NB165_157.out; have hnc103 := NB157_165.out; obtain ⟨hcz104_0, hcz104_1, hcz104_2, hcz104_3, hfz104_0, hfz104_1, hfz104_2, hfz104_3⟩ := bo4 BK165; obtain ⟨Ao105, co105, eo105⟩ := Kd.S_slice HO_6.out; subst eo105; have p176 : 0 ≤ (a1 : Int) := od; have q176 : a1 < (t161.length : Int) := od; obtain ⟨ad176, A176_0, c176_0, e176, hx176_0, hl176_0, hi176_0⟩ := at_L3 (Kd.S_reads' HO_6.out).2.2 a1 p176 q176; cases e176; obtain ⟨ce176, hce176, hMe176, hcc176⟩ := Kd.S_get HO_6.out [] a1 p176 (by first | exact q176 | exact od | (have e_ := (Kd.S_reads' HO_6.out).1; omega)); obtain ⟨ve176_0, rfl, ge176_0⟩ := hMe176; have hv176_0 := hcc176 0 _ rfl; rw [Nat.add_zero, show ((Kd.slice 4 Kd.bool)).sz = 1 from rfl, Nat.mul_one] at hv176_0; replace hv176_0 := Option.some.inj (hv176_0.symm.trans hx176_0); rw [hv176_0] at ge176_0; have HL176_0 := Aside0.mk (show Kd.R Kd.bool 4 _ _ _ _ (rd_L3 t161 a1) from ge176_0); clear hv176_0 ge176_0; clear hcc176 hce176; have HR176_0 := Aside0.mk hi176_0; have HC176_0 := Aside0.mk hl176_0; clear hi176_0 hl176_0; replace p176 := eq_true p176; replace q176 := eq_true q176; have p177 : 0 ≤ (x34_2 : Int) := od; have q177 : x34_2 < ((rd_L3 t161 a1).length : Int) := od; obtain ⟨ad177, e177, hx177_0⟩ := Kd.at_bool (by repeat (first | (with_reducible exact HR176_0.out) | (with_reducible refine Kd.C_alloc ?_ _) | (with_reducible refine Kd.C_drewN ?_ _) | (with_reducible refine Kd.C_drew ?_) | exact HR176_0.out)) x34_2 p177 q177; (try rw [← Nbq82.out] at hx177_0); (try rw [← Nbq95.out] at hx177_0); cases e177; replace p177 := eq_true p177; replace q177 := eq_true q177; have p178 : 0 ≤ (x34_2 : Int) := od; have q178 : x34_2 < (t161.length : Int) := od; obtain ⟨ad178, A178_0, c178_0, e178, hx178_0, hl178_0, hi178_0⟩ := at_L3 (Kd.S_reads' HO_6.out).2.2 x34_2 p178 q178; obtain rfl : ad176 = ad178 := (by injection e178); obtain ⟨ce178, hce178, hMe178, hcc178⟩ := Kd.S_get HO_6.out [] x34_2 p178 (by first | exact q178 | exact od | (have e_ := (Kd.S_reads' HO_6.out).1; omega)); obtain ⟨ve178_0, rfl, ge178_0⟩ := hMe178; have hv178_0 := hcc178 0 _ rfl; rw [Nat.add_zero, show ((Kd.slice 4 Kd.bool)).sz = 1 from rfl, Nat.mul_one] at hv178_0; replace hv178_0 := Option.some.inj (hv178_0.symm.trans hx178_0); rw [hv178_0] at ge178_0; have HL178_0 := Aside0.mk (show Kd.R Kd.bool 4 _ _ _ _ (rd_L3 t161 x34_2) from ge178_0); clear hv178_0 ge178_0; clear hcc178 hce178; have HR178_0 := Aside0.mk hi178_0; have HC178_0 := Aside0.mk hl178_0; clear hi178_0 hl178_0; replace p178 := eq_true p178; replace q178 := eq_true q178; have p179 : 0 ≤ (a1 : Int) := od; have q179 : a1 < ((rd_L3 t161 x34_2).length : Int) := od; obtain ⟨ad179, e179, hx179_0⟩ := Kd.at_bool (by repeat (first | (with_reducible exact HR178_0.out) | (with_reducible refine Kd.C_alloc ?_ _) | (with_reducible refine Kd.C_drewN ?_ _) | (with_reducible refine Kd.C_drew ?_) | exact HR178_0.out)) a1 p179 q179; (try rw [← Nbq82.out] at hx179_0); (try rw [← Nbq95.out] at hx179_0); cases e179; replace p179 := eq_true p179; replace q179 := eq_true q179))
      go_roundg k2
      case measure => have := HJ2.out; have := HK2.out; omega
      case rel => exact ⟨(x5_2), (wrap64 (x34_2 + 1)), rs, H', ⟨by have := HJ2.out; have := HK2.out; omega⟩, ⟨by refine rm ?_; exact HO_5.out⟩, ⟨by refine sm ?_; exact HO_6.out⟩, ⟨bk BK157⟩, ⟨bk BK165⟩, ⟨bb⟩⟩
     replace c96 := Bool.eq_false_iff.mpr c96
     subst c96
     have H1 : (if x5_2.length < 17592186044416 then (shape_Rivals.l0 k2 a1 (x5_2 ++ [x34_2]) t161 l0_0 (l0_0.length : Int) (wrap64 (x34_2 + 1)) ((rd_T38 l0_0 a1).f0) ((rd_T38 l0_0 a1).f1) ((rd_T38 l0_0 a1).f2) ((rd_T38 l0_0 a1).f3)) else (none)) = some r := by rw [if_neg (show ¬ (false = true) by decide)] at H; exact H
     clear H
     have H := H1
     clear H1
     by_cases c106 : x5_2.length < 17592186044416
     rotate_left
     ·
      rw [if_neg c106] at H
      exact absurd H (by simp)
     rw [if_pos c106] at H
     have LMc106 := Aside0.mk c106
     clear c106
     obtain ⟨y180, hy180⟩ : ∃ y_ : List Int, y_ = (x5_2 ++ [x34_2]) := ⟨_, rfl⟩
     replace H : (shape_Rivals.l0 k2 a1 y180 t161 l0_0 (l0_0.length : Int) (wrap64 (x34_2 + 1)) ((rd_T38 l0_0 a1).f0) ((rd_T38 l0_0 a1).f1) ((rd_T38 l0_0 a1).f2) ((rd_T38 l0_0 a1).f3)) = some r := by first | (rw [hy180]; with_reducible exact H) | (have H2_ := (Option.bind_some _ _).symm.trans H; rw [hy180]; with_reducible exact H2_) | (have H2_ := (Option.bind_some _ _).symm.trans H; with_reducible exact H2_) | with_reducible exact H | (rw [hy180]; exact H) | exact H
     have Ny180 := Aside0.mk hy180
     clear hy180
     have H' := Aside0.mk H
     clear H
     have p166 : 0 ≤ (x34_2 : Int) := od
     have q166 : x34_2 < (l0_0.length : Int) := od
     obtain ⟨ad166, e166, hx166_0, hx166_1, hx166_2, hx166_3⟩ := at_T38 HR0_0.out x34_2 p166 q166
     obtain rfl : ad164 = ad166 := (by injection e166)
     replace hx166_0 := bl HB hx166_0
     replace hx166_1 := bl HB hx166_1
     replace hx166_2 := bl HB hx166_2
     replace hx166_3 := bl HB hx166_3
     replace p166 := eq_true p166
     replace q166 := eq_true q166
     go_wp2_with (first | ((with_reducible refine gate_dst (N := 9) rfl ?_); refine bx 9 #[.int .i64 0, .int .i64 0, .int .i64 0, .int .i64 0] 38 ?_; intro gb167 hg w107 hbox hb; replace HO_5 := Aside0.mk (Kd.R_below (rk HO_5) hb); replace HO_6 := Aside0.mk (Kd.S_below (sk HO_6) hb); have BK167 := Aside0.mk (hbox); have GW167 := Aside0.mk ((bz hg : w.heap.size ≤ gb167)); have GE167 := Aside0.mk ((bz hg : w.heap.size ≤ gb167)); replace HB := Aside0.mk (below_step bb hb); have NB157_167 := Aside0.mk (nl BK157 hg); have NB167_157 := Aside0.mk (ng BK157 hg); replace BK157 := Aside0.mk (bw BK157 hb); have NB165_167 := Aside0.mk (nl BK165 hg); have NB167_165 := Aside0.mk (ng BK165 hg); replace BK165 := Aside0.mk (bw BK165 hb); clear hb hbox hg; have hnb108 := NB167_157.out; have hnc108 := NB157_167.out; have hnb109 := NB167_165.out; have hnc109 := NB165_167.out; obtain ⟨hcz110_0, hcz110_1, hcz110_2, hcz110_3, hfz110_0, hfz110_1, hfz110_2, hfz110_3⟩ := bo4 BK167) | ((with_reducible refine gate_store (t := 38) (p := 9) rfl ?_); refine store_event (t := 38) (p := 9) (v := ?vo_w111) (w1 := ((((w107.setCell ⟨gb167, 0, none⟩ (.int .i64 ((rd_T38 l0_0 x34_2).f0))).setCell ⟨gb167, 1, none⟩ (.int .i64 ((rd_T38 l0_0 x34_2).f1))).setCell ⟨gb167, 2, none⟩ (.int .i64 ((rd_T38 l0_0 x34_2).f2))).setCell ⟨gb167, 3, none⟩ (.int .i64 ((rd_T38 l0_0 x34_2).f3)))) ?hg ?ho ?hn ?hr ?_; (case ho => rfl); (case hg => rfl); (case hn => rfl); (case hr => first | (go_simp; done) | (go_simp; rfl)); intro w111 hw; have n0_ : Aside0 (Kd.R (Kd.int .i64) 3 w111 w.heap.size (fun _ => True) u5 x5_2) := ⟨(by rw [hw]; exact (rm (Kd.R_mono (Kd.R_far (p := ⟨gb167, 3, none⟩) (Kd.R_far (p := ⟨gb167, 2, none⟩) (Kd.R_far (p := ⟨gb167, 1, none⟩) (Kd.R_far (p := ⟨gb167, 0, none⟩) (Kd.R_types HO_5.out BK167.out (by decide)) (fun _ hk => hk.2) (.int .i64 ((rd_T38 l0_0 x34_2).f0))) (fun _ hk => hk.2) (.int .i64 ((rd_T38 l0_0 x34_2).f1))) (fun _ hk => hk.2) (.int .i64 ((rd_T38 l0_0 x34_2).f2))) (fun _ hk => hk.2) (.int .i64 ((rd_T38 l0_0 x34_2).f3))) (fun _ hk => trivial))))⟩; have n1_ : Aside0 (Kd.S (Kd.slice 4 Kd.bool) 33 w111 w.heap.size (fun _ => True) v162 t161) := ⟨(by rw [hw]; exact (sm (Kd.S_mono (Kd.S_far (p := ⟨gb167, 3, none⟩) (Kd.S_far (p := ⟨gb167, 2, none⟩) (Kd.S_far (p := ⟨gb167, 1, none⟩) (Kd.S_far (p := ⟨gb167, 0, none⟩) (Kd.S_types HO_6.out BK167.out (by decide)) (fun _ hk => hk.2) (.int .i64 ((rd_T38 l0_0 x34_2).f0))) (fun _ hk => hk.2) (.int .i64 ((rd_T38 l0_0 x34_2).f1))) (fun _ hk => hk.2) (.int .i64 ((rd_T38 l0_0 x34_2).f2))) (fun _ hk => hk.2) (.int .i64 ((rd_T38 l0_0 x34_2).f3))) (fun _ hk => trivial))))⟩; have n2_ : Aside0 (w111.heap[gb157]? = some (.cells #[.slice (some ad164) l0_0.length c0_0, .slice A0_1 l0_1.length c0_1] 25 (0, 0))) := ⟨(by rw [hw]; exact (by refine bm ?_; refine blk_far ?_ NB157_167.out _; refine bm ?_; refine blk_far ?_ NB157_167.out _; refine bm ?_; refine blk_far ?_ NB157_167.out _; refine bm ?_; refine blk_far ?_ NB157_167.out _; refine bm ?_; exact BK157.out))⟩; have n3_ : Aside0 (w111.heap[gb165]? = some (.cells #[.int .i64 ((rd_T38 l0_0 a1).f0), .int .i64 ((rd_T38 l0_0 a1).f1), .int .i64 ((rd_T38 l0_0 a1).f2), .int .i64 ((rd_T38 l0_0 a1).f3)] 38 (0, 0))) := ⟨(by rw [hw]; exact (by refine bm ?_; refine blk_far ?_ NB165_167.out _; refine bm ?_; refine blk_far ?_ NB165_167.out _; refine bm ?_; refine blk_far ?_ NB165_167.out _; refine bm ?_; refine blk_far ?_ NB165_167.out _; refine bm ?_; exact BK165.out))⟩; have n4_ : Aside0 (w111.heap[gb167]? = some (.cells #[.int .i64 ((rd_T38 l0_0 x34_2).f0), .int .i64 ((rd_T38 l0_0 x34_2).f1), .int .i64 ((rd_T38 l0_0 x34_2).f2), .int .i64 ((rd_T38 l0_0 x34_2).f3)] 38 (0, 0))) := ⟨(by rw [hw]; exact (by refine bm ?_; refine blk_put (cs := #[.int .i64 ((rd_T38 l0_0 x34_2).f0), .int .i64 ((rd_T38 l0_0 x34_2).f1), .int .i64 ((rd_T38 l0_0 x34_2).f2), .int .i64 0]) ?_ 3 _ rfl; refine bm ?_; refine blk_put (cs := #[.int .i64 ((rd_T38 l0_0 x34_2).f0), .int .i64 ((rd_T38 l0_0 x34_2).f1), .int .i64 0, .int .i64 0]) ?_ 2 _ rfl; refine bm ?_; refine blk_put (cs := #[.int .i64 ((rd_T38 l0_0 x34_2).f0), .int .i64 0, .int .i64 0, .int .i64 0]) ?_ 1 _ rfl; refine bm ?_; refine blk_put (cs := #[.int .i64 0, .int .i64 0, .int .i64 0, .int .i64 0]) ?_ 0 _ rfl; refine bm ?_; exact BK167.out))⟩; have n5_ : Aside0 (Below w.heap.size w w111) := ⟨(by rw [hw]; exact bb)⟩; clear hw; clear HO_5; clear HO_6; clear BK157; clear BK165; clear BK167; clear HB; have HO_5 := n0_; have HO_6 := n1_; have BK157 := n2_; have BK165 := n3_; have BK167 := n4_; have HB := n5_; clear n0_ n1_ n2_ n3_ n4_ n5_; obtain ⟨hcz112_0, hcz112_1, hcz112_2, hcz112_3, hfz112_0, hfz112_1, hfz112_2, hfz112_3⟩ := bo4 BK167) | ((with_reducible refine gate_callee (f := 21) rfl ?_); refine gl (some 41) Try.func21 #[.int .i64 ((rd_T38 l0_0 x34_2).f2)] ?_; (with_reducible refine (shape_plain.calls ((rd_T38 l0_0 x34_2).f2) true _ A29.out).mono ?_); rintro e w' ⟨rfl, ⟨nd, rfl⟩⟩; refine ⟨_, rfl, ?_⟩; have hnb113 := NB165_157.out; have hnc113 := NB157_165.out; obtain ⟨hcz114_0, hcz114_1, hcz114_2, hcz114_3, hfz114_0, hfz114_1, hfz114_2, hfz114_3⟩ := bo4 BK165; obtain ⟨Ao115, co115, eo115⟩ := Kd.S_slice HO_6.out; subst eo115; have p176 : 0 ≤ (a1 : Int) := od; have q176 : a1 < (t161.length : Int) := od; obtain ⟨ad176, A176_0, c176_0, e176, hx176_0, hl176_0, hi176_0⟩ := at_L3 (Kd.S_reads' HO_6.out).2.2 a1 p176 q176; cases e176; obtain ⟨ce176, hce176, hMe176, hcc176⟩ := Kd.S_get HO_6.out [] a1 p176 (by first | exact q176 | exact od | (have e_ := (Kd.S_reads' HO_6.out).1; omega)); obtain ⟨ve176_0, rfl, ge176_0⟩ := hMe176; have hv176_0 := hcc176 0 _ rfl; rw [Nat.add_zero, show ((Kd.slice 4 Kd.bool)).sz = 1 from rfl, Nat.mul_one] at hv176_0; replace hv176_0 := Option.some.inj (hv176_0.symm.trans hx176_0); rw [hv176_0] at ge176_0; have HL176_0 := Aside0.mk (show Kd.R Kd.bool 4 _ _ _ _ (rd_L3 t161 a1) from ge176_0); clear hv176_0 ge176_0; clear hcc176 hce176; have HR176_0 := Aside0.mk hi176_0; have HC176_0 := Aside0.mk hl176_0; clear hi176_0 hl176_0; replace p176 := eq_true p176; replace q176 := eq_true q176; have p177 : 0 ≤ (x34_2 : Int) := od; have q177 : x34_2 < ((rd_L3 t161 a1).length : Int) := od; obtain ⟨ad177, e177, hx177_0⟩ := Kd.at_bool (by repeat (first | (with_reducible exact HR176_0.out) | (with_reducible refine Kd.C_alloc ?_ _) | (with_reducible refine Kd.C_drewN ?_ _) | (with_reducible refine Kd.C_drew ?_) | exact HR176_0.out)) x34_2 p177 q177; (try rw [← Nbq82.out] at hx177_0); (try rw [← Nbq95.out] at hx177_0); cases e177; replace p177 := eq_true p177; replace q177 := eq_true q177; have p178 : 0 ≤ (x34_2 : Int) := od; have q178 : x34_2 < (t161.length : Int) := od; obtain ⟨ad178, A178_0, c178_0, e178, hx178_0, hl178_0, hi178_0⟩ := at_L3 (Kd.S_reads' HO_6.out).2.2 x34_2 p178 q178; obtain rfl : ad176 = ad178 := (by injection e178); obtain ⟨ce178, hce178, hMe178, hcc178⟩ := Kd.S_get HO_6.out [] x34_2 p178 (by first | exact q178 | exact od | (have e_ := (Kd.S_reads' HO_6.out).1; omega)); obtain ⟨ve178_0, rfl, ge178_0⟩ := hMe178; have hv178_0 := hcc178 0 _ rfl; rw [Nat.add_zero, show ((Kd.slice 4 Kd.bool)).sz = 1 from rfl, Nat.mul_one] at hv178_0; replace hv178_0 := Option.some.inj (hv178_0.symm.trans hx178_0); rw [hv178_0] at ge178_0; have HL178_0 := Aside0.mk (show Kd.R Kd.bool 4 _ _ _ _ (rd_L3 t161 x34_2) from ge178_0); clear hv178_0 ge178_0; clear hcc178 hce178; have HR178_0 := Aside0.mk hi178_0; have HC178_0 := Aside0.mk hl178_0; clear hi178_0 hl178_0; replace p178 := eq_true p178; replace q178 := eq_true q178; have p179 : 0 ≤ (a1 : Int) := od; have q179 : a1 < ((rd_L3 t161 x34_2).length : Int) := od; obtain ⟨ad179, e179, hx179_0⟩ := Kd.at_bool (by repeat (first | (with_reducible exact HR178_0.out) | (with_reducible refine Kd.C_alloc ?_ _) | (with_reducible refine Kd.C_drewN ?_ _) | (with_reducible refine Kd.C_drew ?_) | exact HR178_0.out)) a1 p179 q179; (try rw [← Nbq82.out] at hx179_0); (try rw [← Nbq95.out] at hx179_0); cases e179; replace p179 := eq_true p179; replace q179 := eq_true q179) | ((with_reducible refine gate_builtin (b := .append) (xs := #[.tmp 86, .tmp 88]) rfl ?_); at_builtin; refine Kd.R_append (Kd.int .i64) (w0 := w) w.heap.size rfl (.tmp 86) (.tmp 88) 23 3 (.int .i64 0) 8 rfl Try.underlying23 info3 rfl (by decide) (by omega) u5 x5_2 x34_2 [.int .i64 x34_2] (fun _ => True) (fun _ => False) rfl rfl ?aP (fun _ hk => hk.elim) ?aF ?aO ?aB ?aS ?aL ?_; (case aP => exact rfl); (case aB => exact bb); (case aF => exact (fun _ _ => trivial)); (case aO => exact (rk HO_5)); (case aS => exact (below_size bb)); (case aL => have := LMc106.out; omega); intro v181 w116 ho hb hg hat; rw [← Ny180.out] at ho; replace HO_6 := Aside0.mk (Kd.S_over' (sk HO_6) (Kd.R_typed (rk HO_5)) (by decide) hg); replace BK157 := Aside0.mk (blk_grown (g := gb157) (o := .cells #[.slice (some ad164) l0_0.length c0_0, .slice A0_1 l0_1.length c0_1] 25 (0, 0)) (bk BK157) hg (Kd.R_ne HO_5.out BK157.out (by decide))); replace BK165 := Aside0.mk (blk_grown (g := gb165) (o := .cells #[.int .i64 ((rd_T38 l0_0 a1).f0), .int .i64 ((rd_T38 l0_0 a1).f1), .int .i64 ((rd_T38 l0_0 a1).f2), .int .i64 ((rd_T38 l0_0 a1).f3)] 38 (0, 0)) (bk BK165) hg (Kd.R_ne HO_5.out BK165.out (by decide))); replace BK167 := Aside0.mk (blk_grown (g := gb167) (o := .cells #[.int .i64 ((rd_T38 l0_0 x34_2).f0), .int .i64 ((rd_T38 l0_0 x34_2).f1), .int .i64 ((rd_T38 l0_0 x34_2).f2), .int .i64 ((rd_T38 l0_0 x34_2).f3)] 38 (0, 0)) (bk BK167) hg (Kd.R_ne HO_5.out BK167.out (by decide))); replace HL176_0 := Aside0.mk (Kd.R_over' (rm (HL176_0.out)) (Kd.R_typed (rk HO_5)) (by decide) hg); replace HL178_0 := Aside0.mk (Kd.R_over' (rm (HL178_0.out)) (Kd.R_typed (rk HO_5)) (by decide) hg); replace HB := Aside0.mk (hb); have HO182 := Aside0.mk (ho); clear HO_5; clear ho hb hg hat))
     go_roundg k2
     case measure => have := HJ2.out; have := HK2.out; omega
     case rel => exact ⟨(y180), (wrap64 (x34_2 + 1)), rs, H', ⟨by have := HJ2.out; have := HK2.out; omega⟩, ⟨by refine rm ?_; exact HO182.out⟩, ⟨by refine sm ?_; exact HO_6.out⟩, ⟨bk BK157⟩, ⟨bk BK165⟩, ⟨bb⟩⟩

-- NOT PRINTED: function 22 (api_Event)

end Go.Proofs.Ytcoelecaigkfcaa.K
