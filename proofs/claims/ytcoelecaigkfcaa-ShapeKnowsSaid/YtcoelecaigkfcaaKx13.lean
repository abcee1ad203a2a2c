-- Laid by drive.py (a program of the session's) out of the translation. Lean checks it.
import Derived.Test.YtcoelecaigkfcaaKx0
import Derived.Test.YtcoelecaigkfcaaKx1
import Derived.Test.YtcoelecaigkfcaaKx6
import Derived.Test.YtcoelecaigkfcaaKx7
import Derived.Test.YtcoelecaigkfcaaKx8
import Derived.Test.YtcoelecaigkfcaaKx9
import Derived.Test.YtcoelecaigkfcaaKx10
import Derived.Test.YtcoelecaigkfcaaKx11
import Derived.Test.YtcoelecaigkfcaaKx12
namespace Go.Proofs.Ytcoelecaigkfcaa.K
open Go.RowKit Go.Proofs.YtcoelecaigkfcaaW.PrintWords Go.Proofs.YtcoelecaigkfcaaW.PrintLast
set_option linter.unusedVariables false
set_option linter.unusedSimpArgs false

/-! ### fathomlaw27_ShapeKnows: function 5 -/
mutual
def fathomlaw27_ShapeKnows.j0 : Nat → Int → Bool → List (S38) → List Int → Option (Bool)
  | 0, _, _, _, _ => none
  | k + 1, x1, x27, x239000, x239001 => if x27 = true then ((fathomlaw27_awake.f k).bind fun t240 => (some t240)) else ((shape_Ahead.f k x239000 x239001).bind fun t241 => (if (t241.length : Int) = (x239000.length : Int) then (fathomlaw27_ShapeKnows.l0 k x1 t241 0 x239000 x239001) else (some false)))
def fathomlaw27_ShapeKnows.l0 : Nat → Int → List (List Bool) → Int → List (S38) → List Int → Option (Bool)
  | 0, _, _, _, _, _ => none
  | k + 1, x1, x5, x6, x239000, x239001 => if x6 < (x5.length : Int) then (if 0 ≤ x6 then (if ((rd_L3 x5 x6).length : Int) = (x5.length : Int) then (fathomlaw27_ShapeKnows.l1 k x1 x5 x6 0 x239000 x239001) else (some false)) else (none)) else ((shape_Sources.f k x239000 x239001 x1).bind fun t248 => ((shape_Rivals.f k x239000 x239001 x1).bind fun t251 => (fathomlaw27_ShapeKnows.l2 k x1 t248 t251 (([] : List Int)) (([] : List Int)) 0 x239000 x239001)))
def fathomlaw27_ShapeKnows.l1 : Nat → Int → List (List Bool) → Int → Int → List (S38) → List Int → Option (Bool)
  | 0, _, _, _, _, _, _ => none
  | k + 1, x1, x5, x6, x7, x239000, x239001 => if x7 < (x5.length : Int) then (if 0 ≤ x6 then (if x6 < (x5.length : Int) then (if 0 ≤ x7 then (if x7 < ((rd_L3 x5 x6).length : Int) then ((fathomref27_Ahead.f k x239000 x239001 x6 x7).bind fun t247 => (if ((rdOf false (rd_L3 x5 x6) x7) != t247) = true then (some false) else (fathomlaw27_ShapeKnows.l1 k x1 x5 x6 (wrap64 (x7 + 1)) x239000 x239001))) else (none)) else (none)) else (none)) else (none)) else (fathomlaw27_ShapeKnows.l0 k x1 x5 (wrap64 (x6 + 1)) x239000 x239001)
def fathomlaw27_ShapeKnows.l2 : Nat → Int → List Int → List Int → List Int → List Int → Int → List (S38) → List Int → Option (Bool)
  | 0, _, _, _, _, _, _, _, _ => none
  | k + 1, x1, x8, x9, x10, x11, x12, x239000, x239001 => if x12 < (x239000.length : Int) then (if x1 ≥ 0 then (fathomlaw27_ShapeKnows.j4 k x1 x8 x9 x10 x11 x12 (decide (x1 < (x239000.length : Int))) x239000 x239001) else (fathomlaw27_ShapeKnows.j4 k x1 x8 x9 x10 x11 x12 false x239000 x239001)) else (fathomlaw27_ShapeKnows.j4 k x1 x8 x9 x10 x11 x12 false x239000 x239001)
def fathomlaw27_ShapeKnows.j4 : Nat → Int → List Int → List Int → List Int → List Int → Int → Bool → List (S38) → List Int → Option (Bool)
  | 0, _, _, _, _, _, _, _, _, _ => none
  | k + 1, x1, x8, x9, x10, x11, x12, x92, x239000, x239001 => if x92 = true then ((fathomref27_Source.f k x239000 x239001 x1 x12).bind fun t263 => (if t263 = true then (if x10.length < 17592186044416 then ((some (x10 ++ [x12] : List Int)).bind fun y264 => ((fathomref27_Rival.f k x239000 x239001 x1 x12).bind fun t267 => (if t267 = true then (if x11.length < 17592186044416 then (fathomlaw27_ShapeKnows.l2 k x1 x8 x9 y264 (x11 ++ [x12]) (wrap64 (x12 + 1)) x239000 x239001) else (none)) else (fathomlaw27_ShapeKnows.l2 k x1 x8 x9 y264 x11 (wrap64 (x12 + 1)) x239000 x239001)))) else (none)) else ((fathomref27_Rival.f k x239000 x239001 x1 x12).bind fun t271 => (if t271 = true then (if x11.length < 17592186044416 then (fathomlaw27_ShapeKnows.l2 k x1 x8 x9 x10 (x11 ++ [x12]) (wrap64 (x12 + 1)) x239000 x239001) else (none)) else (fathomlaw27_ShapeKnows.l2 k x1 x8 x9 x10 x11 (wrap64 (x12 + 1)) x239000 x239001))))) else ((fathomref01_Ints.f k x8 x10).bind fun t260 => (if t260 = true then ((fathomref01_Ints.f k x9 x11).bind fun t261 => (if t261 = true then ((fathomlaw27_awake.f k).bind fun t262 => (some t262)) else (some false))) else (some false)))
end
def fathomlaw27_ShapeKnows.f (k : Nat) (l0_0 : List (S38)) (l0_1 : List Int) (a1 : Int) : Option (Bool) := if (l0_0.length : Int) > 60 then (fathomlaw27_ShapeKnows.j0 k a1 true l0_0 l0_1) else (if (l0_1.length : Int) > 60 then (fathomlaw27_ShapeKnows.j0 k a1 true l0_0 l0_1) else ((fathomref27_May.f k l0_0 l0_1).bind fun t239 => (fathomlaw27_ShapeKnows.j0 k a1 (!t239) l0_0 l0_1)))
theorem fathomlaw27_ShapeKnows.mono_l : ∀ k, (∀ y0 y1 y2 y3, LeO (fathomlaw27_ShapeKnows.j0 k y0 y1 y2 y3) (fathomlaw27_ShapeKnows.j0 (k + 1) y0 y1 y2 y3)) ∧ (∀ y0 y1 y2 y3 y4, LeO (fathomlaw27_ShapeKnows.l0 k y0 y1 y2 y3 y4) (fathomlaw27_ShapeKnows.l0 (k + 1) y0 y1 y2 y3 y4)) ∧ (∀ y0 y1 y2 y3 y4 y5, LeO (fathomlaw27_ShapeKnows.l1 k y0 y1 y2 y3 y4 y5) (fathomlaw27_ShapeKnows.l1 (k + 1) y0 y1 y2 y3 y4 y5)) ∧ (∀ y0 y1 y2 y3 y4 y5 y6 y7, LeO (fathomlaw27_ShapeKnows.l2 k y0 y1 y2 y3 y4 y5 y6 y7) (fathomlaw27_ShapeKnows.l2 (k + 1) y0 y1 y2 y3 y4 y5 y6 y7)) ∧ (∀ y0 y1 y2 y3 y4 y5 y6 y7 y8, LeO (fathomlaw27_ShapeKnows.j4 k y0 y1 y2 y3 y4 y5 y6 y7 y8) (fathomlaw27_ShapeKnows.j4 (k + 1) y0 y1 y2 y3 y4 y5 y6 y7 y8))
  | 0 => ⟨fun _ _ _ _ r h => by simp [fathomlaw27_ShapeKnows.j0] at h, fun _ _ _ _ _ r h => by simp [fathomlaw27_ShapeKnows.l0] at h, fun _ _ _ _ _ _ r h => by simp [fathomlaw27_ShapeKnows.l1] at h, fun _ _ _ _ _ _ _ _ r h => by simp [fathomlaw27_ShapeKnows.l2] at h, fun _ _ _ _ _ _ _ _ _ r h => by simp [fathomlaw27_ShapeKnows.j4] at h⟩
  | k + 1 => by
    obtain ⟨ih0, ih1, ih2, ih3, ih4⟩ := fathomlaw27_ShapeKnows.mono_l k
    refine ⟨?_, ?_, ?_, ?_, ?_⟩
    · intro y0 y1 y2 y3
      unfold fathomlaw27_ShapeKnows.j0
      repeat' first
      | (with_reducible exact ih0 _ _ _ _)
      | (with_reducible exact ih1 _ _ _ _ _)
      | (with_reducible exact ih2 _ _ _ _ _ _)
      | (with_reducible exact ih3 _ _ _ _ _ _ _ _)
      | (with_reducible exact ih4 _ _ _ _ _ _ _ _ _)
      | (with_reducible exact fathomlaw27_awake.mono _)
      | (with_reducible exact fathomref01_Ints.mono _ _ _)
      | (with_reducible exact fathomref27_Ahead.mono _ _ _ _ _)
      | (with_reducible exact fathomref27_May.mono _ _ _)
      | (with_reducible exact fathomref27_Rival.mono _ _ _ _ _)
      | (with_reducible exact fathomref27_Source.mono _ _ _ _ _)
      | (with_reducible exact shape_Ahead.mono _ _ _)
      | (with_reducible exact shape_Rivals.mono _ _ _ _)
      | (with_reducible exact shape_Sources.mono _ _ _ _)
      | (with_reducible exact LeO.refl _)
      | (with_reducible exact LeO.none _)
      | (with_reducible refine LeO.ite ?_ ?_)
      | (with_reducible refine LeO.bind ?_ (fun _ => ?_))
      | exact ih0 _ _ _ _
      | exact ih1 _ _ _ _ _
      | exact ih2 _ _ _ _ _ _
      | exact ih3 _ _ _ _ _ _ _ _
      | exact ih4 _ _ _ _ _ _ _ _ _
      | exact fathomlaw27_awake.mono _
      | exact fathomref01_Ints.mono _ _ _
      | exact fathomref27_Ahead.mono _ _ _ _ _
      | exact fathomref27_May.mono _ _ _
      | exact fathomref27_Rival.mono _ _ _ _ _
      | exact fathomref27_Source.mono _ _ _ _ _
      | exact shape_Ahead.mono _ _ _
      | exact shape_Rivals.mono _ _ _ _
      | exact shape_Sources.mono _ _ _ _
      | exact LeO.none _
      | refine LeO.ite ?_ ?_
      | refine LeO.bind ?_ (fun _ => ?_)
    · intro y0 y1 y2 y3 y4
      unfold fathomlaw27_ShapeKnows.l0
      repeat' first
      | (with_reducible exact ih0 _ _ _ _)
      | (with_reducible exact ih1 _ _ _ _ _)
      | (with_reducible exact ih2 _ _ _ _ _ _)
      | (with_reducible exact ih3 _ _ _ _ _ _ _ _)
      | (with_reducible exact ih4 _ _ _ _ _ _ _ _ _)
      | (with_reducible exact fathomlaw27_awake.mono _)
      | (with_reducible exact fathomref01_Ints.mono _ _ _)
      | (with_reducible exact fathomref27_Ahead.mono _ _ _ _ _)
      | (with_reducible exact fathomref27_May.mono _ _ _)
      | (with_reducible exact fathomref27_Rival.mono _ _ _ _ _)
      | (with_reducible exact fathomref27_Source.mono _ _ _ _ _)
      | (with_reducible exact shape_Ahead.mono _ _ _)
      | (with_reducible exact shape_Rivals.mono _ _ _ _)
      | (with_reducible exact shape_Sources.mono _ _ _ _)
      | (with_reducible exact LeO.refl _)
      | (with_reducible exact LeO.none _)
      | (with_reducible refine LeO.ite ?_ ?_)
      | (with_reducible refine LeO.bind ?_ (fun _ => ?_))
      | exact ih0 _ _ _ _
      | exact ih1 _ _ _ _ _
      | exact ih2 _ _ _ _ _ _
      | exact ih3 _ _ _ _ _ _ _ _
      | exact ih4 _ _ _ _ _ _ _ _ _
      | exact fathomlaw27_awake.mono _
      | exact fathomref01_Ints.mono _ _ _
      | exact fathomref27_Ahead.mono _ _ _ _ _
      | exact fathomref27_May.mono _ _ _
      | exact fathomref27_Rival.mono _ _ _ _ _
      | exact fathomref27_Source.mono _ _ _ _ _
      | exact shape_Ahead.mono _ _ _
      | exact shape_Rivals.mono _ _ _ _
      | exact shape_Sources.mono _ _ _ _
      | exact LeO.none _
      | refine LeO.ite ?_ ?_
      | refine LeO.bind ?_ (fun _ => ?_)
    · intro y0 y1 y2 y3 y4 y5
      unfold fathomlaw27_ShapeKnows.l1
      repeat' first
      | (with_reducible exact ih0 _ _ _ _)
      | (with_reducible exact ih1 _ _ _ _ _)
      | (with_reducible exact ih2 _ _ _ _ _ _)
      | (with_reducible exact ih3 _ _ _ _ _ _ _ _)
      | (with_reducible exact ih4 _ _ _ _ _ _ _ _ _)
      | (with_reducible exact fathomlaw27_awake.mono _)
      | (with_reducible exact fathomref01_Ints.mono _ _ _)
      | (with_reducible exact fathomref27_Ahead.mono _ _ _ _ _)
      | (with_reducible exact fathomref27_May.mono _ _ _)
      | (with_reducible exact fathomref27_Rival.mono _ _ _ _ _)
      | (with_reducible exact fathomref27_Source.mono _ _ _ _ _)
      | (with_reducible exact shape_Ahead.mono _ _ _)
      | (with_reducible exact shape_Rivals.mono _ _ _ _)
      | (with_reducible exact shape_Sources.mono _ _ _ _)
      | (with_reducible exact LeO.refl _)
      | (with_reducible exact LeO.none _)
      | (with_reducible refine LeO.ite ?_ ?_)
      | (with_reducible refine LeO.bind ?_ (fun _ => ?_))
      | exact ih0 _ _ _ _
      | exact ih1 _ _ _ _ _
      | exact ih2 _ _ _ _ _ _
      | exact ih3 _ _ _ _ _ _ _ _
      | exact ih4 _ _ _ _ _ _ _ _ _
      | exact fathomlaw27_awake.mono _
      | exact fathomref01_Ints.mono _ _ _
      | exact fathomref27_Ahead.mono _ _ _ _ _
      | exact fathomref27_May.mono _ _ _
      | exact fathomref27_Rival.mono _ _ _ _ _
      | exact fathomref27_Source.mono _ _ _ _ _
      | exact shape_Ahead.mono _ _ _
      | exact shape_Rivals.mono _ _ _ _
      | exact shape_Sources.mono _ _ _ _
      | exact LeO.none _
      | refine LeO.ite ?_ ?_
      | refine LeO.bind ?_ (fun _ => ?_)
    · intro y0 y1 y2 y3 y4 y5 y6 y7
      unfold fathomlaw27_ShapeKnows.l2
      repeat' first
      | (with_reducible exact ih0 _ _ _ _)
      | (with_reducible exact ih1 _ _ _ _ _)
      | (with_reducible exact ih2 _ _ _ _ _ _)
      | (with_reducible exact ih3 _ _ _ _ _ _ _ _)
      | (with_reducible exact ih4 _ _ _ _ _ _ _ _ _)
      | (with_reducible exact fathomlaw27_awake.mono _)
      | (with_reducible exact fathomref01_Ints.mono _ _ _)
      | (with_reducible exact fathomref27_Ahead.mono _ _ _ _ _)
      | (with_reducible exact fathomref27_May.mono _ _ _)
      | (with_reducible exact fathomref27_Rival.mono _ _ _ _ _)
      | (with_reducible exact fathomref27_Source.mono _ _ _ _ _)
      | (with_reducible exact shape_Ahead.mono _ _ _)
      | (with_reducible exact shape_Rivals.mono _ _ _ _)
      | (with_reducible exact shape_Sources.mono _ _ _ _)
      | (with_reducible exact LeO.refl _)
      | (with_reducible exact LeO.none _)
      | (with_reducible refine LeO.ite ?_ ?_)
      | (with_reducible refine LeO.bind ?_ (fun _ => ?_))
      | exact ih0 _ _ _ _
      | exact ih1 _ _ _ _ _
      | exact ih2 _ _ _ _ _ _
      | exact ih3 _ _ _ _ _ _ _ _
      | exact ih4 _ _ _ _ _ _ _ _ _
      | exact fathomlaw27_awake.mono _
      | exact fathomref01_Ints.mono _ _ _
      | exact fathomref27_Ahead.mono _ _ _ _ _
      | exact fathomref27_May.mono _ _ _
      | exact fathomref27_Rival.mono _ _ _ _ _
      | exact fathomref27_Source.mono _ _ _ _ _
      | exact shape_Ahead.mono _ _ _
      | exact shape_Rivals.mono _ _ _ _
      | exact shape_Sources.mono _ _ _ _
      | exact LeO.none _
      | refine LeO.ite ?_ ?_
      | refine LeO.bind ?_ (fun _ => ?_)
    · intro y0 y1 y2 y3 y4 y5 y6 y7 y8
      unfold fathomlaw27_ShapeKnows.j4
      repeat' first
      | (with_reducible exact ih0 _ _ _ _)
      | (with_reducible exact ih1 _ _ _ _ _)
      | (with_reducible exact ih2 _ _ _ _ _ _)
      | (with_reducible exact ih3 _ _ _ _ _ _ _ _)
      | (with_reducible exact ih4 _ _ _ _ _ _ _ _ _)
      | (with_reducible exact fathomlaw27_awake.mono _)
      | (with_reducible exact fathomref01_Ints.mono _ _ _)
      | (with_reducible exact fathomref27_Ahead.mono _ _ _ _ _)
      | (with_reducible exact fathomref27_May.mono _ _ _)
      | (with_reducible exact fathomref27_Rival.mono _ _ _ _ _)
      | (with_reducible exact fathomref27_Source.mono _ _ _ _ _)
      | (with_reducible exact shape_Ahead.mono _ _ _)
      | (with_reducible exact shape_Rivals.mono _ _ _ _)
      | (with_reducible exact shape_Sources.mono _ _ _ _)
      | (with_reducible exact LeO.refl _)
      | (with_reducible exact LeO.none _)
      | (with_reducible refine LeO.ite ?_ ?_)
      | (with_reducible refine LeO.bind ?_ (fun _ => ?_))
      | exact ih0 _ _ _ _
      | exact ih1 _ _ _ _ _
      | exact ih2 _ _ _ _ _ _
      | exact ih3 _ _ _ _ _ _ _ _
      | exact ih4 _ _ _ _ _ _ _ _ _
      | exact fathomlaw27_awake.mono _
      | exact fathomref01_Ints.mono _ _ _
      | exact fathomref27_Ahead.mono _ _ _ _ _
      | exact fathomref27_May.mono _ _ _
      | exact fathomref27_Rival.mono _ _ _ _ _
      | exact fathomref27_Source.mono _ _ _ _ _
      | exact shape_Ahead.mono _ _ _
      | exact shape_Rivals.mono _ _ _ _
      | exact shape_Sources.mono _ _ _ _
      | exact LeO.none _
      | refine LeO.ite ?_ ?_
      | refine LeO.bind ?_ (fun _ => ?_)
theorem fathomlaw27_ShapeKnows.mono : ∀ a0 a1 a2 k, LeO (fathomlaw27_ShapeKnows.f k a0 a1 a2) (fathomlaw27_ShapeKnows.f (k + 1) a0 a1 a2) := by
  intro a0 a1 a2 k
  obtain ⟨ih0, ih1, ih2, ih3, ih4⟩ := fathomlaw27_ShapeKnows.mono_l k
  unfold fathomlaw27_ShapeKnows.f
  repeat' first
      | (with_reducible exact ih0 _ _ _ _)
      | (with_reducible exact ih1 _ _ _ _ _)
      | (with_reducible exact ih2 _ _ _ _ _ _)
      | (with_reducible exact ih3 _ _ _ _ _ _ _ _)
      | (with_reducible exact ih4 _ _ _ _ _ _ _ _ _)
      | (with_reducible exact fathomlaw27_awake.mono _)
      | (with_reducible exact fathomref01_Ints.mono _ _ _)
      | (with_reducible exact fathomref27_Ahead.mono _ _ _ _ _)
      | (with_reducible exact fathomref27_May.mono _ _ _)
      | (with_reducible exact fathomref27_Rival.mono _ _ _ _ _)
      | (with_reducible exact fathomref27_Source.mono _ _ _ _ _)
      | (with_reducible exact shape_Ahead.mono _ _ _)
      | (with_reducible exact shape_Rivals.mono _ _ _ _)
      | (with_reducible exact shape_Sources.mono _ _ _ _)
      | (with_reducible exact LeO.refl _)
      | (with_reducible exact LeO.none _)
      | (with_reducible refine LeO.ite ?_ ?_)
      | (with_reducible refine LeO.bind ?_ (fun _ => ?_))
      | exact ih0 _ _ _ _
      | exact ih1 _ _ _ _ _
      | exact ih2 _ _ _ _ _ _
      | exact ih3 _ _ _ _ _ _ _ _
      | exact ih4 _ _ _ _ _ _ _ _ _
      | exact fathomlaw27_awake.mono _
      | exact fathomref01_Ints.mono _ _ _
      | exact fathomref27_Ahead.mono _ _ _ _ _
      | exact fathomref27_May.mono _ _ _
      | exact fathomref27_Rival.mono _ _ _ _ _
      | exact fathomref27_Source.mono _ _ _ _ _
      | exact shape_Ahead.mono _ _ _
      | exact shape_Rivals.mono _ _ _ _
      | exact shape_Sources.mono _ _ _ _
      | exact LeO.none _
      | refine LeO.ite ?_ ?_
      | refine LeO.bind ?_ (fun _ => ?_)
def fathomlaw27_ShapeKnows.T14 : Bool × List (List Nat × List Nat) := (true, [([], []), ([], []), ([0, 1], [0, 1]), ([2], [2]), ([], []), ([3, 4], [3, 4]), ([5], [5]), ([], []), ([], []), ([], []), ([7, 8, 9], [7, 8, 9]), ([6, 10], [6, 10])])
def fathomlaw27_ShapeKnows.B14 : List Nat := [0, 0, 3, 7, 0, 31, 63, 0, 0, 0, 896, 2047]
theorem fathomlaw27_ShapeKnows.tab14 : rtab .any (opsOf Try.f5 14) = fathomlaw27_ShapeKnows.T14 := by kernel_rfl
theorem fathomlaw27_ShapeKnows.bits14 : waitsOk fathomlaw27_ShapeKnows.T14.2 fathomlaw27_ShapeKnows.B14 = true := by kernel_rfl
def fathomlaw27_ShapeKnows.T16 : Bool × List (List Nat × List Nat) := (true, [([], []), ([], []), ([0, 1], [0, 1]), ([], []), ([], []), ([3, 4, 2], [3, 4]), ([2, 5, 0, 1, 2], [2]), ([5, 6, 0, 1, 2, 3, 4, 5, 6], [5])])
def fathomlaw27_ShapeKnows.B16 : List Nat := [0, 0, 3, 0, 0, 31, 63, 127]
theorem fathomlaw27_ShapeKnows.tab16 : rtab .any (opsOf Try.f5 16) = fathomlaw27_ShapeKnows.T16 := by kernel_rfl
theorem fathomlaw27_ShapeKnows.bits16 : waitsOk fathomlaw27_ShapeKnows.T16.2 fathomlaw27_ShapeKnows.B16 = true := by kernel_rfl
set_option maxHeartbeats 8000000 in
set_option maxRecDepth 100000 in
theorem fathomlaw27_ShapeKnows.calls (k : Nat) (A0_0 : Option Addr) (c0_0 : Nat) (l0_0 : List (S38)) (A0_1 : Option Addr) (c0_1 : Nat) (l0_1 : List Int) (a1 : Int) (r : Bool) (w : World) (hr0_0 : Kd.C k38 w A0_0 l0_0.length l0_0) (hc0_0 : l0_0.length ≤ c0_0) (hr0_1 : Kd.C (Kd.int .i64) w A0_1 l0_1.length l0_1) (hc0_1 : l0_1.length ≤ c0_1) (h : fathomlaw27_ShapeKnows.f k l0_0 l0_1 a1 = some r) :
    Calls Try.prog 5 #[.agg #[.slice A0_0 l0_0.length c0_0, .slice A0_1 l0_1.length c0_1], .int .i64 a1] w fun e w' => e = .returned (.bool r) ∧ Below w.heap.size w w' := by
 have hu25 := Try.underlying25
 have HR0_0 := Aside0.mk hr0_0
 have HC0_0 := Aside0.mk hc0_0
 clear hr0_0 hc0_0
 have HR0_1 := Aside0.mk hr0_1
 have HC0_1 := Aside0.mk hc0_1
 clear hr0_1 hc0_1
 have HB := Aside0.mk (Below.refl w.heap.size w)
 have H : (if (l0_0.length : Int) > 60 then (fathomlaw27_ShapeKnows.j0 k a1 true l0_0 l0_1) else (if (l0_1.length : Int) > 60 then (fathomlaw27_ShapeKnows.j0 k a1 true l0_0 l0_1) else ((fathomref27_May.f k l0_0 l0_1).bind fun t239 => (fathomlaw27_ShapeKnows.j0 k a1 (!t239) l0_0 l0_1)))) = some r := h
 clear h
 have HC3 := Aside0.mk H
 clear H
 go_enter Try.func5, Try.ntmps5
 go_upto_region 1 with (first | ((with_reducible refine gate_dst (N := 2) rfl ?_); (try (refine gate_guard (by rfl) ?_; dsimp only)); refine bx 2 #[.slice A0_0 l0_0.length c0_0, .slice A0_1 l0_1.length c0_1] 25 ?_; intro gb238 hg w4 hbox hb; have BK238 := Aside0.mk (hbox); have GW238 := Aside0.mk ((bz hg : w.heap.size ≤ gb238)); have GE238 := Aside0.mk ((bz hg : w.heap.size ≤ gb238)); replace HB := Aside0.mk (below_step bb hb); clear hb hbox hg))
 repeat ((with_reducible refine upon_gate ?_); go_simp; go_upto_region 1 with (first | ((with_reducible refine gate_dst (N := 2) rfl ?_); (try (refine gate_guard (by rfl) ?_; dsimp only)); refine bx 2 #[.slice A0_0 l0_0.length c0_0, .slice A0_1 l0_1.length c0_1] 25 ?_; intro gb238 hg w4 hbox hb; have BK238 := Aside0.mk (hbox); have GW238 := Aside0.mk ((bz hg : w.heap.size ≤ gb238)); have GE238 := Aside0.mk ((bz hg : w.heap.size ≤ gb238)); replace HB := Aside0.mk (below_step bb hb); clear hb hbox hg)))
 (try simp only [Act.put, List.setIfInBounds_toArray, List.set_cons_zero, List.set_cons_succ])
 go_cut [27] (fun v27 wc => ∃ (kq : Nat) (x27_2 : Bool), v27 = .bool x27_2 ∧ Aside0 (fathomlaw27_ShapeKnows.j0 kq a1 x27_2 l0_0 l0_1 = some r) ∧ Aside0 (kq ≤ k) ∧ Aside0 (wc.heap[gb238]? = some (.cells #[(.slice A0_0 l0_0.length c0_0), (.slice A0_1 l0_1.length c0_1)] 25 (0, 0))) ∧ Aside0 (Below w.heap.size w wc))
 case first =>
  have H := HC3.out
  clear HC3
  by_cases c5 : (l0_0.length : Int) > 60
  ·
   rw [if_pos c5] at H
   have c5b0 : decide (60 < (l0_0.length : Int)) = true := decide_eq_true c5
   have c5b1 : decide (60 < l0_0.length) = true := decide_eq_true (by omega)
   clear c5
   (first | rw [c5b0] | (simp only [i64_w, i32_w]; rw [c5b0]) | skip)
   have H' := Aside0.mk H
   clear H
   obtain ⟨hcz6_0, hcz6_1, hfz6_0, hfz6_1⟩ := bo2 BK238
   go_wp2
   go_meet
   case rel => exact ⟨_, (true), rs, H', ⟨by first | omega | exact Nat.le_refl _⟩, ⟨bk BK238⟩, ⟨bb⟩⟩
  rw [if_neg c5] at H
  have c5b0 : decide (60 < (l0_0.length : Int)) = false := decide_eq_false c5
  have c5b1 : decide (60 < l0_0.length) = false := decide_eq_false (by omega)
  clear c5
  (first | rw [c5b0] | (simp only [i64_w, i32_w]; rw [c5b0]) | skip)
  by_cases c7 : (l0_1.length : Int) > 60
  ·
   rw [if_pos c7] at H
   have c7b0 : decide (60 < (l0_1.length : Int)) = true := decide_eq_true c7
   have c7b1 : decide (60 < l0_1.length) = true := decide_eq_true (by omega)
   clear c7
   have H' := Aside0.mk H
   clear H
   obtain ⟨hcz8_0, hcz8_1, hfz8_0, hfz8_1⟩ := bo2 BK238
   go_wp2
   go_meet
   case rel => exact ⟨_, (true), rs, H', ⟨by first | omega | exact Nat.le_refl _⟩, ⟨bk BK238⟩, ⟨bb⟩⟩
  rw [if_neg c7] at H
  have c7b0 : decide (60 < (l0_1.length : Int)) = false := decide_eq_false c7
  have c7b1 : decide (60 < l0_1.length) = false := decide_eq_false (by omega)
  clear c7
  replace H := Option.bind_eq_some_iff.mp H
  obtain ⟨t239, A90, H⟩ := H
  replace H : (fathomlaw27_ShapeKnows.j0 k a1 (!t239) l0_0 l0_1) = some r := H
  have A9 := Aside0.mk A90
  clear A90
  have H' := Aside0.mk H
  clear H
  obtain ⟨hcz10_0, hcz10_1, hfz10_0, hfz10_1⟩ := bo2 BK238
  go_wp2_with (first | (go_at_call 6; (with_reducible refine (fathomref27_May.calls k _ _ l0_0 _ _ l0_1 t239 _ ?side1 ?side2 ?side3 ?side4 A9.out).mono ?_); (case side1 => exact cw HR0_0 HB); (case side2 => exact HC0_0.out); (case side3 => exact cw HR0_1 HB); (case side4 => exact HC0_1.out); rintro e w11 ⟨rfl, hb⟩; replace BK238 := Aside0.mk (bw BK238 hb); replace HB := Aside0.mk (below_step bb hb); (try clear hb); (try clear hb2); (try clear hk); (try clear hi)))
  go_meet
  case rel => exact ⟨_, (!t239), rs, H', ⟨by first | omega | exact Nat.le_refl _⟩, ⟨bk BK238⟩, ⟨bb⟩⟩
 case rest =>
  clear HC3
  try clear p2
  try clear c5
  try clear c5b0
  try clear c5b1
  try clear c7
  try clear c7b0
  try clear c7b1
  try clear hcz10_0
  try clear hcz10_1
  try clear hcz6_0
  try clear hcz6_1
  try clear hcz8_0
  try clear hcz8_1
  try clear hfz10_0
  try clear hfz10_1
  try clear hfz6_0
  try clear hfz6_1
  try clear hfz8_0
  try clear hfz8_1
  obtain ⟨kq, x27_2, rfl, HA, HJ2, BK238, HB⟩ := hcut
  cases kq with
  | zero => exact absurd HA.out (by simp [fathomlaw27_ShapeKnows.j0])
  | succ kj2 =>
   have H := HA.out
   clear HA
   simp only [fathomlaw27_ShapeKnows.j0] at H
   by_cases c12 : x27_2 = true
   ·
    subst c12
    have H1 : ((fathomlaw27_awake.f kj2).bind fun t240 => (some t240)) = some r := by rw [if_pos rfl] at H; exact H
    clear H
    have H := H1
    clear H1
    replace H := Option.bind_eq_some_iff.mp H
    obtain ⟨t240, A130, H⟩ := H
    replace H : (some t240) = some r := H
    have A13 := Aside0.mk A130
    clear A130
    obtain rfl := Option.some.inj H
    go_wp2_with (first | ((with_reducible refine gate_callee (f := 7) rfl ?_); refine gl (some 28) Try.func7 #[] ?_; (with_reducible refine (fathomlaw27_awake.calls kj2  t240 _ A13.out).mono ?_); rintro e w14 ⟨rfl, hb⟩; refine ⟨_, rfl, ?_⟩; replace BK238 := Aside0.mk (bw BK238 hb); replace HB := Aside0.mk (below_step bb hb); (try clear hb); (try clear hb2); (try clear hk); (try clear hi)))
    go_ret
    exact ⟨ew, bb⟩
   replace c12 := Bool.eq_false_iff.mpr c12
   subst c12
   have H1 : ((shape_Ahead.f kj2 l0_0 l0_1).bind fun t241 => (if (t241.length : Int) = (l0_0.length : Int) then (fathomlaw27_ShapeKnows.l0 kj2 a1 t241 0 l0_0 l0_1) else (some false))) = some r := by rw [if_neg (show ¬ (false = true) by decide)] at H; exact H
   clear H
   have H := H1
   clear H1
   replace H := Option.bind_eq_some_iff.mp H
   obtain ⟨t241, A150, H⟩ := H
   replace H : (if (t241.length : Int) = (l0_0.length : Int) then (fathomlaw27_ShapeKnows.l0 kj2 a1 t241 0 l0_0 l0_1) else (some false)) = some r := H
   have A15 := Aside0.mk A150
   clear A150
   by_cases c16 : (t241.length : Int) = (l0_0.length : Int)
   rotate_left
   ·
    rw [if_neg c16] at H
    have c16b0 : ((t241.length : Int) == (l0_0.length : Int)) = false := beq_eq_false_iff_ne.mpr c16
    have c16b1 : ((t241.length : Int) != (l0_0.length : Int)) = true := bne_iff_ne.mpr c16
    have c16b2 : (t241.length == l0_0.length) = false := by first | simpa using c16 | (simp at c16 ⊢; omega)
    obtain rfl := Option.some.inj H
    obtain ⟨hcz96_0, hcz96_1, hfz96_0, hfz96_1⟩ := bo2 BK238
    go_wp2_with (first | ((with_reducible refine gate_callee (f := 8) rfl ?_); refine gl (some 30) Try.func8 #[.agg #[.slice A0_0 l0_0.length c0_0, .slice A0_1 l0_1.length c0_1]] ?_; (with_reducible refine (shape_Ahead.calls kj2 _ _ l0_0 _ _ l0_1 t241 _ ?side1 ?side2 ?side3 ?side4 A15.out).mono ?_); (case side1 => exact cw HR0_0 HB); (case side2 => exact HC0_0.out); (case side3 => exact cw HR0_1 HB); (case side4 => exact HC0_1.out); rintro e w97 ⟨v242, rfl, ho0, hb⟩; refine ⟨_, rfl, ?_⟩; have HO243 := Aside0.mk (Kd.S_lower ho0 (below_size bb)); replace BK238 := Aside0.mk (bw BK238 hb); replace HB := Aside0.mk (below_step bb hb); (try clear hb); (try clear hb2); (try clear hk); (try clear hi); (try clear ho0); obtain ⟨Ao98, co98, eo98⟩ := Kd.S_slice HO243.out; subst eo98; obtain ⟨hcz99_0, hcz99_1, hfz99_0, hfz99_1⟩ := bo2 BK238))
    go_ret
    exact ⟨ew, bb⟩
   rw [if_pos c16] at H
   have c16b0 : ((t241.length : Int) == (l0_0.length : Int)) = true := beq_iff_eq.mpr c16
   have c16b1 : ((t241.length : Int) != (l0_0.length : Int)) = false := bne_eq_false_iff_eq.mpr c16
   have c16b2 : (t241.length == l0_0.length) = true := by first | simpa using c16 | (simp at c16 ⊢; omega)
   clear c16
   have H' := Aside0.mk H
   clear H
   obtain ⟨hcz17_0, hcz17_1, hfz17_0, hfz17_1⟩ := bo2 BK238
   go_wp2_with (first | ((with_reducible refine gate_callee (f := 8) rfl ?_); refine gl (some 30) Try.func8 #[.agg #[.slice A0_0 l0_0.length c0_0, .slice A0_1 l0_1.length c0_1]] ?_; (with_reducible refine (shape_Ahead.calls kj2 _ _ l0_0 _ _ l0_1 t241 _ ?side1 ?side2 ?side3 ?side4 A15.out).mono ?_); (case side1 => exact cw HR0_0 HB); (case side2 => exact HC0_0.out); (case side3 => exact cw HR0_1 HB); (case side4 => exact HC0_1.out); rintro e w18 ⟨v242, rfl, ho0, hb⟩; refine ⟨_, rfl, ?_⟩; have HO243 := Aside0.mk (Kd.S_lower ho0 (below_size bb)); replace BK238 := Aside0.mk (bw BK238 hb); replace HB := Aside0.mk (below_step bb hb); (try clear hb); (try clear hb2); (try clear hk); (try clear hi); (try clear ho0); obtain ⟨Ao19, co19, eo19⟩ := Kd.S_slice HO243.out; subst eo19; obtain ⟨hcz20_0, hcz20_1, hfz20_0, hfz20_1⟩ := bo2 BK238))
   go_loopg [6] kj2 (fun kq v6 w' => ∃ (x6_2 : Int), v6 = .int .i64 x6_2 ∧ Aside0 (fathomlaw27_ShapeKnows.l0 kq a1 t241 x6_2 l0_0 l0_1 = some r) ∧ Aside0 (kq ≤ kj2) ∧ Aside0 (Kd.S (Kd.slice 4 Kd.bool) 33 w' w.heap.size (fun _ => True) (.slice Ao19 t241.length co19) t241) ∧ Aside0 (w'.heap[gb238]? = some (.cells #[(.slice A0_0 l0_0.length c0_0), (.slice A0_1 l0_1.length c0_1)] 25 (0, 0))) ∧ Aside0 (Below w.heap.size w w'))
   case atStart => exact ⟨(0), rs, H', ⟨Nat.le_refl _⟩, ⟨by refine sm ?_; exact HO243.out⟩, ⟨bk BK238⟩, ⟨bb⟩⟩
   case round =>
    clear H'
    try clear c1
    try clear p2
    try clear c5
    try clear c5b0
    try clear c5b1
    try clear c7
    try clear c7b0
    try clear c7b1
    try clear c8
    try clear c12
    try clear c16
    try clear c16b0
    try clear c16b1
    try clear c16b2
    try clear hcz10_0
    try clear hcz10_1
    try clear hcz17_0
    try clear hcz17_1
    try clear hcz20_0
    try clear hcz20_1
    try clear hcz6_0
    try clear hcz6_1
    try clear hcz8_0
    try clear hcz8_1
    try clear hfz10_0
    try clear hfz10_1
    try clear hfz17_0
    try clear hfz17_1
    try clear hfz20_0
    try clear hfz20_1
    try clear hfz6_0
    try clear hfz6_1
    try clear hfz8_0
    try clear hfz8_1
    obtain ⟨x6_2, rfl, HA, HK2, HO_5, BK238, HB⟩ := hrel
    cases gk with
    | zero => exact absurd HA.out (by simp [fathomlaw27_ShapeKnows.l0])
    | succ k2 =>
     have H := HA.out
     clear HA
     simp only [fathomlaw27_ShapeKnows.l0] at H
     by_cases c21 : x6_2 < (t241.length : Int)
     ·
      rw [if_pos c21] at H
      have c21b0 : decide (x6_2 < (t241.length : Int)) = true := decide_eq_true c21
      clear c21
      by_cases c22 : 0 ≤ x6_2
      rotate_left
      ·
       rw [if_neg c22] at H
       exact absurd H (by simp)
      rw [if_pos c22] at H
      have c22b0 : decide (0 ≤ x6_2) = true := decide_eq_true c22
      clear c22
      by_cases c23 : ((rd_L3 t241 x6_2).length : Int) = (t241.length : Int)
      rotate_left
      ·
       rw [if_neg c23] at H
       have c23b0 : (((rd_L3 t241 x6_2).length : Int) == (t241.length : Int)) = false := beq_eq_false_iff_ne.mpr c23
       have c23b1 : (((rd_L3 t241 x6_2).length : Int) != (t241.length : Int)) = true := bne_iff_ne.mpr c23
       have c23b2 : ((rd_L3 t241 x6_2).length == t241.length) = false := by first | simpa using c23 | (simp at c23 ⊢; omega)
       obtain rfl := Option.some.inj H
       have p244 : 0 ≤ (x6_2 : Int) := od
       have q244 : x6_2 < (t241.length : Int) := od
       obtain ⟨ad244, A244_0, c244_0, e244, hx244_0, hl244_0, hi244_0⟩ := at_L3 (Kd.S_reads' HO_5.out).2.2 x6_2 p244 q244
       cases e244
       obtain ⟨ce244, hce244, hMe244, hcc244⟩ := Kd.S_get HO_5.out [] x6_2 p244 (by first | exact q244 | exact od | (have e_ := (Kd.S_reads' HO_5.out).1; omega))
       obtain ⟨ve244_0, rfl, ge244_0⟩ := hMe244
       have hv244_0 := hcc244 0 _ rfl
       rw [Nat.add_zero, show ((Kd.slice 4 Kd.bool)).sz = 1 from rfl, Nat.mul_one] at hv244_0
       replace hv244_0 := Option.some.inj (hv244_0.symm.trans hx244_0)
       rw [hv244_0] at ge244_0
       have HL244_0 := Aside0.mk (show Kd.R Kd.bool 4 _ _ _ _ (rd_L3 t241 x6_2) from ge244_0)
       clear hv244_0 ge244_0
       clear hcc244 hce244
       have HR244_0 := Aside0.mk hi244_0
       have HC244_0 := Aside0.mk hl244_0
       clear hi244_0 hl244_0
       replace p244 := eq_true p244
       replace q244 := eq_true q244
       go_wp2
       go_ret
       exact ⟨ew, bb⟩
      rw [if_pos c23] at H
      have c23b0 : (((rd_L3 t241 x6_2).length : Int) == (t241.length : Int)) = true := beq_iff_eq.mpr c23
      have c23b1 : (((rd_L3 t241 x6_2).length : Int) != (t241.length : Int)) = false := bne_eq_false_iff_eq.mpr c23
      have c23b2 : ((rd_L3 t241 x6_2).length == t241.length) = true := by first | simpa using c23 | (simp at c23 ⊢; omega)
      clear c23
      have H' := Aside0.mk H
      clear H
      have p244 : 0 ≤ (x6_2 : Int) := od
      have q244 : x6_2 < (t241.length : Int) := od
      obtain ⟨ad244, A244_0, c244_0, e244, hx244_0, hl244_0, hi244_0⟩ := at_L3 (Kd.S_reads' HO_5.out).2.2 x6_2 p244 q244
      cases e244
      obtain ⟨ce244, hce244, hMe244, hcc244⟩ := Kd.S_get HO_5.out [] x6_2 p244 (by first | exact q244 | exact od | (have e_ := (Kd.S_reads' HO_5.out).1; omega))
      obtain ⟨ve244_0, rfl, ge244_0⟩ := hMe244
      have hv244_0 := hcc244 0 _ rfl
      rw [Nat.add_zero, show ((Kd.slice 4 Kd.bool)).sz = 1 from rfl, Nat.mul_one] at hv244_0
      replace hv244_0 := Option.some.inj (hv244_0.symm.trans hx244_0)
      rw [hv244_0] at ge244_0
      have HL244_0 := Aside0.mk (show Kd.R Kd.bool 4 _ _ _ _ (rd_L3 t241 x6_2) from ge244_0)
      clear hv244_0 ge244_0
      clear hcc244 hce244
      have HR244_0 := Aside0.mk hi244_0
      have HC244_0 := Aside0.mk hl244_0
      clear hi244_0 hl244_0
      replace p244 := eq_true p244
      replace q244 := eq_true q244
      go_wp2
      go_loopg [7] k2 (fun kq v7 w' => ∃ (x7_3 : Int), v7 = .int .i64 x7_3 ∧ Aside0 (fathomlaw27_ShapeKnows.l1 kq a1 t241 x6_2 x7_3 l0_0 l0_1 = some r) ∧ Aside0 (kq ≤ k2) ∧ Aside0 (Kd.S (Kd.slice 4 Kd.bool) 33 w' w.heap.size (fun _ => True) (.slice (some ad244) t241.length co19) t241) ∧ Aside0 (w'.heap[gb238]? = some (.cells #[(.slice A0_0 l0_0.length c0_0), (.slice A0_1 l0_1.length c0_1)] 25 (0, 0))) ∧ Aside0 (Kd.C Kd.bool w' A244_0 (rd_L3 t241 x6_2).length (rd_L3 t241 x6_2)) ∧ Aside0 (Below w.heap.size w w'))
      case atStart => exact ⟨(0), rs, H', ⟨Nat.le_refl _⟩, ⟨by refine sm ?_; exact HO_5.out⟩, ⟨bk BK238⟩, ⟨by repeat (first | (with_reducible exact HR244_0.out) | (with_reducible refine Kd.C_alloc ?_ _) | (with_reducible refine Kd.C_drewN ?_ _) | (with_reducible refine Kd.C_drew ?_) | exact HR244_0.out)⟩, ⟨bb⟩⟩
      case round =>
       clear H'
       try clear c1
       try clear c2
       try clear p2
       try clear q2
       try clear hx2
       try clear c5
       try clear c5b0
       try clear c5b1
       try clear c7
       try clear c7b0
       try clear c7b1
       try clear c8
       try clear c12
       try clear c16
       try clear c16b0
       try clear c16b1
       try clear c16b2
       try clear c21
       try clear c21b0
       try clear c22
       try clear c22b0
       try clear c23
       try clear c23b0
       try clear c23b1
       try clear c23b2
       try clear hcz10_0
       try clear hcz10_1
       try clear hcz17_0
       try clear hcz17_1
       try clear hcz20_0
       try clear hcz20_1
       try clear hcz6_0
       try clear hcz6_1
       try clear hcz8_0
       try clear hcz8_1
       try clear hfz10_0
       try clear hfz10_1
       try clear hfz17_0
       try clear hfz17_1
       try clear hfz20_0
       try clear hfz20_1
       try clear hfz6_0
       try clear hfz6_1
       try clear hfz8_0
       try clear hfz8_1
       try clear hx244_0
       try clear p244
       try clear q244
       obtain ⟨x7_3, rfl, HA, HK3, HO_5, BK238, HR244_0, HB⟩ := hrel
       cases gk with
       | zero => exact absurd HA.out (by simp [fathomlaw27_ShapeKnows.l1])
       | succ k3 =>
        have H := HA.out
        clear HA
        simp only [fathomlaw27_ShapeKnows.l1] at H
        by_cases c24 : x7_3 < (t241.length : Int)
        rotate_left
        ·
         rw [if_neg c24] at H
         have c24b0 : decide (x7_3 < (t241.length : Int)) = false := decide_eq_false c24
         clear c24
         have H' := Aside0.mk H
         clear H
         go_wp2
         go_roundg k3
         case measure => have := HJ2.out; have := HK2.out; have := HK3.out; omega
         case rel => exact ⟨(wrap64 (x6_2 + 1)), rs, H', ⟨by have := HJ2.out; have := HK2.out; have := HK3.out; omega⟩, ⟨by refine sm ?_; exact HO_5.out⟩, ⟨bk BK238⟩, ⟨bb⟩⟩
        rw [if_pos c24] at H
        have c24b0 : decide (x7_3 < (t241.length : Int)) = true := decide_eq_true c24
        clear c24
        by_cases c25 : 0 ≤ x6_2
        rotate_left
        ·
         rw [if_neg c25] at H
         exact absurd H (by simp)
        rw [if_pos c25] at H
        have c25b0 : decide (0 ≤ x6_2) = true := decide_eq_true c25
        clear c25
        by_cases c26 : x6_2 < (t241.length : Int)
        rotate_left
        ·
         rw [if_neg c26] at H
         exact absurd H (by simp)
        rw [if_pos c26] at H
        have c26b0 : decide (x6_2 < (t241.length : Int)) = true := decide_eq_true c26
        clear c26
        by_cases c27 : 0 ≤ x7_3
        rotate_left
        ·
         rw [if_neg c27] at H
         exact absurd H (by simp)
        rw [if_pos c27] at H
        have c27b0 : decide (0 ≤ x7_3) = true := decide_eq_true c27
        clear c27
        by_cases c28 : x7_3 < ((rd_L3 t241 x6_2).length : Int)
        rotate_left
        ·
         rw [if_neg c28] at H
         exact absurd H (by simp)
        rw [if_pos c28] at H
        have c28b0 : decide (x7_3 < ((rd_L3 t241 x6_2).length : Int)) = true := decide_eq_true c28
        clear c28
        replace H := Option.bind_eq_some_iff.mp H
        obtain ⟨t247, A290, H⟩ := H
        replace H : (if ((rdOf false (rd_L3 t241 x6_2) x7_3) != t247) = true then (some false) else (fathomlaw27_ShapeKnows.l1 k3 a1 t241 x6_2 (wrap64 (x7_3 + 1)) l0_0 l0_1)) = some r := H
        have A29 := Aside0.mk A290
        clear A290
        by_cases c30 : ((rdOf false (rd_L3 t241 x6_2) x7_3) != t247) = true
        ·
         rw [if_pos c30] at H
         have c30b0 : ((rdOf false (rd_L3 t241 x6_2) x7_3) != t247) = true := c30
         (try (have c30b1 : decide ((rdOf false (rd_L3 t241 x6_2) x7_3) = t247) = false := by simpa using c30))
         (try (have c30b2 : ((rdOf false (rd_L3 t241 x6_2) x7_3) == t247) = false := by simpa using c30))
         (try (have c30b3 : ¬ ((rdOf false (rd_L3 t241 x6_2) x7_3) = t247) := by simpa using c30))
         clear c30
         obtain rfl := Option.some.inj H
         try go_wp2
         have n0_ := Aside0.mk (Kd.S_drew HO_5.out)
         have n1_ := Aside0.mk (blk_drew BK238.out)
         have n2_ := Aside0.mk (Kd.C_drew HR244_0.out)
         have n3_ := Aside0.mk (below_drew1 HB.out)
         clear HO_5
         clear BK238
         clear HR244_0
         clear HB
         have HO_5 := n0_
         have BK238 := n1_
         have HR244_0 := n2_
         have HB := n3_
         clear n0_ n1_ n2_ n3_
         have p245 : 0 ≤ (x6_2 : Int) := od
         have q245 : x6_2 < (t241.length : Int) := od
         obtain ⟨ad245, A245_0, c245_0, e245, hx245_0, hl245_0, hi245_0⟩ := at_L3 (Kd.S_reads' HO_5.out).2.2 x6_2 p245 q245
         obtain rfl : ad244 = ad245 := (by injection e245)
         obtain ⟨ce245, hce245, hMe245, hcc245⟩ := Kd.S_get HO_5.out [] x6_2 p245 (by first | exact q245 | exact od | (have e_ := (Kd.S_reads' HO_5.out).1; omega))
         obtain ⟨ve245_0, rfl, ge245_0⟩ := hMe245
         have hv245_0 := hcc245 0 _ rfl
         rw [Nat.add_zero, show ((Kd.slice 4 Kd.bool)).sz = 1 from rfl, Nat.mul_one] at hv245_0
         replace hv245_0 := Option.some.inj (hv245_0.symm.trans hx245_0)
         rw [hv245_0] at ge245_0
         have HL245_0 := Aside0.mk (show Kd.R Kd.bool 4 _ _ _ _ (rd_L3 t241 x6_2) from ge245_0)
         clear hv245_0 ge245_0
         clear hcc245 hce245
         have HR245_0 := Aside0.mk hi245_0
         have HC245_0 := Aside0.mk hl245_0
         clear hi245_0 hl245_0
         replace p245 := eq_true p245
         replace q245 := eq_true q245
         have p246 : 0 ≤ (x7_3 : Int) := od
         have q246 : x7_3 < ((rd_L3 t241 x6_2).length : Int) := od
         obtain ⟨ad246, e246, hx246_0⟩ := Kd.at_bool (by repeat (first | (with_reducible exact HR245_0.out) | (with_reducible refine Kd.C_alloc ?_ _) | (with_reducible refine Kd.C_drewN ?_ _) | (with_reducible refine Kd.C_drew ?_) | exact HR245_0.out)) x7_3 p246 q246
         cases e246
         replace p246 := eq_true p246
         replace q246 := eq_true q246
         refine start_ (n := 12) (S := fun w' => w'.cell? ⟨gb238, 0, none⟩ = some (.slice A0_0 l0_0.length c0_0) ∧ w'.cell? ⟨gb238, 1, none⟩ = some (.slice A0_1 l0_1.length c0_1) ∧ w'.cell? (ad244.add (x6_2).toNat) = some (.slice (some ad246) (rd_L3 t241 x6_2).length c245_0) ∧ w'.cell? (ad246.add (x7_3).toNat) = some (.bool (rdOf false (rd_L3 t241 x6_2) x7_3))) (ds := []) #[false, false, false, false, false, false, false, false, false, false, false, false] (by kernel_rfl) rfl rfl ⟨(blk_cell BK238.out 0).trans rfl, (blk_cell BK238.out 1).trans rfl, hx245_0, hx246_0⟩ (fun hHeld => ?_); refine with_tabW fathomlaw27_ShapeKnows.tab14 fathomlaw27_ShapeKnows.bits14 (fun HT_ HW_ => ?_)
         generalize wr.drew = w31 at HO_5 BK238 HR244_0 HB HL245_0 HR245_0 hx245_0 hx246_0 hHeld ⊢
         refine pv 0 57 HT_.out ?_
         refine pv 1 58 HT_.out ?_
         refine pv 2 59 HT_.out ?_
         refine pv 4 61 HT_.out ?_
         refine pv 8 65 HT_.out ?_
         refine pv 9 66 HT_.out ?_
         refine take_ (i := 3) (N := some 60) (v := ?_) (a' := ?_) #[true, true, true, true, true, false, false, false, true, true, false, false] rfl rfl (take_ofW HT_.out HW_.out (by kernel_rfl)) (fun _ _ _ h => h) (Or.inl ⟨by rfl, ?_⟩) hHeld ?_ ?_
         rotate_left
         ·
          rintro w' ⟨s0, s1, s2, s3⟩
          go_simp
          with_reducible rfl
         rotate_left
         ·
          simp only [Act.put, List.setIfInBounds_toArray, List.set_cons_zero, List.set_cons_succ, i64_w, i32_w]
          rfl
         refine pv 5 62 HT_.out ?_
         refine take_ (i := 6) (N := some 63) (v := ?_) (a' := ?_) #[true, true, true, true, true, true, true, false, true, true, false, false] rfl rfl (take_ofW HT_.out HW_.out (by kernel_rfl)) (fun _ _ _ h => h) (Or.inl ⟨by rfl, ?_⟩) hHeld ?_ ?_
         rotate_left
         ·
          rintro w' ⟨s0, s1, s2, s3⟩
          go_simp
          with_reducible rfl
         rotate_left
         ·
          simp only [Act.put, List.setIfInBounds_toArray, List.set_cons_zero, List.set_cons_succ, i64_w, i32_w]
          rfl
         refine take_ (i := 7) (N := some 64) (v := ?_) (a' := ?_) #[true, true, true, true, true, true, true, true, true, true, false, false] rfl rfl (take_ofW HT_.out HW_.out (by kernel_rfl)) (fun _ _ _ h => h) (Or.inl ⟨by rfl, ?_⟩) hHeld ?_ ?_
         rotate_left
         ·
          rintro w' ⟨s0, s1, s2, s3⟩
          go_simp
          with_reducible rfl
         rotate_left
         ·
          simp only [Act.put, List.setIfInBounds_toArray, List.set_cons_zero, List.set_cons_succ, i64_w, i32_w]
          rfl
         refine one_ (i := 10) (N := some 67) #[true, true, true, true, true, true, true, true, true, true, true, false] rfl rfl (one_of HT_.out (by kernel_rfl)) (by decide) (fun K hK => ?_)
         refine goes_ Try.func15 (by kernel_rfl) rfl #[.agg #[.slice A0_0 l0_0.length c0_0, .slice A0_1 l0_1.length c0_1], .int .i64 x6_2, .int .i64 x7_3] (by rfl) rfl rfl mr ?_
         with_reducible refine (fathomref27_Ahead.calls k3 _ _ l0_0 _ _ l0_1 x6_2 x7_3 t247 _ ?side1 ?side2 ?side3 ?side4 A29.out).mono ?_
         (case side1 => exact cw HR0_0 HB)
         (case side2 => exact HC0_0.out)
         (case side3 => exact cw HR0_1 HB)
         (case side4 => exact HC0_1.out)
         rintro e w32 ⟨rfl, hb⟩
         have HS2_ := (hb.cell (World.block_lt_of_cell? _ _ (hHeld.2.2.1))).trans (hHeld.2.2.1)
         have HS3_ := (hb.cell (World.block_lt_of_cell? _ _ (hHeld.2.2.2))).trans (hHeld.2.2.2)
         refine ⟨_, rfl, ?_⟩
         have n0_ := Aside0.mk (Kd.S_below (sk HO_5) hb)
         have n1_ := Aside0.mk (Kd.R_below (rm (HL245_0.out)) hb)
         have n2_ := Aside0.mk (bw BK238 hb)
         have n3_ := Aside0.mk (Kd.C_below (by repeat (first | (with_reducible exact HR244_0.out) | (with_reducible refine Kd.C_alloc ?_ _) | (with_reducible refine Kd.C_drewN ?_ _) | (with_reducible refine Kd.C_drew ?_) | exact HR244_0.out)) hb)
         have n4_ := Aside0.mk (Kd.C_below (by repeat (first | (with_reducible exact HR245_0.out) | (with_reducible refine Kd.C_alloc ?_ _) | (with_reducible refine Kd.C_drewN ?_ _) | (with_reducible refine Kd.C_drew ?_) | exact HR245_0.out)) hb)
         have n5_ := Aside0.mk (below_step bb hb)
         clear HO_5
         clear HL245_0
         clear BK238
         clear HR244_0
         clear HR245_0
         clear HB
         have HO_5 := n0_
         have HL245_0 := n1_
         have BK238 := n2_
         have HR244_0 := n3_
         have HR245_0 := n4_
         have HB := n5_
         clear n0_ n1_ n2_ n3_ n4_ n5_
         (try clear hb)
         (try clear hb2)
         (try clear hk)
         (try clear hi)
         refine hK.out _ _ ⟨(blk_cell BK238.out 0).trans rfl, (blk_cell BK238.out 1).trans rfl, HS2_, HS3_⟩ (fun hHeld => ?_)
         clear hK K
         refine norm_ (a' := ?_) ?_ ?_
         rotate_left
         ·
          show Act.put _ (some 67) _ = _
          simp only [Act.put, List.setIfInBounds_toArray, List.set_cons_zero, List.set_cons_succ, i64_w, i32_w]
          rfl
         refine pv 11 68 HT_.out ?_
         refine done_ (done_of HT_.out (by kernel_rfl)) ?_
         try go_wp2
         go_ret
         exact ⟨ew, bb⟩
        rw [if_neg c30] at H
        have c30b0 : ((rdOf false (rd_L3 t241 x6_2) x7_3) != t247) = false := by simpa using c30
        (try (have c30b1 : decide ((rdOf false (rd_L3 t241 x6_2) x7_3) = t247) = true := by simpa using c30))
        (try (have c30b2 : ((rdOf false (rd_L3 t241 x6_2) x7_3) == t247) = true := by simpa using c30))
        clear c30
        have H' := Aside0.mk H
        clear H
        try go_wp2
        have n0_ := Aside0.mk (Kd.S_drew HO_5.out)
        have n1_ := Aside0.mk (blk_drew BK238.out)
        have n2_ := Aside0.mk (Kd.C_drew HR244_0.out)
        have n3_ := Aside0.mk (below_drew1 HB.out)
        clear HO_5
        clear BK238
        clear HR244_0
        clear HB
        have HO_5 := n0_
        have BK238 := n1_
        have HR244_0 := n2_
        have HB := n3_
        clear n0_ n1_ n2_ n3_
        have p245 : 0 ≤ (x6_2 : Int) := od
        have q245 : x6_2 < (t241.length : Int) := od
        obtain ⟨ad245, A245_0, c245_0, e245, hx245_0, hl245_0, hi245_0⟩ := at_L3 (Kd.S_reads' HO_5.out).2.2 x6_2 p245 q245
        obtain rfl : ad244 = ad245 := (by injection e245)
        obtain ⟨ce245, hce245, hMe245, hcc245⟩ := Kd.S_get HO_5.out [] x6_2 p245 (by first | exact q245 | exact od | (have e_ := (Kd.S_reads' HO_5.out).1; omega))
        obtain ⟨ve245_0, rfl, ge245_0⟩ := hMe245
        have hv245_0 := hcc245 0 _ rfl
        rw [Nat.add_zero, show ((Kd.slice 4 Kd.bool)).sz = 1 from rfl, Nat.mul_one] at hv245_0
        replace hv245_0 := Option.some.inj (hv245_0.symm.trans hx245_0)
        rw [hv245_0] at ge245_0
        have HL245_0 := Aside0.mk (show Kd.R Kd.bool 4 _ _ _ _ (rd_L3 t241 x6_2) from ge245_0)
        clear hv245_0 ge245_0
        clear hcc245 hce245
        have HR245_0 := Aside0.mk hi245_0
        have HC245_0 := Aside0.mk hl245_0
        clear hi245_0 hl245_0
        replace p245 := eq_true p245
        replace q245 := eq_true q245
        have p246 : 0 ≤ (x7_3 : Int) := od
        have q246 : x7_3 < ((rd_L3 t241 x6_2).length : Int) := od
        obtain ⟨ad246, e246, hx246_0⟩ := Kd.at_bool (by repeat (first | (with_reducible exact HR245_0.out) | (with_reducible refine Kd.C_alloc ?_ _) | (with_reducible refine Kd.C_drewN ?_ _) | (with_reducible refine Kd.C_drew ?_) | exact HR245_0.out)) x7_3 p246 q246
        cases e246
        replace p246 := eq_true p246
        replace q246 := eq_true q246
        refine start_ (n := 12) (S := fun w' => w'.cell? ⟨gb238, 0, none⟩ = some (.slice A0_0 l0_0.length c0_0) ∧ w'.cell? ⟨gb238, 1, none⟩ = some (.slice A0_1 l0_1.length c0_1) ∧ w'.cell? (ad244.add (x6_2).toNat) = some (.slice (some ad246) (rd_L3 t241 x6_2).length c245_0) ∧ w'.cell? (ad246.add (x7_3).toNat) = some (.bool (rdOf false (rd_L3 t241 x6_2) x7_3))) (ds := []) #[false, false, false, false, false, false, false, false, false, false, false, false] (by kernel_rfl) rfl rfl ⟨(blk_cell BK238.out 0).trans rfl, (blk_cell BK238.out 1).trans rfl, hx245_0, hx246_0⟩ (fun hHeld => ?_); refine with_tabW fathomlaw27_ShapeKnows.tab14 fathomlaw27_ShapeKnows.bits14 (fun HT_ HW_ => ?_)
        generalize wr.drew = w33 at HO_5 BK238 HR244_0 HB HL245_0 HR245_0 hx245_0 hx246_0 hHeld ⊢
        refine pv 0 57 HT_.out ?_
        refine pv 1 58 HT_.out ?_
        refine pv 2 59 HT_.out ?_
        refine pv 4 61 HT_.out ?_
        refine pv 8 65 HT_.out ?_
        refine pv 9 66 HT_.out ?_
        refine take_ (i := 3) (N := some 60) (v := ?_) (a' := ?_) #[true, true, true, true, true, false, false, false, true, true, false, false] rfl rfl (take_ofW HT_.out HW_.out (by kernel_rfl)) (fun _ _ _ h => h) (Or.inl ⟨by rfl, ?_⟩) hHeld ?_ ?_
        rotate_left
        ·
         rintro w' ⟨s0, s1, s2, s3⟩
         go_simp
         with_reducible rfl
        rotate_left
        ·
         simp only [Act.put, List.setIfInBounds_toArray, List.set_cons_zero, List.set_cons_succ, i64_w, i32_w]
         rfl
        refine pv 5 62 HT_.out ?_
        refine take_ (i := 6) (N := some 63) (v := ?_) (a' := ?_) #[true, true, true, true, true, true, true, false, true, true, false, false] rfl rfl (take_ofW HT_.out HW_.out (by kernel_rfl)) (fun _ _ _ h => h) (Or.inl ⟨by rfl, ?_⟩) hHeld ?_ ?_
        rotate_left
        ·
         rintro w' ⟨s0, s1, s2, s3⟩
         go_simp
         with_reducible rfl
        rotate_left
        ·
         simp only [Act.put, List.setIfInBounds_toArray, List.set_cons_zero, List.set_cons_succ, i64_w, i32_w]
         rfl
        refine take_ (i := 7) (N := some 64) (v := ?_) (a' := ?_) #[true, true, true, true, true, true, true, true, true, true, false, false] rfl rfl (take_ofW HT_.out HW_.out (by kernel_rfl)) (fun _ _ _ h => h) (Or.inl ⟨by rfl, ?_⟩) hHeld ?_ ?_
        rotate_left
        ·
         rintro w' ⟨s0, s1, s2, s3⟩
         go_simp
         with_reducible rfl
        rotate_left
        ·
         simp only [Act.put, List.setIfInBounds_toArray, List.set_cons_zero, List.set_cons_succ, i64_w, i32_w]
         rfl
        refine one_ (i := 10) (N := some 67) #[true, true, true, true, true, true, true, true, true, true, true, false] rfl rfl (one_of HT_.out (by kernel_rfl)) (by decide) (fun K hK => ?_)
        refine goes_ Try.func15 (by kernel_rfl) rfl #[.agg #[.slice A0_0 l0_0.length c0_0, .slice A0_1 l0_1.length c0_1], .int .i64 x6_2, .int .i64 x7_3] (by rfl) rfl rfl mr ?_
        with_reducible refine (fathomref27_Ahead.calls k3 _ _ l0_0 _ _ l0_1 x6_2 x7_3 t247 _ ?side1 ?side2 ?side3 ?side4 A29.out).mono ?_
        (case side1 => exact cw HR0_0 HB)
        (case side2 => exact HC0_0.out)
        (case side3 => exact cw HR0_1 HB)
        (case side4 => exact HC0_1.out)
        rintro e w34 ⟨rfl, hb⟩
        have HS2_ := (hb.cell (World.block_lt_of_cell? _ _ (hHeld.2.2.1))).trans (hHeld.2.2.1)
        have HS3_ := (hb.cell (World.block_lt_of_cell? _ _ (hHeld.2.2.2))).trans (hHeld.2.2.2)
        refine ⟨_, rfl, ?_⟩
        have n0_ := Aside0.mk (Kd.S_below (sk HO_5) hb)
        have n1_ := Aside0.mk (Kd.R_below (rm (HL245_0.out)) hb)
        have n2_ := Aside0.mk (bw BK238 hb)
        have n3_ := Aside0.mk (Kd.C_below (by repeat (first | (with_reducible exact HR244_0.out) | (with_reducible refine Kd.C_alloc ?_ _) | (with_reducible refine Kd.C_drewN ?_ _) | (with_reducible refine Kd.C_drew ?_) | exact HR244_0.out)) hb)
        have n4_ := Aside0.mk (Kd.C_below (by repeat (first | (with_reducible exact HR245_0.out) | (with_reducible refine Kd.C_alloc ?_ _) | (with_reducible refine Kd.C_drewN ?_ _) | (with_reducible refine Kd.C_drew ?_) | exact HR245_0.out)) hb)
        have n5_ := Aside0.mk (below_step bb hb)
        clear HO_5
        clear HL245_0
        clear BK238
        clear HR244_0
        clear HR245_0
        clear HB
        have HO_5 := n0_
        have HL245_0 := n1_
        have BK238 := n2_
        have HR244_0 := n3_
        have HR245_0 := n4_
        have HB := n5_
        clear n0_ n1_ n2_ n3_ n4_ n5_
        (try clear hb)
        (try clear hb2)
        (try clear hk)
        (try clear hi)
        refine hK.out _ _ ⟨(blk_cell BK238.out 0).trans rfl, (blk_cell BK238.out 1).trans rfl, HS2_, HS3_⟩ (fun hHeld => ?_)
        clear hK K
        refine norm_ (a' := ?_) ?_ ?_
        rotate_left
        ·
         show Act.put _ (some 67) _ = _
         simp only [Act.put, List.setIfInBounds_toArray, List.set_cons_zero, List.set_cons_succ, i64_w, i32_w]
         rfl
        refine pv 11 68 HT_.out ?_
        refine done_ (done_of HT_.out (by kernel_rfl)) ?_
        try go_wp2
        go_roundg k3
        case measure => have := HJ2.out; have := HK2.out; have := HK3.out; omega
        case rel => exact ⟨(wrap64 (x7_3 + 1)), rs, H', ⟨by have := HJ2.out; have := HK2.out; have := HK3.out; omega⟩, ⟨by refine sm ?_; exact HO_5.out⟩, ⟨bk BK238⟩, ⟨by repeat (first | (with_reducible exact HR244_0.out) | (with_reducible refine Kd.C_alloc ?_ _) | (with_reducible refine Kd.C_drewN ?_ _) | (with_reducible refine Kd.C_drew ?_) | exact HR244_0.out)⟩, ⟨bb⟩⟩
     rw [if_neg c21] at H
     have c21b0 : decide (x6_2 < (t241.length : Int)) = false := decide_eq_false c21
     clear c21
     replace H := Option.bind_eq_some_iff.mp H
     obtain ⟨t248, A350, H⟩ := H
     replace H : ((shape_Rivals.f k2 l0_0 l0_1 a1).bind fun t251 => (fathomlaw27_ShapeKnows.l2 k2 a1 t248 t251 (([] : List Int)) (([] : List Int)) 0 l0_0 l0_1)) = some r := H
     have A35 := Aside0.mk A350
     clear A350
     replace H := Option.bind_eq_some_iff.mp H
     obtain ⟨t251, A360, H⟩ := H
     replace H : (fathomlaw27_ShapeKnows.l2 k2 a1 t248 t251 (([] : List Int)) (([] : List Int)) 0 l0_0 l0_1) = some r := H
     have A36 := Aside0.mk A360
     clear A360
     obtain ⟨y254, hy254⟩ : ∃ y_ : List Int, y_ = (([] : List Int)) := ⟨_, rfl⟩
     replace H : (fathomlaw27_ShapeKnows.l2 k2 a1 t248 t251 y254 (([] : List Int)) 0 l0_0 l0_1) = some r := by first | (rw [hy254]; with_reducible exact H) | (have H2_ := (Option.bind_some _ _).symm.trans H; rw [hy254]; with_reducible exact H2_) | (have H2_ := (Option.bind_some _ _).symm.trans H; with_reducible exact H2_) | with_reducible exact H | (rw [hy254]; exact H) | exact H
     have Ny254 := Aside0.mk hy254
     clear hy254
     obtain ⟨y257, hy257⟩ : ∃ y_ : List Int, y_ = (([] : List Int)) := ⟨_, rfl⟩
     replace H : (fathomlaw27_ShapeKnows.l2 k2 a1 t248 t251 y254 y257 0 l0_0 l0_1) = some r := by first | (rw [hy257]; with_reducible exact H) | (have H2_ := (Option.bind_some _ _).symm.trans H; rw [hy257]; with_reducible exact H2_) | (have H2_ := (Option.bind_some _ _).symm.trans H; with_reducible exact H2_) | with_reducible exact H | (rw [hy257]; exact H) | exact H
     have Ny257 := Aside0.mk hy257
     clear hy257
     have H' := Aside0.mk H
     clear H
     try go_wp2
     have n0_ := Aside0.mk (Kd.S_drew HO_5.out)
     have n1_ := Aside0.mk (blk_drew BK238.out)
     have n2_ := Aside0.mk (below_drew1 HB.out)
     clear HO_5
     clear BK238
     clear HB
     have HO_5 := n0_
     have BK238 := n1_
     have HB := n2_
     clear n0_ n1_ n2_
     refine start_ (n := 8) (S := fun w' => w'.cell? ⟨gb238, 0, none⟩ = some (.slice A0_0 l0_0.length c0_0) ∧ w'.cell? ⟨gb238, 1, none⟩ = some (.slice A0_1 l0_1.length c0_1)) (ds := []) #[false, false, false, false, false, false, false, false] (by kernel_rfl) rfl rfl ⟨(blk_cell BK238.out 0).trans rfl, (blk_cell BK238.out 1).trans rfl⟩ (fun hHeld => ?_); refine with_tabW fathomlaw27_ShapeKnows.tab16 fathomlaw27_ShapeKnows.bits16 (fun HT_ HW_ => ?_)
     generalize wr.drew = w37 at HO_5 BK238 HB hHeld ⊢
     refine pv 1 70 HT_.out ?_
     refine pv 4 73 HT_.out ?_
     refine take_ (i := 0) (N := some 69) (v := ?_) (a' := ?_) #[true, true, false, false, true, false, false, false] rfl rfl (take_ofW HT_.out HW_.out (by kernel_rfl)) (fun _ _ _ h => h) (Or.inl ⟨by rfl, ?_⟩) hHeld ?_ ?_
     rotate_left
     ·
      rintro w' ⟨s0, s1⟩
      go_simp
      with_reducible rfl
     rotate_left
     ·
      simp only [Act.put, List.setIfInBounds_toArray, List.set_cons_zero, List.set_cons_succ, i64_w, i32_w]
      rfl
     refine take_ (i := 3) (N := some 72) (v := ?_) (a' := ?_) #[true, true, false, true, true, false, false, false] rfl rfl (take_ofW HT_.out HW_.out (by kernel_rfl)) (fun _ _ _ h => h) (Or.inl ⟨by rfl, ?_⟩) hHeld ?_ ?_
     rotate_left
     ·
      rintro w' ⟨s0, s1⟩
      go_simp
      with_reducible rfl
     rotate_left
     ·
      simp only [Act.put, List.setIfInBounds_toArray, List.set_cons_zero, List.set_cons_succ, i64_w, i32_w]
      rfl
     refine one_ (i := 2) (N := some 71) #[true, true, true, true, true, false, false, false] rfl rfl (one_of HT_.out (by kernel_rfl)) (by decide) (fun K hK => ?_)
     refine goes_ Try.func14 (by kernel_rfl) rfl #[.agg #[.slice A0_0 l0_0.length c0_0, .slice A0_1 l0_1.length c0_1], .int .i64 a1] (by rfl) rfl rfl mr ?_
     with_reducible refine (shape_Sources.calls k2 _ _ l0_0 _ _ l0_1 a1 t248 _ ?side1 ?side2 ?side3 ?side4 A35.out).mono ?_
     (case side1 => exact cw HR0_0 HB)
     (case side2 => exact HC0_0.out)
     (case side3 => exact cw HR0_1 HB)
     (case side4 => exact HC0_1.out)
     rintro e w38 ⟨v249, rfl, ho0, hb⟩
     refine ⟨_, rfl, ?_⟩
     have n0_ := Aside0.mk (Kd.S_below (sk HO_5) hb)
     have n1_ := Aside0.mk (Kd.R_lower ho0 (below_size bb))
     have n2_ := Aside0.mk (bw BK238 hb)
     have n3_ := Aside0.mk (below_step bb hb)
     clear HO_5
     clear BK238
     clear HB
     have HO_5 := n0_
     have HO250 := n1_
     have BK238 := n2_
     have HB := n3_
     clear n0_ n1_ n2_ n3_
     (try clear hb)
     (try clear hb2)
     (try clear hk)
     (try clear hi)
     (try clear ho0)
     refine hK.out _ _ ⟨(blk_cell BK238.out 0).trans rfl, (blk_cell BK238.out 1).trans rfl⟩ (fun hHeld => ?_)
     clear hK K
     refine norm_ (a' := ?_) ?_ ?_
     rotate_left
     ·
      show Act.put _ (some 71) _ = _
      simp only [Act.put, List.setIfInBounds_toArray, List.set_cons_zero, List.set_cons_succ, i64_w, i32_w]
      rfl
     refine one_ (i := 5) (N := some 74) #[true, true, true, true, true, true, false, false] rfl rfl (one_of HT_.out (by kernel_rfl)) (by decide) (fun K hK => ?_)
     refine goes_ Try.func10 (by kernel_rfl) rfl #[.agg #[.slice A0_0 l0_0.length c0_0, .slice A0_1 l0_1.length c0_1], .int .i64 a1] (by rfl) rfl rfl mr ?_
     with_reducible refine (shape_Rivals.calls k2 _ _ l0_0 _ _ l0_1 a1 t251 _ ?side1 ?side2 ?side3 ?side4 A36.out).mono ?_
     (case side1 => exact cw HR0_0 HB)
     (case side2 => exact HC0_0.out)
     (case side3 => exact cw HR0_1 HB)
     (case side4 => exact HC0_1.out)
     rintro e w39 ⟨v252, rfl, ho0, hb⟩
     refine ⟨_, rfl, ?_⟩
     have n0_ := Aside0.mk (Kd.S_below (sk HO_5) hb)
     have n1_ := Aside0.mk (Kd.R_elder' (rk HO250) (Kd.R_base ho0) hb)
     have n2_ := Aside0.mk (Kd.R_lower (Kd.R_new' ho0 (Kd.R_lt (rk HO250))) (below_size bb))
     have n3_ := Aside0.mk (bw BK238 hb)
     have n4_ := Aside0.mk (below_step bb hb)
     clear HO_5
     clear HO250
     clear BK238
     clear HB
     have HO_5 := n0_
     have HO250 := n1_
     have HO253 := n2_
     have BK238 := n3_
     have HB := n4_
     clear n0_ n1_ n2_ n3_ n4_
     (try clear hb)
     (try clear hb2)
     (try clear hk)
     (try clear hi)
     (try clear ho0)
     refine hK.out _ _ ⟨(blk_cell BK238.out 0).trans rfl, (blk_cell BK238.out 1).trans rfl⟩ (fun hHeld => ?_)
     clear hK K
     refine norm_ (a' := ?_) ?_ ?_
     rotate_left
     ·
      show Act.put _ (some 74) _ = _
      simp only [Act.put, List.setIfInBounds_toArray, List.set_cons_zero, List.set_cons_succ, i64_w, i32_w]
      rfl
     refine pv 6 8 HT_.out ?_
     refine pv 7 9 HT_.out ?_
     refine done_ (done_of HT_.out (by kernel_rfl)) ?_
     try go_wp2_with (first | ((with_reducible refine gate_dst (N := 75) rfl ?_); (try (refine gate_guard (by rfl) ?_; dsimp only)); refine Kd.R_lit (Kd.int .i64) _ 3 ?hg (N := 75) ?hd (xs := ([] : List Int)) (inner := []) (ok := fun _ => True) (okp := fun _ => True) ?hr ?hp (fun _ hk => hk) trivial (Below.refl _ _) (Nat.le_refl _) (by simp) ?_; (case hd => rfl); (case hg => rfl); (case hr => first | (go_simp; done) | (go_simp; rfl)); (case hp => exact (Reps.none _ _)); intro v255 w40 ho41 hb hg_ hnew_; clear hg_ hnew_; (first | rw [← Ny254.out] at ho41 | (simp only [Int.reduceToNat] at ho41; rw [← Ny254.out] at ho41)); replace HO_5 := Aside0.mk (Kd.S_below (sk HO_5) hb); have HO256 := Aside0.mk (Kd.R_lower (Kd.R_new' (Kd.R_new' ho41 (Kd.R_lt (rk HO250))) (Kd.R_lt (rk HO253))) (below_size bb)); replace HO250 := Aside0.mk (Kd.R_elder' (rk HO250) (Kd.R_base ho41) hb); replace HO253 := Aside0.mk (Kd.R_elder' (rk HO253) (Kd.R_base ho41) hb); replace BK238 := Aside0.mk (bw BK238 hb); replace HB := Aside0.mk (below_step bb hb); clear hb ho41) | ((with_reducible refine gate_dst (N := 76) rfl ?_); (try (refine gate_guard (by rfl) ?_; dsimp only)); refine Kd.R_lit (Kd.int .i64) _ 3 ?hg (N := 76) ?hd (xs := ([] : List Int)) (inner := []) (ok := fun _ => True) (okp := fun _ => True) ?hr ?hp (fun _ hk => hk) trivial (Below.refl _ _) (Nat.le_refl _) (by simp) ?_; (case hd => rfl); (case hg => rfl); (case hr => first | (go_simp; done) | (go_simp; rfl)); (case hp => exact (Reps.none _ _)); intro v258 w42 ho43 hb hg_ hnew_; clear hg_ hnew_; (first | rw [← Ny257.out] at ho43 | (simp only [Int.reduceToNat] at ho43; rw [← Ny257.out] at ho43)); replace HO_5 := Aside0.mk (Kd.S_below (sk HO_5) hb); have HO259 := Aside0.mk (Kd.R_lower (Kd.R_new' (Kd.R_new' (Kd.R_new' ho43 (Kd.R_lt (rk HO250))) (Kd.R_lt (rk HO253))) (Kd.R_lt (rk HO256))) (below_size bb)); replace HO250 := Aside0.mk (Kd.R_elder' (rk HO250) (Kd.R_base ho43) hb); replace HO253 := Aside0.mk (Kd.R_elder' (rk HO253) (Kd.R_base ho43) hb); replace HO256 := Aside0.mk (Kd.R_elder' (rk HO256) (Kd.R_base ho43) hb); replace BK238 := Aside0.mk (bw BK238 hb); replace HB := Aside0.mk (below_step bb hb); clear hb ho43))
     go_loopg [10, 11, 12] k2 (fun kq v10 v11 v12 w' => ∃ (x10_3 : List Int) (x11_3 : List Int) (x12_3 : Int), v12 = .int .i64 x12_3 ∧ Aside0 (fathomlaw27_ShapeKnows.l2 kq a1 t248 t251 x10_3 x11_3 x12_3 l0_0 l0_1 = some r) ∧ Aside0 (kq ≤ k2) ∧ Aside0 (Kd.R (Kd.int .i64) 3 w' w.heap.size (fun k_ => some k_ ≠ (v252 : Value).ownBlock ∧ some k_ ≠ (v10 : Value).ownBlock ∧ some k_ ≠ (v11 : Value).ownBlock) v249 t248) ∧ Aside0 (Kd.R (Kd.int .i64) 3 w' w.heap.size (fun k_ => some k_ ≠ (v249 : Value).ownBlock ∧ some k_ ≠ (v10 : Value).ownBlock ∧ some k_ ≠ (v11 : Value).ownBlock) v252 t251) ∧ Aside0 (Kd.R (Kd.int .i64) 3 w' w.heap.size (fun k_ => some k_ ≠ (v249 : Value).ownBlock ∧ some k_ ≠ (v252 : Value).ownBlock ∧ some k_ ≠ (v11 : Value).ownBlock) v10 x10_3) ∧ Aside0 (Kd.R (Kd.int .i64) 3 w' w.heap.size (fun k_ => some k_ ≠ (v249 : Value).ownBlock ∧ some k_ ≠ (v252 : Value).ownBlock ∧ some k_ ≠ (v10 : Value).ownBlock) v11 x11_3) ∧ Aside0 (w'.heap[gb238]? = some (.cells #[(.slice A0_0 l0_0.length c0_0), (.slice A0_1 l0_1.length c0_1)] 25 (0, 0))) ∧ Aside0 (Below w.heap.size w w'))
     case atStart => exact ⟨(y254), (y257), (0), rs, H', ⟨Nat.le_refl _⟩, ⟨by refine rm ?_; exact Kd.R_mono HO250.out (fun _ hk => ⟨hk.1.1.2, ⟨hk.1.2, hk.2⟩⟩)⟩, ⟨by refine rm ?_; exact Kd.R_mono HO253.out (fun _ hk => ⟨hk.1.1.2, ⟨hk.1.2, hk.2⟩⟩)⟩, ⟨by refine rm ?_; exact Kd.R_mono HO256.out (fun _ hk => ⟨hk.1.1.2, ⟨hk.1.2, hk.2⟩⟩)⟩, ⟨by refine rm ?_; exact Kd.R_mono HO259.out (fun _ hk => ⟨hk.1.1.2, ⟨hk.1.2, hk.2⟩⟩)⟩, ⟨bk BK238⟩, ⟨bb⟩⟩
     case round =>
      clear H'
      try clear c1
      try clear c2
      try clear p2
      try clear q2
      try clear hx2
      try clear c3
      try clear p6
      try clear c10
      try clear c14
      try clear c15
      try clear c21
      try clear c21b0
      try clear c22
      try clear c23
      try clear c23b0
      try clear c23b1
      try clear c23b2
      try clear c24
      try clear c24b0
      try clear p24
      try clear q24
      try clear hx24
      try clear c25
      try clear c25b0
      try clear c26
      try clear c26b0
      try clear c27
      try clear c27b0
      try clear c28
      try clear c28b0
      try clear c30
      try clear c30b0
      try clear c30b1
      try clear c30b2
      try clear hx244_0
      try clear hx245_0
      try clear hx246_0
      try clear p244
      try clear p245
      try clear p246
      try clear q244
      try clear q245
      try clear q246
      obtain ⟨x10_3, x11_3, x12_3, rfl, HA, HK3, HO_8, HO_9, HO_10, HO_11, BK238, HB⟩ := hrel
      cases gk with
      | zero => exact absurd HA.out (by simp [fathomlaw27_ShapeKnows.l2])
      | succ k3 =>
       have H := HA.out
       clear HA
       simp only [fathomlaw27_ShapeKnows.l2] at H
       have HC44 := Aside0.mk H
       clear H
       go_upto_region 19 with (fail)
       repeat ((with_reducible refine upon_gate ?_); go_simp; go_upto_region 19 with (fail))
       go_cut [92] (fun v92 wc => ∃ (kq : Nat) (x92_43 : Bool), v92 = .bool x92_43 ∧ Aside0 (fathomlaw27_ShapeKnows.j4 kq a1 t248 t251 x10_3 x11_3 x12_3 x92_43 l0_0 l0_1 = some r) ∧ Aside0 (kq ≤ k3) ∧ Aside0 (Kd.R (Kd.int .i64) 3 wc w.heap.size (fun k_ => some k_ ≠ (v252 : Value).ownBlock ∧ some k_ ≠ (u10 : Value).ownBlock ∧ some k_ ≠ (u11 : Value).ownBlock) v249 t248) ∧ Aside0 (Kd.R (Kd.int .i64) 3 wc w.heap.size (fun k_ => some k_ ≠ (v249 : Value).ownBlock ∧ some k_ ≠ (u10 : Value).ownBlock ∧ some k_ ≠ (u11 : Value).ownBlock) v252 t251) ∧ Aside0 (Kd.R (Kd.int .i64) 3 wc w.heap.size (fun k_ => some k_ ≠ (v249 : Value).ownBlock ∧ some k_ ≠ (v252 : Value).ownBlock ∧ some k_ ≠ (u11 : Value).ownBlock) u10 x10_3) ∧ Aside0 (Kd.R (Kd.int .i64) 3 wc w.heap.size (fun k_ => some k_ ≠ (v249 : Value).ownBlock ∧ some k_ ≠ (v252 : Value).ownBlock ∧ some k_ ≠ (u10 : Value).ownBlock) u11 x11_3) ∧ Aside0 (wc.heap[gb238]? = some (.cells #[(.slice A0_0 l0_0.length c0_0), (.slice A0_1 l0_1.length c0_1)] 25 (0, 0))) ∧ Aside0 (Below w.heap.size w wc))
       case first =>
        have H := HC44.out
        clear HC44
        by_cases c45 : x12_3 < (l0_0.length : Int)
        rotate_left
        ·
         rw [if_neg c45] at H
         have c45b0 : decide (x12_3 < (l0_0.length : Int)) = false := decide_eq_false c45
         clear c45
         (first | rw [c45b0] | (simp only [i64_w, i32_w]; rw [c45b0]) | skip)
         have H' := Aside0.mk H
         clear H
         obtain ⟨hcz49_0, hcz49_1, hfz49_0, hfz49_1⟩ := bo2 BK238
         go_wp2
         go_meet
         case rel => exact ⟨_, (false), rs, H', ⟨by have := HJ2.out; have := HK2.out; have := HK3.out; first | omega | exact Nat.le_refl _⟩, ⟨by refine rm ?_; exact HO_8.out⟩, ⟨by refine rm ?_; exact HO_9.out⟩, ⟨by refine rm ?_; exact HO_10.out⟩, ⟨by refine rm ?_; exact HO_11.out⟩, ⟨bk BK238⟩, ⟨bb⟩⟩
        rw [if_pos c45] at H
        have c45b0 : decide (x12_3 < (l0_0.length : Int)) = true := decide_eq_true c45
        clear c45
        (first | rw [c45b0] | (simp only [i64_w, i32_w]; rw [c45b0]) | skip)
        by_cases c46 : a1 ≥ 0
        rotate_left
        ·
         rw [if_neg c46] at H
         have c46b0 : decide (0 ≤ a1) = false := decide_eq_false c46
         clear c46
         have H' := Aside0.mk H
         clear H
         obtain ⟨hcz48_0, hcz48_1, hfz48_0, hfz48_1⟩ := bo2 BK238
         go_wp2
         go_meet
         case rel => exact ⟨_, (false), rs, H', ⟨by have := HJ2.out; have := HK2.out; have := HK3.out; first | omega | exact Nat.le_refl _⟩, ⟨by refine rm ?_; exact HO_8.out⟩, ⟨by refine rm ?_; exact HO_9.out⟩, ⟨by refine rm ?_; exact HO_10.out⟩, ⟨by refine rm ?_; exact HO_11.out⟩, ⟨bk BK238⟩, ⟨bb⟩⟩
        rw [if_pos c46] at H
        have c46b0 : decide (0 ≤ a1) = true := decide_eq_true c46
        clear c46
        have H' := Aside0.mk H
        clear H
        obtain ⟨hcz47_0, hcz47_1, hfz47_0, hfz47_1⟩ := bo2 BK238
        go_wp2
        go_meet
        case rel => exact ⟨_, (decide (a1 < (l0_0.length : Int))), rs, H', ⟨by have := HJ2.out; have := HK2.out; have := HK3.out; first | omega | exact Nat.le_refl _⟩, ⟨by refine rm ?_; exact HO_8.out⟩, ⟨by refine rm ?_; exact HO_9.out⟩, ⟨by refine rm ?_; exact HO_10.out⟩, ⟨by refine rm ?_; exact HO_11.out⟩, ⟨bk BK238⟩, ⟨bb⟩⟩
       case rest =>
        clear HC44
        try clear c1
        try clear c2
        try clear p2
        try clear q2
        try clear hx2
        try clear c3
        try clear c4
        try clear p6
        try clear c10
        try clear c14
        try clear c15
        try clear c21
        try clear c21b0
        try clear c22
        try clear c23
        try clear c23b0
        try clear c23b1
        try clear c23b2
        try clear c24
        try clear c24b0
        try clear p24
        try clear q24
        try clear hx24
        try clear c25
        try clear c25b0
        try clear c26
        try clear c26b0
        try clear c27
        try clear c27b0
        try clear c28
        try clear c28b0
        try clear c30
        try clear c30b0
        try clear c30b1
        try clear c30b2
        try clear c45
        try clear c45b0
        try clear c46
        try clear c46b0
        try clear hcz47_0
        try clear hcz47_1
        try clear hcz48_0
        try clear hcz48_1
        try clear hcz49_0
        try clear hcz49_1
        try clear hfz47_0
        try clear hfz47_1
        try clear hfz48_0
        try clear hfz48_1
        try clear hfz49_0
        try clear hfz49_1
        try clear hx244_0
        try clear hx245_0
        try clear hx246_0
        try clear p244
        try clear p245
        try clear p246
        try clear q244
        try clear q245
        try clear q246
        obtain ⟨kq, x92_43, rfl, HA, HJ43, HO_8, HO_9, HO_10, HO_11, BK238, HB⟩ := hcut
        cases kq with
        | zero => exact absurd HA.out (by simp [fathomlaw27_ShapeKnows.j4])
        | succ kj43 =>
         have H := HA.out
         clear HA
         simp only [fathomlaw27_ShapeKnows.j4] at H
         by_cases c50 : x92_43 = true
         rotate_left
         ·
          replace c50 := Bool.eq_false_iff.mpr c50
          subst c50
          have H1 : ((fathomref01_Ints.f kj43 t248 x10_3).bind fun t260 => (if t260 = true then ((fathomref01_Ints.f kj43 t251 x11_3).bind fun t261 => (if t261 = true then ((fathomlaw27_awake.f kj43).bind fun t262 => (some t262)) else (some false))) else (some false))) = some r := by rw [if_neg (show ¬ (false = true) by decide)] at H; exact H
          clear H
          have H := H1
          clear H1
          replace H := Option.bind_eq_some_iff.mp H
          obtain ⟨t260, A800, H⟩ := H
          replace H : (if t260 = true then ((fathomref01_Ints.f kj43 t251 x11_3).bind fun t261 => (if t261 = true then ((fathomlaw27_awake.f kj43).bind fun t262 => (some t262)) else (some false))) else (some false)) = some r := H
          have A80 := Aside0.mk A800
          clear A800
          by_cases c81 : t260 = true
          rotate_left
          ·
           replace c81 := Bool.eq_false_iff.mpr c81
           subst c81
           have H1 : (some false) = some r := by rw [if_neg (show ¬ (false = true) by decide)] at H; exact H
           clear H
           have H := H1
           clear H1
           obtain rfl := Option.some.inj H
           obtain ⟨Ao94, co94, eo94⟩ := Kd.R_slice HO_8.out
           subst eo94
           obtain ⟨Ao95, co95, eo95⟩ := Kd.R_slice HO_10.out
           subst eo95
           go_wp2_with (first | ((with_reducible refine gate_callee (f := 18) rfl ?_); refine gl (some 113) Try.func18 #[.slice Ao94 t248.length co94, .slice Ao95 x10_3.length co95] ?_; (with_reducible refine (fathomref01_Ints.calls kj43 _ _ t248 _ _ x10_3 false _ ?side1 ?side2 ?side3 ?side4 A80.out).mono ?_); (case side1 => repeat (first | exact (Kd.R_reads' HO_8.out).2.2 | (with_reducible refine Kd.C_alloc ?_ _) | (with_reducible refine Kd.C_drewN ?_ _) | (with_reducible refine Kd.C_drew ?_))); (case side2 => exact (Kd.R_reads' HO_8.out).2.1); (case side3 => repeat (first | exact (Kd.R_reads' HO_10.out).2.2 | (with_reducible refine Kd.C_alloc ?_ _) | (with_reducible refine Kd.C_drewN ?_ _) | (with_reducible refine Kd.C_drew ?_))); (case side4 => exact (Kd.R_reads' HO_10.out).2.1); rintro e w' ⟨rfl, ⟨nd, rfl⟩⟩; refine ⟨_, rfl, ?_⟩))
           go_ret
           exact ⟨ew, bb⟩
          subst c81
          have H1 : ((fathomref01_Ints.f kj43 t251 x11_3).bind fun t261 => (if t261 = true then ((fathomlaw27_awake.f kj43).bind fun t262 => (some t262)) else (some false))) = some r := by rw [if_pos rfl] at H; exact H
          clear H
          have H := H1
          clear H1
          replace H := Option.bind_eq_some_iff.mp H
          obtain ⟨t261, A820, H⟩ := H
          replace H : (if t261 = true then ((fathomlaw27_awake.f kj43).bind fun t262 => (some t262)) else (some false)) = some r := H
          have A82 := Aside0.mk A820
          clear A820
          by_cases c83 : t261 = true
          rotate_left
          ·
           replace c83 := Bool.eq_false_iff.mpr c83
           subst c83
           have H1 : (some false) = some r := by rw [if_neg (show ¬ (false = true) by decide)] at H; exact H
           clear H
           have H := H1
           clear H1
           obtain rfl := Option.some.inj H
           obtain ⟨Ao90, co90, eo90⟩ := Kd.R_slice HO_8.out
           subst eo90
           obtain ⟨Ao91, co91, eo91⟩ := Kd.R_slice HO_10.out
           subst eo91
           go_wp2_with (first | ((with_reducible refine gate_callee (f := 18) rfl ?_); refine gl (some 113) Try.func18 #[.slice Ao90 t248.length co90, .slice Ao91 x10_3.length co91] ?_; (with_reducible refine (fathomref01_Ints.calls kj43 _ _ t248 _ _ x10_3 true _ ?side1 ?side2 ?side3 ?side4 A80.out).mono ?_); (case side1 => repeat (first | exact (Kd.R_reads' HO_8.out).2.2 | (with_reducible refine Kd.C_alloc ?_ _) | (with_reducible refine Kd.C_drewN ?_ _) | (with_reducible refine Kd.C_drew ?_))); (case side2 => exact (Kd.R_reads' HO_8.out).2.1); (case side3 => repeat (first | exact (Kd.R_reads' HO_10.out).2.2 | (with_reducible refine Kd.C_alloc ?_ _) | (with_reducible refine Kd.C_drewN ?_ _) | (with_reducible refine Kd.C_drew ?_))); (case side4 => exact (Kd.R_reads' HO_10.out).2.1); rintro e w' ⟨rfl, ⟨nd, rfl⟩⟩; refine ⟨_, rfl, ?_⟩; obtain ⟨Ao92, co92, eo92⟩ := Kd.R_slice HO_9.out; subst eo92; obtain ⟨Ao93, co93, eo93⟩ := Kd.R_slice HO_11.out; subst eo93) | (go_at_call 18; (with_reducible refine (fathomref01_Ints.calls kj43 _ _ t251 _ _ x11_3 false _ ?side1 ?side2 ?side3 ?side4 A82.out).mono ?_); (case side1 => repeat (first | exact (Kd.R_reads' HO_9.out).2.2 | (with_reducible refine Kd.C_alloc ?_ _) | (with_reducible refine Kd.C_drewN ?_ _) | (with_reducible refine Kd.C_drew ?_))); (case side2 => exact (Kd.R_reads' HO_9.out).2.1); (case side3 => repeat (first | exact (Kd.R_reads' HO_11.out).2.2 | (with_reducible refine Kd.C_alloc ?_ _) | (with_reducible refine Kd.C_drewN ?_ _) | (with_reducible refine Kd.C_drew ?_))); (case side4 => exact (Kd.R_reads' HO_11.out).2.1); rintro e w' ⟨rfl, ⟨nd, rfl⟩⟩))
           go_ret
           exact ⟨ew, bb⟩
          subst c83
          have H1 : ((fathomlaw27_awake.f kj43).bind fun t262 => (some t262)) = some r := by rw [if_pos rfl] at H; exact H
          clear H
          have H := H1
          clear H1
          replace H := Option.bind_eq_some_iff.mp H
          obtain ⟨t262, A840, H⟩ := H
          replace H : (some t262) = some r := H
          have A84 := Aside0.mk A840
          clear A840
          obtain rfl := Option.some.inj H
          obtain ⟨Ao85, co85, eo85⟩ := Kd.R_slice HO_8.out
          subst eo85
          obtain ⟨Ao86, co86, eo86⟩ := Kd.R_slice HO_10.out
          subst eo86
          go_wp2_with (first | ((with_reducible refine gate_callee (f := 18) rfl ?_); refine gl (some 113) Try.func18 #[.slice Ao85 t248.length co85, .slice Ao86 x10_3.length co86] ?_; (with_reducible refine (fathomref01_Ints.calls kj43 _ _ t248 _ _ x10_3 true _ ?side1 ?side2 ?side3 ?side4 A80.out).mono ?_); (case side1 => repeat (first | exact (Kd.R_reads' HO_8.out).2.2 | (with_reducible refine Kd.C_alloc ?_ _) | (with_reducible refine Kd.C_drewN ?_ _) | (with_reducible refine Kd.C_drew ?_))); (case side2 => exact (Kd.R_reads' HO_8.out).2.1); (case side3 => repeat (first | exact (Kd.R_reads' HO_10.out).2.2 | (with_reducible refine Kd.C_alloc ?_ _) | (with_reducible refine Kd.C_drewN ?_ _) | (with_reducible refine Kd.C_drew ?_))); (case side4 => exact (Kd.R_reads' HO_10.out).2.1); rintro e w' ⟨rfl, ⟨nd, rfl⟩⟩; refine ⟨_, rfl, ?_⟩; obtain ⟨Ao87, co87, eo87⟩ := Kd.R_slice HO_9.out; subst eo87; obtain ⟨Ao88, co88, eo88⟩ := Kd.R_slice HO_11.out; subst eo88) | (go_at_call 18; (with_reducible refine (fathomref01_Ints.calls kj43 _ _ t251 _ _ x11_3 true _ ?side1 ?side2 ?side3 ?side4 A82.out).mono ?_); (case side1 => repeat (first | exact (Kd.R_reads' HO_9.out).2.2 | (with_reducible refine Kd.C_alloc ?_ _) | (with_reducible refine Kd.C_drewN ?_ _) | (with_reducible refine Kd.C_drew ?_))); (case side2 => exact (Kd.R_reads' HO_9.out).2.1); (case side3 => repeat (first | exact (Kd.R_reads' HO_11.out).2.2 | (with_reducible refine Kd.C_alloc ?_ _) | (with_reducible refine Kd.C_drewN ?_ _) | (with_reducible refine Kd.C_drew ?_))); (case side4 => exact (Kd.R_reads' HO_11.out).2.1); rintro e w' ⟨rfl, ⟨nd, rfl⟩⟩) | (go_at_call 7; (with_reducible refine (fathomlaw27_awake.calls kj43  t262 _ A84.out).mono ?_); rintro e w89 ⟨rfl, hb⟩; replace HO_8 := Aside0.mk (Kd.R_below (rk HO_8) hb); replace HO_9 := Aside0.mk (Kd.R_below (rk HO_9) hb); replace HO_10 := Aside0.mk (Kd.R_below (rk HO_10) hb); replace HO_11 := Aside0.mk (Kd.R_below (rk HO_11) hb); replace BK238 := Aside0.mk (bw BK238 hb); replace HB := Aside0.mk (below_step bb hb); (try clear hb); (try clear hb2); (try clear hk); (try clear hi)))
          go_ret
          exact ⟨ew, bb⟩
         subst c50
         have H1 : ((fathomref27_Source.f kj43 l0_0 l0_1 a1 x12_3).bind fun t263 => (if t263 = true then (if x10_3.length < 17592186044416 then ((some (x10_3 ++ [x12_3] : List Int)).bind fun y264 => ((fathomref27_Rival.f kj43 l0_0 l0_1 a1 x12_3).bind fun t267 => (if t267 = true then (if x11_3.length < 17592186044416 then (fathomlaw27_ShapeKnows.l2 kj43 a1 t248 t251 y264 (x11_3 ++ [x12_3]) (wrap64 (x12_3 + 1)) l0_0 l0_1) else (none)) else (fathomlaw27_ShapeKnows.l2 kj43 a1 t248 t251 y264 x11_3 (wrap64 (x12_3 + 1)) l0_0 l0_1)))) else (none)) else ((fathomref27_Rival.f kj43 l0_0 l0_1 a1 x12_3).bind fun t271 => (if t271 = true then (if x11_3.length < 17592186044416 then (fathomlaw27_ShapeKnows.l2 kj43 a1 t248 t251 x10_3 (x11_3 ++ [x12_3]) (wrap64 (x12_3 + 1)) l0_0 l0_1) else (none)) else (fathomlaw27_ShapeKnows.l2 kj43 a1 t248 t251 x10_3 x11_3 (wrap64 (x12_3 + 1)) l0_0 l0_1))))) = some r := by rw [if_pos rfl] at H; exact H
         clear H
         have H := H1
         clear H1
         replace H := Option.bind_eq_some_iff.mp H
         obtain ⟨t263, A510, H⟩ := H
         replace H : (if t263 = true then (if x10_3.length < 17592186044416 then ((some (x10_3 ++ [x12_3] : List Int)).bind fun y264 => ((fathomref27_Rival.f kj43 l0_0 l0_1 a1 x12_3).bind fun t267 => (if t267 = true then (if x11_3.length < 17592186044416 then (fathomlaw27_ShapeKnows.l2 kj43 a1 t248 t251 y264 (x11_3 ++ [x12_3]) (wrap64 (x12_3 + 1)) l0_0 l0_1) else (none)) else (fathomlaw27_ShapeKnows.l2 kj43 a1 t248 t251 y264 x11_3 (wrap64 (x12_3 + 1)) l0_0 l0_1)))) else (none)) else ((fathomref27_Rival.f kj43 l0_0 l0_1 a1 x12_3).bind fun t271 => (if t271 = true then (if x11_3.length < 17592186044416 then (fathomlaw27_ShapeKnows.l2 kj43 a1 t248 t251 x10_3 (x11_3 ++ [x12_3]) (wrap64 (x12_3 + 1)) l0_0 l0_1) else (none)) else (fathomlaw27_ShapeKnows.l2 kj43 a1 t248 t251 x10_3 x11_3 (wrap64 (x12_3 + 1)) l0_0 l0_1)))) = some r := H
         have A51 := Aside0.mk A510
         clear A510
         by_cases c52 : t263 = true
         rotate_left
         ·
          replace c52 := Bool.eq_false_iff.mpr c52
          subst c52
          have H1 : ((fathomref27_Rival.f kj43 l0_0 l0_1 a1 x12_3).bind fun t271 => (if t271 = true then (if x11_3.length < 17592186044416 then (fathomlaw27_ShapeKnows.l2 kj43 a1 t248 t251 x10_3 (x11_3 ++ [x12_3]) (wrap64 (x12_3 + 1)) l0_0 l0_1) else (none)) else (fathomlaw27_ShapeKnows.l2 kj43 a1 t248 t251 x10_3 x11_3 (wrap64 (x12_3 + 1)) l0_0 l0_1))) = some r := by rw [if_neg (show ¬ (false = true) by decide)] at H; exact H
          clear H
          have H := H1
          clear H1
          replace H := Option.bind_eq_some_iff.mp H
          obtain ⟨t271, A680, H⟩ := H
          replace H : (if t271 = true then (if x11_3.length < 17592186044416 then (fathomlaw27_ShapeKnows.l2 kj43 a1 t248 t251 x10_3 (x11_3 ++ [x12_3]) (wrap64 (x12_3 + 1)) l0_0 l0_1) else (none)) else (fathomlaw27_ShapeKnows.l2 kj43 a1 t248 t251 x10_3 x11_3 (wrap64 (x12_3 + 1)) l0_0 l0_1)) = some r := H
          have A68 := Aside0.mk A680
          clear A680
          by_cases c69 : t271 = true
          rotate_left
          ·
           replace c69 := Bool.eq_false_iff.mpr c69
           subst c69
           have H1 : (fathomlaw27_ShapeKnows.l2 kj43 a1 t248 t251 x10_3 x11_3 (wrap64 (x12_3 + 1)) l0_0 l0_1) = some r := by rw [if_neg (show ¬ (false = true) by decide)] at H; exact H
           clear H
           have H := H1
           clear H1
           have H' := Aside0.mk H
           clear H
           obtain ⟨hcz76_0, hcz76_1, hfz76_0, hfz76_1⟩ := bo2 BK238
           go_wp2_with (first | ((with_reducible refine gate_callee (f := 16) rfl ?_); refine gl (some 98) Try.func16 #[.agg #[.slice A0_0 l0_0.length c0_0, .slice A0_1 l0_1.length c0_1], .int .i64 a1, .int .i64 x12_3] ?_; (with_reducible refine (fathomref27_Source.calls kj43 _ _ l0_0 _ _ l0_1 a1 x12_3 false _ ?side1 ?side2 ?side3 ?side4 A51.out).mono ?_); (case side1 => exact cw HR0_0 HB); (case side2 => exact HC0_0.out); (case side3 => exact cw HR0_1 HB); (case side4 => exact HC0_1.out); rintro e w77 ⟨rfl, hb⟩; refine ⟨_, rfl, ?_⟩; replace HO_8 := Aside0.mk (Kd.R_below (rk HO_8) hb); replace HO_9 := Aside0.mk (Kd.R_below (rk HO_9) hb); replace HO_10 := Aside0.mk (Kd.R_below (rk HO_10) hb); replace HO_11 := Aside0.mk (Kd.R_below (rk HO_11) hb); replace BK238 := Aside0.mk (bw BK238 hb); replace HB := Aside0.mk (below_step bb hb); (try clear hb); (try clear hb2); (try clear hk); (try clear hi); obtain ⟨hcz78_0, hcz78_1, hfz78_0, hfz78_1⟩ := bo2 BK238) | ((with_reducible refine gate_callee (f := 17) rfl ?_); refine gl (some 106) Try.func17 #[.agg #[.slice A0_0 l0_0.length c0_0, .slice A0_1 l0_1.length c0_1], .int .i64 a1, .int .i64 x12_3] ?_; (with_reducible refine (fathomref27_Rival.calls kj43 _ _ l0_0 _ _ l0_1 a1 x12_3 false _ ?side1 ?side2 ?side3 ?side4 A68.out).mono ?_); (case side1 => exact cw HR0_0 HB); (case side2 => exact HC0_0.out); (case side3 => exact cw HR0_1 HB); (case side4 => exact HC0_1.out); rintro e w79 ⟨rfl, hb⟩; refine ⟨_, rfl, ?_⟩; replace HO_8 := Aside0.mk (Kd.R_below (rk HO_8) hb); replace HO_9 := Aside0.mk (Kd.R_below (rk HO_9) hb); replace HO_10 := Aside0.mk (Kd.R_below (rk HO_10) hb); replace HO_11 := Aside0.mk (Kd.R_below (rk HO_11) hb); replace BK238 := Aside0.mk (bw BK238 hb); replace HB := Aside0.mk (below_step bb hb); (try clear hb); (try clear hb2); (try clear hk); (try clear hi)))
           go_roundg kj43
           case measure => have := HJ2.out; have := HK2.out; have := HK3.out; have := HJ43.out; omega
           case rel => exact ⟨(x10_3), (x11_3), (wrap64 (x12_3 + 1)), rs, H', ⟨by have := HJ2.out; have := HK2.out; have := HK3.out; have := HJ43.out; omega⟩, ⟨by refine rm ?_; exact HO_8.out⟩, ⟨by refine rm ?_; exact HO_9.out⟩, ⟨by refine rm ?_; exact HO_10.out⟩, ⟨by refine rm ?_; exact HO_11.out⟩, ⟨bk BK238⟩, ⟨bb⟩⟩
          subst c69
          have H1 : (if x11_3.length < 17592186044416 then (fathomlaw27_ShapeKnows.l2 kj43 a1 t248 t251 x10_3 (x11_3 ++ [x12_3]) (wrap64 (x12_3 + 1)) l0_0 l0_1) else (none)) = some r := by rw [if_pos rfl] at H; exact H
          clear H
          have H := H1
          clear H1
          by_cases c70 : x11_3.length < 17592186044416
          rotate_left
          ·
           rw [if_neg c70] at H
           exact absurd H (by simp)
          rw [if_pos c70] at H
          have LMc70 := Aside0.mk c70
          clear c70
          obtain ⟨y272, hy272⟩ : ∃ y_ : List Int, y_ = (x11_3 ++ [x12_3]) := ⟨_, rfl⟩
          replace H : (fathomlaw27_ShapeKnows.l2 kj43 a1 t248 t251 x10_3 y272 (wrap64 (x12_3 + 1)) l0_0 l0_1) = some r := by first | (rw [hy272]; with_reducible exact H) | (have H2_ := (Option.bind_some _ _).symm.trans H; rw [hy272]; with_reducible exact H2_) | (have H2_ := (Option.bind_some _ _).symm.trans H; with_reducible exact H2_) | with_reducible exact H | (rw [hy272]; exact H) | exact H
          have Ny272 := Aside0.mk hy272
          clear hy272
          have H' := Aside0.mk H
          clear H
          obtain ⟨hcz71_0, hcz71_1, hfz71_0, hfz71_1⟩ := bo2 BK238
          go_wp2_with (first | ((with_reducible refine gate_callee (f := 16) rfl ?_); refine gl (some 98) Try.func16 #[.agg #[.slice A0_0 l0_0.length c0_0, .slice A0_1 l0_1.length c0_1], .int .i64 a1, .int .i64 x12_3] ?_; (with_reducible refine (fathomref27_Source.calls kj43 _ _ l0_0 _ _ l0_1 a1 x12_3 false _ ?side1 ?side2 ?side3 ?side4 A51.out).mono ?_); (case side1 => exact cw HR0_0 HB); (case side2 => exact HC0_0.out); (case side3 => exact cw HR0_1 HB); (case side4 => exact HC0_1.out); rintro e w72 ⟨rfl, hb⟩; refine ⟨_, rfl, ?_⟩; replace HO_8 := Aside0.mk (Kd.R_below (rk HO_8) hb); replace HO_9 := Aside0.mk (Kd.R_below (rk HO_9) hb); replace HO_10 := Aside0.mk (Kd.R_below (rk HO_10) hb); replace HO_11 := Aside0.mk (Kd.R_below (rk HO_11) hb); replace BK238 := Aside0.mk (bw BK238 hb); replace HB := Aside0.mk (below_step bb hb); (try clear hb); (try clear hb2); (try clear hk); (try clear hi); obtain ⟨hcz73_0, hcz73_1, hfz73_0, hfz73_1⟩ := bo2 BK238) | ((with_reducible refine gate_callee (f := 17) rfl ?_); refine gl (some 106) Try.func17 #[.agg #[.slice A0_0 l0_0.length c0_0, .slice A0_1 l0_1.length c0_1], .int .i64 a1, .int .i64 x12_3] ?_; (with_reducible refine (fathomref27_Rival.calls kj43 _ _ l0_0 _ _ l0_1 a1 x12_3 true _ ?side1 ?side2 ?side3 ?side4 A68.out).mono ?_); (case side1 => exact cw HR0_0 HB); (case side2 => exact HC0_0.out); (case side3 => exact cw HR0_1 HB); (case side4 => exact HC0_1.out); rintro e w74 ⟨rfl, hb⟩; refine ⟨_, rfl, ?_⟩; replace HO_8 := Aside0.mk (Kd.R_below (rk HO_8) hb); replace HO_9 := Aside0.mk (Kd.R_below (rk HO_9) hb); replace HO_10 := Aside0.mk (Kd.R_below (rk HO_10) hb); replace HO_11 := Aside0.mk (Kd.R_below (rk HO_11) hb); replace BK238 := Aside0.mk (bw BK238 hb); replace HB := Aside0.mk (below_step bb hb); (try clear hb); (try clear hb2); (try clear hk); (try clear hi)) | ((with_reducible refine gate_builtin (b := .append) (xs := #[.tmp 107, .tmp 109]) rfl ?_); (try (refine gate_guard (by rfl) ?_; dsimp only)); at_builtin; refine Kd.R_append (Kd.int .i64) (w0 := w) w.heap.size rfl (.tmp 107) (.tmp 109) 23 3 (.int .i64 0) 8 rfl Try.underlying23 info3 rfl (by decide) (by omega) u11 x11_3 x12_3 [.int .i64 x12_3] (fun k_ => some k_ ≠ (v249 : Value).ownBlock ∧ some k_ ≠ (v252 : Value).ownBlock ∧ some k_ ≠ (u10 : Value).ownBlock) (fun _ => False) rfl rfl ?aP (fun _ hk => hk.elim) ?aF ?aO ?aB ?aS ?aL ?_; (case aP => exact rfl); (case aB => exact bb); (case aF => exact (fun k_ hk => ⟨Kd.fresh' (Kd.R_lt (rk HO_8)) k_ hk, Kd.fresh' (Kd.R_lt (rk HO_9)) k_ hk, Kd.fresh' (Kd.R_lt (rk HO_10)) k_ hk⟩)); (case aO => exact (rk HO_11)); (case aS => exact (below_size bb)); (case aL => have := LMc70.out; omega); intro v273 w75 ho hb hg hat; rw [← Ny272.out] at ho; replace HO_8 := Aside0.mk (Kd.R_after (ok := (fun k_ => some k_ ≠ (v252 : Value).ownBlock ∧ some k_ ≠ (u10 : Value).ownBlock)) (rm (Kd.R_mono HO_8.out (fun _ hk => ⟨⟨hk.1, hk.2.1⟩, hk.2.2⟩))) hg hat); replace HO_9 := Aside0.mk (Kd.R_after (ok := (fun k_ => some k_ ≠ (v249 : Value).ownBlock ∧ some k_ ≠ (u10 : Value).ownBlock)) (rm (Kd.R_mono HO_9.out (fun _ hk => ⟨⟨hk.1, hk.2.1⟩, hk.2.2⟩))) hg hat); replace HO_10 := Aside0.mk (Kd.R_after (ok := (fun k_ => some k_ ≠ (v249 : Value).ownBlock ∧ some k_ ≠ (v252 : Value).ownBlock)) (rm (Kd.R_mono HO_10.out (fun _ hk => ⟨⟨hk.1, hk.2.1⟩, hk.2.2⟩))) hg hat); replace BK238 := Aside0.mk (blk_grown (g := gb238) (o := .cells #[.slice A0_0 l0_0.length c0_0, .slice A0_1 l0_1.length c0_1] 25 (0, 0)) (bk BK238) hg (Kd.R_ne HO_11.out BK238.out (by decide))); replace HB := Aside0.mk (hb); have HO274 := Aside0.mk (ho); clear HO_11; clear ho hb hg hat))
          go_roundg kj43
          case measure => have := HJ2.out; have := HK2.out; have := HK3.out; have := HJ43.out; omega
          case rel => exact ⟨(x10_3), (y272), (wrap64 (x12_3 + 1)), rs, H', ⟨by have := HJ2.out; have := HK2.out; have := HK3.out; have := HJ43.out; omega⟩, ⟨by refine rm ?_; exact Kd.R_mono HO_8.out (fun _ hk => ⟨hk.1.1, ⟨hk.1.2, hk.2⟩⟩)⟩, ⟨by refine rm ?_; exact Kd.R_mono HO_9.out (fun _ hk => ⟨hk.1.1, ⟨hk.1.2, hk.2⟩⟩)⟩, ⟨by refine rm ?_; exact Kd.R_mono HO_10.out (fun _ hk => ⟨hk.1.1, ⟨hk.1.2, hk.2⟩⟩)⟩, ⟨by refine rm ?_; exact HO274.out⟩, ⟨bk BK238⟩, ⟨bb⟩⟩
         subst c52
         have H1 : (if x10_3.length < 17592186044416 then ((some (x10_3 ++ [x12_3] : List Int)).bind fun y264 => ((fathomref27_Rival.f kj43 l0_0 l0_1 a1 x12_3).bind fun t267 => (if t267 = true then (if x11_3.length < 17592186044416 then (fathomlaw27_ShapeKnows.l2 kj43 a1 t248 t251 y264 (x11_3 ++ [x12_3]) (wrap64 (x12_3 + 1)) l0_0 l0_1) else (none)) else (fathomlaw27_ShapeKnows.l2 kj43 a1 t248 t251 y264 x11_3 (wrap64 (x12_3 + 1)) l0_0 l0_1)))) else (none)) = some r := by rw [if_pos rfl] at H; exact H
         clear H
         have H := H1
         clear H1
         by_cases c53 : x10_3.length < 17592186044416
         rotate_left
         ·
          rw [if_neg c53] at H
          exact absurd H (by simp)
         rw [if_pos c53] at H
         have LMc53 := Aside0.mk c53
         clear c53
         obtain ⟨y264, hy264⟩ : ∃ y_ : List Int, y_ = (x10_3 ++ [x12_3]) := ⟨_, rfl⟩
         replace H : ((fathomref27_Rival.f kj43 l0_0 l0_1 a1 x12_3).bind fun t267 => (if t267 = true then (if x11_3.length < 17592186044416 then (fathomlaw27_ShapeKnows.l2 kj43 a1 t248 t251 y264 (x11_3 ++ [x12_3]) (wrap64 (x12_3 + 1)) l0_0 l0_1) else (none)) else (fathomlaw27_ShapeKnows.l2 kj43 a1 t248 t251 y264 x11_3 (wrap64 (x12_3 + 1)) l0_0 l0_1))) = some r := by first | (rw [hy264]; with_reducible exact H) | (have H2_ := (Option.bind_some _ _).symm.trans H; rw [hy264]; with_reducible exact H2_) | (have H2_ := (Option.bind_some _ _).symm.trans H; with_reducible exact H2_) | with_reducible exact H | (rw [hy264]; exact H) | exact H
         have Ny264 := Aside0.mk hy264
         clear hy264
         replace H := Option.bind_eq_some_iff.mp H
         obtain ⟨t267, A540, H⟩ := H
         replace H : (if t267 = true then (if x11_3.length < 17592186044416 then (fathomlaw27_ShapeKnows.l2 kj43 a1 t248 t251 y264 (x11_3 ++ [x12_3]) (wrap64 (x12_3 + 1)) l0_0 l0_1) else (none)) else (fathomlaw27_ShapeKnows.l2 kj43 a1 t248 t251 y264 x11_3 (wrap64 (x12_3 + 1)) l0_0 l0_1)) = some r := H
         have A54 := Aside0.mk A540
         clear A540
         by_cases c55 : t267 = true
         rotate_left
         ·
          replace c55 := Bool.eq_false_iff.mpr c55
          subst c55
          have H1 : (fathomlaw27_ShapeKnows.l2 kj43 a1 t248 t251 y264 x11_3 (wrap64 (x12_3 + 1)) l0_0 l0_1) = some r := by rw [if_neg (show ¬ (false = true) by decide)] at H; exact H
          clear H
          have H := H1
          clear H1
          have H' := Aside0.mk H
          clear H
          obtain ⟨hcz63_0, hcz63_1, hfz63_0, hfz63_1⟩ := bo2 BK238
          go_wp2_with (first | ((with_reducible refine gate_callee (f := 16) rfl ?_); refine gl (some 98) Try.func16 #[.agg #[.slice A0_0 l0_0.length c0_0, .slice A0_1 l0_1.length c0_1], .int .i64 a1, .int .i64 x12_3] ?_; (with_reducible refine (fathomref27_Source.calls kj43 _ _ l0_0 _ _ l0_1 a1 x12_3 true _ ?side1 ?side2 ?side3 ?side4 A51.out).mono ?_); (case side1 => exact cw HR0_0 HB); (case side2 => exact HC0_0.out); (case side3 => exact cw HR0_1 HB); (case side4 => exact HC0_1.out); rintro e w64 ⟨rfl, hb⟩; refine ⟨_, rfl, ?_⟩; replace HO_8 := Aside0.mk (Kd.R_below (rk HO_8) hb); replace HO_9 := Aside0.mk (Kd.R_below (rk HO_9) hb); replace HO_10 := Aside0.mk (Kd.R_below (rk HO_10) hb); replace HO_11 := Aside0.mk (Kd.R_below (rk HO_11) hb); replace BK238 := Aside0.mk (bw BK238 hb); replace HB := Aside0.mk (below_step bb hb); (try clear hb); (try clear hb2); (try clear hk); (try clear hi)) | ((with_reducible refine gate_builtin (b := .append) (xs := #[.tmp 99, .tmp 101]) rfl ?_); (try (refine gate_guard (by rfl) ?_; dsimp only)); at_builtin; refine Kd.R_append (Kd.int .i64) (w0 := w) w.heap.size rfl (.tmp 99) (.tmp 101) 23 3 (.int .i64 0) 8 rfl Try.underlying23 info3 rfl (by decide) (by omega) u10 x10_3 x12_3 [.int .i64 x12_3] (fun k_ => some k_ ≠ (v249 : Value).ownBlock ∧ some k_ ≠ (v252 : Value).ownBlock ∧ some k_ ≠ (u11 : Value).ownBlock) (fun _ => False) rfl rfl ?aP (fun _ hk => hk.elim) ?aF ?aO ?aB ?aS ?aL ?_; (case aP => exact rfl); (case aB => exact bb); (case aF => exact (fun k_ hk => ⟨Kd.fresh' (Kd.R_lt (rk HO_8)) k_ hk, Kd.fresh' (Kd.R_lt (rk HO_9)) k_ hk, Kd.fresh' (Kd.R_lt (rk HO_11)) k_ hk⟩)); (case aO => exact (rk HO_10)); (case aS => exact (below_size bb)); (case aL => have := LMc53.out; omega); intro v265 w65 ho hb hg hat; rw [← Ny264.out] at ho; replace HO_8 := Aside0.mk (Kd.R_after (ok := (fun k_ => some k_ ≠ (v252 : Value).ownBlock ∧ some k_ ≠ (u11 : Value).ownBlock)) (rm (Kd.R_mono HO_8.out (fun _ hk => ⟨⟨hk.1, hk.2.2⟩, hk.2.1⟩))) hg hat); replace HO_9 := Aside0.mk (Kd.R_after (ok := (fun k_ => some k_ ≠ (v249 : Value).ownBlock ∧ some k_ ≠ (u11 : Value).ownBlock)) (rm (Kd.R_mono HO_9.out (fun _ hk => ⟨⟨hk.1, hk.2.2⟩, hk.2.1⟩))) hg hat); replace HO_11 := Aside0.mk (Kd.R_after (ok := (fun k_ => some k_ ≠ (v249 : Value).ownBlock ∧ some k_ ≠ (v252 : Value).ownBlock)) (rm (Kd.R_mono HO_11.out (fun _ hk => ⟨⟨hk.1, hk.2.1⟩, hk.2.2⟩))) hg hat); replace BK238 := Aside0.mk (blk_grown (g := gb238) (o := .cells #[.slice A0_0 l0_0.length c0_0, .slice A0_1 l0_1.length c0_1] 25 (0, 0)) (bk BK238) hg (Kd.R_ne HO_10.out BK238.out (by decide))); replace HB := Aside0.mk (hb); have HO266 := Aside0.mk (ho); clear HO_10; clear ho hb hg hat; obtain ⟨hcz66_0, hcz66_1, hfz66_0, hfz66_1⟩ := bo2 BK238) | ((with_reducible refine gate_callee (f := 17) rfl ?_); refine gl (some 106) Try.func17 #[.agg #[.slice A0_0 l0_0.length c0_0, .slice A0_1 l0_1.length c0_1], .int .i64 a1, .int .i64 x12_3] ?_; (with_reducible refine (fathomref27_Rival.calls kj43 _ _ l0_0 _ _ l0_1 a1 x12_3 false _ ?side1 ?side2 ?side3 ?side4 A54.out).mono ?_); (case side1 => exact cw HR0_0 HB); (case side2 => exact HC0_0.out); (case side3 => exact cw HR0_1 HB); (case side4 => exact HC0_1.out); rintro e w67 ⟨rfl, hb⟩; refine ⟨_, rfl, ?_⟩; replace HO_8 := Aside0.mk (Kd.R_below (rk HO_8) hb); replace HO_9 := Aside0.mk (Kd.R_below (rk HO_9) hb); replace HO_11 := Aside0.mk (Kd.R_below (rk HO_11) hb); replace HO266 := Aside0.mk (Kd.R_below (rk HO266) hb); replace BK238 := Aside0.mk (bw BK238 hb); replace HB := Aside0.mk (below_step bb hb); (try clear hb); (try clear hb2); (try clear hk); (try clear hi)))
          go_roundg kj43
          case measure => have := HJ2.out; have := HK2.out; have := HK3.out; have := HJ43.out; omega
          case rel => exact ⟨(y264), (x11_3), (wrap64 (x12_3 + 1)), rs, H', ⟨by have := HJ2.out; have := HK2.out; have := HK3.out; have := HJ43.out; omega⟩, ⟨by refine rm ?_; exact Kd.R_mono HO_8.out (fun _ hk => ⟨hk.1.1, ⟨hk.2, hk.1.2⟩⟩)⟩, ⟨by refine rm ?_; exact Kd.R_mono HO_9.out (fun _ hk => ⟨hk.1.1, ⟨hk.2, hk.1.2⟩⟩)⟩, ⟨by refine rm ?_; exact HO266.out⟩, ⟨by refine rm ?_; exact Kd.R_mono HO_11.out (fun _ hk => ⟨hk.1.1, ⟨hk.1.2, hk.2⟩⟩)⟩, ⟨bk BK238⟩, ⟨bb⟩⟩
         subst c55
         have H1 : (if x11_3.length < 17592186044416 then (fathomlaw27_ShapeKnows.l2 kj43 a1 t248 t251 y264 (x11_3 ++ [x12_3]) (wrap64 (x12_3 + 1)) l0_0 l0_1) else (none)) = some r := by rw [if_pos rfl] at H; exact H
         clear H
         have H := H1
         clear H1
         by_cases c56 : x11_3.length < 17592186044416
         rotate_left
         ·
          rw [if_neg c56] at H
          exact absurd H (by simp)
         rw [if_pos c56] at H
         have LMc56 := Aside0.mk c56
         clear c56
         obtain ⟨y268, hy268⟩ : ∃ y_ : List Int, y_ = (x11_3 ++ [x12_3]) := ⟨_, rfl⟩
         replace H : (fathomlaw27_ShapeKnows.l2 kj43 a1 t248 t251 y264 y268 (wrap64 (x12_3 + 1)) l0_0 l0_1) = some r := by first | (rw [hy268]; with_reducible exact H) | (have H2_ := (Option.bind_some _ _).symm.trans H; rw [hy268]; with_reducible exact H2_) | (have H2_ := (Option.bind_some _ _).symm.trans H; with_reducible exact H2_) | with_reducible exact H | (rw [hy268]; exact H) | exact H
         have Ny268 := Aside0.mk hy268
         clear hy268
         have H' := Aside0.mk H
         clear H
         obtain ⟨hcz57_0, hcz57_1, hfz57_0, hfz57_1⟩ := bo2 BK238
         go_wp2_with (first | ((with_reducible refine gate_callee (f := 16) rfl ?_); refine gl (some 98) Try.func16 #[.agg #[.slice A0_0 l0_0.length c0_0, .slice A0_1 l0_1.length c0_1], .int .i64 a1, .int .i64 x12_3] ?_; (with_reducible refine (fathomref27_Source.calls kj43 _ _ l0_0 _ _ l0_1 a1 x12_3 true _ ?side1 ?side2 ?side3 ?side4 A51.out).mono ?_); (case side1 => exact cw HR0_0 HB); (case side2 => exact HC0_0.out); (case side3 => exact cw HR0_1 HB); (case side4 => exact HC0_1.out); rintro e w58 ⟨rfl, hb⟩; refine ⟨_, rfl, ?_⟩; replace HO_8 := Aside0.mk (Kd.R_below (rk HO_8) hb); replace HO_9 := Aside0.mk (Kd.R_below (rk HO_9) hb); replace HO_10 := Aside0.mk (Kd.R_below (rk HO_10) hb); replace HO_11 := Aside0.mk (Kd.R_below (rk HO_11) hb); replace BK238 := Aside0.mk (bw BK238 hb); replace HB := Aside0.mk (below_step bb hb); (try clear hb); (try clear hb2); (try clear hk); (try clear hi)) | ((with_reducible refine gate_builtin (b := .append) (xs := #[.tmp 99, .tmp 101]) rfl ?_); (try (refine gate_guard (by rfl) ?_; dsimp only)); at_builtin; refine Kd.R_append (Kd.int .i64) (w0 := w) w.heap.size rfl (.tmp 99) (.tmp 101) 23 3 (.int .i64 0) 8 rfl Try.underlying23 info3 rfl (by decide) (by omega) u10 x10_3 x12_3 [.int .i64 x12_3] (fun k_ => some k_ ≠ (v249 : Value).ownBlock ∧ some k_ ≠ (v252 : Value).ownBlock ∧ some k_ ≠ (u11 : Value).ownBlock) (fun _ => False) rfl rfl ?aP (fun _ hk => hk.elim) ?aF ?aO ?aB ?aS ?aL ?_; (case aP => exact rfl); (case aB => exact bb); (case aF => exact (fun k_ hk => ⟨Kd.fresh' (Kd.R_lt (rk HO_8)) k_ hk, Kd.fresh' (Kd.R_lt (rk HO_9)) k_ hk, Kd.fresh' (Kd.R_lt (rk HO_11)) k_ hk⟩)); (case aO => exact (rk HO_10)); (case aS => exact (below_size bb)); (case aL => have := LMc53.out; omega); intro v265 w59 ho hb hg hat; rw [← Ny264.out] at ho; replace HO_8 := Aside0.mk (Kd.R_after (ok := (fun k_ => some k_ ≠ (v252 : Value).ownBlock ∧ some k_ ≠ (u11 : Value).ownBlock)) (rm (Kd.R_mono HO_8.out (fun _ hk => ⟨⟨hk.1, hk.2.2⟩, hk.2.1⟩))) hg hat); replace HO_9 := Aside0.mk (Kd.R_after (ok := (fun k_ => some k_ ≠ (v249 : Value).ownBlock ∧ some k_ ≠ (u11 : Value).ownBlock)) (rm (Kd.R_mono HO_9.out (fun _ hk => ⟨⟨hk.1, hk.2.2⟩, hk.2.1⟩))) hg hat); replace HO_11 := Aside0.mk (Kd.R_after (ok := (fun k_ => some k_ ≠ (v249 : Value).ownBlock ∧ some k_ ≠ (v252 : Value).ownBlock)) (rm (Kd.R_mono HO_11.out (fun _ hk => ⟨⟨hk.1, hk.2.1⟩, hk.2.2⟩))) hg hat); replace BK238 := Aside0.mk (blk_grown (g := gb238) (o := .cells #[.slice A0_0 l0_0.length c0_0, .slice A0_1 l0_1.length c0_1] 25 (0, 0)) (bk BK238) hg (Kd.R_ne HO_10.out BK238.out (by decide))); replace HB := Aside0.mk (hb); have HO266 := Aside0.mk (ho); clear HO_10; clear ho hb hg hat; obtain ⟨hcz60_0, hcz60_1, hfz60_0, hfz60_1⟩ := bo2 BK238) | ((with_reducible refine gate_callee (f := 17) rfl ?_); refine gl (some 106) Try.func17 #[.agg #[.slice A0_0 l0_0.length c0_0, .slice A0_1 l0_1.length c0_1], .int .i64 a1, .int .i64 x12_3] ?_; (with_reducible refine (fathomref27_Rival.calls kj43 _ _ l0_0 _ _ l0_1 a1 x12_3 true _ ?side1 ?side2 ?side3 ?side4 A54.out).mono ?_); (case side1 => exact cw HR0_0 HB); (case side2 => exact HC0_0.out); (case side3 => exact cw HR0_1 HB); (case side4 => exact HC0_1.out); rintro e w61 ⟨rfl, hb⟩; refine ⟨_, rfl, ?_⟩; replace HO_8 := Aside0.mk (Kd.R_below (rk HO_8) hb); replace HO_9 := Aside0.mk (Kd.R_below (rk HO_9) hb); replace HO_11 := Aside0.mk (Kd.R_below (rk HO_11) hb); replace HO266 := Aside0.mk (Kd.R_below (rk HO266) hb); replace BK238 := Aside0.mk (bw BK238 hb); replace HB := Aside0.mk (below_step bb hb); (try clear hb); (try clear hb2); (try clear hk); (try clear hi)) | ((with_reducible refine gate_builtin (b := .append) (xs := #[.tmp 107, .tmp 109]) rfl ?_); (try (refine gate_guard (by rfl) ?_; dsimp only)); at_builtin; refine Kd.R_append (Kd.int .i64) (w0 := w) w.heap.size rfl (.tmp 107) (.tmp 109) 23 3 (.int .i64 0) 8 rfl Try.underlying23 info3 rfl (by decide) (by omega) u11 x11_3 x12_3 [.int .i64 x12_3] (fun k_ => some k_ ≠ (v249 : Value).ownBlock ∧ some k_ ≠ (v252 : Value).ownBlock ∧ some k_ ≠ (v265 : Value).ownBlock) (fun _ => False) rfl rfl ?aP (fun _ hk => hk.elim) ?aF ?aO ?aB ?aS ?aL ?_; (case aP => exact rfl); (case aB => exact bb); (case aF => exact (fun k_ hk => ⟨Kd.fresh' (Kd.R_lt (rk HO_8)) k_ hk, Kd.fresh' (Kd.R_lt (rk HO_9)) k_ hk, Kd.fresh' (Kd.R_lt (rk HO266)) k_ hk⟩)); (case aO => exact (rm (Kd.R_mono HO_11.out (fun _ hk => ⟨hk.1.1, ⟨hk.1.2, hk.2⟩⟩)))); (case aS => exact (below_size bb)); (case aL => have := LMc56.out; omega); intro v269 w62 ho hb hg hat; rw [← Ny268.out] at ho; replace HO_8 := Aside0.mk (Kd.R_after (ok := (fun k_ => some k_ ≠ (v252 : Value).ownBlock ∧ some k_ ≠ (v265 : Value).ownBlock)) (rm (Kd.R_mono HO_8.out (fun _ hk => ⟨⟨hk.1.1, hk.2⟩, hk.1.2⟩))) hg hat); replace HO_9 := Aside0.mk (Kd.R_after (ok := (fun k_ => some k_ ≠ (v249 : Value).ownBlock ∧ some k_ ≠ (v265 : Value).ownBlock)) (rm (Kd.R_mono HO_9.out (fun _ hk => ⟨⟨hk.1.1, hk.2⟩, hk.1.2⟩))) hg hat); replace BK238 := Aside0.mk (blk_grown (g := gb238) (o := .cells #[.slice A0_0 l0_0.length c0_0, .slice A0_1 l0_1.length c0_1] 25 (0, 0)) (bk BK238) hg (Kd.R_ne HO_11.out BK238.out (by decide))); replace HO266 := Aside0.mk (Kd.R_after (ok := (fun k_ => some k_ ≠ (v249 : Value).ownBlock ∧ some k_ ≠ (v252 : Value).ownBlock)) (rm (Kd.R_mono HO266.out (fun _ hk => ⟨⟨hk.1, hk.2.1⟩, hk.2.2⟩))) hg hat); replace HB := Aside0.mk (hb); have HO270 := Aside0.mk (ho); clear HO_11; clear ho hb hg hat))
         go_roundg kj43
         case measure => have := HJ2.out; have := HK2.out; have := HK3.out; have := HJ43.out; omega
         case rel => exact ⟨(y264), (y268), (wrap64 (x12_3 + 1)), rs, H', ⟨by have := HJ2.out; have := HK2.out; have := HK3.out; have := HJ43.out; omega⟩, ⟨by refine rm ?_; exact Kd.R_mono HO_8.out (fun _ hk => ⟨hk.1.1, ⟨hk.1.2, hk.2⟩⟩)⟩, ⟨by refine rm ?_; exact Kd.R_mono HO_9.out (fun _ hk => ⟨hk.1.1, ⟨hk.1.2, hk.2⟩⟩)⟩, ⟨by refine rm ?_; exact Kd.R_mono HO266.out (fun _ hk => ⟨hk.1.1, ⟨hk.1.2, hk.2⟩⟩)⟩, ⟨by refine rm ?_; exact HO270.out⟩, ⟨bk BK238⟩, ⟨bb⟩⟩

end Go.Proofs.Ytcoelecaigkfcaa.K
