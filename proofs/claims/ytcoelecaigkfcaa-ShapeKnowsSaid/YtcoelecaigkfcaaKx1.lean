-- Laid by drive.py (a program of the session's) out of the translation. Lean checks it.
import Derived.Test.YtcoelecaigkfcaaKx0
namespace Go.Proofs.Ytcoelecaigkfcaa.K
open Go.RowKit Go.Proofs.YtcoelecaigkfcaaW.PrintWords Go.Proofs.YtcoelecaigkfcaaW.PrintLast
set_option linter.unusedVariables false
set_option linter.unusedSimpArgs false

/-! ### fathomref27_May: function 6 -/
mutual
def fathomref27_May.j0 : Nat → Bool → List (S38) → List Int → Option (Bool)
  | 0, _, _, _ => none
  | k + 1, x22, x102000, x102001 => if x22 = true then (some false) else (fathomref27_May.l0 k 0 x102000 x102001)
def fathomref27_May.l0 : Nat → Int → List (S38) → List Int → Option (Bool)
  | 0, _, _, _ => none
  | k + 1, x3, x102000, x102001 => if x3 < (x102000.length : Int) then (if 0 ≤ x3 then (if ((rd_T38 x102000 x3).f0) < 0 then (fathomref27_May.j2 k x3 true x102000 x102001 ((rd_T38 x102000 x3).f0) ((rd_T38 x102000 x3).f1) ((rd_T38 x102000 x3).f2) ((rd_T38 x102000 x3).f3)) else (if ((rd_T38 x102000 x3).f0) ≥ (x102001.length : Int) then (fathomref27_May.j2 k x3 true x102000 x102001 ((rd_T38 x102000 x3).f0) ((rd_T38 x102000 x3).f1) ((rd_T38 x102000 x3).f2) ((rd_T38 x102000 x3).f3)) else (if ((rd_T38 x102000 x3).f1) < 0 then (fathomref27_May.j2 k x3 true x102000 x102001 ((rd_T38 x102000 x3).f0) ((rd_T38 x102000 x3).f1) ((rd_T38 x102000 x3).f2) ((rd_T38 x102000 x3).f3)) else (if ((rd_T38 x102000 x3).f2) < 1 then (fathomref27_May.j2 k x3 true x102000 x102001 ((rd_T38 x102000 x3).f0) ((rd_T38 x102000 x3).f1) ((rd_T38 x102000 x3).f2) ((rd_T38 x102000 x3).f3)) else (if ((rd_T38 x102000 x3).f2) > 11 then (fathomref27_May.j2 k x3 true x102000 x102001 ((rd_T38 x102000 x3).f0) ((rd_T38 x102000 x3).f1) ((rd_T38 x102000 x3).f2) ((rd_T38 x102000 x3).f3)) else (fathomref27_May.j2 k x3 (decide (((rd_T38 x102000 x3).f3) < 0)) x102000 x102001 ((rd_T38 x102000 x3).f0) ((rd_T38 x102000 x3).f1) ((rd_T38 x102000 x3).f2) ((rd_T38 x102000 x3).f3))))))) else (none)) else (fathomref27_May.l1 k 0 x102000 x102001)
def fathomref27_May.j2 : Nat → Int → Bool → List (S38) → List Int → Int → Int → Int → Int → Option (Bool)
  | 0, _, _, _, _, _, _, _, _ => none
  | k + 1, x3, x65, x102000, x102001, x104000, x104001, x104002, x104003 => if x65 = true then (some false) else (if x3 > 0 then (if 0 ≤ (wrap64 (x3 - 1)) then (if (wrap64 (x3 - 1)) < (x102000.length : Int) then (if x104000 < ((rd_T38 x102000 (wrap64 (x3 - 1))).f0) then (fathomref27_May.j3 k x3 true x102000 x102001 x104000 x104001 x104002 x104003) else (if x104000 = ((rd_T38 x102000 (wrap64 (x3 - 1))).f0) then (fathomref27_May.j3 k x3 (decide (x104001 ≤ ((rd_T38 x102000 (wrap64 (x3 - 1))).f1))) x102000 x102001 x104000 x104001 x104002 x104003) else (fathomref27_May.j3 k x3 false x102000 x102001 x104000 x104001 x104002 x104003))) else (none)) else (none)) else (fathomref27_May.j3 k x3 false x102000 x102001 x104000 x104001 x104002 x104003))
def fathomref27_May.j3 : Nat → Int → Bool → List (S38) → List Int → Int → Int → Int → Int → Option (Bool)
  | 0, _, _, _, _, _, _, _, _ => none
  | k + 1, x3, x103, x102000, x102001, x104000, x104001, x104002, x104003 => if x103 = true then (some false) else (if x104002 = 11 then (if x104003 ≤ x104000 then (some false) else (if x104003 ≥ (x102001.length : Int) then (some false) else (if 0 ≤ x104003 then (if x104003 < (x102001.length : Int) then (if (rd x102001 x104003) = x3 then (fathomref27_May.l0 k (wrap64 (x3 + 1)) x102000 x102001) else (some false)) else (none)) else (none)))) else (if x104003 ≥ 12 then (some false) else (fathomref27_May.l0 k (wrap64 (x3 + 1)) x102000 x102001)))
def fathomref27_May.l1 : Nat → Int → List (S38) → List Int → Option (Bool)
  | 0, _, _, _ => none
  | k + 1, x5, x102000, x102001 => if x5 < (x102001.length : Int) then (if 0 ≤ x5 then (if (rd x102001 x5) < (-1) then (fathomref27_May.j5 k x5 (rd x102001 x5) true x102000 x102001) else (fathomref27_May.j5 k x5 (rd x102001 x5) (decide ((rd x102001 x5) ≥ (x102000.length : Int))) x102000 x102001)) else (none)) else (some true)
def fathomref27_May.j5 : Nat → Int → Int → Bool → List (S38) → List Int → Option (Bool)
  | 0, _, _, _, _, _ => none
  | k + 1, x5, x6, x162, x102000, x102001 => if x162 = true then (some false) else (if x6 ≥ 0 then (if 0 ≤ x6 then (if x6 < (x102000.length : Int) then (if ((rd_T38 x102000 x6).f2) = 11 then (if ((rd_T38 x102000 x6).f3) = x5 then (fathomref27_May.l1 k (wrap64 (x5 + 1)) x102000 x102001) else (some false)) else (some false)) else (none)) else (none)) else (fathomref27_May.l1 k (wrap64 (x5 + 1)) x102000 x102001))
end
def fathomref27_May.f (k : Nat) (l0_0 : List (S38)) (l0_1 : List Int) : Option (Bool) := if (l0_0.length : Int) > 40 then (fathomref27_May.j0 k true l0_0 l0_1) else (if (l0_1.length : Int) < 1 then (fathomref27_May.j0 k true l0_0 l0_1) else (fathomref27_May.j0 k (decide ((l0_1.length : Int) > 6)) l0_0 l0_1))
theorem fathomref27_May.mono_l : ∀ k, (∀ y0 y1 y2, LeO (fathomref27_May.j0 k y0 y1 y2) (fathomref27_May.j0 (k + 1) y0 y1 y2)) ∧ (∀ y0 y1 y2, LeO (fathomref27_May.l0 k y0 y1 y2) (fathomref27_May.l0 (k + 1) y0 y1 y2)) ∧ (∀ y0 y1 y2 y3 y4 y5 y6 y7, LeO (fathomref27_May.j2 k y0 y1 y2 y3 y4 y5 y6 y7) (fathomref27_May.j2 (k + 1) y0 y1 y2 y3 y4 y5 y6 y7)) ∧ (∀ y0 y1 y2 y3 y4 y5 y6 y7, LeO (fathomref27_May.j3 k y0 y1 y2 y3 y4 y5 y6 y7) (fathomref27_May.j3 (k + 1) y0 y1 y2 y3 y4 y5 y6 y7)) ∧ (∀ y0 y1 y2, LeO (fathomref27_May.l1 k y0 y1 y2) (fathomref27_May.l1 (k + 1) y0 y1 y2)) ∧ (∀ y0 y1 y2 y3 y4, LeO (fathomref27_May.j5 k y0 y1 y2 y3 y4) (fathomref27_May.j5 (k + 1) y0 y1 y2 y3 y4))
  | 0 => ⟨fun _ _ _ r h => by simp [fathomref27_May.j0] at h, fun _ _ _ r h => by simp [fathomref27_May.l0] at h, fun _ _ _ _ _ _ _ _ r h => by simp [fathomref27_May.j2] at h, fun _ _ _ _ _ _ _ _ r h => by simp [fathomref27_May.j3] at h, fun _ _ _ r h => by simp [fathomref27_May.l1] at h, fun _ _ _ _ _ r h => by simp [fathomref27_May.j5] at h⟩
  | k + 1 => by
    obtain ⟨ih0, ih1, ih2, ih3, ih4, ih5⟩ := fathomref27_May.mono_l k
    refine ⟨?_, ?_, ?_, ?_, ?_, ?_⟩
    · intro y0 y1 y2
      unfold fathomref27_May.j0
      repeat' first
      | (with_reducible exact ih0 _ _ _)
      | (with_reducible exact ih1 _ _ _)
      | (with_reducible exact ih2 _ _ _ _ _ _ _ _)
      | (with_reducible exact ih3 _ _ _ _ _ _ _ _)
      | (with_reducible exact ih4 _ _ _)
      | (with_reducible exact ih5 _ _ _ _ _)
      | (with_reducible exact LeO.refl _)
      | (with_reducible exact LeO.none _)
      | (with_reducible refine LeO.ite ?_ ?_)
      | (with_reducible refine LeO.bind ?_ (fun _ => ?_))
      | exact ih0 _ _ _
      | exact ih1 _ _ _
      | exact ih2 _ _ _ _ _ _ _ _
      | exact ih3 _ _ _ _ _ _ _ _
      | exact ih4 _ _ _
      | exact ih5 _ _ _ _ _
      | exact LeO.none _
      | refine LeO.ite ?_ ?_
      | refine LeO.bind ?_ (fun _ => ?_)
    · intro y0 y1 y2
      unfold fathomref27_May.l0
      repeat' first
      | (with_reducible exact ih0 _ _ _)
      | (with_reducible exact ih1 _ _ _)
      | (with_reducible exact ih2 _ _ _ _ _ _ _ _)
      | (with_reducible exact ih3 _ _ _ _ _ _ _ _)
      | (with_reducible exact ih4 _ _ _)
      | (with_reducible exact ih5 _ _ _ _ _)
      | (with_reducible exact LeO.refl _)
      | (with_reducible exact LeO.none _)
      | (with_reducible refine LeO.ite ?_ ?_)
      | (with_reducible refine LeO.bind ?_ (fun _ => ?_))
      | exact ih0 _ _ _
      | exact ih1 _ _ _
      | exact ih2 _ _ _ _ _ _ _ _
      | exact ih3 _ _ _ _ _ _ _ _
      | exact ih4 _ _ _
      | exact ih5 _ _ _ _ _
      | exact LeO.none _
      | refine LeO.ite ?_ ?_
      | refine LeO.bind ?_ (fun _ => ?_)
    · intro y0 y1 y2 y3 y4 y5 y6 y7
      unfold fathomref27_May.j2
      repeat' first
      | (with_reducible exact ih0 _ _ _)
      | (with_reducible exact ih1 _ _ _)
      | (with_reducible exact ih2 _ _ _ _ _ _ _ _)
      | (with_reducible exact ih3 _ _ _ _ _ _ _ _)
      | (with_reducible exact ih4 _ _ _)
      | (with_reducible exact ih5 _ _ _ _ _)
      | (with_reducible exact LeO.refl _)
      | (with_reducible exact LeO.none _)
      | (with_reducible refine LeO.ite ?_ ?_)
      | (with_reducible refine LeO.bind ?_ (fun _ => ?_))
      | exact ih0 _ _ _
      | exact ih1 _ _ _
      | exact ih2 _ _ _ _ _ _ _ _
      | exact ih3 _ _ _ _ _ _ _ _
      | exact ih4 _ _ _
      | exact ih5 _ _ _ _ _
      | exact LeO.none _
      | refine LeO.ite ?_ ?_
      | refine LeO.bind ?_ (fun _ => ?_)
    · intro y0 y1 y2 y3 y4 y5 y6 y7
      unfold fathomref27_May.j3
      repeat' first
      | (with_reducible exact ih0 _ _ _)
      | (with_reducible exact ih1 _ _ _)
      | (with_reducible exact ih2 _ _ _ _ _ _ _ _)
      | (with_reducible exact ih3 _ _ _ _ _ _ _ _)
      | (with_reducible exact ih4 _ _ _)
      | (with_reducible exact ih5 _ _ _ _ _)
      | (with_reducible exact LeO.refl _)
      | (with_reducible exact LeO.none _)
      | (with_reducible refine LeO.ite ?_ ?_)
      | (with_reducible refine LeO.bind ?_ (fun _ => ?_))
      | exact ih0 _ _ _
      | exact ih1 _ _ _
      | exact ih2 _ _ _ _ _ _ _ _
      | exact ih3 _ _ _ _ _ _ _ _
      | exact ih4 _ _ _
      | exact ih5 _ _ _ _ _
      | exact LeO.none _
      | refine LeO.ite ?_ ?_
      | refine LeO.bind ?_ (fun _ => ?_)
    · intro y0 y1 y2
      unfold fathomref27_May.l1
      repeat' first
      | (with_reducible exact ih0 _ _ _)
      | (with_reducible exact ih1 _ _ _)
      | (with_reducible exact ih2 _ _ _ _ _ _ _ _)
      | (with_reducible exact ih3 _ _ _ _ _ _ _ _)
      | (with_reducible exact ih4 _ _ _)
      | (with_reducible exact ih5 _ _ _ _ _)
      | (with_reducible exact LeO.refl _)
      | (with_reducible exact LeO.none _)
      | (with_reducible refine LeO.ite ?_ ?_)
      | (with_reducible refine LeO.bind ?_ (fun _ => ?_))
      | exact ih0 _ _ _
      | exact ih1 _ _ _
      | exact ih2 _ _ _ _ _ _ _ _
      | exact ih3 _ _ _ _ _ _ _ _
      | exact ih4 _ _ _
      | exact ih5 _ _ _ _ _
      | exact LeO.none _
      | refine LeO.ite ?_ ?_
      | refine LeO.bind ?_ (fun _ => ?_)
    · intro y0 y1 y2 y3 y4
      unfold fathomref27_May.j5
      repeat' first
      | (with_reducible exact ih0 _ _ _)
      | (with_reducible exact ih1 _ _ _)
      | (with_reducible exact ih2 _ _ _ _ _ _ _ _)
      | (with_reducible exact ih3 _ _ _ _ _ _ _ _)
      | (with_reducible exact ih4 _ _ _)
      | (with_reducible exact ih5 _ _ _ _ _)
      | (with_reducible exact LeO.refl _)
      | (with_reducible exact LeO.none _)
      | (with_reducible refine LeO.ite ?_ ?_)
      | (with_reducible refine LeO.bind ?_ (fun _ => ?_))
      | exact ih0 _ _ _
      | exact ih1 _ _ _
      | exact ih2 _ _ _ _ _ _ _ _
      | exact ih3 _ _ _ _ _ _ _ _
      | exact ih4 _ _ _
      | exact ih5 _ _ _ _ _
      | exact LeO.none _
      | refine LeO.ite ?_ ?_
      | refine LeO.bind ?_ (fun _ => ?_)
theorem fathomref27_May.mono : ∀ a0 a1 k, LeO (fathomref27_May.f k a0 a1) (fathomref27_May.f (k + 1) a0 a1) := by
  intro a0 a1 k
  obtain ⟨ih0, ih1, ih2, ih3, ih4, ih5⟩ := fathomref27_May.mono_l k
  unfold fathomref27_May.f
  repeat' first
      | (with_reducible exact ih0 _ _ _)
      | (with_reducible exact ih1 _ _ _)
      | (with_reducible exact ih2 _ _ _ _ _ _ _ _)
      | (with_reducible exact ih3 _ _ _ _ _ _ _ _)
      | (with_reducible exact ih4 _ _ _)
      | (with_reducible exact ih5 _ _ _ _ _)
      | (with_reducible exact LeO.refl _)
      | (with_reducible exact LeO.none _)
      | (with_reducible refine LeO.ite ?_ ?_)
      | (with_reducible refine LeO.bind ?_ (fun _ => ?_))
      | exact ih0 _ _ _
      | exact ih1 _ _ _
      | exact ih2 _ _ _ _ _ _ _ _
      | exact ih3 _ _ _ _ _ _ _ _
      | exact ih4 _ _ _
      | exact ih5 _ _ _ _ _
      | exact LeO.none _
      | refine LeO.ite ?_ ?_
      | refine LeO.bind ?_ (fun _ => ?_)
set_option maxHeartbeats 8000000 in
set_option maxRecDepth 100000 in
theorem fathomref27_May.calls (k : Nat) (A0_0 : Option Addr) (c0_0 : Nat) (l0_0 : List (S38)) (A0_1 : Option Addr) (c0_1 : Nat) (l0_1 : List Int) (r : Bool) (w : World) (hr0_0 : Kd.C k38 w A0_0 l0_0.length l0_0) (hc0_0 : l0_0.length ≤ c0_0) (hr0_1 : Kd.C (Kd.int .i64) w A0_1 l0_1.length l0_1) (hc0_1 : l0_1.length ≤ c0_1) (h : fathomref27_May.f k l0_0 l0_1 = some r) :
    Calls Try.prog 6 #[.agg #[.slice A0_0 l0_0.length c0_0, .slice A0_1 l0_1.length c0_1]] w fun e w' => e = .returned (.bool r) ∧ Below w.heap.size w w' := by
 have hu25 := Try.underlying25
 have hu38 := Try.underlying38
 have HR0_0 := Aside0.mk hr0_0
 have HC0_0 := Aside0.mk hc0_0
 clear hr0_0 hc0_0
 have HR0_1 := Aside0.mk hr0_1
 have HC0_1 := Aside0.mk hc0_1
 clear hr0_1 hc0_1
 have HB := Aside0.mk (Below.refl w.heap.size w)
 have H : (if (l0_0.length : Int) > 40 then (fathomref27_May.j0 k true l0_0 l0_1) else (if (l0_1.length : Int) < 1 then (fathomref27_May.j0 k true l0_0 l0_1) else (fathomref27_May.j0 k (decide ((l0_1.length : Int) > 6)) l0_0 l0_1))) = some r := h
 clear h
 have HC2 := Aside0.mk H
 clear H
 go_enter Try.func6, Try.ntmps6
 go_upto_region 1 with (first | ((with_reducible refine gate_dst (N := 1) rfl ?_); (try (refine gate_guard (by rfl) ?_; dsimp only)); refine bx 1 #[.slice A0_0 l0_0.length c0_0, .slice A0_1 l0_1.length c0_1] 25 ?_; intro gb101 hg w3 hbox hb; have BK101 := Aside0.mk (hbox); have GW101 := Aside0.mk ((bz hg : w.heap.size ≤ gb101)); have GE101 := Aside0.mk ((bz hg : w.heap.size ≤ gb101)); replace HB := Aside0.mk (below_step bb hb); clear hb hbox hg))
 repeat ((with_reducible refine upon_gate ?_); go_simp; go_upto_region 1 with (first | ((with_reducible refine gate_dst (N := 1) rfl ?_); (try (refine gate_guard (by rfl) ?_; dsimp only)); refine bx 1 #[.slice A0_0 l0_0.length c0_0, .slice A0_1 l0_1.length c0_1] 25 ?_; intro gb101 hg w3 hbox hb; have BK101 := Aside0.mk (hbox); have GW101 := Aside0.mk ((bz hg : w.heap.size ≤ gb101)); have GE101 := Aside0.mk ((bz hg : w.heap.size ≤ gb101)); replace HB := Aside0.mk (below_step bb hb); clear hb hbox hg)))
 repeat (go_quiet (first | ((with_reducible refine gate_dst (N := 1) rfl ?_); (try (refine gate_guard (by rfl) ?_; dsimp only)); refine bx 1 #[.slice A0_0 l0_0.length c0_0, .slice A0_1 l0_1.length c0_1] 25 ?_; intro gb101 hg w3 hbox hb; have BK101 := Aside0.mk (hbox); have GW101 := Aside0.mk ((bz hg : w.heap.size ≤ gb101)); have GE101 := Aside0.mk ((bz hg : w.heap.size ≤ gb101)); replace HB := Aside0.mk (below_step bb hb); clear hb hbox hg)); go_upto_region 1 with (first | ((with_reducible refine gate_dst (N := 1) rfl ?_); (try (refine gate_guard (by rfl) ?_; dsimp only)); refine bx 1 #[.slice A0_0 l0_0.length c0_0, .slice A0_1 l0_1.length c0_1] 25 ?_; intro gb101 hg w3 hbox hb; have BK101 := Aside0.mk (hbox); have GW101 := Aside0.mk ((bz hg : w.heap.size ≤ gb101)); have GE101 := Aside0.mk ((bz hg : w.heap.size ≤ gb101)); replace HB := Aside0.mk (below_step bb hb); clear hb hbox hg)))
 (try simp only [Act.put, List.setIfInBounds_toArray, List.set_cons_zero, List.set_cons_succ])
 go_cut [22] (fun v22 wc => ∃ (kq : Nat) (x22_1 : Bool), v22 = .bool x22_1 ∧ Aside0 (fathomref27_May.j0 kq x22_1 l0_0 l0_1 = some r) ∧ Aside0 (kq ≤ k) ∧ Aside0 (wc.heap[gb101]? = some (.cells #[(.slice A0_0 l0_0.length c0_0), (.slice A0_1 l0_1.length c0_1)] 25 (0, 0))) ∧ Aside0 (Below w.heap.size w wc))
 case first =>
  have H := HC2.out
  clear HC2
  by_cases c4 : (l0_0.length : Int) > 40
  ·
   rw [if_pos c4] at H
   have c4b0 : decide (40 < (l0_0.length : Int)) = true := decide_eq_true c4
   have c4b1 : decide (40 < l0_0.length) = true := decide_eq_true (by omega)
   clear c4
   (first | rw [c4b0] | (simp only [i64_w, i32_w]; rw [c4b0]) | skip)
   have H' := Aside0.mk H
   clear H
   obtain ⟨hcz5_0, hcz5_1, hfz5_0, hfz5_1⟩ := bo2 BK101
   go_wp2
   repeat (go_quiet (fail); try go_wp2)
   go_meet
   case rel => exact ⟨_, (true), rs, H', ⟨by first | omega | exact Nat.le_refl _⟩, ⟨bk BK101⟩, ⟨bb⟩⟩
  rw [if_neg c4] at H
  have c4b0 : decide (40 < (l0_0.length : Int)) = false := decide_eq_false c4
  have c4b1 : decide (40 < l0_0.length) = false := decide_eq_false (by omega)
  clear c4
  (first | rw [c4b0] | (simp only [i64_w, i32_w]; rw [c4b0]) | skip)
  by_cases c6 : (l0_1.length : Int) < 1
  ·
   rw [if_pos c6] at H
   have c6b0 : decide ((l0_1.length : Int) < 1) = true := decide_eq_true c6
   have c6b1 : decide (l0_1.length < 1) = true := decide_eq_true (by omega)
   clear c6
   have H' := Aside0.mk H
   clear H
   obtain ⟨hcz7_0, hcz7_1, hfz7_0, hfz7_1⟩ := bo2 BK101
   go_wp2
   repeat (go_quiet (fail); try go_wp2)
   go_meet
   case rel => exact ⟨_, (true), rs, H', ⟨by first | omega | exact Nat.le_refl _⟩, ⟨bk BK101⟩, ⟨bb⟩⟩
  rw [if_neg c6] at H
  have c6b0 : decide ((l0_1.length : Int) < 1) = false := decide_eq_false c6
  have c6b1 : decide (l0_1.length < 1) = false := decide_eq_false (by omega)
  clear c6
  have H' := Aside0.mk H
  clear H
  obtain ⟨hcz8_0, hcz8_1, hfz8_0, hfz8_1⟩ := bo2 BK101
  go_wp2
  repeat (go_quiet (fail); try go_wp2)
  go_meet
  case rel => exact ⟨_, (decide ((l0_1.length : Int) > 6)), rs, H', ⟨by first | omega | exact Nat.le_refl _⟩, ⟨bk BK101⟩, ⟨bb⟩⟩
 case rest =>
  clear HC2
  try clear p2
  try clear c4
  try clear c4b0
  try clear c4b1
  try clear c6
  try clear c6b0
  try clear c6b1
  try clear hcz5_0
  try clear hcz5_1
  try clear hcz7_0
  try clear hcz7_1
  try clear hcz8_0
  try clear hcz8_1
  try clear hfz5_0
  try clear hfz5_1
  try clear hfz7_0
  try clear hfz7_1
  try clear hfz8_0
  try clear hfz8_1
  obtain ⟨kq, x22_1, rfl, HA, HJ1, BK101, HB⟩ := hcut
  cases kq with
  | zero => exact absurd HA.out (by simp [fathomref27_May.j0])
  | succ kj1 =>
   have H := HA.out
   clear HA
   simp only [fathomref27_May.j0] at H
   by_cases c9 : x22_1 = true
   ·
    subst c9
    have H1 : (some false) = some r := by rw [if_pos rfl] at H; exact H
    clear H
    have H := H1
    clear H1
    obtain rfl := Option.some.inj H
    go_wp2
    repeat (go_quiet (fail); try go_wp2)
    go_ret
    exact ⟨ew, bb⟩
   replace c9 := Bool.eq_false_iff.mpr c9
   subst c9
   have H1 : (fathomref27_May.l0 kj1 0 l0_0 l0_1) = some r := by rw [if_neg (show ¬ (false = true) by decide)] at H; exact H
   clear H
   have H := H1
   clear H1
   have H' := Aside0.mk H
   clear H
   go_wp2
   repeat (go_quiet (fail); try go_wp2)
   go_loopg [3] kj1 (fun kq v3 w' => ∃ (x3_2 : Int), v3 = .int .i64 x3_2 ∧ Aside0 (fathomref27_May.l0 kq x3_2 l0_0 l0_1 = some r) ∧ Aside0 (kq ≤ kj1) ∧ Aside0 (w'.heap[gb101]? = some (.cells #[(.slice A0_0 l0_0.length c0_0), (.slice A0_1 l0_1.length c0_1)] 25 (0, 0))) ∧ Aside0 (Below w.heap.size w w'))
   case atStart => exact ⟨(0), rs, H', ⟨Nat.le_refl _⟩, ⟨bk BK101⟩, ⟨bb⟩⟩
   case round =>
    clear H'
    try clear p2
    try clear c4
    try clear c4b0
    try clear c4b1
    try clear c6
    try clear c6b0
    try clear c6b1
    try clear c9
    try clear hcz5_0
    try clear hcz5_1
    try clear hcz7_0
    try clear hcz7_1
    try clear hcz8_0
    try clear hcz8_1
    try clear hfz5_0
    try clear hfz5_1
    try clear hfz7_0
    try clear hfz7_1
    try clear hfz8_0
    try clear hfz8_1
    obtain ⟨x3_2, rfl, HA, HK2, BK101, HB⟩ := hrel
    cases gk with
    | zero => exact absurd HA.out (by simp [fathomref27_May.l0])
    | succ k2 =>
     have H := HA.out
     clear HA
     simp only [fathomref27_May.l0] at H
     by_cases c10 : x3_2 < (l0_0.length : Int)
     rotate_left
     ·
      rw [if_neg c10] at H
      have c10b0 : decide (x3_2 < (l0_0.length : Int)) = false := decide_eq_false c10
      clear c10
      have H' := Aside0.mk H
      clear H
      obtain ⟨hcz79_0, hcz79_1, hfz79_0, hfz79_1⟩ := bo2 BK101
      go_wp2
      repeat (go_quiet (fail); try go_wp2)
      go_loopg [5] k2 (fun kq v5 w' => ∃ (x5_3 : Int), v5 = .int .i64 x5_3 ∧ Aside0 (fathomref27_May.l1 kq x5_3 l0_0 l0_1 = some r) ∧ Aside0 (kq ≤ k2) ∧ Aside0 (w'.heap[gb101]? = some (.cells #[(.slice A0_0 l0_0.length c0_0), (.slice A0_1 l0_1.length c0_1)] 25 (0, 0))) ∧ Aside0 (Below w.heap.size w w'))
      case atStart => exact ⟨(0), rs, H', ⟨Nat.le_refl _⟩, ⟨bk BK101⟩, ⟨bb⟩⟩
      case round =>
       clear H'
       try clear c1
       try clear p1
       try clear q1
       try clear hx1
       try clear c2
       try clear p2
       try clear c3
       try clear c4
       try clear c4b0
       try clear c4b1
       try clear c5
       try clear c6
       try clear c6b0
       try clear c6b1
       try clear p6
       try clear c7
       try clear c9
       try clear c10
       try clear c10b0
       try clear p10
       try clear q10
       try clear hx10
       try clear c11
       try clear c11b0
       try clear c15
       try clear c17
       try clear c17b0
       try clear c18
       try clear c20
       try clear c20b0
       try clear c21
       try clear c24
       try clear c24b0
       try clear c25
       try clear c28
       try clear c28b0
       try clear c29
       try clear c32
       try clear c32b0
       try clear c33
       try clear c36
       try clear c39
       try clear c41
       try clear c41b0
       try clear c43
       try clear c43b0
       try clear c44
       try clear c44b0
       try clear c45
       try clear c45b0
       try clear c46
       try clear c49
       try clear c49b0
       try clear c49b1
       try clear c50
       try clear c53
       try clear c56
       try clear c57
       try clear c57b0
       try clear c57b1
       try clear c58
       try clear c58b0
       try clear c59
       try clear c61
       try clear c61b0
       try clear c62
       try clear p64
       try clear c65
       try clear c65b0
       try clear c66
       try clear c66b0
       try clear c67
       try clear c67b0
       try clear c67b1
       try clear c68
       try clear c71
       try clear c74
       try clear c74b0
       try clear c75
       try clear c77
       try clear hcz13_0
       try clear hcz13_1
       try clear hcz16_0
       try clear hcz16_1
       try clear hcz16_2
       try clear hcz16_3
       try clear hcz19_0
       try clear hcz19_1
       try clear hcz19_2
       try clear hcz19_3
       try clear hcz22_0
       try clear hcz22_1
       try clear hcz22_2
       try clear hcz22_3
       try clear hcz23_0
       try clear hcz23_1
       try clear hcz26_0
       try clear hcz26_1
       try clear hcz26_2
       try clear hcz26_3
       try clear hcz27_0
       try clear hcz27_1
       try clear hcz30_0
       try clear hcz30_1
       try clear hcz30_2
       try clear hcz30_3
       try clear hcz31_0
       try clear hcz31_1
       try clear hcz34_0
       try clear hcz34_1
       try clear hcz34_2
       try clear hcz34_3
       try clear hcz35_0
       try clear hcz35_1
       try clear hcz37_0
       try clear hcz37_1
       try clear hcz37_2
       try clear hcz37_3
       try clear hcz38_0
       try clear hcz38_1
       try clear hcz47_0
       try clear hcz47_1
       try clear hcz47_2
       try clear hcz47_3
       try clear hcz48_0
       try clear hcz48_1
       try clear hcz51_0
       try clear hcz51_1
       try clear hcz51_2
       try clear hcz51_3
       try clear hcz52_0
       try clear hcz52_1
       try clear hcz54_0
       try clear hcz54_1
       try clear hcz54_2
       try clear hcz54_3
       try clear hcz55_0
       try clear hcz55_1
       try clear hcz5_0
       try clear hcz5_1
       try clear hcz60_0
       try clear hcz60_1
       try clear hcz60_2
       try clear hcz60_3
       try clear hcz63_0
       try clear hcz63_1
       try clear hcz63_2
       try clear hcz63_3
       try clear hcz64_0
       try clear hcz64_1
       try clear hcz69_0
       try clear hcz69_1
       try clear hcz69_2
       try clear hcz69_3
       try clear hcz70_0
       try clear hcz70_1
       try clear hcz72_0
       try clear hcz72_1
       try clear hcz72_2
       try clear hcz72_3
       try clear hcz73_0
       try clear hcz73_1
       try clear hcz76_0
       try clear hcz76_1
       try clear hcz76_2
       try clear hcz76_3
       try clear hcz78_0
       try clear hcz78_1
       try clear hcz78_2
       try clear hcz78_3
       try clear hcz79_0
       try clear hcz79_1
       try clear hcz7_0
       try clear hcz7_1
       try clear hcz8_0
       try clear hcz8_1
       try clear hfz13_0
       try clear hfz13_1
       try clear hfz16_0
       try clear hfz16_1
       try clear hfz16_2
       try clear hfz16_3
       try clear hfz19_0
       try clear hfz19_1
       try clear hfz19_2
       try clear hfz19_3
       try clear hfz22_0
       try clear hfz22_1
       try clear hfz22_2
       try clear hfz22_3
       try clear hfz23_0
       try clear hfz23_1
       try clear hfz26_0
       try clear hfz26_1
       try clear hfz26_2
       try clear hfz26_3
       try clear hfz27_0
       try clear hfz27_1
       try clear hfz30_0
       try clear hfz30_1
       try clear hfz30_2
       try clear hfz30_3
       try clear hfz31_0
       try clear hfz31_1
       try clear hfz34_0
       try clear hfz34_1
       try clear hfz34_2
       try clear hfz34_3
       try clear hfz35_0
       try clear hfz35_1
       try clear hfz37_0
       try clear hfz37_1
       try clear hfz37_2
       try clear hfz37_3
       try clear hfz38_0
       try clear hfz38_1
       try clear hfz47_0
       try clear hfz47_1
       try clear hfz47_2
       try clear hfz47_3
       try clear hfz48_0
       try clear hfz48_1
       try clear hfz51_0
       try clear hfz51_1
       try clear hfz51_2
       try clear hfz51_3
       try clear hfz52_0
       try clear hfz52_1
       try clear hfz54_0
       try clear hfz54_1
       try clear hfz54_2
       try clear hfz54_3
       try clear hfz55_0
       try clear hfz55_1
       try clear hfz5_0
       try clear hfz5_1
       try clear hfz60_0
       try clear hfz60_1
       try clear hfz60_2
       try clear hfz60_3
       try clear hfz63_0
       try clear hfz63_1
       try clear hfz63_2
       try clear hfz63_3
       try clear hfz64_0
       try clear hfz64_1
       try clear hfz69_0
       try clear hfz69_1
       try clear hfz69_2
       try clear hfz69_3
       try clear hfz70_0
       try clear hfz70_1
       try clear hfz72_0
       try clear hfz72_1
       try clear hfz72_2
       try clear hfz72_3
       try clear hfz73_0
       try clear hfz73_1
       try clear hfz76_0
       try clear hfz76_1
       try clear hfz76_2
       try clear hfz76_3
       try clear hfz78_0
       try clear hfz78_1
       try clear hfz78_2
       try clear hfz78_3
       try clear hfz79_0
       try clear hfz79_1
       try clear hfz7_0
       try clear hfz7_1
       try clear hfz8_0
       try clear hfz8_1
       try clear hx102_0
       try clear hx102_1
       try clear hx102_2
       try clear hx102_3
       try clear hx104_0
       try clear hx104_1
       try clear hx104_2
       try clear hx104_3
       try clear hx105_0
       try clear hx105_1
       try clear hx105_2
       try clear hx105_3
       try clear hx106_0
       try clear hx106_1
       try clear hx106_2
       try clear hx106_3
       try clear hx107_0
       try clear p102
       try clear p104
       try clear p105
       try clear p106
       try clear p107
       try clear q102
       try clear q104
       try clear q105
       try clear q106
       try clear q107
       obtain ⟨x5_3, rfl, HA, HK3, BK101, HB⟩ := hrel
       cases gk with
       | zero => exact absurd HA.out (by simp [fathomref27_May.l1])
       | succ k3 =>
        have H := HA.out
        clear HA
        simp only [fathomref27_May.l1] at H
        by_cases c80 : x5_3 < (l0_1.length : Int)
        rotate_left
        ·
         rw [if_neg c80] at H
         have c80b0 : decide (x5_3 < (l0_1.length : Int)) = false := decide_eq_false c80
         clear c80
         obtain rfl := Option.some.inj H
         obtain ⟨hcz95_0, hcz95_1, hfz95_0, hfz95_1⟩ := bo2 BK101
         go_wp2
         repeat (go_quiet (fail); try go_wp2)
         go_ret
         exact ⟨ew, bb⟩
        rw [if_pos c80] at H
        have c80b0 : decide (x5_3 < (l0_1.length : Int)) = true := decide_eq_true c80
        clear c80
        by_cases c81 : 0 ≤ x5_3
        rotate_left
        ·
         rw [if_neg c81] at H
         exact absurd H (by simp)
        rw [if_pos c81] at H
        have c81b0 : decide (0 ≤ x5_3) = true := decide_eq_true c81
        clear c81
        have HC82 := Aside0.mk H
        clear H
        obtain ⟨hcz83_0, hcz83_1, hfz83_0, hfz83_1⟩ := bo2 BK101
        have p108 : 0 ≤ (x5_3 : Int) := od
        have q108 : x5_3 < (l0_1.length : Int) := od
        obtain ⟨ad108, e108, hx108_0⟩ := Kd.at_int HR0_1.out x5_3 p108 q108
        cases e108
        replace hx108_0 := bl HB hx108_0
        replace p108 := eq_true p108
        replace q108 := eq_true q108
        go_upto_region 17 with (fail)
        repeat ((with_reducible refine upon_gate ?_); go_simp; go_upto_region 17 with (fail))
        repeat (go_quiet (fail); go_upto_region 17 with (fail))
        go_cut [162] (fun v162 wc => ∃ (kq : Nat) (x162_81 : Bool), v162 = .bool x162_81 ∧ Aside0 (fathomref27_May.j5 kq x5_3 (rd l0_1 x5_3) x162_81 l0_0 l0_1 = some r) ∧ Aside0 (kq ≤ k3) ∧ Aside0 (wc.heap[gb101]? = some (.cells #[(.slice A0_0 l0_0.length c0_0), (.slice (some ad108) l0_1.length c0_1)] 25 (0, 0))) ∧ Aside0 (Below w.heap.size w wc))
        case first =>
         have H := HC82.out
         clear HC82
         by_cases c84 : (rd l0_1 x5_3) < (-1)
         ·
          rw [if_pos c84] at H
          have c84b0 : decide ((rd l0_1 x5_3) < (-1)) = true := decide_eq_true c84
          clear c84
          (first | rw [c84b0] | (simp only [i64_w, i32_w]; rw [c84b0]) | skip)
          have H' := Aside0.mk H
          clear H
          go_wp2
          repeat (go_quiet (fail); try go_wp2)
          go_meet
          case rel => exact ⟨_, (true), rs, H', ⟨by have := HJ1.out; have := HK2.out; have := HK3.out; first | omega | exact Nat.le_refl _⟩, ⟨bk BK101⟩, ⟨bb⟩⟩
         rw [if_neg c84] at H
         have c84b0 : decide ((rd l0_1 x5_3) < (-1)) = false := decide_eq_false c84
         clear c84
         (first | rw [c84b0] | (simp only [i64_w, i32_w]; rw [c84b0]) | skip)
         have H' := Aside0.mk H
         clear H
         obtain ⟨hcz85_0, hcz85_1, hfz85_0, hfz85_1⟩ := bo2 BK101
         go_wp2
         repeat (go_quiet (fail); try go_wp2)
         go_meet
         case rel => exact ⟨_, (decide ((rd l0_1 x5_3) ≥ (l0_0.length : Int))), rs, H', ⟨by have := HJ1.out; have := HK2.out; have := HK3.out; first | omega | exact Nat.le_refl _⟩, ⟨bk BK101⟩, ⟨bb⟩⟩
        case rest =>
         clear HC82
         try clear c1
         try clear p1
         try clear q1
         try clear hx1
         try clear c2
         try clear p2
         try clear c3
         try clear c4
         try clear c4b0
         try clear c4b1
         try clear c5
         try clear c6
         try clear c6b0
         try clear c6b1
         try clear p6
         try clear c7
         try clear c8
         try clear c9
         try clear c10
         try clear c10b0
         try clear p10
         try clear q10
         try clear hx10
         try clear c11
         try clear c11b0
         try clear c15
         try clear c17
         try clear c17b0
         try clear c18
         try clear c20
         try clear c20b0
         try clear c21
         try clear c24
         try clear c24b0
         try clear c25
         try clear c28
         try clear c28b0
         try clear c29
         try clear c32
         try clear c32b0
         try clear c33
         try clear c36
         try clear c39
         try clear c41
         try clear c41b0
         try clear c43
         try clear c43b0
         try clear c44
         try clear c44b0
         try clear c45
         try clear c45b0
         try clear c46
         try clear c49
         try clear c49b0
         try clear c49b1
         try clear c50
         try clear c53
         try clear c56
         try clear c57
         try clear c57b0
         try clear c57b1
         try clear c58
         try clear c58b0
         try clear c59
         try clear c61
         try clear c61b0
         try clear c62
         try clear p64
         try clear c65
         try clear c65b0
         try clear c66
         try clear c66b0
         try clear c67
         try clear c67b0
         try clear c67b1
         try clear c68
         try clear c71
         try clear c74
         try clear c74b0
         try clear c75
         try clear c77
         try clear c80
         try clear c80b0
         try clear c81
         try clear c81b0
         try clear c84
         try clear c84b0
         try clear hcz13_0
         try clear hcz13_1
         try clear hcz16_0
         try clear hcz16_1
         try clear hcz16_2
         try clear hcz16_3
         try clear hcz19_0
         try clear hcz19_1
         try clear hcz19_2
         try clear hcz19_3
         try clear hcz22_0
         try clear hcz22_1
         try clear hcz22_2
         try clear hcz22_3
         try clear hcz23_0
         try clear hcz23_1
         try clear hcz26_0
         try clear hcz26_1
         try clear hcz26_2
         try clear hcz26_3
         try clear hcz27_0
         try clear hcz27_1
         try clear hcz30_0
         try clear hcz30_1
         try clear hcz30_2
         try clear hcz30_3
         try clear hcz31_0
         try clear hcz31_1
         try clear hcz34_0
         try clear hcz34_1
         try clear hcz34_2
         try clear hcz34_3
         try clear hcz35_0
         try clear hcz35_1
         try clear hcz37_0
         try clear hcz37_1
         try clear hcz37_2
         try clear hcz37_3
         try clear hcz38_0
         try clear hcz38_1
         try clear hcz47_0
         try clear hcz47_1
         try clear hcz47_2
         try clear hcz47_3
         try clear hcz48_0
         try clear hcz48_1
         try clear hcz51_0
         try clear hcz51_1
         try clear hcz51_2
         try clear hcz51_3
         try clear hcz52_0
         try clear hcz52_1
         try clear hcz54_0
         try clear hcz54_1
         try clear hcz54_2
         try clear hcz54_3
         try clear hcz55_0
         try clear hcz55_1
         try clear hcz5_0
         try clear hcz5_1
         try clear hcz60_0
         try clear hcz60_1
         try clear hcz60_2
         try clear hcz60_3
         try clear hcz63_0
         try clear hcz63_1
         try clear hcz63_2
         try clear hcz63_3
         try clear hcz64_0
         try clear hcz64_1
         try clear hcz69_0
         try clear hcz69_1
         try clear hcz69_2
         try clear hcz69_3
         try clear hcz70_0
         try clear hcz70_1
         try clear hcz72_0
         try clear hcz72_1
         try clear hcz72_2
         try clear hcz72_3
         try clear hcz73_0
         try clear hcz73_1
         try clear hcz76_0
         try clear hcz76_1
         try clear hcz76_2
         try clear hcz76_3
         try clear hcz78_0
         try clear hcz78_1
         try clear hcz78_2
         try clear hcz78_3
         try clear hcz79_0
         try clear hcz79_1
         try clear hcz7_0
         try clear hcz7_1
         try clear hcz83_0
         try clear hcz83_1
         try clear hcz85_0
         try clear hcz85_1
         try clear hcz8_0
         try clear hcz8_1
         try clear hfz13_0
         try clear hfz13_1
         try clear hfz16_0
         try clear hfz16_1
         try clear hfz16_2
         try clear hfz16_3
         try clear hfz19_0
         try clear hfz19_1
         try clear hfz19_2
         try clear hfz19_3
         try clear hfz22_0
         try clear hfz22_1
         try clear hfz22_2
         try clear hfz22_3
         try clear hfz23_0
         try clear hfz23_1
         try clear hfz26_0
         try clear hfz26_1
         try clear hfz26_2
         try clear hfz26_3
         try clear hfz27_0
         try clear hfz27_1
         try clear hfz30_0
         try clear hfz30_1
         try clear hfz30_2
         try clear hfz30_3
         try clear hfz31_0
         try clear hfz31_1
         try clear hfz34_0
         try clear hfz34_1
         try clear hfz34_2
         try clear hfz34_3
         try clear hfz35_0
         try clear hfz35_1
         try clear hfz37_0
         try clear hfz37_1
         try clear hfz37_2
         try clear hfz37_3
         try clear hfz38_0
         try clear hfz38_1
         try clear hfz47_0
         try clear hfz47_1
         try clear hfz47_2
         try clear hfz47_3
         try clear hfz48_0
         try clear hfz48_1
         try clear hfz51_0
         try clear hfz51_1
         try clear hfz51_2
         try clear hfz51_3
         try clear hfz52_0
         try clear hfz52_1
         try clear hfz54_0
         try clear hfz54_1
         try clear hfz54_2
         try clear hfz54_3
         try clear hfz55_0
         try clear hfz55_1
         try clear hfz5_0
         try clear hfz5_1
         try clear hfz60_0
         try clear hfz60_1
         try clear hfz60_2
         try clear hfz60_3
         try clear hfz63_0
         try clear hfz63_1
         try clear hfz63_2
         try clear hfz63_3
         try clear hfz64_0
         try clear hfz64_1
         try clear hfz69_0
         try clear hfz69_1
         try clear hfz69_2
         try clear hfz69_3
         try clear hfz70_0
         try clear hfz70_1
         try clear hfz72_0
         try clear hfz72_1
         try clear hfz72_2
         try clear hfz72_3
         try clear hfz73_0
         try clear hfz73_1
         try clear hfz76_0
         try clear hfz76_1
         try clear hfz76_2
         try clear hfz76_3
         try clear hfz78_0
         try clear hfz78_1
         try clear hfz78_2
         try clear hfz78_3
         try clear hfz79_0
         try clear hfz79_1
         try clear hfz7_0
         try clear hfz7_1
         try clear hfz83_0
         try clear hfz83_1
         try clear hfz85_0
         try clear hfz85_1
         try clear hfz8_0
         try clear hfz8_1
         try clear hx102_0
         try clear hx102_1
         try clear hx102_2
         try clear hx102_3
         try clear hx104_0
         try clear hx104_1
         try clear hx104_2
         try clear hx104_3
         try clear hx105_0
         try clear hx105_1
         try clear hx105_2
         try clear hx105_3
         try clear hx106_0
         try clear hx106_1
         try clear hx106_2
         try clear hx106_3
         try clear hx107_0
         try clear hx108_0
         try clear p102
         try clear p104
         try clear p105
         try clear p106
         try clear p107
         try clear p108
         try clear q102
         try clear q104
         try clear q105
         try clear q106
         try clear q107
         try clear q108
         obtain ⟨kq, x162_81, rfl, HA, HJ81, BK101, HB⟩ := hcut
         cases kq with
         | zero => exact absurd HA.out (by simp [fathomref27_May.j5])
         | succ kj81 =>
          have H := HA.out
          clear HA
          simp only [fathomref27_May.j5] at H
          by_cases c86 : x162_81 = true
          ·
           subst c86
           have H1 : (some false) = some r := by rw [if_pos rfl] at H; exact H
           clear H
           have H := H1
           clear H1
           obtain rfl := Option.some.inj H
           go_wp2
           repeat (go_quiet (fail); try go_wp2)
           go_ret
           exact ⟨ew, bb⟩
          replace c86 := Bool.eq_false_iff.mpr c86
          subst c86
          have H1 : (if (rd l0_1 x5_3) ≥ 0 then (if 0 ≤ (rd l0_1 x5_3) then (if (rd l0_1 x5_3) < (l0_0.length : Int) then (if ((rd_T38 l0_0 (rd l0_1 x5_3)).f2) = 11 then (if ((rd_T38 l0_0 (rd l0_1 x5_3)).f3) = x5_3 then (fathomref27_May.l1 kj81 (wrap64 (x5_3 + 1)) l0_0 l0_1) else (some false)) else (some false)) else (none)) else (none)) else (fathomref27_May.l1 kj81 (wrap64 (x5_3 + 1)) l0_0 l0_1)) = some r := by rw [if_neg (show ¬ (false = true) by decide)] at H; exact H
          clear H
          have H := H1
          clear H1
          by_cases c87 : (rd l0_1 x5_3) ≥ 0
          rotate_left
          ·
           rw [if_neg c87] at H
           have c87b0 : decide (0 ≤ (rd l0_1 x5_3)) = false := decide_eq_false c87
           clear c87
           have H' := Aside0.mk H
           clear H
           go_wp2
           repeat (go_quiet (fail); try go_wp2)
           go_roundg kj81
           case measure => have := HJ1.out; have := HK2.out; have := HK3.out; have := HJ81.out; omega
           case rel => exact ⟨(wrap64 (x5_3 + 1)), rs, H', ⟨by have := HJ1.out; have := HK2.out; have := HK3.out; have := HJ81.out; omega⟩, ⟨bk BK101⟩, ⟨bb⟩⟩
          rw [if_pos c87] at H
          have c87b0 : decide (0 ≤ (rd l0_1 x5_3)) = true := decide_eq_true c87
          clear c87
          by_cases c88 : 0 ≤ (rd l0_1 x5_3)
          rotate_left
          ·
           rw [if_neg c88] at H
           exact absurd H (by simp)
          rw [if_pos c88] at H
          have c88b0 : decide (0 ≤ (rd l0_1 x5_3)) = true := decide_eq_true c88
          clear c88
          by_cases c89 : (rd l0_1 x5_3) < (l0_0.length : Int)
          rotate_left
          ·
           rw [if_neg c89] at H
           exact absurd H (by simp)
          rw [if_pos c89] at H
          have c89b0 : decide ((rd l0_1 x5_3) < (l0_0.length : Int)) = true := decide_eq_true c89
          clear c89
          by_cases c90 : ((rd_T38 l0_0 (rd l0_1 x5_3)).f2) = 11
          rotate_left
          ·
           rw [if_neg c90] at H
           have c90b0 : (((rd_T38 l0_0 (rd l0_1 x5_3)).f2) == 11) = false := beq_eq_false_iff_ne.mpr c90
           have c90b1 : (((rd_T38 l0_0 (rd l0_1 x5_3)).f2) != 11) = true := bne_iff_ne.mpr c90
           obtain rfl := Option.some.inj H
           obtain ⟨hcz94_0, hcz94_1, hfz94_0, hfz94_1⟩ := bo2 BK101
           have p109 : 0 ≤ ((rd l0_1 x5_3) : Int) := od
           have q109 : (rd l0_1 x5_3) < (l0_0.length : Int) := od
           obtain ⟨ad109, e109, hx109_0, hx109_1, hx109_2, hx109_3⟩ := at_T38 HR0_0.out (rd l0_1 x5_3) p109 q109
           cases e109
           replace hx109_0 := bl HB hx109_0
           replace hx109_1 := bl HB hx109_1
           replace hx109_2 := bl HB hx109_2
           replace hx109_3 := bl HB hx109_3
           replace p109 := eq_true p109
           replace q109 := eq_true q109
           go_wp2
           repeat (go_quiet (fail); try go_wp2)
           go_ret
           exact ⟨ew, bb⟩
          rw [if_pos c90] at H
          have c90b0 : (((rd_T38 l0_0 (rd l0_1 x5_3)).f2) == 11) = true := beq_iff_eq.mpr c90
          have c90b1 : (((rd_T38 l0_0 (rd l0_1 x5_3)).f2) != 11) = false := bne_eq_false_iff_eq.mpr c90
          clear c90
          by_cases c91 : ((rd_T38 l0_0 (rd l0_1 x5_3)).f3) = x5_3
          rotate_left
          ·
           rw [if_neg c91] at H
           have c91b0 : (((rd_T38 l0_0 (rd l0_1 x5_3)).f3) == x5_3) = false := beq_eq_false_iff_ne.mpr c91
           have c91b1 : (((rd_T38 l0_0 (rd l0_1 x5_3)).f3) != x5_3) = true := bne_iff_ne.mpr c91
           obtain rfl := Option.some.inj H
           obtain ⟨hcz93_0, hcz93_1, hfz93_0, hfz93_1⟩ := bo2 BK101
           have p109 : 0 ≤ ((rd l0_1 x5_3) : Int) := od
           have q109 : (rd l0_1 x5_3) < (l0_0.length : Int) := od
           obtain ⟨ad109, e109, hx109_0, hx109_1, hx109_2, hx109_3⟩ := at_T38 HR0_0.out (rd l0_1 x5_3) p109 q109
           cases e109
           replace hx109_0 := bl HB hx109_0
           replace hx109_1 := bl HB hx109_1
           replace hx109_2 := bl HB hx109_2
           replace hx109_3 := bl HB hx109_3
           replace p109 := eq_true p109
           replace q109 := eq_true q109
           have p110 : 0 ≤ ((rd l0_1 x5_3) : Int) := od
           have q110 : (rd l0_1 x5_3) < (l0_0.length : Int) := od
           obtain ⟨ad110, e110, hx110_0, hx110_1, hx110_2, hx110_3⟩ := at_T38 HR0_0.out (rd l0_1 x5_3) p110 q110
           obtain rfl : ad109 = ad110 := (by injection e110)
           replace hx110_0 := bl HB hx110_0
           replace hx110_1 := bl HB hx110_1
           replace hx110_2 := bl HB hx110_2
           replace hx110_3 := bl HB hx110_3
           replace p110 := eq_true p110
           replace q110 := eq_true q110
           go_wp2
           repeat (go_quiet (fail); try go_wp2)
           go_ret
           exact ⟨ew, bb⟩
          rw [if_pos c91] at H
          have c91b0 : (((rd_T38 l0_0 (rd l0_1 x5_3)).f3) == x5_3) = true := beq_iff_eq.mpr c91
          have c91b1 : (((rd_T38 l0_0 (rd l0_1 x5_3)).f3) != x5_3) = false := bne_eq_false_iff_eq.mpr c91
          clear c91
          have H' := Aside0.mk H
          clear H
          obtain ⟨hcz92_0, hcz92_1, hfz92_0, hfz92_1⟩ := bo2 BK101
          have p109 : 0 ≤ ((rd l0_1 x5_3) : Int) := od
          have q109 : (rd l0_1 x5_3) < (l0_0.length : Int) := od
          obtain ⟨ad109, e109, hx109_0, hx109_1, hx109_2, hx109_3⟩ := at_T38 HR0_0.out (rd l0_1 x5_3) p109 q109
          cases e109
          replace hx109_0 := bl HB hx109_0
          replace hx109_1 := bl HB hx109_1
          replace hx109_2 := bl HB hx109_2
          replace hx109_3 := bl HB hx109_3
          replace p109 := eq_true p109
          replace q109 := eq_true q109
          have p110 : 0 ≤ ((rd l0_1 x5_3) : Int) := od
          have q110 : (rd l0_1 x5_3) < (l0_0.length : Int) := od
          obtain ⟨ad110, e110, hx110_0, hx110_1, hx110_2, hx110_3⟩ := at_T38 HR0_0.out (rd l0_1 x5_3) p110 q110
          obtain rfl : ad109 = ad110 := (by injection e110)
          replace hx110_0 := bl HB hx110_0
          replace hx110_1 := bl HB hx110_1
          replace hx110_2 := bl HB hx110_2
          replace hx110_3 := bl HB hx110_3
          replace p110 := eq_true p110
          replace q110 := eq_true q110
          go_wp2
          repeat (go_quiet (fail); try go_wp2)
          go_roundg kj81
          case measure => have := HJ1.out; have := HK2.out; have := HK3.out; have := HJ81.out; omega
          case rel => exact ⟨(wrap64 (x5_3 + 1)), rs, H', ⟨by have := HJ1.out; have := HK2.out; have := HK3.out; have := HJ81.out; omega⟩, ⟨bk BK101⟩, ⟨bb⟩⟩
     rw [if_pos c10] at H
     have c10b0 : decide (x3_2 < (l0_0.length : Int)) = true := decide_eq_true c10
     clear c10
     by_cases c11 : 0 ≤ x3_2
     rotate_left
     ·
      rw [if_neg c11] at H
      exact absurd H (by simp)
     rw [if_pos c11] at H
     have c11b0 : decide (0 ≤ x3_2) = true := decide_eq_true c11
     clear c11
     have HC12 := Aside0.mk H
     clear H
     obtain ⟨hcz13_0, hcz13_1, hfz13_0, hfz13_1⟩ := bo2 BK101
     have p102 : 0 ≤ (x3_2 : Int) := od
     have q102 : x3_2 < (l0_0.length : Int) := od
     obtain ⟨ad102, e102, hx102_0, hx102_1, hx102_2, hx102_3⟩ := at_T38 HR0_0.out x3_2 p102 q102
     cases e102
     replace hx102_0 := bl HB hx102_0
     replace hx102_1 := bl HB hx102_1
     replace hx102_2 := bl HB hx102_2
     replace hx102_3 := bl HB hx102_3
     replace p102 := eq_true p102
     replace q102 := eq_true q102
     go_upto_region 7 with (first | ((with_reducible refine gate_dst (N := 4) rfl ?_); (try (refine gate_guard (by rfl) ?_; dsimp only)); refine bx 4 #[.int .i64 0, .int .i64 0, .int .i64 0, .int .i64 0] 38 ?_; intro gb103 hg w14 hbox hb; have BK103 := Aside0.mk (hbox); have GW103 := Aside0.mk ((bz hg : w.heap.size ≤ gb103)); have GE103 := Aside0.mk ((bz hg : w.heap.size ≤ gb103)); replace HB := Aside0.mk (below_step bb hb); have NB101_103 := Aside0.mk (nl BK101 hg); have NB103_101 := Aside0.mk (ng BK101 hg); replace BK101 := Aside0.mk (bw BK101 hb); clear hb hbox hg; have hnb15 := NB103_101.out; have hnc15 := NB101_103.out; obtain ⟨hcz16_0, hcz16_1, hcz16_2, hcz16_3, hfz16_0, hfz16_1, hfz16_2, hfz16_3⟩ := bo4 BK103))
     repeat ((with_reducible refine upon_gate ?_); go_simp; go_upto_region 7 with (first | ((with_reducible refine gate_dst (N := 4) rfl ?_); (try (refine gate_guard (by rfl) ?_; dsimp only)); refine bx 4 #[.int .i64 0, .int .i64 0, .int .i64 0, .int .i64 0] 38 ?_; intro gb103 hg w14 hbox hb; have BK103 := Aside0.mk (hbox); have GW103 := Aside0.mk ((bz hg : w.heap.size ≤ gb103)); have GE103 := Aside0.mk ((bz hg : w.heap.size ≤ gb103)); replace HB := Aside0.mk (below_step bb hb); have NB101_103 := Aside0.mk (nl BK101 hg); have NB103_101 := Aside0.mk (ng BK101 hg); replace BK101 := Aside0.mk (bw BK101 hb); clear hb hbox hg; have hnb15 := NB103_101.out; have hnc15 := NB101_103.out; obtain ⟨hcz16_0, hcz16_1, hcz16_2, hcz16_3, hfz16_0, hfz16_1, hfz16_2, hfz16_3⟩ := bo4 BK103)))
     repeat (go_quiet (first | ((with_reducible refine gate_dst (N := 4) rfl ?_); (try (refine gate_guard (by rfl) ?_; dsimp only)); refine bx 4 #[.int .i64 0, .int .i64 0, .int .i64 0, .int .i64 0] 38 ?_; intro gb103 hg w14 hbox hb; have BK103 := Aside0.mk (hbox); have GW103 := Aside0.mk ((bz hg : w.heap.size ≤ gb103)); have GE103 := Aside0.mk ((bz hg : w.heap.size ≤ gb103)); replace HB := Aside0.mk (below_step bb hb); have NB101_103 := Aside0.mk (nl BK101 hg); have NB103_101 := Aside0.mk (ng BK101 hg); replace BK101 := Aside0.mk (bw BK101 hb); clear hb hbox hg; have hnb15 := NB103_101.out; have hnc15 := NB101_103.out; obtain ⟨hcz16_0, hcz16_1, hcz16_2, hcz16_3, hfz16_0, hfz16_1, hfz16_2, hfz16_3⟩ := bo4 BK103)); go_upto_region 7 with (first | ((with_reducible refine gate_dst (N := 4) rfl ?_); (try (refine gate_guard (by rfl) ?_; dsimp only)); refine bx 4 #[.int .i64 0, .int .i64 0, .int .i64 0, .int .i64 0] 38 ?_; intro gb103 hg w14 hbox hb; have BK103 := Aside0.mk (hbox); have GW103 := Aside0.mk ((bz hg : w.heap.size ≤ gb103)); have GE103 := Aside0.mk ((bz hg : w.heap.size ≤ gb103)); replace HB := Aside0.mk (below_step bb hb); have NB101_103 := Aside0.mk (nl BK101 hg); have NB103_101 := Aside0.mk (ng BK101 hg); replace BK101 := Aside0.mk (bw BK101 hb); clear hb hbox hg; have hnb15 := NB103_101.out; have hnc15 := NB101_103.out; obtain ⟨hcz16_0, hcz16_1, hcz16_2, hcz16_3, hfz16_0, hfz16_1, hfz16_2, hfz16_3⟩ := bo4 BK103)))
     (try simp only [Act.put, List.setIfInBounds_toArray, List.set_cons_zero, List.set_cons_succ])
     go_cut [65] (fun v65 wc => ∃ (kq : Nat) (x65_11 : Bool), v65 = .bool x65_11 ∧ Aside0 (fathomref27_May.j2 kq x3_2 x65_11 l0_0 l0_1 ((rd_T38 l0_0 x3_2).f0) ((rd_T38 l0_0 x3_2).f1) ((rd_T38 l0_0 x3_2).f2) ((rd_T38 l0_0 x3_2).f3) = some r) ∧ Aside0 (kq ≤ k2) ∧ Aside0 (wc.heap[gb101]? = some (.cells #[(.slice (some ad102) l0_0.length c0_0), (.slice A0_1 l0_1.length c0_1)] 25 (0, 0))) ∧ Aside0 (wc.heap[gb103]? = some (.cells #[.int .i64 ((rd_T38 l0_0 x3_2).f0), .int .i64 ((rd_T38 l0_0 x3_2).f1), .int .i64 ((rd_T38 l0_0 x3_2).f2), .int .i64 ((rd_T38 l0_0 x3_2).f3)] 38 (0, 0))) ∧ Aside0 (Below w.heap.size w wc))
     case first =>
      have H := HC12.out
      clear HC12
      by_cases c17 : ((rd_T38 l0_0 x3_2).f0) < 0
      ·
       rw [if_pos c17] at H
       have c17b0 : decide (((rd_T38 l0_0 x3_2).f0) < 0) = true := decide_eq_true c17
       clear c17
       (first | rw [c17b0] | (simp only [i64_w, i32_w]; rw [c17b0]) | skip)
       have H' := Aside0.mk H
       clear H
       have hnb18 := NB103_101.out
       have hnc18 := NB101_103.out
       obtain ⟨hcz19_0, hcz19_1, hcz19_2, hcz19_3, hfz19_0, hfz19_1, hfz19_2, hfz19_3⟩ := bo4 BK103
       go_wp2
       repeat (go_quiet (fail); try go_wp2)
       go_meet
       case rel => exact ⟨_, (true), rs, H', ⟨by have := HJ1.out; have := HK2.out; first | omega | exact Nat.le_refl _⟩, ⟨by refine bm ?_; refine blk_far ?_ NB101_103.out _; refine bm ?_; refine blk_far ?_ NB101_103.out _; refine bm ?_; refine blk_far ?_ NB101_103.out _; refine bm ?_; refine blk_far ?_ NB101_103.out _; refine bm ?_; exact BK101.out⟩, ⟨by refine bm ?_; refine blk_put (cs := #[.int .i64 ((rd_T38 l0_0 x3_2).f0), .int .i64 ((rd_T38 l0_0 x3_2).f1), .int .i64 ((rd_T38 l0_0 x3_2).f2), .int .i64 0]) ?_ 3 _ rfl; refine bm ?_; refine blk_put (cs := #[.int .i64 ((rd_T38 l0_0 x3_2).f0), .int .i64 ((rd_T38 l0_0 x3_2).f1), .int .i64 0, .int .i64 0]) ?_ 2 _ rfl; refine bm ?_; refine blk_put (cs := #[.int .i64 ((rd_T38 l0_0 x3_2).f0), .int .i64 0, .int .i64 0, .int .i64 0]) ?_ 1 _ rfl; refine bm ?_; refine blk_put (cs := #[.int .i64 0, .int .i64 0, .int .i64 0, .int .i64 0]) ?_ 0 _ rfl; refine bm ?_; exact BK103.out⟩, ⟨bb⟩⟩
      rw [if_neg c17] at H
      have c17b0 : decide (((rd_T38 l0_0 x3_2).f0) < 0) = false := decide_eq_false c17
      clear c17
      (first | rw [c17b0] | (simp only [i64_w, i32_w]; rw [c17b0]) | skip)
      by_cases c20 : ((rd_T38 l0_0 x3_2).f0) ≥ (l0_1.length : Int)
      ·
       rw [if_pos c20] at H
       have c20b0 : decide ((l0_1.length : Int) ≤ ((rd_T38 l0_0 x3_2).f0)) = true := decide_eq_true c20
       clear c20
       have H' := Aside0.mk H
       clear H
       have hnb21 := NB103_101.out
       have hnc21 := NB101_103.out
       obtain ⟨hcz22_0, hcz22_1, hcz22_2, hcz22_3, hfz22_0, hfz22_1, hfz22_2, hfz22_3⟩ := bo4 BK103
       obtain ⟨hcz23_0, hcz23_1, hfz23_0, hfz23_1⟩ := bo2 BK101
       go_wp2
       repeat (go_quiet (fail); try go_wp2)
       go_meet
       case rel => exact ⟨_, (true), rs, H', ⟨by have := HJ1.out; have := HK2.out; first | omega | exact Nat.le_refl _⟩, ⟨by refine bm ?_; refine blk_far ?_ NB101_103.out _; refine bm ?_; refine blk_far ?_ NB101_103.out _; refine bm ?_; refine blk_far ?_ NB101_103.out _; refine bm ?_; refine blk_far ?_ NB101_103.out _; refine bm ?_; exact BK101.out⟩, ⟨by refine bm ?_; refine blk_put (cs := #[.int .i64 ((rd_T38 l0_0 x3_2).f0), .int .i64 ((rd_T38 l0_0 x3_2).f1), .int .i64 ((rd_T38 l0_0 x3_2).f2), .int .i64 0]) ?_ 3 _ rfl; refine bm ?_; refine blk_put (cs := #[.int .i64 ((rd_T38 l0_0 x3_2).f0), .int .i64 ((rd_T38 l0_0 x3_2).f1), .int .i64 0, .int .i64 0]) ?_ 2 _ rfl; refine bm ?_; refine blk_put (cs := #[.int .i64 ((rd_T38 l0_0 x3_2).f0), .int .i64 0, .int .i64 0, .int .i64 0]) ?_ 1 _ rfl; refine bm ?_; refine blk_put (cs := #[.int .i64 0, .int .i64 0, .int .i64 0, .int .i64 0]) ?_ 0 _ rfl; refine bm ?_; exact BK103.out⟩, ⟨bb⟩⟩
      rw [if_neg c20] at H
      have c20b0 : decide ((l0_1.length : Int) ≤ ((rd_T38 l0_0 x3_2).f0)) = false := decide_eq_false c20
      clear c20
      by_cases c24 : ((rd_T38 l0_0 x3_2).f1) < 0
      ·
       rw [if_pos c24] at H
       have c24b0 : decide (((rd_T38 l0_0 x3_2).f1) < 0) = true := decide_eq_true c24
       clear c24
       have H' := Aside0.mk H
       clear H
       have hnb25 := NB103_101.out
       have hnc25 := NB101_103.out
       obtain ⟨hcz26_0, hcz26_1, hcz26_2, hcz26_3, hfz26_0, hfz26_1, hfz26_2, hfz26_3⟩ := bo4 BK103
       obtain ⟨hcz27_0, hcz27_1, hfz27_0, hfz27_1⟩ := bo2 BK101
       go_wp2
       repeat (go_quiet (fail); try go_wp2)
       go_meet
       case rel => exact ⟨_, (true), rs, H', ⟨by have := HJ1.out; have := HK2.out; first | omega | exact Nat.le_refl _⟩, ⟨by refine bm ?_; refine blk_far ?_ NB101_103.out _; refine bm ?_; refine blk_far ?_ NB101_103.out _; refine bm ?_; refine blk_far ?_ NB101_103.out _; refine bm ?_; refine blk_far ?_ NB101_103.out _; refine bm ?_; exact BK101.out⟩, ⟨by refine bm ?_; refine blk_put (cs := #[.int .i64 ((rd_T38 l0_0 x3_2).f0), .int .i64 ((rd_T38 l0_0 x3_2).f1), .int .i64 ((rd_T38 l0_0 x3_2).f2), .int .i64 0]) ?_ 3 _ rfl; refine bm ?_; refine blk_put (cs := #[.int .i64 ((rd_T38 l0_0 x3_2).f0), .int .i64 ((rd_T38 l0_0 x3_2).f1), .int .i64 0, .int .i64 0]) ?_ 2 _ rfl; refine bm ?_; refine blk_put (cs := #[.int .i64 ((rd_T38 l0_0 x3_2).f0), .int .i64 0, .int .i64 0, .int .i64 0]) ?_ 1 _ rfl; refine bm ?_; refine blk_put (cs := #[.int .i64 0, .int .i64 0, .int .i64 0, .int .i64 0]) ?_ 0 _ rfl; refine bm ?_; exact BK103.out⟩, ⟨bb⟩⟩
      rw [if_neg c24] at H
      have c24b0 : decide (((rd_T38 l0_0 x3_2).f1) < 0) = false := decide_eq_false c24
      clear c24
      by_cases c28 : ((rd_T38 l0_0 x3_2).f2) < 1
      ·
       rw [if_pos c28] at H
       have c28b0 : decide (((rd_T38 l0_0 x3_2).f2) < 1) = true := decide_eq_true c28
       clear c28
       have H' := Aside0.mk H
       clear H
       have hnb29 := NB103_101.out
       have hnc29 := NB101_103.out
       obtain ⟨hcz30_0, hcz30_1, hcz30_2, hcz30_3, hfz30_0, hfz30_1, hfz30_2, hfz30_3⟩ := bo4 BK103
       obtain ⟨hcz31_0, hcz31_1, hfz31_0, hfz31_1⟩ := bo2 BK101
       go_wp2
       repeat (go_quiet (fail); try go_wp2)
       go_meet
       case rel => exact ⟨_, (true), rs, H', ⟨by have := HJ1.out; have := HK2.out; first | omega | exact Nat.le_refl _⟩, ⟨by refine bm ?_; refine blk_far ?_ NB101_103.out _; refine bm ?_; refine blk_far ?_ NB101_103.out _; refine bm ?_; refine blk_far ?_ NB101_103.out _; refine bm ?_; refine blk_far ?_ NB101_103.out _; refine bm ?_; exact BK101.out⟩, ⟨by refine bm ?_; refine blk_put (cs := #[.int .i64 ((rd_T38 l0_0 x3_2).f0), .int .i64 ((rd_T38 l0_0 x3_2).f1), .int .i64 ((rd_T38 l0_0 x3_2).f2), .int .i64 0]) ?_ 3 _ rfl; refine bm ?_; refine blk_put (cs := #[.int .i64 ((rd_T38 l0_0 x3_2).f0), .int .i64 ((rd_T38 l0_0 x3_2).f1), .int .i64 0, .int .i64 0]) ?_ 2 _ rfl; refine bm ?_; refine blk_put (cs := #[.int .i64 ((rd_T38 l0_0 x3_2).f0), .int .i64 0, .int .i64 0, .int .i64 0]) ?_ 1 _ rfl; refine bm ?_; refine blk_put (cs := #[.int .i64 0, .int .i64 0, .int .i64 0, .int .i64 0]) ?_ 0 _ rfl; refine bm ?_; exact BK103.out⟩, ⟨bb⟩⟩
      rw [if_neg c28] at H
      have c28b0 : decide (((rd_T38 l0_0 x3_2).f2) < 1) = false := decide_eq_false c28
      clear c28
      by_cases c32 : ((rd_T38 l0_0 x3_2).f2) > 11
      ·
       rw [if_pos c32] at H
       have c32b0 : decide (11 < ((rd_T38 l0_0 x3_2).f2)) = true := decide_eq_true c32
       clear c32
       have H' := Aside0.mk H
       clear H
       have hnb33 := NB103_101.out
       have hnc33 := NB101_103.out
       obtain ⟨hcz34_0, hcz34_1, hcz34_2, hcz34_3, hfz34_0, hfz34_1, hfz34_2, hfz34_3⟩ := bo4 BK103
       obtain ⟨hcz35_0, hcz35_1, hfz35_0, hfz35_1⟩ := bo2 BK101
       go_wp2
       repeat (go_quiet (fail); try go_wp2)
       go_meet
       case rel => exact ⟨_, (true), rs, H', ⟨by have := HJ1.out; have := HK2.out; first | omega | exact Nat.le_refl _⟩, ⟨by refine bm ?_; refine blk_far ?_ NB101_103.out _; refine bm ?_; refine blk_far ?_ NB101_103.out _; refine bm ?_; refine blk_far ?_ NB101_103.out _; refine bm ?_; refine blk_far ?_ NB101_103.out _; refine bm ?_; exact BK101.out⟩, ⟨by refine bm ?_; refine blk_put (cs := #[.int .i64 ((rd_T38 l0_0 x3_2).f0), .int .i64 ((rd_T38 l0_0 x3_2).f1), .int .i64 ((rd_T38 l0_0 x3_2).f2), .int .i64 0]) ?_ 3 _ rfl; refine bm ?_; refine blk_put (cs := #[.int .i64 ((rd_T38 l0_0 x3_2).f0), .int .i64 ((rd_T38 l0_0 x3_2).f1), .int .i64 0, .int .i64 0]) ?_ 2 _ rfl; refine bm ?_; refine blk_put (cs := #[.int .i64 ((rd_T38 l0_0 x3_2).f0), .int .i64 0, .int .i64 0, .int .i64 0]) ?_ 1 _ rfl; refine bm ?_; refine blk_put (cs := #[.int .i64 0, .int .i64 0, .int .i64 0, .int .i64 0]) ?_ 0 _ rfl; refine bm ?_; exact BK103.out⟩, ⟨bb⟩⟩
      rw [if_neg c32] at H
      have c32b0 : decide (11 < ((rd_T38 l0_0 x3_2).f2)) = false := decide_eq_false c32
      clear c32
      have H' := Aside0.mk H
      clear H
      have hnb36 := NB103_101.out
      have hnc36 := NB101_103.out
      obtain ⟨hcz37_0, hcz37_1, hcz37_2, hcz37_3, hfz37_0, hfz37_1, hfz37_2, hfz37_3⟩ := bo4 BK103
      obtain ⟨hcz38_0, hcz38_1, hfz38_0, hfz38_1⟩ := bo2 BK101
      go_wp2
      repeat (go_quiet (fail); try go_wp2)
      go_meet
      case rel => exact ⟨_, (decide (((rd_T38 l0_0 x3_2).f3) < 0)), rs, H', ⟨by have := HJ1.out; have := HK2.out; first | omega | exact Nat.le_refl _⟩, ⟨by refine bm ?_; refine blk_far ?_ NB101_103.out _; refine bm ?_; refine blk_far ?_ NB101_103.out _; refine bm ?_; refine blk_far ?_ NB101_103.out _; refine bm ?_; refine blk_far ?_ NB101_103.out _; refine bm ?_; exact BK101.out⟩, ⟨by refine bm ?_; refine blk_put (cs := #[.int .i64 ((rd_T38 l0_0 x3_2).f0), .int .i64 ((rd_T38 l0_0 x3_2).f1), .int .i64 ((rd_T38 l0_0 x3_2).f2), .int .i64 0]) ?_ 3 _ rfl; refine bm ?_; refine blk_put (cs := #[.int .i64 ((rd_T38 l0_0 x3_2).f0), .int .i64 ((rd_T38 l0_0 x3_2).f1), .int .i64 0, .int .i64 0]) ?_ 2 _ rfl; refine bm ?_; refine blk_put (cs := #[.int .i64 ((rd_T38 l0_0 x3_2).f0), .int .i64 0, .int .i64 0, .int .i64 0]) ?_ 1 _ rfl; refine bm ?_; refine blk_put (cs := #[.int .i64 0, .int .i64 0, .int .i64 0, .int .i64 0]) ?_ 0 _ rfl; refine bm ?_; exact BK103.out⟩, ⟨bb⟩⟩
     case rest =>
      clear HC12
      try clear c1
      try clear p1
      try clear q1
      try clear hx1
      try clear c2
      try clear p2
      try clear c3
      try clear c4
      try clear c4b0
      try clear c4b1
      try clear c6
      try clear c6b0
      try clear c6b1
      try clear c9
      try clear c10
      try clear c10b0
      try clear p10
      try clear q10
      try clear hx10
      try clear c11
      try clear c11b0
      try clear c15
      try clear c17
      try clear c17b0
      try clear c18
      try clear c20
      try clear c20b0
      try clear c21
      try clear c24
      try clear c24b0
      try clear c25
      try clear c28
      try clear c28b0
      try clear c29
      try clear c32
      try clear c32b0
      try clear c33
      try clear c36
      try clear hcz13_0
      try clear hcz13_1
      try clear hcz16_0
      try clear hcz16_1
      try clear hcz16_2
      try clear hcz16_3
      try clear hcz19_0
      try clear hcz19_1
      try clear hcz19_2
      try clear hcz19_3
      try clear hcz22_0
      try clear hcz22_1
      try clear hcz22_2
      try clear hcz22_3
      try clear hcz23_0
      try clear hcz23_1
      try clear hcz26_0
      try clear hcz26_1
      try clear hcz26_2
      try clear hcz26_3
      try clear hcz27_0
      try clear hcz27_1
      try clear hcz30_0
      try clear hcz30_1
      try clear hcz30_2
      try clear hcz30_3
      try clear hcz31_0
      try clear hcz31_1
      try clear hcz34_0
      try clear hcz34_1
      try clear hcz34_2
      try clear hcz34_3
      try clear hcz35_0
      try clear hcz35_1
      try clear hcz37_0
      try clear hcz37_1
      try clear hcz37_2
      try clear hcz37_3
      try clear hcz38_0
      try clear hcz38_1
      try clear hcz5_0
      try clear hcz5_1
      try clear hcz7_0
      try clear hcz7_1
      try clear hcz8_0
      try clear hcz8_1
      try clear hfz13_0
      try clear hfz13_1
      try clear hfz16_0
      try clear hfz16_1
      try clear hfz16_2
      try clear hfz16_3
      try clear hfz19_0
      try clear hfz19_1
      try clear hfz19_2
      try clear hfz19_3
      try clear hfz22_0
      try clear hfz22_1
      try clear hfz22_2
      try clear hfz22_3
      try clear hfz23_0
      try clear hfz23_1
      try clear hfz26_0
      try clear hfz26_1
      try clear hfz26_2
      try clear hfz26_3
      try clear hfz27_0
      try clear hfz27_1
      try clear hfz30_0
      try clear hfz30_1
      try clear hfz30_2
      try clear hfz30_3
      try clear hfz31_0
      try clear hfz31_1
      try clear hfz34_0
      try clear hfz34_1
      try clear hfz34_2
      try clear hfz34_3
      try clear hfz35_0
      try clear hfz35_1
      try clear hfz37_0
      try clear hfz37_1
      try clear hfz37_2
      try clear hfz37_3
      try clear hfz38_0
      try clear hfz38_1
      try clear hfz5_0
      try clear hfz5_1
      try clear hfz7_0
      try clear hfz7_1
      try clear hfz8_0
      try clear hfz8_1
      try clear hx102_0
      try clear hx102_1
      try clear hx102_2
      try clear hx102_3
      try clear p102
      try clear q102
      obtain ⟨kq, x65_11, rfl, HA, HJ11, BK101, BK103, HB⟩ := hcut
      cases kq with
      | zero => exact absurd HA.out (by simp [fathomref27_May.j2])
      | succ kj11 =>
       have H := HA.out
       clear HA
       simp only [fathomref27_May.j2] at H
       by_cases c39 : x65_11 = true
       ·
        subst c39
        have H1 : (some false) = some r := by rw [if_pos rfl] at H; exact H
        clear H
        have H := H1
        clear H1
        obtain rfl := Option.some.inj H
        go_wp2
        repeat (go_quiet (fail); try go_wp2)
        go_ret
        exact ⟨ew, bb⟩
       replace c39 := Bool.eq_false_iff.mpr c39
       subst c39
       have H1 : (if x3_2 > 0 then (if 0 ≤ (wrap64 (x3_2 - 1)) then (if (wrap64 (x3_2 - 1)) < (l0_0.length : Int) then (if ((rd_T38 l0_0 x3_2).f0) < ((rd_T38 l0_0 (wrap64 (x3_2 - 1))).f0) then (fathomref27_May.j3 kj11 x3_2 true l0_0 l0_1 ((rd_T38 l0_0 x3_2).f0) ((rd_T38 l0_0 x3_2).f1) ((rd_T38 l0_0 x3_2).f2) ((rd_T38 l0_0 x3_2).f3)) else (if ((rd_T38 l0_0 x3_2).f0) = ((rd_T38 l0_0 (wrap64 (x3_2 - 1))).f0) then (fathomref27_May.j3 kj11 x3_2 (decide (((rd_T38 l0_0 x3_2).f1) ≤ ((rd_T38 l0_0 (wrap64 (x3_2 - 1))).f1))) l0_0 l0_1 ((rd_T38 l0_0 x3_2).f0) ((rd_T38 l0_0 x3_2).f1) ((rd_T38 l0_0 x3_2).f2) ((rd_T38 l0_0 x3_2).f3)) else (fathomref27_May.j3 kj11 x3_2 false l0_0 l0_1 ((rd_T38 l0_0 x3_2).f0) ((rd_T38 l0_0 x3_2).f1) ((rd_T38 l0_0 x3_2).f2) ((rd_T38 l0_0 x3_2).f3)))) else (none)) else (none)) else (fathomref27_May.j3 kj11 x3_2 false l0_0 l0_1 ((rd_T38 l0_0 x3_2).f0) ((rd_T38 l0_0 x3_2).f1) ((rd_T38 l0_0 x3_2).f2) ((rd_T38 l0_0 x3_2).f3))) = some r := by rw [if_neg (show ¬ (false = true) by decide)] at H; exact H
       clear H
       have H := H1
       clear H1
       have HC40 := Aside0.mk H
       clear H
       go_upto_region 9 with (fail)
       repeat ((with_reducible refine upon_gate ?_); go_simp; go_upto_region 9 with (fail))
       repeat (go_quiet (fail); go_upto_region 9 with (fail))
       go_cut [103] (fun v103 wc => ∃ (kq : Nat) (x103_39 : Bool), v103 = .bool x103_39 ∧ Aside0 (fathomref27_May.j3 kq x3_2 x103_39 l0_0 l0_1 ((rd_T38 l0_0 x3_2).f0) ((rd_T38 l0_0 x3_2).f1) ((rd_T38 l0_0 x3_2).f2) ((rd_T38 l0_0 x3_2).f3) = some r) ∧ Aside0 (kq ≤ kj11) ∧ Aside0 (wc.heap[gb101]? = some (.cells #[(.slice (some ad102) l0_0.length c0_0), (.slice A0_1 l0_1.length c0_1)] 25 (0, 0))) ∧ Aside0 (wc.heap[gb103]? = some (.cells #[.int .i64 ((rd_T38 l0_0 x3_2).f0), .int .i64 ((rd_T38 l0_0 x3_2).f1), .int .i64 ((rd_T38 l0_0 x3_2).f2), .int .i64 ((rd_T38 l0_0 x3_2).f3)] 38 (0, 0))) ∧ Aside0 (Below w.heap.size w wc))
       case first =>
        have H := HC40.out
        clear HC40
        by_cases c41 : x3_2 > 0
        rotate_left
        ·
         rw [if_neg c41] at H
         have c41b0 : decide (0 < x3_2) = false := decide_eq_false c41
         clear c41
         (first | rw [c41b0] | (simp only [i64_w, i32_w]; rw [c41b0]) | skip)
         have H' := Aside0.mk H
         clear H
         go_wp2
         repeat (go_quiet (fail); try go_wp2)
         go_meet
         case rel => exact ⟨_, (false), rs, H', ⟨by have := HJ1.out; have := HK2.out; have := HJ11.out; first | omega | exact Nat.le_refl _⟩, ⟨bk BK101⟩, ⟨bk BK103⟩, ⟨bb⟩⟩
        rw [if_pos c41] at H
        have c41b0 : decide (0 < x3_2) = true := decide_eq_true c41
        clear c41
        (first | rw [c41b0] | (simp only [i64_w, i32_w]; rw [c41b0]) | skip)
        obtain ⟨ji42, hji42⟩ : ∃ j_ : Int, (wrap64 (x3_2 - 1)) = j_ := ⟨_, rfl⟩
        replace H : (if 0 ≤ (ji42) then (if (ji42) < (l0_0.length : Int) then (if ((rd_T38 l0_0 x3_2).f0) < ((rd_T38 l0_0 (ji42)).f0) then (fathomref27_May.j3 kj11 x3_2 true l0_0 l0_1 ((rd_T38 l0_0 x3_2).f0) ((rd_T38 l0_0 x3_2).f1) ((rd_T38 l0_0 x3_2).f2) ((rd_T38 l0_0 x3_2).f3)) else (if ((rd_T38 l0_0 x3_2).f0) = ((rd_T38 l0_0 (ji42)).f0) then (fathomref27_May.j3 kj11 x3_2 (decide (((rd_T38 l0_0 x3_2).f1) ≤ ((rd_T38 l0_0 (ji42)).f1))) l0_0 l0_1 ((rd_T38 l0_0 x3_2).f0) ((rd_T38 l0_0 x3_2).f1) ((rd_T38 l0_0 x3_2).f2) ((rd_T38 l0_0 x3_2).f3)) else (fathomref27_May.j3 kj11 x3_2 false l0_0 l0_1 ((rd_T38 l0_0 x3_2).f0) ((rd_T38 l0_0 x3_2).f1) ((rd_T38 l0_0 x3_2).f2) ((rd_T38 l0_0 x3_2).f3)))) else (none)) else (none)) = some r := by first | (rw [hji42] at H; exact H) | (simp only [hji42] at H ⊢; exact H)
        have hji42w : (IntKind.i64.wrap (x3_2 - 1)) = ji42 := (i64_w _).trans hji42
        by_cases c43 : 0 ≤ (ji42)
        rotate_left
        ·
         rw [if_neg c43] at H
         exact absurd H (by simp)
        rw [if_pos c43] at H
        have c43b0 : decide (0 ≤ (ji42)) = true := decide_eq_true c43
        clear c43
        by_cases c44 : (ji42) < (l0_0.length : Int)
        rotate_left
        ·
         rw [if_neg c44] at H
         exact absurd H (by simp)
        rw [if_pos c44] at H
        have c44b0 : decide ((ji42) < (l0_0.length : Int)) = true := decide_eq_true c44
        clear c44
        by_cases c45 : ((rd_T38 l0_0 x3_2).f0) < ((rd_T38 l0_0 (ji42)).f0)
        ·
         rw [if_pos c45] at H
         have c45b0 : decide (((rd_T38 l0_0 x3_2).f0) < ((rd_T38 l0_0 (ji42)).f0)) = true := decide_eq_true c45
         clear c45
         have H' := Aside0.mk H
         clear H
         have hnb46 := NB103_101.out
         have hnc46 := NB101_103.out
         obtain ⟨hcz47_0, hcz47_1, hcz47_2, hcz47_3, hfz47_0, hfz47_1, hfz47_2, hfz47_3⟩ := bo4 BK103
         obtain ⟨hcz48_0, hcz48_1, hfz48_0, hfz48_1⟩ := bo2 BK101
         have p104 : 0 ≤ ((ji42) : Int) := od
         have q104 : (ji42) < (l0_0.length : Int) := od
         obtain ⟨ad104, e104, hx104_0, hx104_1, hx104_2, hx104_3⟩ := at_T38 HR0_0.out (ji42) p104 q104
         obtain rfl : ad102 = ad104 := (by injection e104)
         replace hx104_0 := bl HB hx104_0
         replace hx104_1 := bl HB hx104_1
         replace hx104_2 := bl HB hx104_2
         replace hx104_3 := bl HB hx104_3
         replace p104 := eq_true p104
         replace q104 := eq_true q104
         go_wp2
         repeat (go_quiet (fail); try go_wp2)
         go_meet
         case rel => exact ⟨_, (true), rs, H', ⟨by have := HJ1.out; have := HK2.out; have := HJ11.out; first | omega | exact Nat.le_refl _⟩, ⟨bk BK101⟩, ⟨bk BK103⟩, ⟨bb⟩⟩
        rw [if_neg c45] at H
        have c45b0 : decide (((rd_T38 l0_0 x3_2).f0) < ((rd_T38 l0_0 (ji42)).f0)) = false := decide_eq_false c45
        clear c45
        by_cases c49 : ((rd_T38 l0_0 x3_2).f0) = ((rd_T38 l0_0 (ji42)).f0)
        rotate_left
        ·
         rw [if_neg c49] at H
         have c49b0 : (((rd_T38 l0_0 x3_2).f0) == ((rd_T38 l0_0 (ji42)).f0)) = false := beq_eq_false_iff_ne.mpr c49
         have c49b1 : (((rd_T38 l0_0 x3_2).f0) != ((rd_T38 l0_0 (ji42)).f0)) = true := bne_iff_ne.mpr c49
         have H' := Aside0.mk H
         clear H
         have hnb53 := NB103_101.out
         have hnc53 := NB101_103.out
         obtain ⟨hcz54_0, hcz54_1, hcz54_2, hcz54_3, hfz54_0, hfz54_1, hfz54_2, hfz54_3⟩ := bo4 BK103
         obtain ⟨hcz55_0, hcz55_1, hfz55_0, hfz55_1⟩ := bo2 BK101
         have p104 : 0 ≤ ((ji42) : Int) := od
         have q104 : (ji42) < (l0_0.length : Int) := od
         obtain ⟨ad104, e104, hx104_0, hx104_1, hx104_2, hx104_3⟩ := at_T38 HR0_0.out (ji42) p104 q104
         obtain rfl : ad102 = ad104 := (by injection e104)
         replace hx104_0 := bl HB hx104_0
         replace hx104_1 := bl HB hx104_1
         replace hx104_2 := bl HB hx104_2
         replace hx104_3 := bl HB hx104_3
         replace p104 := eq_true p104
         replace q104 := eq_true q104
         have p105 : 0 ≤ ((ji42) : Int) := od
         have q105 : (ji42) < (l0_0.length : Int) := od
         obtain ⟨ad105, e105, hx105_0, hx105_1, hx105_2, hx105_3⟩ := at_T38 HR0_0.out (ji42) p105 q105
         obtain rfl : ad102 = ad105 := (by injection e105)
         replace hx105_0 := bl HB hx105_0
         replace hx105_1 := bl HB hx105_1
         replace hx105_2 := bl HB hx105_2
         replace hx105_3 := bl HB hx105_3
         replace p105 := eq_true p105
         replace q105 := eq_true q105
         go_wp2
         repeat (go_quiet (fail); try go_wp2)
         go_meet
         case rel => exact ⟨_, (false), rs, H', ⟨by have := HJ1.out; have := HK2.out; have := HJ11.out; first | omega | exact Nat.le_refl _⟩, ⟨bk BK101⟩, ⟨bk BK103⟩, ⟨bb⟩⟩
        rw [if_pos c49] at H
        have c49b0 : (((rd_T38 l0_0 x3_2).f0) == ((rd_T38 l0_0 (ji42)).f0)) = true := beq_iff_eq.mpr c49
        have c49b1 : (((rd_T38 l0_0 x3_2).f0) != ((rd_T38 l0_0 (ji42)).f0)) = false := bne_eq_false_iff_eq.mpr c49
        clear c49
        have H' := Aside0.mk H
        clear H
        have hnb50 := NB103_101.out
        have hnc50 := NB101_103.out
        obtain ⟨hcz51_0, hcz51_1, hcz51_2, hcz51_3, hfz51_0, hfz51_1, hfz51_2, hfz51_3⟩ := bo4 BK103
        obtain ⟨hcz52_0, hcz52_1, hfz52_0, hfz52_1⟩ := bo2 BK101
        have p104 : 0 ≤ ((ji42) : Int) := od
        have q104 : (ji42) < (l0_0.length : Int) := od
        obtain ⟨ad104, e104, hx104_0, hx104_1, hx104_2, hx104_3⟩ := at_T38 HR0_0.out (ji42) p104 q104
        obtain rfl : ad102 = ad104 := (by injection e104)
        replace hx104_0 := bl HB hx104_0
        replace hx104_1 := bl HB hx104_1
        replace hx104_2 := bl HB hx104_2
        replace hx104_3 := bl HB hx104_3
        replace p104 := eq_true p104
        replace q104 := eq_true q104
        have p105 : 0 ≤ ((ji42) : Int) := od
        have q105 : (ji42) < (l0_0.length : Int) := od
        obtain ⟨ad105, e105, hx105_0, hx105_1, hx105_2, hx105_3⟩ := at_T38 HR0_0.out (ji42) p105 q105
        obtain rfl : ad102 = ad105 := (by injection e105)
        replace hx105_0 := bl HB hx105_0
        replace hx105_1 := bl HB hx105_1
        replace hx105_2 := bl HB hx105_2
        replace hx105_3 := bl HB hx105_3
        replace p105 := eq_true p105
        replace q105 := eq_true q105
        have p106 : 0 ≤ ((ji42) : Int) := od
        have q106 : (ji42) < (l0_0.length : Int) := od
        obtain ⟨ad106, e106, hx106_0, hx106_1, hx106_2, hx106_3⟩ := at_T38 HR0_0.out (ji42) p106 q106
        obtain rfl : ad102 = ad106 := (by injection e106)
        replace hx106_0 := bl HB hx106_0
        replace hx106_1 := bl HB hx106_1
        replace hx106_2 := bl HB hx106_2
        replace hx106_3 := bl HB hx106_3
        replace p106 := eq_true p106
        replace q106 := eq_true q106
        go_wp2
        repeat (go_quiet (fail); try go_wp2)
        go_meet
        case rel => exact ⟨_, (decide (((rd_T38 l0_0 x3_2).f1) ≤ ((rd_T38 l0_0 (ji42)).f1))), (by first | rfl | (simp; done) | (simp only [← hji42] <;> (first | rfl | simp)) | (simp [*]; done)), H', ⟨by have := HJ1.out; have := HK2.out; have := HJ11.out; first | omega | exact Nat.le_refl _⟩, ⟨bk BK101⟩, ⟨bk BK103⟩, ⟨bb⟩⟩
       case rest =>
        clear HC40
        try clear c1
        try clear p1
        try clear q1
        try clear hx1
        try clear c2
        try clear p2
        try clear c3
        try clear c4
        try clear c4b0
        try clear c4b1
        try clear c5
        try clear c6
        try clear c6b0
        try clear c6b1
        try clear p6
        try clear c9
        try clear c10
        try clear c10b0
        try clear p10
        try clear q10
        try clear hx10
        try clear c11
        try clear c11b0
        try clear c15
        try clear c17
        try clear c17b0
        try clear c18
        try clear c20
        try clear c20b0
        try clear c21
        try clear c24
        try clear c24b0
        try clear c25
        try clear c28
        try clear c28b0
        try clear c29
        try clear c32
        try clear c32b0
        try clear c33
        try clear c36
        try clear c39
        try clear c41
        try clear c41b0
        try clear c43
        try clear c43b0
        try clear c44
        try clear c44b0
        try clear c45
        try clear c45b0
        try clear c46
        try clear c49
        try clear c49b0
        try clear c49b1
        try clear c50
        try clear c53
        try clear hcz13_0
        try clear hcz13_1
        try clear hcz16_0
        try clear hcz16_1
        try clear hcz16_2
        try clear hcz16_3
        try clear hcz19_0
        try clear hcz19_1
        try clear hcz19_2
        try clear hcz19_3
        try clear hcz22_0
        try clear hcz22_1
        try clear hcz22_2
        try clear hcz22_3
        try clear hcz23_0
        try clear hcz23_1
        try clear hcz26_0
        try clear hcz26_1
        try clear hcz26_2
        try clear hcz26_3
        try clear hcz27_0
        try clear hcz27_1
        try clear hcz30_0
        try clear hcz30_1
        try clear hcz30_2
        try clear hcz30_3
        try clear hcz31_0
        try clear hcz31_1
        try clear hcz34_0
        try clear hcz34_1
        try clear hcz34_2
        try clear hcz34_3
        try clear hcz35_0
        try clear hcz35_1
        try clear hcz37_0
        try clear hcz37_1
        try clear hcz37_2
        try clear hcz37_3
        try clear hcz38_0
        try clear hcz38_1
        try clear hcz47_0
        try clear hcz47_1
        try clear hcz47_2
        try clear hcz47_3
        try clear hcz48_0
        try clear hcz48_1
        try clear hcz51_0
        try clear hcz51_1
        try clear hcz51_2
        try clear hcz51_3
        try clear hcz52_0
        try clear hcz52_1
        try clear hcz54_0
        try clear hcz54_1
        try clear hcz54_2
        try clear hcz54_3
        try clear hcz55_0
        try clear hcz55_1
        try clear hcz5_0
        try clear hcz5_1
        try clear hcz7_0
        try clear hcz7_1
        try clear hcz8_0
        try clear hcz8_1
        try clear hfz13_0
        try clear hfz13_1
        try clear hfz16_0
        try clear hfz16_1
        try clear hfz16_2
        try clear hfz16_3
        try clear hfz19_0
        try clear hfz19_1
        try clear hfz19_2
        try clear hfz19_3
        try clear hfz22_0
        try clear hfz22_1
        try clear hfz22_2
        try clear hfz22_3
        try clear hfz23_0
        try clear hfz23_1
        try clear hfz26_0
        try clear hfz26_1
        try clear hfz26_2
        try clear hfz26_3
        try clear hfz27_0
        try clear hfz27_1
        try clear hfz30_0
        try clear hfz30_1
        try clear hfz30_2
        try clear hfz30_3
        try clear hfz31_0
        try clear hfz31_1
        try clear hfz34_0
        try clear hfz34_1
        try clear hfz34_2
        try clear hfz34_3
        try clear hfz35_0
        try clear hfz35_1
        try clear hfz37_0
        try clear hfz37_1
        try clear hfz37_2
        try clear hfz37_3
        try clear hfz38_0
        try clear hfz38_1
        try clear hfz47_0
        try clear hfz47_1
        try clear hfz47_2
        try clear hfz47_3
        try clear hfz48_0
        try clear hfz48_1
        try clear hfz51_0
        try clear hfz51_1
        try clear hfz51_2
        try clear hfz51_3
        try clear hfz52_0
        try clear hfz52_1
        try clear hfz54_0
        try clear hfz54_1
        try clear hfz54_2
        try clear hfz54_3
        try clear hfz55_0
        try clear hfz55_1
        try clear hfz5_0
        try clear hfz5_1
        try clear hfz7_0
        try clear hfz7_1
        try clear hfz8_0
        try clear hfz8_1
        try clear hx102_0
        try clear hx102_1
        try clear hx102_2
        try clear hx102_3
        try clear hx104_0
        try clear hx104_1
        try clear hx104_2
        try clear hx104_3
        try clear hx105_0
        try clear hx105_1
        try clear hx105_2
        try clear hx105_3
        try clear hx106_0
        try clear hx106_1
        try clear hx106_2
        try clear hx106_3
        try clear p102
        try clear p104
        try clear p105
        try clear p106
        try clear q102
        try clear q104
        try clear q105
        try clear q106
        obtain ⟨kq, x103_39, rfl, HA, HJ39, BK101, BK103, HB⟩ := hcut
        cases kq with
        | zero => exact absurd HA.out (by simp [fathomref27_May.j3])
        | succ kj39 =>
         have H := HA.out
         clear HA
         simp only [fathomref27_May.j3] at H
         by_cases c56 : x103_39 = true
         ·
          subst c56
          have H1 : (some false) = some r := by rw [if_pos rfl] at H; exact H
          clear H
          have H := H1
          clear H1
          obtain rfl := Option.some.inj H
          go_wp2
          repeat (go_quiet (fail); try go_wp2)
          go_ret
          exact ⟨ew, bb⟩
         replace c56 := Bool.eq_false_iff.mpr c56
         subst c56
         have H1 : (if ((rd_T38 l0_0 x3_2).f2) = 11 then (if ((rd_T38 l0_0 x3_2).f3) ≤ ((rd_T38 l0_0 x3_2).f0) then (some false) else (if ((rd_T38 l0_0 x3_2).f3) ≥ (l0_1.length : Int) then (some false) else (if 0 ≤ ((rd_T38 l0_0 x3_2).f3) then (if ((rd_T38 l0_0 x3_2).f3) < (l0_1.length : Int) then (if (rd l0_1 ((rd_T38 l0_0 x3_2).f3)) = x3_2 then (fathomref27_May.l0 kj39 (wrap64 (x3_2 + 1)) l0_0 l0_1) else (some false)) else (none)) else (none)))) else (if ((rd_T38 l0_0 x3_2).f3) ≥ 12 then (some false) else (fathomref27_May.l0 kj39 (wrap64 (x3_2 + 1)) l0_0 l0_1))) = some r := by rw [if_neg (show ¬ (false = true) by decide)] at H; exact H
         clear H
         have H := H1
         clear H1
         by_cases c57 : ((rd_T38 l0_0 x3_2).f2) = 11
         rotate_left
         ·
          rw [if_neg c57] at H
          have c57b0 : (((rd_T38 l0_0 x3_2).f2) == 11) = false := beq_eq_false_iff_ne.mpr c57
          have c57b1 : (((rd_T38 l0_0 x3_2).f2) != 11) = true := bne_iff_ne.mpr c57
          by_cases c74 : ((rd_T38 l0_0 x3_2).f3) ≥ 12
          ·
           rw [if_pos c74] at H
           have c74b0 : decide (12 ≤ ((rd_T38 l0_0 x3_2).f3)) = true := decide_eq_true c74
           clear c74
           obtain rfl := Option.some.inj H
           have hnb75 := NB103_101.out
           have hnc75 := NB101_103.out
           obtain ⟨hcz76_0, hcz76_1, hcz76_2, hcz76_3, hfz76_0, hfz76_1, hfz76_2, hfz76_3⟩ := bo4 BK103
           go_wp2
           repeat (go_quiet (fail); try go_wp2)
           go_ret
           exact ⟨ew, bb⟩
          rw [if_neg c74] at H
          have c74b0 : decide (12 ≤ ((rd_T38 l0_0 x3_2).f3)) = false := decide_eq_false c74
          clear c74
          have H' := Aside0.mk H
          clear H
          have hnb77 := NB103_101.out
          have hnc77 := NB101_103.out
          obtain ⟨hcz78_0, hcz78_1, hcz78_2, hcz78_3, hfz78_0, hfz78_1, hfz78_2, hfz78_3⟩ := bo4 BK103
          go_wp2
          repeat (go_quiet (fail); try go_wp2)
          go_roundg kj39
          case measure => have := HJ1.out; have := HK2.out; have := HJ11.out; have := HJ39.out; omega
          case rel => exact ⟨(wrap64 (x3_2 + 1)), rs, H', ⟨by have := HJ1.out; have := HK2.out; have := HJ11.out; have := HJ39.out; omega⟩, ⟨bk BK101⟩, ⟨bb⟩⟩
         rw [if_pos c57] at H
         have c57b0 : (((rd_T38 l0_0 x3_2).f2) == 11) = true := beq_iff_eq.mpr c57
         have c57b1 : (((rd_T38 l0_0 x3_2).f2) != 11) = false := bne_eq_false_iff_eq.mpr c57
         clear c57
         by_cases c58 : ((rd_T38 l0_0 x3_2).f3) ≤ ((rd_T38 l0_0 x3_2).f0)
         ·
          rw [if_pos c58] at H
          have c58b0 : decide (((rd_T38 l0_0 x3_2).f3) ≤ ((rd_T38 l0_0 x3_2).f0)) = true := decide_eq_true c58
          clear c58
          obtain rfl := Option.some.inj H
          have hnb59 := NB103_101.out
          have hnc59 := NB101_103.out
          obtain ⟨hcz60_0, hcz60_1, hcz60_2, hcz60_3, hfz60_0, hfz60_1, hfz60_2, hfz60_3⟩ := bo4 BK103
          go_wp2
          repeat (go_quiet (fail); try go_wp2)
          go_ret
          exact ⟨ew, bb⟩
         rw [if_neg c58] at H
         have c58b0 : decide (((rd_T38 l0_0 x3_2).f3) ≤ ((rd_T38 l0_0 x3_2).f0)) = false := decide_eq_false c58
         clear c58
         by_cases c61 : ((rd_T38 l0_0 x3_2).f3) ≥ (l0_1.length : Int)
         ·
          rw [if_pos c61] at H
          have c61b0 : decide ((l0_1.length : Int) ≤ ((rd_T38 l0_0 x3_2).f3)) = true := decide_eq_true c61
          clear c61
          obtain rfl := Option.some.inj H
          have hnb62 := NB103_101.out
          have hnc62 := NB101_103.out
          obtain ⟨hcz63_0, hcz63_1, hcz63_2, hcz63_3, hfz63_0, hfz63_1, hfz63_2, hfz63_3⟩ := bo4 BK103
          obtain ⟨hcz64_0, hcz64_1, hfz64_0, hfz64_1⟩ := bo2 BK101
          go_wp2
          repeat (go_quiet (fail); try go_wp2)
          go_ret
          exact ⟨ew, bb⟩
         rw [if_neg c61] at H
         have c61b0 : decide ((l0_1.length : Int) ≤ ((rd_T38 l0_0 x3_2).f3)) = false := decide_eq_false c61
         clear c61
         by_cases c65 : 0 ≤ ((rd_T38 l0_0 x3_2).f3)
         rotate_left
         ·
          rw [if_neg c65] at H
          exact absurd H (by simp)
         rw [if_pos c65] at H
         have c65b0 : decide (0 ≤ ((rd_T38 l0_0 x3_2).f3)) = true := decide_eq_true c65
         clear c65
         by_cases c66 : ((rd_T38 l0_0 x3_2).f3) < (l0_1.length : Int)
         rotate_left
         ·
          rw [if_neg c66] at H
          exact absurd H (by simp)
         rw [if_pos c66] at H
         have c66b0 : decide (((rd_T38 l0_0 x3_2).f3) < (l0_1.length : Int)) = true := decide_eq_true c66
         clear c66
         by_cases c67 : (rd l0_1 ((rd_T38 l0_0 x3_2).f3)) = x3_2
         rotate_left
         ·
          rw [if_neg c67] at H
          have c67b0 : ((rd l0_1 ((rd_T38 l0_0 x3_2).f3)) == x3_2) = false := beq_eq_false_iff_ne.mpr c67
          have c67b1 : ((rd l0_1 ((rd_T38 l0_0 x3_2).f3)) != x3_2) = true := bne_iff_ne.mpr c67
          obtain rfl := Option.some.inj H
          have hnb71 := NB103_101.out
          have hnc71 := NB101_103.out
          obtain ⟨hcz72_0, hcz72_1, hcz72_2, hcz72_3, hfz72_0, hfz72_1, hfz72_2, hfz72_3⟩ := bo4 BK103
          obtain ⟨hcz73_0, hcz73_1, hfz73_0, hfz73_1⟩ := bo2 BK101
          have p107 : 0 ≤ (((rd_T38 l0_0 x3_2).f3) : Int) := od
          have q107 : ((rd_T38 l0_0 x3_2).f3) < (l0_1.length : Int) := od
          obtain ⟨ad107, e107, hx107_0⟩ := Kd.at_int HR0_1.out ((rd_T38 l0_0 x3_2).f3) p107 q107
          cases e107
          replace hx107_0 := bl HB hx107_0
          replace p107 := eq_true p107
          replace q107 := eq_true q107
          go_wp2
          repeat (go_quiet (fail); try go_wp2)
          go_ret
          exact ⟨ew, bb⟩
         rw [if_pos c67] at H
         have c67b0 : ((rd l0_1 ((rd_T38 l0_0 x3_2).f3)) == x3_2) = true := beq_iff_eq.mpr c67
         have c67b1 : ((rd l0_1 ((rd_T38 l0_0 x3_2).f3)) != x3_2) = false := bne_eq_false_iff_eq.mpr c67
         clear c67
         have H' := Aside0.mk H
         clear H
         have hnb68 := NB103_101.out
         have hnc68 := NB101_103.out
         obtain ⟨hcz69_0, hcz69_1, hcz69_2, hcz69_3, hfz69_0, hfz69_1, hfz69_2, hfz69_3⟩ := bo4 BK103
         obtain ⟨hcz70_0, hcz70_1, hfz70_0, hfz70_1⟩ := bo2 BK101
         have p107 : 0 ≤ (((rd_T38 l0_0 x3_2).f3) : Int) := od
         have q107 : ((rd_T38 l0_0 x3_2).f3) < (l0_1.length : Int) := od
         obtain ⟨ad107, e107, hx107_0⟩ := Kd.at_int HR0_1.out ((rd_T38 l0_0 x3_2).f3) p107 q107
         cases e107
         replace hx107_0 := bl HB hx107_0
         replace p107 := eq_true p107
         replace q107 := eq_true q107
         go_wp2
         repeat (go_quiet (fail); try go_wp2)
         go_roundg kj39
         case measure => have := HJ1.out; have := HK2.out; have := HJ11.out; have := HJ39.out; omega
         case rel => exact ⟨(wrap64 (x3_2 + 1)), rs, H', ⟨by have := HJ1.out; have := HK2.out; have := HJ11.out; have := HJ39.out; omega⟩, ⟨bk BK101⟩, ⟨bb⟩⟩

end Go.Proofs.Ytcoelecaigkfcaa.K
