-- Laid by drive.py (a program of the session's) out of the translation. Lean checks it.
import Derived.Test.YtcoelecaigkfcaaKx0
import Derived.Test.YtcoelecaigkfcaaKx2
namespace Go.Proofs.Ytcoelecaigkfcaa.K
open Go.RowKit Go.Proofs.YtcoelecaigkfcaaW.PrintWords Go.Proofs.YtcoelecaigkfcaaW.PrintLast
set_option linter.unusedVariables false
set_option linter.unusedSimpArgs false

/-! ### shape_Check: function 13 -/
mutual
def shape_Check.j0 : Nat → Bool → List (S38) → List Int → Option (Int)
  | 0, _, _, _ => none
  | k + 1, x23, x116000, x116001 => if x23 = true then (some 1) else (if 0 ≤ (x116001.length : Int) then (if ((x116001.length : Int) : Int).toNat ≤ 35184372088832 then ((some (List.replicate ((x116001.length : Int) : Int).toNat 0 : List Int)).bind fun y116 => (shape_Check.l0 k y116 (y116.length : Int) 0 x116000 x116001)) else (none)) else (none))
def shape_Check.l0 : Nat → List Int → Int → Int → List (S38) → List Int → Option (Int)
  | 0, _, _, _, _, _ => none
  | k + 1, x3, x29, x30, x116000, x116001 => if x30 < x29 then (if 0 ≤ x30 then (if x30 < (x3.length : Int) then (shape_Check.l0 k (x3.set (x30 : Int).toNat (-1)) x29 (wrap64 (x30 + 1)) x116000 x116001) else (none)) else (none)) else (shape_Check.l1 k x3 x116000 (x116000.length : Int) 0 x116000 x116001 0 (-1) 0 0)
def shape_Check.l1 : Nat → List Int → List (S38) → Int → Int → List (S38) → List Int → Int → Int → Int → Int → Option (Int)
  | 0, _, _, _, _, _, _, _, _, _, _ => none
  | k + 1, x3, x39, x40, x41, x116000, x116001, x121000, x121001, x121002, x121003 => if x41 < x40 then (if 0 ≤ x41 then (if x41 < (x39.length : Int) then (if ((rd_T38 x39 x41).f0) < x121000 then (shape_Check.j3 k x3 x41 x39 x40 x41 true x116000 x116001 x121000 x121001 x121002 x121003 ((rd_T38 x39 x41).f0) ((rd_T38 x39 x41).f1) ((rd_T38 x39 x41).f2) ((rd_T38 x39 x41).f3)) else (if ((rd_T38 x39 x41).f0) ≥ (x116001.length : Int) then (shape_Check.j3 k x3 x41 x39 x40 x41 true x116000 x116001 x121000 x121001 x121002 x121003 ((rd_T38 x39 x41).f0) ((rd_T38 x39 x41).f1) ((rd_T38 x39 x41).f2) ((rd_T38 x39 x41).f3)) else (if ((rd_T38 x39 x41).f2) < 1 then (shape_Check.j3 k x3 x41 x39 x40 x41 true x116000 x116001 x121000 x121001 x121002 x121003 ((rd_T38 x39 x41).f0) ((rd_T38 x39 x41).f1) ((rd_T38 x39 x41).f2) ((rd_T38 x39 x41).f3)) else (if ((rd_T38 x39 x41).f2) > 11 then (shape_Check.j3 k x3 x41 x39 x40 x41 true x116000 x116001 x121000 x121001 x121002 x121003 ((rd_T38 x39 x41).f0) ((rd_T38 x39 x41).f1) ((rd_T38 x39 x41).f2) ((rd_T38 x39 x41).f3)) else ((shape_object.f x116000 x116001 ((rd_T38 x39 x41).f0) ((rd_T38 x39 x41).f1) ((rd_T38 x39 x41).f2) ((rd_T38 x39 x41).f3)).bind fun t124 => (shape_Check.j3 k x3 x41 x39 x40 x41 (!t124) x116000 x116001 x121000 x121001 x121002 x121003 ((rd_T38 x39 x41).f0) ((rd_T38 x39 x41).f1) ((rd_T38 x39 x41).f2) ((rd_T38 x39 x41).f3))))))) else (none)) else (none)) else ((slices_Equal_int_int.f k x3 x116001).bind fun t121 => (if t121 = true then (some 0) else (some 1)))
def shape_Check.j3 : Nat → List Int → Int → List (S38) → Int → Int → Bool → List (S38) → List Int → Int → Int → Int → Int → Int → Int → Int → Int → Option (Int)
  | 0, _, _, _, _, _, _, _, _, _, _, _, _, _, _, _, _ => none
  | k + 1, x3, x6, x39, x40, x41, x74, x116000, x116001, x121000, x121001, x121002, x121003, x124000, x124001, x124002, x124003 => if x74 = true then (some 1) else (if x124001 < 0 then (shape_Check.j4 k x3 x6 x39 x40 x41 true x116000 x116001 x124000 x124001 x124002 x124003) else (if x124000 = x121000 then (shape_Check.j4 k x3 x6 x39 x40 x41 (decide (x124001 ≤ x121001)) x116000 x116001 x124000 x124001 x124002 x124003) else (shape_Check.j4 k x3 x6 x39 x40 x41 false x116000 x116001 x124000 x124001 x124002 x124003)))
def shape_Check.j4 : Nat → List Int → Int → List (S38) → Int → Int → Bool → List (S38) → List Int → Int → Int → Int → Int → Option (Int)
  | 0, _, _, _, _, _, _, _, _, _, _, _, _ => none
  | k + 1, x3, x6, x39, x40, x41, x91, x116000, x116001, x124000, x124001, x124002, x124003 => if x91 = true then (some 1) else (if x124002 = 11 then (if 0 ≤ x124003 then (if x124003 < (x3.length : Int) then (if (rd x3 x124003) ≥ 0 then (some 1) else (shape_Check.l1 k (x3.set (x124003 : Int).toNat x6) x39 x40 (wrap64 (x41 + 1)) x116000 x116001 x124000 x124001 x124002 x124003)) else (none)) else (none)) else (shape_Check.l1 k x3 x39 x40 (wrap64 (x41 + 1)) x116000 x116001 x124000 x124001 x124002 x124003))
end
def shape_Check.f (k : Nat) (l0_0 : List (S38)) (l0_1 : List Int) : Option (Int) := if (l0_0.length : Int) > 40 then (shape_Check.j0 k true l0_0 l0_1) else (if (l0_1.length : Int) < 1 then (shape_Check.j0 k true l0_0 l0_1) else (shape_Check.j0 k (decide ((l0_1.length : Int) > 6)) l0_0 l0_1))
theorem shape_Check.mono_l : ∀ k, (∀ y0 y1 y2, LeO (shape_Check.j0 k y0 y1 y2) (shape_Check.j0 (k + 1) y0 y1 y2)) ∧ (∀ y0 y1 y2 y3 y4, LeO (shape_Check.l0 k y0 y1 y2 y3 y4) (shape_Check.l0 (k + 1) y0 y1 y2 y3 y4)) ∧ (∀ y0 y1 y2 y3 y4 y5 y6 y7 y8 y9, LeO (shape_Check.l1 k y0 y1 y2 y3 y4 y5 y6 y7 y8 y9) (shape_Check.l1 (k + 1) y0 y1 y2 y3 y4 y5 y6 y7 y8 y9)) ∧ (∀ y0 y1 y2 y3 y4 y5 y6 y7 y8 y9 y10 y11 y12 y13 y14 y15, LeO (shape_Check.j3 k y0 y1 y2 y3 y4 y5 y6 y7 y8 y9 y10 y11 y12 y13 y14 y15) (shape_Check.j3 (k + 1) y0 y1 y2 y3 y4 y5 y6 y7 y8 y9 y10 y11 y12 y13 y14 y15)) ∧ (∀ y0 y1 y2 y3 y4 y5 y6 y7 y8 y9 y10 y11, LeO (shape_Check.j4 k y0 y1 y2 y3 y4 y5 y6 y7 y8 y9 y10 y11) (shape_Check.j4 (k + 1) y0 y1 y2 y3 y4 y5 y6 y7 y8 y9 y10 y11))
  | 0 => ⟨fun _ _ _ r h => by simp [shape_Check.j0] at h, fun _ _ _ _ _ r h => by simp [shape_Check.l0] at h, fun _ _ _ _ _ _ _ _ _ _ r h => by simp [shape_Check.l1] at h, fun _ _ _ _ _ _ _ _ _ _ _ _ _ _ _ _ r h => by simp [shape_Check.j3] at h, fun _ _ _ _ _ _ _ _ _ _ _ _ r h => by simp [shape_Check.j4] at h⟩
  | k + 1 => by
    obtain ⟨ih0, ih1, ih2, ih3, ih4⟩ := shape_Check.mono_l k
    refine ⟨?_, ?_, ?_, ?_, ?_⟩
    · intro y0 y1 y2
      unfold shape_Check.j0
      repeat' first
      | (with_reducible exact ih0 _ _ _)
      | (with_reducible exact ih1 _ _ _ _ _)
      | (with_reducible exact ih2 _ _ _ _ _ _ _ _ _ _)
      | (with_reducible exact ih3 _ _ _ _ _ _ _ _ _ _ _ _ _ _ _ _)
      | (with_reducible exact ih4 _ _ _ _ _ _ _ _ _ _ _ _)
      | (with_reducible exact slices_Equal_int_int.mono _ _ _)
      | (with_reducible exact LeO.refl _)
      | (with_reducible exact LeO.none _)
      | (with_reducible refine LeO.ite ?_ ?_)
      | (with_reducible refine LeO.bind ?_ (fun _ => ?_))
      | exact ih0 _ _ _
      | exact ih1 _ _ _ _ _
      | exact ih2 _ _ _ _ _ _ _ _ _ _
      | exact ih3 _ _ _ _ _ _ _ _ _ _ _ _ _ _ _ _
      | exact ih4 _ _ _ _ _ _ _ _ _ _ _ _
      | exact slices_Equal_int_int.mono _ _ _
      | exact LeO.none _
      | refine LeO.ite ?_ ?_
      | refine LeO.bind ?_ (fun _ => ?_)
    · intro y0 y1 y2 y3 y4
      unfold shape_Check.l0
      repeat' first
      | (with_reducible exact ih0 _ _ _)
      | (with_reducible exact ih1 _ _ _ _ _)
      | (with_reducible exact ih2 _ _ _ _ _ _ _ _ _ _)
      | (with_reducible exact ih3 _ _ _ _ _ _ _ _ _ _ _ _ _ _ _ _)
      | (with_reducible exact ih4 _ _ _ _ _ _ _ _ _ _ _ _)
      | (with_reducible exact slices_Equal_int_int.mono _ _ _)
      | (with_reducible exact LeO.refl _)
      | (with_reducible exact LeO.none _)
      | (with_reducible refine LeO.ite ?_ ?_)
      | (with_reducible refine LeO.bind ?_ (fun _ => ?_))
      | exact ih0 _ _ _
      | exact ih1 _ _ _ _ _
      | exact ih2 _ _ _ _ _ _ _ _ _ _
      | exact ih3 _ _ _ _ _ _ _ _ _ _ _ _ _ _ _ _
      | exact ih4 _ _ _ _ _ _ _ _ _ _ _ _
      | exact slices_Equal_int_int.mono _ _ _
      | exact LeO.none _
      | refine LeO.ite ?_ ?_
      | refine LeO.bind ?_ (fun _ => ?_)
    · intro y0 y1 y2 y3 y4 y5 y6 y7 y8 y9
      unfold shape_Check.l1
      repeat' first
      | (with_reducible exact ih0 _ _ _)
      | (with_reducible exact ih1 _ _ _ _ _)
      | (with_reducible exact ih2 _ _ _ _ _ _ _ _ _ _)
      | (with_reducible exact ih3 _ _ _ _ _ _ _ _ _ _ _ _ _ _ _ _)
      | (with_reducible exact ih4 _ _ _ _ _ _ _ _ _ _ _ _)
      | (with_reducible exact slices_Equal_int_int.mono _ _ _)
      | (with_reducible exact LeO.refl _)
      | (with_reducible exact LeO.none _)
      | (with_reducible refine LeO.ite ?_ ?_)
      | (with_reducible refine LeO.bind ?_ (fun _ => ?_))
      | exact ih0 _ _ _
      | exact ih1 _ _ _ _ _
      | exact ih2 _ _ _ _ _ _ _ _ _ _
      | exact ih3 _ _ _ _ _ _ _ _ _ _ _ _ _ _ _ _
      | exact ih4 _ _ _ _ _ _ _ _ _ _ _ _
      | exact slices_Equal_int_int.mono _ _ _
      | exact LeO.none _
      | refine LeO.ite ?_ ?_
      | refine LeO.bind ?_ (fun _ => ?_)
    · intro y0 y1 y2 y3 y4 y5 y6 y7 y8 y9 y10 y11 y12 y13 y14 y15
      unfold shape_Check.j3
      repeat' first
      | (with_reducible exact ih0 _ _ _)
      | (with_reducible exact ih1 _ _ _ _ _)
      | (with_reducible exact ih2 _ _ _ _ _ _ _ _ _ _)
      | (with_reducible exact ih3 _ _ _ _ _ _ _ _ _ _ _ _ _ _ _ _)
      | (with_reducible exact ih4 _ _ _ _ _ _ _ _ _ _ _ _)
      | (with_reducible exact slices_Equal_int_int.mono _ _ _)
      | (with_reducible exact LeO.refl _)
      | (with_reducible exact LeO.none _)
      | (with_reducible refine LeO.ite ?_ ?_)
      | (with_reducible refine LeO.bind ?_ (fun _ => ?_))
      | exact ih0 _ _ _
      | exact ih1 _ _ _ _ _
      | exact ih2 _ _ _ _ _ _ _ _ _ _
      | exact ih3 _ _ _ _ _ _ _ _ _ _ _ _ _ _ _ _
      | exact ih4 _ _ _ _ _ _ _ _ _ _ _ _
      | exact slices_Equal_int_int.mono _ _ _
      | exact LeO.none _
      | refine LeO.ite ?_ ?_
      | refine LeO.bind ?_ (fun _ => ?_)
    · intro y0 y1 y2 y3 y4 y5 y6 y7 y8 y9 y10 y11
      unfold shape_Check.j4
      repeat' first
      | (with_reducible exact ih0 _ _ _)
      | (with_reducible exact ih1 _ _ _ _ _)
      | (with_reducible exact ih2 _ _ _ _ _ _ _ _ _ _)
      | (with_reducible exact ih3 _ _ _ _ _ _ _ _ _ _ _ _ _ _ _ _)
      | (with_reducible exact ih4 _ _ _ _ _ _ _ _ _ _ _ _)
      | (with_reducible exact slices_Equal_int_int.mono _ _ _)
      | (with_reducible exact LeO.refl _)
      | (with_reducible exact LeO.none _)
      | (with_reducible refine LeO.ite ?_ ?_)
      | (with_reducible refine LeO.bind ?_ (fun _ => ?_))
      | exact ih0 _ _ _
      | exact ih1 _ _ _ _ _
      | exact ih2 _ _ _ _ _ _ _ _ _ _
      | exact ih3 _ _ _ _ _ _ _ _ _ _ _ _ _ _ _ _
      | exact ih4 _ _ _ _ _ _ _ _ _ _ _ _
      | exact slices_Equal_int_int.mono _ _ _
      | exact LeO.none _
      | refine LeO.ite ?_ ?_
      | refine LeO.bind ?_ (fun _ => ?_)
theorem shape_Check.mono : ∀ a0 a1 k, LeO (shape_Check.f k a0 a1) (shape_Check.f (k + 1) a0 a1) := by
  intro a0 a1 k
  obtain ⟨ih0, ih1, ih2, ih3, ih4⟩ := shape_Check.mono_l k
  unfold shape_Check.f
  repeat' first
      | (with_reducible exact ih0 _ _ _)
      | (with_reducible exact ih1 _ _ _ _ _)
      | (with_reducible exact ih2 _ _ _ _ _ _ _ _ _ _)
      | (with_reducible exact ih3 _ _ _ _ _ _ _ _ _ _ _ _ _ _ _ _)
      | (with_reducible exact ih4 _ _ _ _ _ _ _ _ _ _ _ _)
      | (with_reducible exact slices_Equal_int_int.mono _ _ _)
      | (with_reducible exact LeO.refl _)
      | (with_reducible exact LeO.none _)
      | (with_reducible refine LeO.ite ?_ ?_)
      | (with_reducible refine LeO.bind ?_ (fun _ => ?_))
      | exact ih0 _ _ _
      | exact ih1 _ _ _ _ _
      | exact ih2 _ _ _ _ _ _ _ _ _ _
      | exact ih3 _ _ _ _ _ _ _ _ _ _ _ _ _ _ _ _
      | exact ih4 _ _ _ _ _ _ _ _ _ _ _ _
      | exact slices_Equal_int_int.mono _ _ _
      | exact LeO.none _
      | refine LeO.ite ?_ ?_
      | refine LeO.bind ?_ (fun _ => ?_)
set_option maxHeartbeats 8000000 in
set_option maxRecDepth 100000 in
theorem shape_Check.calls (k : Nat) (A0_0 : Option Addr) (c0_0 : Nat) (l0_0 : List (S38)) (A0_1 : Option Addr) (c0_1 : Nat) (l0_1 : List Int) (r : Int) (w : World) (hr0_0 : Kd.C k38 w A0_0 l0_0.length l0_0) (hc0_0 : l0_0.length ≤ c0_0) (hr0_1 : Kd.C (Kd.int .i64) w A0_1 l0_1.length l0_1) (hc0_1 : l0_1.length ≤ c0_1) (h : shape_Check.f k l0_0 l0_1 = some r) :
    Calls Try.prog 13 #[.agg #[.slice A0_0 l0_0.length c0_0, .slice A0_1 l0_1.length c0_1]] w fun e w' => e = .returned (.int .i64 r) ∧ Below w.heap.size w w' := by
 have hu25 := Try.underlying25
 have hu38 := Try.underlying38
 have HR0_0 := Aside0.mk hr0_0
 have HC0_0 := Aside0.mk hc0_0
 clear hr0_0 hc0_0
 have HR0_1 := Aside0.mk hr0_1
 have HC0_1 := Aside0.mk hc0_1
 clear hr0_1 hc0_1
 have HB := Aside0.mk (Below.refl w.heap.size w)
 have H : (if (l0_0.length : Int) > 40 then (shape_Check.j0 k true l0_0 l0_1) else (if (l0_1.length : Int) < 1 then (shape_Check.j0 k true l0_0 l0_1) else (shape_Check.j0 k (decide ((l0_1.length : Int) > 6)) l0_0 l0_1))) = some r := h
 clear h
 have HC2 := Aside0.mk H
 clear H
 go_enter Try.func13, Try.ntmps13
 go_upto_region 1 with (first | ((with_reducible refine gate_dst (N := 1) rfl ?_); (try (refine gate_guard (by rfl) ?_; dsimp only)); refine bx 1 #[.slice A0_0 l0_0.length c0_0, .slice A0_1 l0_1.length c0_1] 25 ?_; intro gb115 hg w3 hbox hb; have BK115 := Aside0.mk (hbox); have GW115 := Aside0.mk ((bz hg : w.heap.size ≤ gb115)); have GE115 := Aside0.mk ((bz hg : w.heap.size ≤ gb115)); replace HB := Aside0.mk (below_step bb hb); clear hb hbox hg))
 repeat ((with_reducible refine upon_gate ?_); go_simp; go_upto_region 1 with (first | ((with_reducible refine gate_dst (N := 1) rfl ?_); (try (refine gate_guard (by rfl) ?_; dsimp only)); refine bx 1 #[.slice A0_0 l0_0.length c0_0, .slice A0_1 l0_1.length c0_1] 25 ?_; intro gb115 hg w3 hbox hb; have BK115 := Aside0.mk (hbox); have GW115 := Aside0.mk ((bz hg : w.heap.size ≤ gb115)); have GE115 := Aside0.mk ((bz hg : w.heap.size ≤ gb115)); replace HB := Aside0.mk (below_step bb hb); clear hb hbox hg)))
 (try simp only [Act.put, List.setIfInBounds_toArray, List.set_cons_zero, List.set_cons_succ])
 go_cut [23] (fun v23 wc => ∃ (kq : Nat) (x23_1 : Bool), v23 = .bool x23_1 ∧ Aside0 (shape_Check.j0 kq x23_1 l0_0 l0_1 = some r) ∧ Aside0 (kq ≤ k) ∧ Aside0 (wc.heap[gb115]? = some (.cells #[(.slice A0_0 l0_0.length c0_0), (.slice A0_1 l0_1.length c0_1)] 25 (0, 0))) ∧ Aside0 (Below w.heap.size w wc))
 case first =>
  have H := HC2.out
  clear HC2
  by_cases c4 : (l0_0.length : Int) > 40
  ·
   rw [if_pos c4] at H
   have c4b0 : decide (40 < (l0_0.length : Int)) = true := decide_eq_true c4
   try (have c4b6_hl3_2 := c4b0; simp only [hl3_2] at c4b6_hl3_2)
   try (have c4b6_hl3_3 := c4b0; simp only [hl3_3] at c4b6_hl3_3)
   have c4b1 : decide (40 < l0_0.length) = true := decide_eq_true (by omega)
   clear c4
   (first | rw [c4b0] | (simp only [i64_w, i32_w]; rw [c4b0]) | skip)
   have H' := Aside0.mk H
   clear H
   obtain ⟨hcz5_0, hcz5_1, hfz5_0, hfz5_1⟩ := bo2 BK115
   go_wp2
   go_meet
   case rel => exact ⟨_, (true), rs, H', ⟨by first | omega | exact Nat.le_refl _⟩, ⟨bk BK115⟩, ⟨bb⟩⟩
  rw [if_neg c4] at H
  have c4b0 : decide (40 < (l0_0.length : Int)) = false := decide_eq_false c4
  try (have c4b6_hl3_2 := c4b0; simp only [hl3_2] at c4b6_hl3_2)
  try (have c4b6_hl3_3 := c4b0; simp only [hl3_3] at c4b6_hl3_3)
  have c4b1 : decide (40 < l0_0.length) = false := decide_eq_false (by omega)
  clear c4
  (first | rw [c4b0] | (simp only [i64_w, i32_w]; rw [c4b0]) | skip)
  by_cases c6 : (l0_1.length : Int) < 1
  ·
   rw [if_pos c6] at H
   have c6b0 : decide ((l0_1.length : Int) < 1) = true := decide_eq_true c6
   try (have c6b6_hl3_2 := c6b0; simp only [hl3_2] at c6b6_hl3_2)
   try (have c6b6_hl3_3 := c6b0; simp only [hl3_3] at c6b6_hl3_3)
   have c6b1 : decide (l0_1.length < 1) = true := decide_eq_true (by omega)
   clear c6
   have H' := Aside0.mk H
   clear H
   obtain ⟨hcz7_0, hcz7_1, hfz7_0, hfz7_1⟩ := bo2 BK115
   go_wp2
   go_meet
   case rel => exact ⟨_, (true), rs, H', ⟨by first | omega | exact Nat.le_refl _⟩, ⟨bk BK115⟩, ⟨bb⟩⟩
  rw [if_neg c6] at H
  have c6b0 : decide ((l0_1.length : Int) < 1) = false := decide_eq_false c6
  try (have c6b6_hl3_2 := c6b0; simp only [hl3_2] at c6b6_hl3_2)
  try (have c6b6_hl3_3 := c6b0; simp only [hl3_3] at c6b6_hl3_3)
  have c6b1 : decide (l0_1.length < 1) = false := decide_eq_false (by omega)
  clear c6
  have H' := Aside0.mk H
  clear H
  obtain ⟨hcz8_0, hcz8_1, hfz8_0, hfz8_1⟩ := bo2 BK115
  go_wp2
  go_meet
  case rel => exact ⟨_, (decide ((l0_1.length : Int) > 6)), rs, H', ⟨by first | omega | exact Nat.le_refl _⟩, ⟨bk BK115⟩, ⟨bb⟩⟩
 case rest =>
  clear HC2
  try clear c1
  try clear p2
  try clear c4
  try clear c4b0
  try clear c4b1
  try clear c6
  try clear c6b0
  try clear c6b1
  try clear hcz5_0
  try clear hcz5_1
  try clear hcz7_0
  try clear hcz7_1
  try clear hcz8_0
  try clear hcz8_1
  try clear hfz5_0
  try clear hfz5_1
  try clear hfz7_0
  try clear hfz7_1
  try clear hfz8_0
  try clear hfz8_1
  obtain ⟨kq, x23_1, rfl, HA, HJ1, BK115, HB⟩ := hcut
  cases kq with
  | zero => exact absurd HA.out (by simp [shape_Check.j0])
  | succ kj1 =>
   have H := HA.out
   clear HA
   simp only [shape_Check.j0] at H
   by_cases c9 : x23_1 = true
   ·
    subst c9
    have H1 : (some 1) = some r := by rw [if_pos rfl] at H; exact H
    clear H
    have H := H1
    clear H1
    obtain rfl := Option.some.inj H
    go_wp2
    go_ret
    exact ⟨ew, bb⟩
   replace c9 := Bool.eq_false_iff.mpr c9
   subst c9
   have H1 : (if 0 ≤ (l0_1.length : Int) then (if ((l0_1.length : Int) : Int).toNat ≤ 35184372088832 then ((some (List.replicate ((l0_1.length : Int) : Int).toNat 0 : List Int)).bind fun y116 => (shape_Check.l0 kj1 y116 (y116.length : Int) 0 l0_0 l0_1)) else (none)) else (none)) = some r := by rw [if_neg (show ¬ (false = true) by decide)] at H; exact H
   clear H
   have H := H1
   clear H1
   by_cases c10 : 0 ≤ (l0_1.length : Int)
   rotate_left
   ·
    rw [if_neg c10] at H
    exact absurd H (by simp)
   rw [if_pos c10] at H
   have c10b0 := eq_true c10
   have c10b1 : decide (0 ≤ (l0_1.length : Int)) = true := decide_eq_true c10
   clear c10
   by_cases c11 : ((l0_1.length : Int) : Int).toNat ≤ 35184372088832
   rotate_left
   ·
    rw [if_neg c11] at H
    exact absurd H (by simp)
   rw [if_pos c11] at H
   have c11b0 := eq_true c11
   have c11b1 : decide (((l0_1.length : Int) : Int).toNat ≤ 35184372088832) = true := decide_eq_true c11
   clear c11
   obtain ⟨y116, hy116⟩ : ∃ y_ : List Int, y_ = (List.replicate ((l0_1.length : Int) : Int).toNat 0) := ⟨_, rfl⟩
   replace H : (shape_Check.l0 kj1 y116 (y116.length : Int) 0 l0_0 l0_1) = some r := by first | (rw [hy116]; with_reducible exact H) | (have H2_ := (Option.bind_some _ _).symm.trans H; rw [hy116]; with_reducible exact H2_) | (have H2_ := (Option.bind_some _ _).symm.trans H; with_reducible exact H2_) | with_reducible exact H | (rw [hy116]; exact H) | exact H
   have Ny116 := Aside0.mk hy116
   clear hy116
   have H' := Aside0.mk H
   clear H
   obtain ⟨hcz12_0, hcz12_1, hfz12_0, hfz12_1⟩ := bo2 BK115
   go_wp2_with (first | ((with_reducible refine gate_dst (N := 27) rfl ?_); (try (refine gate_guard (by rfl) ?_; dsimp only)); refine Kd.R_make (Kd.int .i64) _ 3 rfl (N := 27) rfl 23 _ _ rfl (l0_1.length : Int) rfl rfl Try.underlying23 (.int .i64 0) 8 info3 rfl (by decide) (by omega) 0 (ok := fun _ => True) (okp := fun _ => True) rfl (fun _ hk => hk) trivial (od) (Nat.le_trans (Nat.mul_le_mul_right _ (od : (l0_1.length : Int).toNat ≤ 35184372088832)) (by omega)) (Below.refl _ _) (Nat.le_refl _) ?_; intro v117 w13 ho14 hb hg_ hnew_; clear hg_ hnew_; (first | rw [← Ny116.out] at ho14 | (simp only [Int.reduceToNat] at ho14; rw [← Ny116.out] at ho14)); have HO118 := Aside0.mk (Kd.R_lower ho14 (below_size bb)); replace BK115 := Aside0.mk (bw BK115 hb); replace HB := Aside0.mk (below_step bb hb); clear hb ho14; obtain ⟨Ao15, co15, eo15⟩ := Kd.R_slice HO118.out; subst eo15))
   go_loopg [30] kj1 (fun kq v30 w' => ∃ (x3_2 : List Int) (x30_2 : Int), v30 = .int .i64 x30_2 ∧ Aside0 (shape_Check.l0 kq x3_2 (y116.length : Int) x30_2 l0_0 l0_1 = some r) ∧ Aside0 (kq ≤ kj1) ∧ Aside0 (Kd.R (Kd.int .i64) 3 w' w.heap.size (fun _ => True) (.slice Ao15 y116.length co15) x3_2) ∧ Aside0 (w'.heap[gb115]? = some (.cells #[(.slice A0_0 l0_0.length c0_0), (.slice A0_1 l0_1.length c0_1)] 25 (0, 0))) ∧ Aside0 (Below w.heap.size w w'))
   case atStart => exact ⟨(y116), (0), rs, H', ⟨Nat.le_refl _⟩, ⟨by refine rm ?_; exact HO118.out⟩, ⟨bk BK115⟩, ⟨bb⟩⟩
   case round =>
    clear H'
    try clear c1
    try clear p2
    try clear c4
    try clear c4b0
    try clear c4b1
    try clear c6
    try clear c6b0
    try clear c6b1
    try clear c9
    try clear c10
    try clear c10b0
    try clear c10b1
    try clear c11
    try clear c11b0
    try clear c11b1
    try clear c13
    try clear hcz12_0
    try clear hcz12_1
    try clear hcz5_0
    try clear hcz5_1
    try clear hcz7_0
    try clear hcz7_1
    try clear hcz8_0
    try clear hcz8_1
    try clear hfz12_0
    try clear hfz12_1
    try clear hfz5_0
    try clear hfz5_1
    try clear hfz7_0
    try clear hfz7_1
    try clear hfz8_0
    try clear hfz8_1
    obtain ⟨x3_2, x30_2, rfl, HA, HK2, HO_3, BK115, HB⟩ := hrel
    have hl3_2 := (Kd.R_reads' HO_3.out).1
    rw [hl3_2] at HO_3
    (try simp only [hl3_2])
    (try simp only [hl3_2] at BK115)
    cases gk with
    | zero => exact absurd HA.out (by simp [shape_Check.l0])
    | succ k2 =>
     have H := HA.out
     clear HA
     simp only [shape_Check.l0] at H
     by_cases c16 : x30_2 < (y116.length : Int)
     ·
      rw [if_pos c16] at H
      have c16b0 : decide (x30_2 < (y116.length : Int)) = true := decide_eq_true c16
      try (have c16b6_hl3_2 := c16b0; simp only [hl3_2] at c16b6_hl3_2)
      try (have c16b6_hl3_3 := c16b0; simp only [hl3_3] at c16b6_hl3_3)
      clear c16
      by_cases c17 : 0 ≤ x30_2
      rotate_left
      ·
       rw [if_neg c17] at H
       exact absurd H (by simp)
      rw [if_pos c17] at H
      have c17b0 : decide (0 ≤ x30_2) = true := decide_eq_true c17
      clear c17
      by_cases c18 : x30_2 < (x3_2.length : Int)
      rotate_left
      ·
       rw [if_neg c18] at H
       exact absurd H (by simp)
      rw [if_pos c18] at H
      have c18b0 : decide (x30_2 < (x3_2.length : Int)) = true := decide_eq_true c18
      try (have c18b6_hl3_2 := c18b0; simp only [hl3_2] at c18b6_hl3_2)
      try (have c18b6_hl3_3 := c18b0; simp only [hl3_3] at c18b6_hl3_3)
      clear c18
      obtain ⟨y119, hy119⟩ : ∃ y_ : List Int, y_ = (x3_2.set (x30_2 : Int).toNat (-1)) := ⟨_, rfl⟩
      replace H : (shape_Check.l0 k2 y119 (y116.length : Int) (wrap64 (x30_2 + 1)) l0_0 l0_1) = some r := by first | (rw [hy119]; with_reducible exact H) | (have H2_ := (Option.bind_some _ _).symm.trans H; rw [hy119]; with_reducible exact H2_) | (have H2_ := (Option.bind_some _ _).symm.trans H; with_reducible exact H2_) | with_reducible exact H | (rw [hy119]; exact H) | exact H
      have Ny119 := Aside0.mk hy119
      clear hy119
      have H' := Aside0.mk H
      clear H
      have p19 : 0 ≤ (x30_2 : Int) := od
      have q19 : (x30_2 : Int) < ((x3_2.length : Int) : Int) := od
      obtain ⟨go19, co19, eo19, gb19, gl19, cl19, HG19⟩ := Kd.R_form HO_3.out (by omega)
      (first | cases eo19 | (injection eo19 with ea_ en_ ec_; (first | subst ea_ | (injection ea_ with ea_; subst ea_)); subst ec_; clear en_))
      have GB19 := Aside0.mk gb19
      have GG19 := Aside0.mk HG19
      clear gb19 gl19 HG19
      obtain ⟨hx19_0, hf19_0⟩ := Kd.R_celln 0 HO_3.out (x30_2 : Int) p19 q19
      replace p19 := eq_true p19
      replace q19 := eq_true q19
      have HP20 := Kd.R_putg HO_3.out (x30_2 : Int) (-1)
      go_wp2_with (first | ((with_reducible refine gate_store (t := 3) (p := 35) rfl ?_); refine store_event (t := 3) (p := 35) (v := ?vo_w21) (w1 := (wr.setCell ⟨go19, (x30_2 : Int).toNat, none⟩ (.int .i64 (-1)))) ?hg ?ho ?hn ?hr ?_; (case ho => rfl); (case hg => rfl); (case hn => rfl); (case hr => first | (go_simp; done) | (go_simp; rfl)); intro w21 hw; have hg : wr.grownBy w21 (some go19) := (by rw [hw]; exact HP20.2); have hp_ : Kd.R (Kd.int .i64) 3 w21 w.heap.size (fun _ => True) (.slice (some ⟨go19, 0, none⟩) x3_2.length co15) y119 := (by rw [hw, Ny119.out]; exact HP20.1); clear HP20; replace BK115 := Aside0.mk (blk_grown (g := gb115) (o := .cells #[.slice A0_0 l0_0.length c0_0, .slice A0_1 l0_1.length c0_1] 25 (0, 0)) (bk BK115) hg (Kd.R_ne HO_3.out BK115.out (by decide))); replace HO_3 := Aside0.mk (hp_); replace HB := Aside0.mk ((by rw [hw]; exact below_set (HB.out) GB19.out : Below w.heap.size w w21)); clear hg hw hp_))
      (try simp only [← hl3_2])
      go_roundg k2
      case measure => have := HJ1.out; have := HK2.out; omega
      case rel => exact ⟨(y119), (wrap64 (x30_2 + 1)), rs, H', ⟨by have := HJ1.out; have := HK2.out; omega⟩, ⟨by (try simp only [hl3_2]); refine rm ?_; exact HO_3.out⟩, ⟨by (try simp only [hl3_2]); refine bm ?_; exact BK115.out⟩, ⟨bb⟩⟩
     rw [if_neg c16] at H
     have c16b0 : decide (x30_2 < (y116.length : Int)) = false := decide_eq_false c16
     try (have c16b6_hl3_2 := c16b0; simp only [hl3_2] at c16b6_hl3_2)
     try (have c16b6_hl3_3 := c16b0; simp only [hl3_3] at c16b6_hl3_3)
     clear c16
     have H' := Aside0.mk H
     clear H
     go_wp2_with (first | ((with_reducible refine gate_dst (N := 5) rfl ?_); (try (refine gate_guard (by rfl) ?_; dsimp only)); refine bx 5 #[.int .i64 0, .int .i64 0, .int .i64 0, .int .i64 0] 38 ?_; intro gb120 hg w22 hbox hb; replace HO_3 := Aside0.mk (Kd.R_below (rk HO_3) hb); have BK120 := Aside0.mk (hbox); have GW120 := Aside0.mk ((bz hg : w.heap.size ≤ gb120)); have GE120 := Aside0.mk ((bz hg : w.heap.size ≤ gb120)); replace HB := Aside0.mk (below_step bb hb); have NB115_120 := Aside0.mk (nl BK115 hg); have NB120_115 := Aside0.mk (ng BK115 hg); replace BK115 := Aside0.mk (bw BK115 hb); clear hb hbox hg; have hnb23 := NB120_115.out; have hnc23 := NB115_120.out; obtain ⟨hcz24_0, hcz24_1, hcz24_2, hcz24_3, hfz24_0, hfz24_1, hfz24_2, hfz24_3⟩ := bo4 BK120; obtain ⟨hcz25_0, hcz25_1, hfz25_0, hfz25_1⟩ := bo2 BK115))
     go_loopg [41] k2 (fun kq v41 w' => ∃ (x3_3 : List Int) (x41_3 : Int) (x121000_3 : Int) (x121001_3 : Int) (x121002_3 : Int) (x121003_3 : Int), v41 = .int .i64 x41_3 ∧ Aside0 (shape_Check.l1 kq x3_3 l0_0 (l0_0.length : Int) x41_3 l0_0 l0_1 x121000_3 x121001_3 x121002_3 x121003_3 = some r) ∧ Aside0 (kq ≤ k2) ∧ Aside0 (Kd.R (Kd.int .i64) 3 w' w.heap.size (fun _ => True) (.slice Ao15 x3_2.length co15) x3_3) ∧ Aside0 (w'.heap[gb115]? = some (.cells #[(.slice A0_0 l0_0.length c0_0), (.slice A0_1 l0_1.length c0_1)] 25 (0, 0))) ∧ Aside0 (w'.heap[gb120]? = some (.cells #[.int .i64 x121000_3, .int .i64 x121001_3, .int .i64 x121002_3, .int .i64 x121003_3] 38 (0, 0))) ∧ Aside0 (Below w.heap.size w w'))
     case atStart => exact ⟨(x3_2), (0), (0), ((-1)), (0), (0), rs, H', ⟨Nat.le_refl _⟩, ⟨by (try simp only [hl3_2]); refine rm ?_; exact Kd.R_mono (Kd.R_far (p := ⟨gb120, 3, none⟩) (Kd.R_far (p := ⟨gb120, 2, none⟩) (Kd.R_far (p := ⟨gb120, 1, none⟩) (Kd.R_far (p := ⟨gb120, 0, none⟩) (Kd.R_types HO_3.out BK120.out (by decide)) (fun _ hk => hk.2) (.int .i64 0)) (fun _ hk => hk.2) (.int .i64 (-1))) (fun _ hk => hk.2) (.int .i64 0)) (fun _ hk => hk.2) (.int .i64 0)) (fun _ hk => trivial)⟩, ⟨by (try simp only [hl3_2]); refine bm ?_; refine blk_far ?_ NB115_120.out _; refine bm ?_; refine blk_far ?_ NB115_120.out _; refine bm ?_; refine blk_far ?_ NB115_120.out _; refine bm ?_; refine blk_far ?_ NB115_120.out _; refine bm ?_; exact BK115.out⟩, ⟨by (try simp only [hl3_2]); refine bm ?_; refine blk_put (cs := #[.int .i64 0, .int .i64 (-1), .int .i64 0, .int .i64 0]) ?_ 3 _ rfl; refine bm ?_; refine blk_put (cs := #[.int .i64 0, .int .i64 (-1), .int .i64 0, .int .i64 0]) ?_ 2 _ rfl; refine bm ?_; refine blk_put (cs := #[.int .i64 0, .int .i64 0, .int .i64 0, .int .i64 0]) ?_ 1 _ rfl; refine bm ?_; refine blk_put (cs := #[.int .i64 0, .int .i64 0, .int .i64 0, .int .i64 0]) ?_ 0 _ rfl; refine bm ?_; exact BK120.out⟩, ⟨bb⟩⟩
     case round =>
      clear H'
      try clear c1
      try clear p1
      try clear q1
      try clear hx1
      try clear hf1
      try clear c2
      try clear p2
      try clear c4
      try clear c4b0
      try clear c4b1
      try clear c6
      try clear c6b0
      try clear c6b1
      try clear p6
      try clear c9
      try clear c10
      try clear c10b0
      try clear c10b1
      try clear c11
      try clear c11b0
      try clear c11b1
      try clear c13
      try clear c16
      try clear c16b0
      try clear c17
      try clear c17b0
      try clear c18
      try clear c18b0
      try clear p19
      try clear q19
      try clear hx19
      try clear hf19
      try clear c23
      try clear hcz12_0
      try clear hcz12_1
      try clear hcz24_0
      try clear hcz24_1
      try clear hcz24_2
      try clear hcz24_3
      try clear hcz25_0
      try clear hcz25_1
      try clear hcz5_0
      try clear hcz5_1
      try clear hcz7_0
      try clear hcz7_1
      try clear hcz8_0
      try clear hcz8_1
      try clear hfz12_0
      try clear hfz12_1
      try clear hfz24_0
      try clear hfz24_1
      try clear hfz24_2
      try clear hfz24_3
      try clear hfz25_0
      try clear hfz25_1
      try clear hfz5_0
      try clear hfz5_1
      try clear hfz7_0
      try clear hfz7_1
      try clear hfz8_0
      try clear hfz8_1
      try clear hx19_0
      obtain ⟨x3_3, x41_3, x121000_3, x121001_3, x121002_3, x121003_3, rfl, HA, HK3, HO_3, BK115, BK120, HB⟩ := hrel
      have hl3_3 := (Kd.R_reads' HO_3.out).1
      rw [hl3_3] at HO_3
      (try simp only [hl3_3])
      (try simp only [hl3_3] at BK115)
      (try simp only [hl3_3] at BK120)
      cases gk with
      | zero => exact absurd HA.out (by simp [shape_Check.l1])
      | succ k3 =>
       have H := HA.out
       clear HA
       simp only [shape_Check.l1] at H
       by_cases c26 : x41_3 < (l0_0.length : Int)
       rotate_left
       ·
        rw [if_neg c26] at H
        have c26b0 : decide (x41_3 < (l0_0.length : Int)) = false := decide_eq_false c26
        try (have c26b6_hl3_2 := c26b0; simp only [hl3_2] at c26b6_hl3_2)
        try (have c26b6_hl3_3 := c26b0; simp only [hl3_3] at c26b6_hl3_3)
        clear c26
        replace H := Option.bind_eq_some_iff.mp H
        obtain ⟨t121, A1080, H⟩ := H
        replace H : (if t121 = true then (some 0) else (some 1)) = some r := H
        have A108 := Aside0.mk A1080
        clear A1080
        by_cases c109 : t121 = true
        ·
         subst c109
         have H1 : (some 0) = some r := by rw [if_pos rfl] at H; exact H
         clear H
         have H := H1
         clear H1
         obtain rfl := Option.some.inj H
         have hnb110 := NB115_120.out
         have hnc110 := NB120_115.out
         obtain ⟨hcz111_0, hcz111_1, hfz111_0, hfz111_1⟩ := bo2 BK115
         go_wp2_with (first | ((with_reducible refine gate_callee (f := 25) rfl ?_); refine gl (some 111) Try.func25 #[.slice Ao15 x3_3.length co15, .slice A0_1 l0_1.length c0_1] ?_; (with_reducible refine (slices_Equal_int_int.calls k3 _ _ x3_3 _ _ l0_1 true _ ?side1 ?side2 ?side3 ?side4 A108.out).mono ?_); (case side1 => repeat (first | exact (Kd.R_reads' HO_3.out).2.2 | (with_reducible refine Kd.C_alloc ?_ _) | (with_reducible refine Kd.C_drewN ?_ _) | (with_reducible refine Kd.C_drew ?_))); (case side2 => exact (Kd.R_reads' HO_3.out).2.1); (case side3 => exact cw HR0_1 HB); (case side4 => exact HC0_1.out); rintro e w' ⟨rfl, ⟨nd, rfl⟩⟩; refine ⟨_, rfl, ?_⟩))
         go_ret
         exact ⟨ew, bb⟩
        replace c109 := Bool.eq_false_iff.mpr c109
        subst c109
        have H1 : (some 1) = some r := by rw [if_neg (show ¬ (false = true) by decide)] at H; exact H
        clear H
        have H := H1
        clear H1
        obtain rfl := Option.some.inj H
        have hnb112 := NB115_120.out
        have hnc112 := NB120_115.out
        obtain ⟨hcz113_0, hcz113_1, hfz113_0, hfz113_1⟩ := bo2 BK115
        go_wp2_with (first | ((with_reducible refine gate_callee (f := 25) rfl ?_); refine gl (some 111) Try.func25 #[.slice Ao15 x3_3.length co15, .slice A0_1 l0_1.length c0_1] ?_; (with_reducible refine (slices_Equal_int_int.calls k3 _ _ x3_3 _ _ l0_1 false _ ?side1 ?side2 ?side3 ?side4 A108.out).mono ?_); (case side1 => repeat (first | exact (Kd.R_reads' HO_3.out).2.2 | (with_reducible refine Kd.C_alloc ?_ _) | (with_reducible refine Kd.C_drewN ?_ _) | (with_reducible refine Kd.C_drew ?_))); (case side2 => exact (Kd.R_reads' HO_3.out).2.1); (case side3 => exact cw HR0_1 HB); (case side4 => exact HC0_1.out); rintro e w' ⟨rfl, ⟨nd, rfl⟩⟩; refine ⟨_, rfl, ?_⟩))
        go_ret
        exact ⟨ew, bb⟩
       rw [if_pos c26] at H
       have c26b0 : decide (x41_3 < (l0_0.length : Int)) = true := decide_eq_true c26
       try (have c26b6_hl3_2 := c26b0; simp only [hl3_2] at c26b6_hl3_2)
       try (have c26b6_hl3_3 := c26b0; simp only [hl3_3] at c26b6_hl3_3)
       clear c26
       by_cases c27 : 0 ≤ x41_3
       rotate_left
       ·
        rw [if_neg c27] at H
        exact absurd H (by simp)
       rw [if_pos c27] at H
       have c27b0 : decide (0 ≤ x41_3) = true := decide_eq_true c27
       clear c27
       by_cases c28 : x41_3 < (l0_0.length : Int)
       rotate_left
       ·
        rw [if_neg c28] at H
        exact absurd H (by simp)
       rw [if_pos c28] at H
       have c28b0 : decide (x41_3 < (l0_0.length : Int)) = true := decide_eq_true c28
       try (have c28b6_hl3_2 := c28b0; simp only [hl3_2] at c28b6_hl3_2)
       try (have c28b6_hl3_3 := c28b0; simp only [hl3_3] at c28b6_hl3_3)
       clear c28
       have HC29 := Aside0.mk H
       clear H
       have p122 : 0 ≤ (x41_3 : Int) := od
       have q122 : x41_3 < (l0_0.length : Int) := od
       obtain ⟨ad122, e122, hx122_0, hx122_1, hx122_2, hx122_3⟩ := at_T38 HR0_0.out x41_3 p122 q122
       cases e122
       replace hx122_0 := bl HB hx122_0
       replace hx122_1 := bl HB hx122_1
       replace hx122_2 := bl HB hx122_2
       replace hx122_3 := bl HB hx122_3
       replace p122 := eq_true p122
       replace q122 := eq_true q122
       go_upto_region 13 with (first | ((with_reducible refine gate_dst (N := 7) rfl ?_); (try (refine gate_guard (by rfl) ?_; dsimp only)); refine bx 7 #[.int .i64 0, .int .i64 0, .int .i64 0, .int .i64 0] 38 ?_; intro gb123 hg w30 hbox hb; replace HO_3 := Aside0.mk (Kd.R_below (rk HO_3) hb); have BK123 := Aside0.mk (hbox); have GW123 := Aside0.mk ((bz hg : w.heap.size ≤ gb123)); have GE123 := Aside0.mk ((bz hg : w.heap.size ≤ gb123)); replace HB := Aside0.mk (below_step bb hb); have NB115_123 := Aside0.mk (nl BK115 hg); have NB123_115 := Aside0.mk (ng BK115 hg); replace BK115 := Aside0.mk (bw BK115 hb); have NB120_123 := Aside0.mk (nl BK120 hg); have NB123_120 := Aside0.mk (ng BK120 hg); replace BK120 := Aside0.mk (bw BK120 hb); clear hb hbox hg; have hnb31 := NB123_115.out; have hnc31 := NB115_123.out; have hnb32 := NB123_120.out; have hnc32 := NB120_123.out; obtain ⟨hcz33_0, hcz33_1, hcz33_2, hcz33_3, hfz33_0, hfz33_1, hfz33_2, hfz33_3⟩ := bo4 BK123))
       repeat ((with_reducible refine upon_gate ?_); go_simp; go_upto_region 13 with (first | ((with_reducible refine gate_dst (N := 7) rfl ?_); (try (refine gate_guard (by rfl) ?_; dsimp only)); refine bx 7 #[.int .i64 0, .int .i64 0, .int .i64 0, .int .i64 0] 38 ?_; intro gb123 hg w30 hbox hb; replace HO_3 := Aside0.mk (Kd.R_below (rk HO_3) hb); have BK123 := Aside0.mk (hbox); have GW123 := Aside0.mk ((bz hg : w.heap.size ≤ gb123)); have GE123 := Aside0.mk ((bz hg : w.heap.size ≤ gb123)); replace HB := Aside0.mk (below_step bb hb); have NB115_123 := Aside0.mk (nl BK115 hg); have NB123_115 := Aside0.mk (ng BK115 hg); replace BK115 := Aside0.mk (bw BK115 hb); have NB120_123 := Aside0.mk (nl BK120 hg); have NB123_120 := Aside0.mk (ng BK120 hg); replace BK120 := Aside0.mk (bw BK120 hb); clear hb hbox hg; have hnb31 := NB123_115.out; have hnc31 := NB115_123.out; have hnb32 := NB123_120.out; have hnc32 := NB120_123.out; obtain ⟨hcz33_0, hcz33_1, hcz33_2, hcz33_3, hfz33_0, hfz33_1, hfz33_2, hfz33_3⟩ := bo4 BK123)))
       (try simp only [Act.put, List.setIfInBounds_toArray, List.set_cons_zero, List.set_cons_succ])
       go_cut [74] (fun v74 wc => ∃ (kq : Nat) (x74_28 : Bool), v74 = .bool x74_28 ∧ Aside0 (shape_Check.j3 kq x3_3 x41_3 l0_0 (l0_0.length : Int) x41_3 x74_28 l0_0 l0_1 x121000_3 x121001_3 x121002_3 x121003_3 ((rd_T38 l0_0 x41_3).f0) ((rd_T38 l0_0 x41_3).f1) ((rd_T38 l0_0 x41_3).f2) ((rd_T38 l0_0 x41_3).f3) = some r) ∧ Aside0 (kq ≤ k3) ∧ Aside0 (Kd.R (Kd.int .i64) 3 wc w.heap.size (fun _ => True) (.slice Ao15 x3_3.length co15) x3_3) ∧ Aside0 (wc.heap[gb115]? = some (.cells #[(.slice (some ad122) l0_0.length c0_0), (.slice A0_1 l0_1.length c0_1)] 25 (0, 0))) ∧ Aside0 (wc.heap[gb120]? = some (.cells #[.int .i64 x121000_3, .int .i64 x121001_3, .int .i64 x121002_3, .int .i64 x121003_3] 38 (0, 0))) ∧ Aside0 (wc.heap[gb123]? = some (.cells #[.int .i64 ((rd_T38 l0_0 x41_3).f0), .int .i64 ((rd_T38 l0_0 x41_3).f1), .int .i64 ((rd_T38 l0_0 x41_3).f2), .int .i64 ((rd_T38 l0_0 x41_3).f3)] 38 (0, 0))) ∧ Aside0 (Below w.heap.size w wc))
       case first =>
        have H := HC29.out
        clear HC29
        by_cases c34 : ((rd_T38 l0_0 x41_3).f0) < x121000_3
        ·
         rw [if_pos c34] at H
         have c34b0 : decide (((rd_T38 l0_0 x41_3).f0) < x121000_3) = true := decide_eq_true c34
         clear c34
         (first | rw [c34b0] | (simp only [i64_w, i32_w]; rw [c34b0]) | skip)
         have H' := Aside0.mk H
         clear H
         have hnb35 := NB123_115.out
         have hnc35 := NB115_123.out
         have hnb36 := NB123_120.out
         have hnc36 := NB120_123.out
         obtain ⟨hcz37_0, hcz37_1, hcz37_2, hcz37_3, hfz37_0, hfz37_1, hfz37_2, hfz37_3⟩ := bo4 BK123
         have hnb38 := NB120_115.out
         have hnc38 := NB115_120.out
         obtain ⟨hcz39_0, hcz39_1, hcz39_2, hcz39_3, hfz39_0, hfz39_1, hfz39_2, hfz39_3⟩ := bo4 BK120
         go_wp2
         go_meet
         case rel => exact ⟨_, (true), rs, H', ⟨by have := HJ1.out; have := HK2.out; have := HK3.out; first | omega | exact Nat.le_refl _⟩, ⟨by (try simp only [hl3_2]); (try simp only [hl3_3]); refine rm ?_; exact Kd.R_mono (Kd.R_far (p := ⟨gb123, 3, none⟩) (Kd.R_far (p := ⟨gb123, 2, none⟩) (Kd.R_far (p := ⟨gb123, 1, none⟩) (Kd.R_far (p := ⟨gb123, 0, none⟩) (Kd.R_types HO_3.out BK123.out (by decide)) (fun _ hk => hk.2) (.int .i64 ((rd_T38 l0_0 x41_3).f0))) (fun _ hk => hk.2) (.int .i64 ((rd_T38 l0_0 x41_3).f1))) (fun _ hk => hk.2) (.int .i64 ((rd_T38 l0_0 x41_3).f2))) (fun _ hk => hk.2) (.int .i64 ((rd_T38 l0_0 x41_3).f3))) (fun _ hk => trivial)⟩, ⟨by (try simp only [hl3_2]); (try simp only [hl3_3]); refine bm ?_; refine blk_far ?_ NB115_123.out _; refine bm ?_; refine blk_far ?_ NB115_123.out _; refine bm ?_; refine blk_far ?_ NB115_123.out _; refine bm ?_; refine blk_far ?_ NB115_123.out _; refine bm ?_; exact BK115.out⟩, ⟨by (try simp only [hl3_2]); (try simp only [hl3_3]); refine bm ?_; refine blk_far ?_ NB120_123.out _; refine bm ?_; refine blk_far ?_ NB120_123.out _; refine bm ?_; refine blk_far ?_ NB120_123.out _; refine bm ?_; refine blk_far ?_ NB120_123.out _; refine bm ?_; exact BK120.out⟩, ⟨by (try simp only [hl3_2]); (try simp only [hl3_3]); refine bm ?_; refine blk_put (cs := #[.int .i64 ((rd_T38 l0_0 x41_3).f0), .int .i64 ((rd_T38 l0_0 x41_3).f1), .int .i64 ((rd_T38 l0_0 x41_3).f2), .int .i64 0]) ?_ 3 _ rfl; refine bm ?_; refine blk_put (cs := #[.int .i64 ((rd_T38 l0_0 x41_3).f0), .int .i64 ((rd_T38 l0_0 x41_3).f1), .int .i64 0, .int .i64 0]) ?_ 2 _ rfl; refine bm ?_; refine blk_put (cs := #[.int .i64 ((rd_T38 l0_0 x41_3).f0), .int .i64 0, .int .i64 0, .int .i64 0]) ?_ 1 _ rfl; refine bm ?_; refine blk_put (cs := #[.int .i64 0, .int .i64 0, .int .i64 0, .int .i64 0]) ?_ 0 _ rfl; refine bm ?_; exact BK123.out⟩, ⟨bb⟩⟩
        rw [if_neg c34] at H
        have c34b0 : decide (((rd_T38 l0_0 x41_3).f0) < x121000_3) = false := decide_eq_false c34
        clear c34
        (first | rw [c34b0] | (simp only [i64_w, i32_w]; rw [c34b0]) | skip)
        by_cases c40 : ((rd_T38 l0_0 x41_3).f0) ≥ (l0_1.length : Int)
        ·
         rw [if_pos c40] at H
         have c40b0 : decide ((l0_1.length : Int) ≤ ((rd_T38 l0_0 x41_3).f0)) = true := decide_eq_true c40
         try (have c40b6_hl3_2 := c40b0; simp only [hl3_2] at c40b6_hl3_2)
         try (have c40b6_hl3_3 := c40b0; simp only [hl3_3] at c40b6_hl3_3)
         clear c40
         have H' := Aside0.mk H
         clear H
         have hnb41 := NB123_115.out
         have hnc41 := NB115_123.out
         have hnb42 := NB123_120.out
         have hnc42 := NB120_123.out
         obtain ⟨hcz43_0, hcz43_1, hcz43_2, hcz43_3, hfz43_0, hfz43_1, hfz43_2, hfz43_3⟩ := bo4 BK123
         have hnb44 := NB120_115.out
         have hnc44 := NB115_120.out
         obtain ⟨hcz45_0, hcz45_1, hcz45_2, hcz45_3, hfz45_0, hfz45_1, hfz45_2, hfz45_3⟩ := bo4 BK120
         obtain ⟨hcz46_0, hcz46_1, hfz46_0, hfz46_1⟩ := bo2 BK115
         go_wp2
         go_meet
         case rel => exact ⟨_, (true), rs, H', ⟨by have := HJ1.out; have := HK2.out; have := HK3.out; first | omega | exact Nat.le_refl _⟩, ⟨by (try simp only [hl3_2]); (try simp only [hl3_3]); refine rm ?_; exact Kd.R_mono (Kd.R_far (p := ⟨gb123, 3, none⟩) (Kd.R_far (p := ⟨gb123, 2, none⟩) (Kd.R_far (p := ⟨gb123, 1, none⟩) (Kd.R_far (p := ⟨gb123, 0, none⟩) (Kd.R_types HO_3.out BK123.out (by decide)) (fun _ hk => hk.2) (.int .i64 ((rd_T38 l0_0 x41_3).f0))) (fun _ hk => hk.2) (.int .i64 ((rd_T38 l0_0 x41_3).f1))) (fun _ hk => hk.2) (.int .i64 ((rd_T38 l0_0 x41_3).f2))) (fun _ hk => hk.2) (.int .i64 ((rd_T38 l0_0 x41_3).f3))) (fun _ hk => trivial)⟩, ⟨by (try simp only [hl3_2]); (try simp only [hl3_3]); refine bm ?_; refine blk_far ?_ NB115_123.out _; refine bm ?_; refine blk_far ?_ NB115_123.out _; refine bm ?_; refine blk_far ?_ NB115_123.out _; refine bm ?_; refine blk_far ?_ NB115_123.out _; refine bm ?_; exact BK115.out⟩, ⟨by (try simp only [hl3_2]); (try simp only [hl3_3]); refine bm ?_; refine blk_far ?_ NB120_123.out _; refine bm ?_; refine blk_far ?_ NB120_123.out _; refine bm ?_; refine blk_far ?_ NB120_123.out _; refine bm ?_; refine blk_far ?_ NB120_123.out _; refine bm ?_; exact BK120.out⟩, ⟨by (try simp only [hl3_2]); (try simp only [hl3_3]); refine bm ?_; refine blk_put (cs := #[.int .i64 ((rd_T38 l0_0 x41_3).f0), .int .i64 ((rd_T38 l0_0 x41_3).f1), .int .i64 ((rd_T38 l0_0 x41_3).f2), .int .i64 0]) ?_ 3 _ rfl; refine bm ?_; refine blk_put (cs := #[.int .i64 ((rd_T38 l0_0 x41_3).f0), .int .i64 ((rd_T38 l0_0 x41_3).f1), .int .i64 0, .int .i64 0]) ?_ 2 _ rfl; refine bm ?_; refine blk_put (cs := #[.int .i64 ((rd_T38 l0_0 x41_3).f0), .int .i64 0, .int .i64 0, .int .i64 0]) ?_ 1 _ rfl; refine bm ?_; refine blk_put (cs := #[.int .i64 0, .int .i64 0, .int .i64 0, .int .i64 0]) ?_ 0 _ rfl; refine bm ?_; exact BK123.out⟩, ⟨bb⟩⟩
        rw [if_neg c40] at H
        have c40b0 : decide ((l0_1.length : Int) ≤ ((rd_T38 l0_0 x41_3).f0)) = false := decide_eq_false c40
        try (have c40b6_hl3_2 := c40b0; simp only [hl3_2] at c40b6_hl3_2)
        try (have c40b6_hl3_3 := c40b0; simp only [hl3_3] at c40b6_hl3_3)
        clear c40
        by_cases c47 : ((rd_T38 l0_0 x41_3).f2) < 1
        ·
         rw [if_pos c47] at H
         have c47b0 : decide (((rd_T38 l0_0 x41_3).f2) < 1) = true := decide_eq_true c47
         clear c47
         have H' := Aside0.mk H
         clear H
         have hnb48 := NB123_115.out
         have hnc48 := NB115_123.out
         have hnb49 := NB123_120.out
         have hnc49 := NB120_123.out
         obtain ⟨hcz50_0, hcz50_1, hcz50_2, hcz50_3, hfz50_0, hfz50_1, hfz50_2, hfz50_3⟩ := bo4 BK123
         have hnb51 := NB120_115.out
         have hnc51 := NB115_120.out
         obtain ⟨hcz52_0, hcz52_1, hcz52_2, hcz52_3, hfz52_0, hfz52_1, hfz52_2, hfz52_3⟩ := bo4 BK120
         obtain ⟨hcz53_0, hcz53_1, hfz53_0, hfz53_1⟩ := bo2 BK115
         go_wp2
         go_meet
         case rel => exact ⟨_, (true), rs, H', ⟨by have := HJ1.out; have := HK2.out; have := HK3.out; first | omega | exact Nat.le_refl _⟩, ⟨by (try simp only [hl3_2]); (try simp only [hl3_3]); refine rm ?_; exact Kd.R_mono (Kd.R_far (p := ⟨gb123, 3, none⟩) (Kd.R_far (p := ⟨gb123, 2, none⟩) (Kd.R_far (p := ⟨gb123, 1, none⟩) (Kd.R_far (p := ⟨gb123, 0, none⟩) (Kd.R_types HO_3.out BK123.out (by decide)) (fun _ hk => hk.2) (.int .i64 ((rd_T38 l0_0 x41_3).f0))) (fun _ hk => hk.2) (.int .i64 ((rd_T38 l0_0 x41_3).f1))) (fun _ hk => hk.2) (.int .i64 ((rd_T38 l0_0 x41_3).f2))) (fun _ hk => hk.2) (.int .i64 ((rd_T38 l0_0 x41_3).f3))) (fun _ hk => trivial)⟩, ⟨by (try simp only [hl3_2]); (try simp only [hl3_3]); refine bm ?_; refine blk_far ?_ NB115_123.out _; refine bm ?_; refine blk_far ?_ NB115_123.out _; refine bm ?_; refine blk_far ?_ NB115_123.out _; refine bm ?_; refine blk_far ?_ NB115_123.out _; refine bm ?_; exact BK115.out⟩, ⟨by (try simp only [hl3_2]); (try simp only [hl3_3]); refine bm ?_; refine blk_far ?_ NB120_123.out _; refine bm ?_; refine blk_far ?_ NB120_123.out _; refine bm ?_; refine blk_far ?_ NB120_123.out _; refine bm ?_; refine blk_far ?_ NB120_123.out _; refine bm ?_; exact BK120.out⟩, ⟨by (try simp only [hl3_2]); (try simp only [hl3_3]); refine bm ?_; refine blk_put (cs := #[.int .i64 ((rd_T38 l0_0 x41_3).f0), .int .i64 ((rd_T38 l0_0 x41_3).f1), .int .i64 ((rd_T38 l0_0 x41_3).f2), .int .i64 0]) ?_ 3 _ rfl; refine bm ?_; refine blk_put (cs := #[.int .i64 ((rd_T38 l0_0 x41_3).f0), .int .i64 ((rd_T38 l0_0 x41_3).f1), .int .i64 0, .int .i64 0]) ?_ 2 _ rfl; refine bm ?_; refine blk_put (cs := #[.int .i64 ((rd_T38 l0_0 x41_3).f0), .int .i64 0, .int .i64 0, .int .i64 0]) ?_ 1 _ rfl; refine bm ?_; refine blk_put (cs := #[.int .i64 0, .int .i64 0, .int .i64 0, .int .i64 0]) ?_ 0 _ rfl; refine bm ?_; exact BK123.out⟩, ⟨bb⟩⟩
        rw [if_neg c47] at H
        have c47b0 : decide (((rd_T38 l0_0 x41_3).f2) < 1) = false := decide_eq_false c47
        clear c47
        by_cases c54 : ((rd_T38 l0_0 x41_3).f2) > 11
        ·
         rw [if_pos c54] at H
         have c54b0 : decide (11 < ((rd_T38 l0_0 x41_3).f2)) = true := decide_eq_true c54
         clear c54
         have H' := Aside0.mk H
         clear H
         have hnb55 := NB123_115.out
         have hnc55 := NB115_123.out
         have hnb56 := NB123_120.out
         have hnc56 := NB120_123.out
         obtain ⟨hcz57_0, hcz57_1, hcz57_2, hcz57_3, hfz57_0, hfz57_1, hfz57_2, hfz57_3⟩ := bo4 BK123
         have hnb58 := NB120_115.out
         have hnc58 := NB115_120.out
         obtain ⟨hcz59_0, hcz59_1, hcz59_2, hcz59_3, hfz59_0, hfz59_1, hfz59_2, hfz59_3⟩ := bo4 BK120
         obtain ⟨hcz60_0, hcz60_1, hfz60_0, hfz60_1⟩ := bo2 BK115
         go_wp2
         go_meet
         case rel => exact ⟨_, (true), rs, H', ⟨by have := HJ1.out; have := HK2.out; have := HK3.out; first | omega | exact Nat.le_refl _⟩, ⟨by (try simp only [hl3_2]); (try simp only [hl3_3]); refine rm ?_; exact Kd.R_mono (Kd.R_far (p := ⟨gb123, 3, none⟩) (Kd.R_far (p := ⟨gb123, 2, none⟩) (Kd.R_far (p := ⟨gb123, 1, none⟩) (Kd.R_far (p := ⟨gb123, 0, none⟩) (Kd.R_types HO_3.out BK123.out (by decide)) (fun _ hk => hk.2) (.int .i64 ((rd_T38 l0_0 x41_3).f0))) (fun _ hk => hk.2) (.int .i64 ((rd_T38 l0_0 x41_3).f1))) (fun _ hk => hk.2) (.int .i64 ((rd_T38 l0_0 x41_3).f2))) (fun _ hk => hk.2) (.int .i64 ((rd_T38 l0_0 x41_3).f3))) (fun _ hk => trivial)⟩, ⟨by (try simp only [hl3_2]); (try simp only [hl3_3]); refine bm ?_; refine blk_far ?_ NB115_123.out _; refine bm ?_; refine blk_far ?_ NB115_123.out _; refine bm ?_; refine blk_far ?_ NB115_123.out _; refine bm ?_; refine blk_far ?_ NB115_123.out _; refine bm ?_; exact BK115.out⟩, ⟨by (try simp only [hl3_2]); (try simp only [hl3_3]); refine bm ?_; refine blk_far ?_ NB120_123.out _; refine bm ?_; refine blk_far ?_ NB120_123.out _; refine bm ?_; refine blk_far ?_ NB120_123.out _; refine bm ?_; refine blk_far ?_ NB120_123.out _; refine bm ?_; exact BK120.out⟩, ⟨by (try simp only [hl3_2]); (try simp only [hl3_3]); refine bm ?_; refine blk_put (cs := #[.int .i64 ((rd_T38 l0_0 x41_3).f0), .int .i64 ((rd_T38 l0_0 x41_3).f1), .int .i64 ((rd_T38 l0_0 x41_3).f2), .int .i64 0]) ?_ 3 _ rfl; refine bm ?_; refine blk_put (cs := #[.int .i64 ((rd_T38 l0_0 x41_3).f0), .int .i64 ((rd_T38 l0_0 x41_3).f1), .int .i64 0, .int .i64 0]) ?_ 2 _ rfl; refine bm ?_; refine blk_put (cs := #[.int .i64 ((rd_T38 l0_0 x41_3).f0), .int .i64 0, .int .i64 0, .int .i64 0]) ?_ 1 _ rfl; refine bm ?_; refine blk_put (cs := #[.int .i64 0, .int .i64 0, .int .i64 0, .int .i64 0]) ?_ 0 _ rfl; refine bm ?_; exact BK123.out⟩, ⟨bb⟩⟩
        rw [if_neg c54] at H
        have c54b0 : decide (11 < ((rd_T38 l0_0 x41_3).f2)) = false := decide_eq_false c54
        clear c54
        replace H := Option.bind_eq_some_iff.mp H
        obtain ⟨t124, A610, H⟩ := H
        replace H : (shape_Check.j3 k3 x3_3 x41_3 l0_0 (l0_0.length : Int) x41_3 (!t124) l0_0 l0_1 x121000_3 x121001_3 x121002_3 x121003_3 ((rd_T38 l0_0 x41_3).f0) ((rd_T38 l0_0 x41_3).f1) ((rd_T38 l0_0 x41_3).f2) ((rd_T38 l0_0 x41_3).f3)) = some r := H
        have A61 := Aside0.mk A610
        clear A610
        have H' := Aside0.mk H
        clear H
        have hnb62 := NB123_115.out
        have hnc62 := NB115_123.out
        have hnb63 := NB123_120.out
        have hnc63 := NB120_123.out
        obtain ⟨hcz64_0, hcz64_1, hcz64_2, hcz64_3, hfz64_0, hfz64_1, hfz64_2, hfz64_3⟩ := bo4 BK123
        have hnb65 := NB120_115.out
        have hnc65 := NB115_120.out
        obtain ⟨hcz66_0, hcz66_1, hcz66_2, hcz66_3, hfz66_0, hfz66_1, hfz66_2, hfz66_3⟩ := bo4 BK120
        obtain ⟨hcz67_0, hcz67_1, hfz67_0, hfz67_1⟩ := bo2 BK115
        go_wp2_with (first | (go_at_call 24; (with_reducible refine (shape_object.calls _ _ l0_0 _ _ l0_1 ((rd_T38 l0_0 x41_3).f0) ((rd_T38 l0_0 x41_3).f1) ((rd_T38 l0_0 x41_3).f2) ((rd_T38 l0_0 x41_3).f3) t124 _ ?side1 ?side2 ?side3 ?side4 A61.out).mono ?_); (case side1 => exact Kd.C_below HR0_0.out bb); (case side2 => exact HC0_0.out); (case side3 => exact Kd.C_below HR0_1.out bb); (case side4 => exact HC0_1.out); rintro e w68 ⟨rfl, hb⟩; replace HO_3 := Aside0.mk (Kd.R_below (rm ((Kd.R_mono (Kd.R_far (p := ⟨gb123, 3, none⟩) (Kd.R_far (p := ⟨gb123, 2, none⟩) (Kd.R_far (p := ⟨gb123, 1, none⟩) (Kd.R_far (p := ⟨gb123, 0, none⟩) (Kd.R_types HO_3.out BK123.out (by decide)) (fun _ hk => hk.2) (.int .i64 ((rd_T38 l0_0 x41_3).f0))) (fun _ hk => hk.2) (.int .i64 ((rd_T38 l0_0 x41_3).f1))) (fun _ hk => hk.2) (.int .i64 ((rd_T38 l0_0 x41_3).f2))) (fun _ hk => hk.2) (.int .i64 ((rd_T38 l0_0 x41_3).f3))) (fun _ h_ => h_.1)))) hb); replace BK115 := Aside0.mk (blk_below (g := gb115) (o := .cells #[.slice (some ad122) l0_0.length c0_0, .slice A0_1 l0_1.length c0_1] 25 (0, 0)) (by refine bm ?_; refine blk_far ?_ NB115_123.out _; refine bm ?_; refine blk_far ?_ NB115_123.out _; refine bm ?_; refine blk_far ?_ NB115_123.out _; refine bm ?_; refine blk_far ?_ NB115_123.out _; refine bm ?_; exact BK115.out) hb); replace BK120 := Aside0.mk (blk_below (g := gb120) (o := .cells #[.int .i64 x121000_3, .int .i64 x121001_3, .int .i64 x121002_3, .int .i64 x121003_3] 38 (0, 0)) (by refine bm ?_; refine blk_far ?_ NB120_123.out _; refine bm ?_; refine blk_far ?_ NB120_123.out _; refine bm ?_; refine blk_far ?_ NB120_123.out _; refine bm ?_; refine blk_far ?_ NB120_123.out _; refine bm ?_; exact BK120.out) hb); replace BK123 := Aside0.mk (blk_below (g := gb123) (o := .cells #[.int .i64 ((rd_T38 l0_0 x41_3).f0), .int .i64 ((rd_T38 l0_0 x41_3).f1), .int .i64 ((rd_T38 l0_0 x41_3).f2), .int .i64 ((rd_T38 l0_0 x41_3).f3)] 38 (0, 0)) (by refine bm ?_; refine blk_put (cs := #[.int .i64 ((rd_T38 l0_0 x41_3).f0), .int .i64 ((rd_T38 l0_0 x41_3).f1), .int .i64 ((rd_T38 l0_0 x41_3).f2), .int .i64 0]) ?_ 3 _ rfl; refine bm ?_; refine blk_put (cs := #[.int .i64 ((rd_T38 l0_0 x41_3).f0), .int .i64 ((rd_T38 l0_0 x41_3).f1), .int .i64 0, .int .i64 0]) ?_ 2 _ rfl; refine bm ?_; refine blk_put (cs := #[.int .i64 ((rd_T38 l0_0 x41_3).f0), .int .i64 0, .int .i64 0, .int .i64 0]) ?_ 1 _ rfl; refine bm ?_; refine blk_put (cs := #[.int .i64 0, .int .i64 0, .int .i64 0, .int .i64 0]) ?_ 0 _ rfl; refine bm ?_; exact BK123.out) hb); replace HB := Aside0.mk (below_step bb hb); (try clear hb); (try clear hb2); (try clear hk); (try clear hi)))
        go_meet
        case rel => exact ⟨_, (!t124), rs, H', ⟨by have := HJ1.out; have := HK2.out; have := HK3.out; first | omega | exact Nat.le_refl _⟩, ⟨by (try simp only [hl3_2]); (try simp only [hl3_3]); refine rm ?_; exact HO_3.out⟩, ⟨by (try simp only [hl3_2]); (try simp only [hl3_3]); refine bm ?_; exact BK115.out⟩, ⟨by (try simp only [hl3_2]); (try simp only [hl3_3]); refine bm ?_; exact BK120.out⟩, ⟨by (try simp only [hl3_2]); (try simp only [hl3_3]); refine bm ?_; exact BK123.out⟩, ⟨bb⟩⟩
       case rest =>
        clear HC29
        try clear c1
        try clear p1
        try clear q1
        try clear hx1
        try clear hf1
        try clear c2
        try clear p2
        try clear c3
        try clear c4
        try clear c4b0
        try clear c4b1
        try clear c5
        try clear c6
        try clear c6b0
        try clear c6b1
        try clear p6
        try clear c9
        try clear c10
        try clear c10b0
        try clear c10b1
        try clear c11
        try clear c11b0
        try clear c11b1
        try clear p12
        try clear q12
        try clear hx12
        try clear c13
        try clear c16
        try clear c16b0
        try clear c17
        try clear c17b0
        try clear c18
        try clear c18b0
        try clear p19
        try clear q19
        try clear hx19
        try clear hf19
        try clear c23
        try clear c26
        try clear c26b0
        try clear c27
        try clear c27b0
        try clear c28
        try clear c28b0
        try clear c31
        try clear c32
        try clear c34
        try clear c34b0
        try clear c35
        try clear c36
        try clear c38
        try clear c40
        try clear c40b0
        try clear c41
        try clear c42
        try clear c44
        try clear c47
        try clear c47b0
        try clear c48
        try clear c49
        try clear c51
        try clear c54
        try clear c54b0
        try clear c55
        try clear c56
        try clear c58
        try clear c62
        try clear c63
        try clear p64
        try clear c65
        try clear hcz12_0
        try clear hcz12_1
        try clear hcz24_0
        try clear hcz24_1
        try clear hcz24_2
        try clear hcz24_3
        try clear hcz25_0
        try clear hcz25_1
        try clear hcz33_0
        try clear hcz33_1
        try clear hcz33_2
        try clear hcz33_3
        try clear hcz37_0
        try clear hcz37_1
        try clear hcz37_2
        try clear hcz37_3
        try clear hcz39_0
        try clear hcz39_1
        try clear hcz39_2
        try clear hcz39_3
        try clear hcz43_0
        try clear hcz43_1
        try clear hcz43_2
        try clear hcz43_3
        try clear hcz45_0
        try clear hcz45_1
        try clear hcz45_2
        try clear hcz45_3
        try clear hcz46_0
        try clear hcz46_1
        try clear hcz50_0
        try clear hcz50_1
        try clear hcz50_2
        try clear hcz50_3
        try clear hcz52_0
        try clear hcz52_1
        try clear hcz52_2
        try clear hcz52_3
        try clear hcz53_0
        try clear hcz53_1
        try clear hcz57_0
        try clear hcz57_1
        try clear hcz57_2
        try clear hcz57_3
        try clear hcz59_0
        try clear hcz59_1
        try clear hcz59_2
        try clear hcz59_3
        try clear hcz5_0
        try clear hcz5_1
        try clear hcz60_0
        try clear hcz60_1
        try clear hcz64_0
        try clear hcz64_1
        try clear hcz64_2
        try clear hcz64_3
        try clear hcz66_0
        try clear hcz66_1
        try clear hcz66_2
        try clear hcz66_3
        try clear hcz67_0
        try clear hcz67_1
        try clear hcz7_0
        try clear hcz7_1
        try clear hcz8_0
        try clear hcz8_1
        try clear hfz12_0
        try clear hfz12_1
        try clear hfz24_0
        try clear hfz24_1
        try clear hfz24_2
        try clear hfz24_3
        try clear hfz25_0
        try clear hfz25_1
        try clear hfz33_0
        try clear hfz33_1
        try clear hfz33_2
        try clear hfz33_3
        try clear hfz37_0
        try clear hfz37_1
        try clear hfz37_2
        try clear hfz37_3
        try clear hfz39_0
        try clear hfz39_1
        try clear hfz39_2
        try clear hfz39_3
        try clear hfz43_0
        try clear hfz43_1
        try clear hfz43_2
        try clear hfz43_3
        try clear hfz45_0
        try clear hfz45_1
        try clear hfz45_2
        try clear hfz45_3
        try clear hfz46_0
        try clear hfz46_1
        try clear hfz50_0
        try clear hfz50_1
        try clear hfz50_2
        try clear hfz50_3
        try clear hfz52_0
        try clear hfz52_1
        try clear hfz52_2
        try clear hfz52_3
        try clear hfz53_0
        try clear hfz53_1
        try clear hfz57_0
        try clear hfz57_1
        try clear hfz57_2
        try clear hfz57_3
        try clear hfz59_0
        try clear hfz59_1
        try clear hfz59_2
        try clear hfz59_3
        try clear hfz5_0
        try clear hfz5_1
        try clear hfz60_0
        try clear hfz60_1
        try clear hfz64_0
        try clear hfz64_1
        try clear hfz64_2
        try clear hfz64_3
        try clear hfz66_0
        try clear hfz66_1
        try clear hfz66_2
        try clear hfz66_3
        try clear hfz67_0
        try clear hfz67_1
        try clear hfz7_0
        try clear hfz7_1
        try clear hfz8_0
        try clear hfz8_1
        try clear hx122_0
        try clear hx122_1
        try clear hx122_2
        try clear hx122_3
        try clear hx19_0
        try clear p122
        try clear q122
        obtain ⟨kq, x74_28, rfl, HA, HJ28, HO_3, BK115, BK120, BK123, HB⟩ := hcut
        cases kq with
        | zero => exact absurd HA.out (by simp [shape_Check.j3])
        | succ kj28 =>
         have H := HA.out
         clear HA
         simp only [shape_Check.j3] at H
         by_cases c69 : x74_28 = true
         ·
          subst c69
          have H1 : (some 1) = some r := by rw [if_pos rfl] at H; exact H
          clear H
          have H := H1
          clear H1
          obtain rfl := Option.some.inj H
          go_wp2
          go_ret
          exact ⟨ew, bb⟩
         replace c69 := Bool.eq_false_iff.mpr c69
         subst c69
         have H1 : (if ((rd_T38 l0_0 x41_3).f1) < 0 then (shape_Check.j4 kj28 x3_3 x41_3 l0_0 (l0_0.length : Int) x41_3 true l0_0 l0_1 ((rd_T38 l0_0 x41_3).f0) ((rd_T38 l0_0 x41_3).f1) ((rd_T38 l0_0 x41_3).f2) ((rd_T38 l0_0 x41_3).f3)) else (if ((rd_T38 l0_0 x41_3).f0) = x121000_3 then (shape_Check.j4 kj28 x3_3 x41_3 l0_0 (l0_0.length : Int) x41_3 (decide (((rd_T38 l0_0 x41_3).f1) ≤ x121001_3)) l0_0 l0_1 ((rd_T38 l0_0 x41_3).f0) ((rd_T38 l0_0 x41_3).f1) ((rd_T38 l0_0 x41_3).f2) ((rd_T38 l0_0 x41_3).f3)) else (shape_Check.j4 kj28 x3_3 x41_3 l0_0 (l0_0.length : Int) x41_3 false l0_0 l0_1 ((rd_T38 l0_0 x41_3).f0) ((rd_T38 l0_0 x41_3).f1) ((rd_T38 l0_0 x41_3).f2) ((rd_T38 l0_0 x41_3).f3)))) = some r := by rw [if_neg (show ¬ (false = true) by decide)] at H; exact H
         clear H
         have H := H1
         clear H1
         have HC70 := Aside0.mk H
         clear H
         go_upto_region 15 with (fail)
         repeat ((with_reducible refine upon_gate ?_); go_simp; go_upto_region 15 with (fail))
         go_cut [91] (fun v91 wc => ∃ (kq : Nat) (x91_69 : Bool), v91 = .bool x91_69 ∧ Aside0 (shape_Check.j4 kq x3_3 x41_3 l0_0 (l0_0.length : Int) x41_3 x91_69 l0_0 l0_1 ((rd_T38 l0_0 x41_3).f0) ((rd_T38 l0_0 x41_3).f1) ((rd_T38 l0_0 x41_3).f2) ((rd_T38 l0_0 x41_3).f3) = some r) ∧ Aside0 (kq ≤ kj28) ∧ Aside0 (Kd.R (Kd.int .i64) 3 wc w.heap.size (fun _ => True) (.slice Ao15 x3_3.length co15) x3_3) ∧ Aside0 (wc.heap[gb115]? = some (.cells #[(.slice (some ad122) l0_0.length c0_0), (.slice A0_1 l0_1.length c0_1)] 25 (0, 0))) ∧ Aside0 (wc.heap[gb120]? = some (.cells #[.int .i64 x121000_3, .int .i64 x121001_3, .int .i64 x121002_3, .int .i64 x121003_3] 38 (0, 0))) ∧ Aside0 (wc.heap[gb123]? = some (.cells #[.int .i64 ((rd_T38 l0_0 x41_3).f0), .int .i64 ((rd_T38 l0_0 x41_3).f1), .int .i64 ((rd_T38 l0_0 x41_3).f2), .int .i64 ((rd_T38 l0_0 x41_3).f3)] 38 (0, 0))) ∧ Aside0 (Below w.heap.size w wc))
         case first =>
          have H := HC70.out
          clear HC70
          by_cases c71 : ((rd_T38 l0_0 x41_3).f1) < 0
          ·
           rw [if_pos c71] at H
           have c71b0 : decide (((rd_T38 l0_0 x41_3).f1) < 0) = true := decide_eq_true c71
           clear c71
           (first | rw [c71b0] | (simp only [i64_w, i32_w]; rw [c71b0]) | skip)
           have H' := Aside0.mk H
           clear H
           have hnb72 := NB123_115.out
           have hnc72 := NB115_123.out
           have hnb73 := NB123_120.out
           have hnc73 := NB120_123.out
           obtain ⟨hcz74_0, hcz74_1, hcz74_2, hcz74_3, hfz74_0, hfz74_1, hfz74_2, hfz74_3⟩ := bo4 BK123
           go_wp2
           go_meet
           case rel => exact ⟨_, (true), rs, H', ⟨by have := HJ1.out; have := HK2.out; have := HK3.out; have := HJ28.out; first | omega | exact Nat.le_refl _⟩, ⟨by (try simp only [hl3_2]); (try simp only [hl3_3]); refine rm ?_; exact HO_3.out⟩, ⟨by (try simp only [hl3_2]); (try simp only [hl3_3]); refine bm ?_; exact BK115.out⟩, ⟨by (try simp only [hl3_2]); (try simp only [hl3_3]); refine bm ?_; exact BK120.out⟩, ⟨by (try simp only [hl3_2]); (try simp only [hl3_3]); refine bm ?_; exact BK123.out⟩, ⟨bb⟩⟩
          rw [if_neg c71] at H
          have c71b0 : decide (((rd_T38 l0_0 x41_3).f1) < 0) = false := decide_eq_false c71
          clear c71
          (first | rw [c71b0] | (simp only [i64_w, i32_w]; rw [c71b0]) | skip)
          by_cases c75 : ((rd_T38 l0_0 x41_3).f0) = x121000_3
          rotate_left
          ·
           rw [if_neg c75] at H
           have c75b0 : (((rd_T38 l0_0 x41_3).f0) == x121000_3) = false := beq_eq_false_iff_ne.mpr c75
           have c75b1 : (((rd_T38 l0_0 x41_3).f0) != x121000_3) = true := bne_iff_ne.mpr c75
           have H' := Aside0.mk H
           clear H
           have hnb81 := NB123_115.out
           have hnc81 := NB115_123.out
           have hnb82 := NB123_120.out
           have hnc82 := NB120_123.out
           obtain ⟨hcz83_0, hcz83_1, hcz83_2, hcz83_3, hfz83_0, hfz83_1, hfz83_2, hfz83_3⟩ := bo4 BK123
           have hnb84 := NB120_115.out
           have hnc84 := NB115_120.out
           obtain ⟨hcz85_0, hcz85_1, hcz85_2, hcz85_3, hfz85_0, hfz85_1, hfz85_2, hfz85_3⟩ := bo4 BK120
           go_wp2
           go_meet
           case rel => exact ⟨_, (false), rs, H', ⟨by have := HJ1.out; have := HK2.out; have := HK3.out; have := HJ28.out; first | omega | exact Nat.le_refl _⟩, ⟨by (try simp only [hl3_2]); (try simp only [hl3_3]); refine rm ?_; exact HO_3.out⟩, ⟨by (try simp only [hl3_2]); (try simp only [hl3_3]); refine bm ?_; exact BK115.out⟩, ⟨by (try simp only [hl3_2]); (try simp only [hl3_3]); refine bm ?_; exact BK120.out⟩, ⟨by (try simp only [hl3_2]); (try simp only [hl3_3]); refine bm ?_; exact BK123.out⟩, ⟨bb⟩⟩
          rw [if_pos c75] at H
          have c75b0 : (((rd_T38 l0_0 x41_3).f0) == x121000_3) = true := beq_iff_eq.mpr c75
          have c75b1 : (((rd_T38 l0_0 x41_3).f0) != x121000_3) = false := bne_eq_false_iff_eq.mpr c75
          clear c75
          have H' := Aside0.mk H
          clear H
          have hnb76 := NB123_115.out
          have hnc76 := NB115_123.out
          have hnb77 := NB123_120.out
          have hnc77 := NB120_123.out
          obtain ⟨hcz78_0, hcz78_1, hcz78_2, hcz78_3, hfz78_0, hfz78_1, hfz78_2, hfz78_3⟩ := bo4 BK123
          have hnb79 := NB120_115.out
          have hnc79 := NB115_120.out
          obtain ⟨hcz80_0, hcz80_1, hcz80_2, hcz80_3, hfz80_0, hfz80_1, hfz80_2, hfz80_3⟩ := bo4 BK120
          go_wp2
          go_meet
          case rel => exact ⟨_, (decide (((rd_T38 l0_0 x41_3).f1) ≤ x121001_3)), rs, H', ⟨by have := HJ1.out; have := HK2.out; have := HK3.out; have := HJ28.out; first | omega | exact Nat.le_refl _⟩, ⟨by (try simp only [hl3_2]); (try simp only [hl3_3]); refine rm ?_; exact HO_3.out⟩, ⟨by (try simp only [hl3_2]); (try simp only [hl3_3]); refine bm ?_; exact BK115.out⟩, ⟨by (try simp only [hl3_2]); (try simp only [hl3_3]); refine bm ?_; exact BK120.out⟩, ⟨by (try simp only [hl3_2]); (try simp only [hl3_3]); refine bm ?_; exact BK123.out⟩, ⟨bb⟩⟩
         case rest =>
          clear HC70
          try clear c1
          try clear p1
          try clear q1
          try clear hx1
          try clear hf1
          try clear c2
          try clear p2
          try clear c3
          try clear c4
          try clear c4b0
          try clear c4b1
          try clear c5
          try clear c6
          try clear c6b0
          try clear c6b1
          try clear p6
          try clear c7
          try clear c8
          try clear c9
          try clear c10
          try clear c10b0
          try clear c10b1
          try clear c11
          try clear c11b0
          try clear c11b1
          try clear p12
          try clear q12
          try clear hx12
          try clear c13
          try clear c16
          try clear c16b0
          try clear c17
          try clear c17b0
          try clear c18
          try clear c18b0
          try clear p19
          try clear q19
          try clear hx19
          try clear hf19
          try clear c23
          try clear c26
          try clear c26b0
          try clear c27
          try clear c27b0
          try clear c28
          try clear c28b0
          try clear c31
          try clear c32
          try clear c34
          try clear c34b0
          try clear c35
          try clear c36
          try clear c38
          try clear c40
          try clear c40b0
          try clear c41
          try clear c42
          try clear c44
          try clear c47
          try clear c47b0
          try clear c48
          try clear c49
          try clear c51
          try clear c54
          try clear c54b0
          try clear c55
          try clear c56
          try clear c58
          try clear c62
          try clear c63
          try clear p64
          try clear c65
          try clear c69
          try clear c71
          try clear c71b0
          try clear c72
          try clear c73
          try clear c75
          try clear c75b0
          try clear c75b1
          try clear c76
          try clear c77
          try clear c79
          try clear c81
          try clear c82
          try clear c84
          try clear hcz12_0
          try clear hcz12_1
          try clear hcz24_0
          try clear hcz24_1
          try clear hcz24_2
          try clear hcz24_3
          try clear hcz25_0
          try clear hcz25_1
          try clear hcz33_0
          try clear hcz33_1
          try clear hcz33_2
          try clear hcz33_3
          try clear hcz37_0
          try clear hcz37_1
          try clear hcz37_2
          try clear hcz37_3
          try clear hcz39_0
          try clear hcz39_1
          try clear hcz39_2
          try clear hcz39_3
          try clear hcz43_0
          try clear hcz43_1
          try clear hcz43_2
          try clear hcz43_3
          try clear hcz45_0
          try clear hcz45_1
          try clear hcz45_2
          try clear hcz45_3
          try clear hcz46_0
          try clear hcz46_1
          try clear hcz50_0
          try clear hcz50_1
          try clear hcz50_2
          try clear hcz50_3
          try clear hcz52_0
          try clear hcz52_1
          try clear hcz52_2
          try clear hcz52_3
          try clear hcz53_0
          try clear hcz53_1
          try clear hcz57_0
          try clear hcz57_1
          try clear hcz57_2
          try clear hcz57_3
          try clear hcz59_0
          try clear hcz59_1
          try clear hcz59_2
          try clear hcz59_3
          try clear hcz5_0
          try clear hcz5_1
          try clear hcz60_0
          try clear hcz60_1
          try clear hcz64_0
          try clear hcz64_1
          try clear hcz64_2
          try clear hcz64_3
          try clear hcz66_0
          try clear hcz66_1
          try clear hcz66_2
          try clear hcz66_3
          try clear hcz67_0
          try clear hcz67_1
          try clear hcz74_0
          try clear hcz74_1
          try clear hcz74_2
          try clear hcz74_3
          try clear hcz78_0
          try clear hcz78_1
          try clear hcz78_2
          try clear hcz78_3
          try clear hcz7_0
          try clear hcz7_1
          try clear hcz80_0
          try clear hcz80_1
          try clear hcz80_2
          try clear hcz80_3
          try clear hcz83_0
          try clear hcz83_1
          try clear hcz83_2
          try clear hcz83_3
          try clear hcz85_0
          try clear hcz85_1
          try clear hcz85_2
          try clear hcz85_3
          try clear hcz8_0
          try clear hcz8_1
          try clear hfz12_0
          try clear hfz12_1
          try clear hfz24_0
          try clear hfz24_1
          try clear hfz24_2
          try clear hfz24_3
          try clear hfz25_0
          try clear hfz25_1
          try clear hfz33_0
          try clear hfz33_1
          try clear hfz33_2
          try clear hfz33_3
          try clear hfz37_0
          try clear hfz37_1
          try clear hfz37_2
          try clear hfz37_3
          try clear hfz39_0
          try clear hfz39_1
          try clear hfz39_2
          try clear hfz39_3
          try clear hfz43_0
          try clear hfz43_1
          try clear hfz43_2
          try clear hfz43_3
          try clear hfz45_0
          try clear hfz45_1
          try clear hfz45_2
          try clear hfz45_3
          try clear hfz46_0
          try clear hfz46_1
          try clear hfz50_0
          try clear hfz50_1
          try clear hfz50_2
          try clear hfz50_3
          try clear hfz52_0
          try clear hfz52_1
          try clear hfz52_2
          try clear hfz52_3
          try clear hfz53_0
          try clear hfz53_1
          try clear hfz57_0
          try clear hfz57_1
          try clear hfz57_2
          try clear hfz57_3
          try clear hfz59_0
          try clear hfz59_1
          try clear hfz59_2
          try clear hfz59_3
          try clear hfz5_0
          try clear hfz5_1
          try clear hfz60_0
          try clear hfz60_1
          try clear hfz64_0
          try clear hfz64_1
          try clear hfz64_2
          try clear hfz64_3
          try clear hfz66_0
          try clear hfz66_1
          try clear hfz66_2
          try clear hfz66_3
          try clear hfz67_0
          try clear hfz67_1
          try clear hfz74_0
          try clear hfz74_1
          try clear hfz74_2
          try clear hfz74_3
          try clear hfz78_0
          try clear hfz78_1
          try clear hfz78_2
          try clear hfz78_3
          try clear hfz7_0
          try clear hfz7_1
          try clear hfz80_0
          try clear hfz80_1
          try clear hfz80_2
          try clear hfz80_3
          try clear hfz83_0
          try clear hfz83_1
          try clear hfz83_2
          try clear hfz83_3
          try clear hfz85_0
          try clear hfz85_1
          try clear hfz85_2
          try clear hfz85_3
          try clear hfz8_0
          try clear hfz8_1
          try clear hx122_0
          try clear hx122_1
          try clear hx122_2
          try clear hx122_3
          try clear hx19_0
          try clear p122
          try clear q122
          obtain ⟨kq, x91_69, rfl, HA, HJ69, HO_3, BK115, BK120, BK123, HB⟩ := hcut
          cases kq with
          | zero => exact absurd HA.out (by simp [shape_Check.j4])
          | succ kj69 =>
           have H := HA.out
           clear HA
           simp only [shape_Check.j4] at H
           by_cases c86 : x91_69 = true
           ·
            subst c86
            have H1 : (some 1) = some r := by rw [if_pos rfl] at H; exact H
            clear H
            have H := H1
            clear H1
            obtain rfl := Option.some.inj H
            go_wp2
            go_ret
            exact ⟨ew, bb⟩
           replace c86 := Bool.eq_false_iff.mpr c86
           subst c86
           have H1 : (if ((rd_T38 l0_0 x41_3).f2) = 11 then (if 0 ≤ ((rd_T38 l0_0 x41_3).f3) then (if ((rd_T38 l0_0 x41_3).f3) < (x3_3.length : Int) then (if (rd x3_3 ((rd_T38 l0_0 x41_3).f3)) ≥ 0 then (some 1) else (shape_Check.l1 kj69 (x3_3.set (((rd_T38 l0_0 x41_3).f3) : Int).toNat x41_3) l0_0 (l0_0.length : Int) (wrap64 (x41_3 + 1)) l0_0 l0_1 ((rd_T38 l0_0 x41_3).f0) ((rd_T38 l0_0 x41_3).f1) ((rd_T38 l0_0 x41_3).f2) ((rd_T38 l0_0 x41_3).f3))) else (none)) else (none)) else (shape_Check.l1 kj69 x3_3 l0_0 (l0_0.length : Int) (wrap64 (x41_3 + 1)) l0_0 l0_1 ((rd_T38 l0_0 x41_3).f0) ((rd_T38 l0_0 x41_3).f1) ((rd_T38 l0_0 x41_3).f2) ((rd_T38 l0_0 x41_3).f3))) = some r := by rw [if_neg (show ¬ (false = true) by decide)] at H; exact H
           clear H
           have H := H1
           clear H1
           by_cases c87 : ((rd_T38 l0_0 x41_3).f2) = 11
           rotate_left
           ·
            rw [if_neg c87] at H
            have c87b0 : (((rd_T38 l0_0 x41_3).f2) == 11) = false := beq_eq_false_iff_ne.mpr c87
            have c87b1 : (((rd_T38 l0_0 x41_3).f2) != 11) = true := bne_iff_ne.mpr c87
            have H' := Aside0.mk H
            clear H
            have hnb103 := NB123_115.out
            have hnc103 := NB115_123.out
            have hnb104 := NB123_120.out
            have hnc104 := NB120_123.out
            obtain ⟨hcz105_0, hcz105_1, hcz105_2, hcz105_3, hfz105_0, hfz105_1, hfz105_2, hfz105_3⟩ := bo4 BK123
            have hnb106 := NB120_115.out
            have hnc106 := NB115_120.out
            obtain ⟨hcz107_0, hcz107_1, hcz107_2, hcz107_3, hfz107_0, hfz107_1, hfz107_2, hfz107_3⟩ := bo4 BK120
            go_wp2
            (try simp only [← hl3_3])
            go_roundg kj69
            case measure => have := HJ1.out; have := HK2.out; have := HK3.out; have := HJ28.out; have := HJ69.out; omega
            case rel => exact ⟨(x3_3), (wrap64 (x41_3 + 1)), (((rd_T38 l0_0 x41_3).f0)), (((rd_T38 l0_0 x41_3).f1)), (((rd_T38 l0_0 x41_3).f2)), (((rd_T38 l0_0 x41_3).f3)), rs, H', ⟨by have := HJ1.out; have := HK2.out; have := HK3.out; have := HJ28.out; have := HJ69.out; omega⟩, ⟨by (try simp only [hl3_2]); (try simp only [hl3_3]); refine rm ?_; exact Kd.R_mono (Kd.R_far (p := ⟨gb120, 3, none⟩) (Kd.R_far (p := ⟨gb120, 2, none⟩) (Kd.R_far (p := ⟨gb120, 1, none⟩) (Kd.R_far (p := ⟨gb120, 0, none⟩) (Kd.R_types HO_3.out BK120.out (by decide)) (fun _ hk => hk.2) (.int .i64 ((rd_T38 l0_0 x41_3).f0))) (fun _ hk => hk.2) (.int .i64 ((rd_T38 l0_0 x41_3).f1))) (fun _ hk => hk.2) (.int .i64 ((rd_T38 l0_0 x41_3).f2))) (fun _ hk => hk.2) (.int .i64 ((rd_T38 l0_0 x41_3).f3))) (fun _ hk => trivial)⟩, ⟨by (try simp only [hl3_2]); (try simp only [hl3_3]); refine bm ?_; refine blk_far ?_ NB115_120.out _; refine bm ?_; refine blk_far ?_ NB115_120.out _; refine bm ?_; refine blk_far ?_ NB115_120.out _; refine bm ?_; refine blk_far ?_ NB115_120.out _; refine bm ?_; exact BK115.out⟩, ⟨by (try simp only [hl3_2]); (try simp only [hl3_3]); refine bm ?_; refine blk_put (cs := #[.int .i64 ((rd_T38 l0_0 x41_3).f0), .int .i64 ((rd_T38 l0_0 x41_3).f1), .int .i64 ((rd_T38 l0_0 x41_3).f2), .int .i64 x121003_3]) ?_ 3 _ rfl; refine bm ?_; refine blk_put (cs := #[.int .i64 ((rd_T38 l0_0 x41_3).f0), .int .i64 ((rd_T38 l0_0 x41_3).f1), .int .i64 x121002_3, .int .i64 x121003_3]) ?_ 2 _ rfl; refine bm ?_; refine blk_put (cs := #[.int .i64 ((rd_T38 l0_0 x41_3).f0), .int .i64 x121001_3, .int .i64 x121002_3, .int .i64 x121003_3]) ?_ 1 _ rfl; refine bm ?_; refine blk_put (cs := #[.int .i64 x121000_3, .int .i64 x121001_3, .int .i64 x121002_3, .int .i64 x121003_3]) ?_ 0 _ rfl; refine bm ?_; exact BK120.out⟩, ⟨bb⟩⟩
           rw [if_pos c87] at H
           have c87b0 : (((rd_T38 l0_0 x41_3).f2) == 11) = true := beq_iff_eq.mpr c87
           have c87b1 : (((rd_T38 l0_0 x41_3).f2) != 11) = false := bne_eq_false_iff_eq.mpr c87
           clear c87
           by_cases c88 : 0 ≤ ((rd_T38 l0_0 x41_3).f3)
           rotate_left
           ·
            rw [if_neg c88] at H
            exact absurd H (by simp)
           rw [if_pos c88] at H
           have c88b0 : decide (0 ≤ ((rd_T38 l0_0 x41_3).f3)) = true := decide_eq_true c88
           clear c88
           by_cases c89 : ((rd_T38 l0_0 x41_3).f3) < (x3_3.length : Int)
           rotate_left
           ·
            rw [if_neg c89] at H
            exact absurd H (by simp)
           rw [if_pos c89] at H
           have c89b0 : decide (((rd_T38 l0_0 x41_3).f3) < (x3_3.length : Int)) = true := decide_eq_true c89
           try (have c89b6_hl3_2 := c89b0; simp only [hl3_2] at c89b6_hl3_2)
           try (have c89b6_hl3_3 := c89b0; simp only [hl3_3] at c89b6_hl3_3)
           clear c89
           by_cases c90 : (rd x3_3 ((rd_T38 l0_0 x41_3).f3)) ≥ 0
           ·
            rw [if_pos c90] at H
            have c90b0 : decide (0 ≤ (rd x3_3 ((rd_T38 l0_0 x41_3).f3))) = true := decide_eq_true c90
            clear c90
            obtain rfl := Option.some.inj H
            have hnb91 := NB123_115.out
            have hnc91 := NB115_123.out
            have hnb92 := NB123_120.out
            have hnc92 := NB120_123.out
            obtain ⟨hcz93_0, hcz93_1, hcz93_2, hcz93_3, hfz93_0, hfz93_1, hfz93_2, hfz93_3⟩ := bo4 BK123
            have p125 : 0 ≤ (((rd_T38 l0_0 x41_3).f3) : Int) := od
            have q125 : ((rd_T38 l0_0 x41_3).f3) < (x3_3.length : Int) := od
            obtain ⟨ad125, e125, hx125_0⟩ := Kd.at_int (Kd.R_reads' HO_3.out).2.2 ((rd_T38 l0_0 x41_3).f3) p125 q125
            cases e125
            replace p125 := eq_true p125
            replace q125 := eq_true q125
            go_wp2
            go_ret
            exact ⟨ew, bb⟩
           rw [if_neg c90] at H
           have c90b0 : decide (0 ≤ (rd x3_3 ((rd_T38 l0_0 x41_3).f3))) = false := decide_eq_false c90
           clear c90
           obtain ⟨y126, hy126⟩ : ∃ y_ : List Int, y_ = (x3_3.set (((rd_T38 l0_0 x41_3).f3) : Int).toNat x41_3) := ⟨_, rfl⟩
           replace H : (shape_Check.l1 kj69 y126 l0_0 (l0_0.length : Int) (wrap64 (x41_3 + 1)) l0_0 l0_1 ((rd_T38 l0_0 x41_3).f0) ((rd_T38 l0_0 x41_3).f1) ((rd_T38 l0_0 x41_3).f2) ((rd_T38 l0_0 x41_3).f3)) = some r := by first | (rw [hy126]; with_reducible exact H) | (have H2_ := (Option.bind_some _ _).symm.trans H; rw [hy126]; with_reducible exact H2_) | (have H2_ := (Option.bind_some _ _).symm.trans H; with_reducible exact H2_) | with_reducible exact H | (rw [hy126]; exact H) | exact H
           have Ny126 := Aside0.mk hy126
           clear hy126
           have H' := Aside0.mk H
           clear H
           have hnb95 := NB123_115.out
           have hnc95 := NB115_123.out
           have hnb96 := NB123_120.out
           have hnc96 := NB120_123.out
           obtain ⟨hcz97_0, hcz97_1, hcz97_2, hcz97_3, hfz97_0, hfz97_1, hfz97_2, hfz97_3⟩ := bo4 BK123
           have p125 : 0 ≤ (((rd_T38 l0_0 x41_3).f3) : Int) := od
           have q125 : ((rd_T38 l0_0 x41_3).f3) < (x3_3.length : Int) := od
           obtain ⟨ad125, e125, hx125_0⟩ := Kd.at_int (Kd.R_reads' HO_3.out).2.2 ((rd_T38 l0_0 x41_3).f3) p125 q125
           cases e125
           replace p125 := eq_true p125
           replace q125 := eq_true q125
           have p94 : 0 ≤ (((rd_T38 l0_0 x41_3).f3) : Int) := od
           have q94 : (((rd_T38 l0_0 x41_3).f3) : Int) < ((x3_3.length : Int) : Int) := od
           obtain ⟨go94, co94, eo94, gb94, gl94, cl94, HG94⟩ := Kd.R_form HO_3.out (by omega)
           (first | cases eo94 | (injection eo94 with ea_ en_ ec_; (first | subst ea_ | (injection ea_ with ea_; subst ea_)); subst ec_; clear en_))
           have GB94 := Aside0.mk gb94
           have GG94 := Aside0.mk HG94
           clear gb94 gl94 HG94
           (first | simp only [add_plain] at hx125_0 | skip)
           obtain ⟨hx94_0, hf94_0⟩ := Kd.R_celln 0 HO_3.out (((rd_T38 l0_0 x41_3).f3) : Int) p94 q94
           replace p94 := eq_true p94
           replace q94 := eq_true q94
           have HP98 := Kd.R_putg HO_3.out (((rd_T38 l0_0 x41_3).f3) : Int) x41_3
           go_wp2_with (first | ((with_reducible refine gate_store (t := 3) (p := 105) rfl ?_); refine store_event (t := 3) (p := 105) (v := ?vo_w99) (w1 := (wc.setCell ⟨go94, (((rd_T38 l0_0 x41_3).f3) : Int).toNat, none⟩ (.int .i64 x41_3))) ?hg ?ho ?hn ?hr ?_; (case ho => rfl); (case hg => rfl); (case hn => rfl); (case hr => first | (go_simp; done) | (go_simp; rfl)); intro w99 hw; have hg : wc.grownBy w99 (some go94) := (by rw [hw]; exact HP98.2); have hp_ : Kd.R (Kd.int .i64) 3 w99 w.heap.size (fun _ => True) (.slice (some ⟨go94, 0, none⟩) x3_3.length co15) y126 := (by rw [hw, Ny126.out]; exact HP98.1); clear HP98; replace BK115 := Aside0.mk (blk_grown (g := gb115) (o := .cells #[.slice (some ad122) l0_0.length c0_0, .slice A0_1 l0_1.length c0_1] 25 (0, 0)) (bk BK115) hg (Kd.R_ne HO_3.out BK115.out (by decide))); replace BK120 := Aside0.mk (blk_grown (g := gb120) (o := .cells #[.int .i64 x121000_3, .int .i64 x121001_3, .int .i64 x121002_3, .int .i64 x121003_3] 38 (0, 0)) (bk BK120) hg (Kd.R_ne HO_3.out BK120.out (by decide))); replace BK123 := Aside0.mk (blk_grown (g := gb123) (o := .cells #[.int .i64 ((rd_T38 l0_0 x41_3).f0), .int .i64 ((rd_T38 l0_0 x41_3).f1), .int .i64 ((rd_T38 l0_0 x41_3).f2), .int .i64 ((rd_T38 l0_0 x41_3).f3)] 38 (0, 0)) (bk BK123) hg (Kd.R_ne HO_3.out BK123.out (by decide))); replace HO_3 := Aside0.mk (hp_); replace HB := Aside0.mk ((by rw [hw]; exact below_set (HB.out) GB94.out : Below w.heap.size w w99)); clear hg hw hp_; obtain ⟨hcz100_0, hcz100_1, hcz100_2, hcz100_3, hfz100_0, hfz100_1, hfz100_2, hfz100_3⟩ := bo4 BK123; have hnb101 := NB120_115.out; have hnc101 := NB115_120.out; obtain ⟨hcz102_0, hcz102_1, hcz102_2, hcz102_3, hfz102_0, hfz102_1, hfz102_2, hfz102_3⟩ := bo4 BK120))
           (try simp only [← hl3_3])
           go_roundg kj69
           case measure => have := HJ1.out; have := HK2.out; have := HK3.out; have := HJ28.out; have := HJ69.out; omega
           case rel => exact ⟨(y126), (wrap64 (x41_3 + 1)), (((rd_T38 l0_0 x41_3).f0)), (((rd_T38 l0_0 x41_3).f1)), (((rd_T38 l0_0 x41_3).f2)), (((rd_T38 l0_0 x41_3).f3)), rs, H', ⟨by have := HJ1.out; have := HK2.out; have := HK3.out; have := HJ28.out; have := HJ69.out; omega⟩, ⟨by (try simp only [hl3_2]); (try simp only [hl3_3]); refine rm ?_; exact Kd.R_mono (Kd.R_far (p := ⟨gb120, 3, none⟩) (Kd.R_far (p := ⟨gb120, 2, none⟩) (Kd.R_far (p := ⟨gb120, 1, none⟩) (Kd.R_far (p := ⟨gb120, 0, none⟩) (Kd.R_types HO_3.out BK120.out (by decide)) (fun _ hk => hk.2) (.int .i64 ((rd_T38 l0_0 x41_3).f0))) (fun _ hk => hk.2) (.int .i64 ((rd_T38 l0_0 x41_3).f1))) (fun _ hk => hk.2) (.int .i64 ((rd_T38 l0_0 x41_3).f2))) (fun _ hk => hk.2) (.int .i64 ((rd_T38 l0_0 x41_3).f3))) (fun _ hk => trivial)⟩, ⟨by (try simp only [hl3_2]); (try simp only [hl3_3]); refine bm ?_; refine blk_far ?_ NB115_120.out _; refine bm ?_; refine blk_far ?_ NB115_120.out _; refine bm ?_; refine blk_far ?_ NB115_120.out _; refine bm ?_; refine blk_far ?_ NB115_120.out _; refine bm ?_; exact BK115.out⟩, ⟨by (try simp only [hl3_2]); (try simp only [hl3_3]); refine bm ?_; refine blk_put (cs := #[.int .i64 ((rd_T38 l0_0 x41_3).f0), .int .i64 ((rd_T38 l0_0 x41_3).f1), .int .i64 ((rd_T38 l0_0 x41_3).f2), .int .i64 x121003_3]) ?_ 3 _ rfl; refine bm ?_; refine blk_put (cs := #[.int .i64 ((rd_T38 l0_0 x41_3).f0), .int .i64 ((rd_T38 l0_0 x41_3).f1), .int .i64 x121002_3, .int .i64 x121003_3]) ?_ 2 _ rfl; refine bm ?_; refine blk_put (cs := #[.int .i64 ((rd_T38 l0_0 x41_3).f0), .int .i64 x121001_3, .int .i64 x121002_3, .int .i64 x121003_3]) ?_ 1 _ rfl; refine bm ?_; refine blk_put (cs := #[.int .i64 x121000_3, .int .i64 x121001_3, .int .i64 x121002_3, .int .i64 x121003_3]) ?_ 0 _ rfl; refine bm ?_; exact BK120.out⟩, ⟨bb⟩⟩

end Go.Proofs.Ytcoelecaigkfcaa.K
