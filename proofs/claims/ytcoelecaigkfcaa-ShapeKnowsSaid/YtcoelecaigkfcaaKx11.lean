-- Laid by drive.py (a program of the session's) out of the translation. Lean checks it.
import Derived.Test.YtcoelecaigkfcaaKx0
import Derived.Test.YtcoelecaigkfcaaKx10
namespace Go.Proofs.Ytcoelecaigkfcaa.K
open Go.RowKit Go.Proofs.YtcoelecaigkfcaaW.PrintWords Go.Proofs.YtcoelecaigkfcaaW.PrintLast
set_option linter.unusedVariables false
set_option linter.unusedSimpArgs false

/-! ### fathomref27_Source: function 16 -/
def fathomref27_Source.f (k : Nat) (l0_0 : List (S38)) (l0_1 : List Int) (a1 : Int) (a2 : Int) : Option (Bool) := if a1 = a2 then (some false) else (if 0 ≤ a1 then (if a1 < (l0_0.length : Int) then (if 0 ≤ a2 then (if a2 < (l0_0.length : Int) then (if ((rd_T38 l0_0 a1).f3) = ((rd_T38 l0_0 a2).f3) then ((fathomref27_Feeds.f ((rd_T38 l0_0 a2).f2) ((rd_T38 l0_0 a1).f2)).bind fun t227 => (if t227 = true then ((fathomref27_Ahead.f k l0_0 l0_1 a1 a2).bind fun t228 => (some (!t228))) else (some false))) else (some false)) else (none)) else (none)) else (none)) else (none))
theorem fathomref27_Source.mono : ∀ a0 a1 a2 a3 k, LeO (fathomref27_Source.f k a0 a1 a2 a3) (fathomref27_Source.f (k + 1) a0 a1 a2 a3) := by
  intro a0 a1 a2 a3 k
  unfold fathomref27_Source.f
  repeat' first
      | (with_reducible exact fathomref27_Ahead.mono _ _ _ _ _)
      | (with_reducible exact LeO.refl _)
      | (with_reducible exact LeO.none _)
      | (with_reducible refine LeO.ite ?_ ?_)
      | (with_reducible refine LeO.bind ?_ (fun _ => ?_))
      | exact fathomref27_Ahead.mono _ _ _ _ _
      | exact LeO.none _
      | refine LeO.ite ?_ ?_
      | refine LeO.bind ?_ (fun _ => ?_)
def fathomref27_Source.T1 : Bool × List (List Nat × List Nat) := (true, [([], []), ([], []), ([0, 1], [0, 1]), ([2], [2]), ([3], [3]), ([4, 3], [3, 4]), ([3], [3]), ([5, 6, 3], [3, 5, 6]), ([7, 3], [3, 7]), ([8, 3], [3, 8]), ([3], [3]), ([10, 3], [3, 10]), ([3], [3]), ([11, 12, 3], [3, 11, 12]), ([13, 3], [3, 13]), ([14, 3], [3, 14]), ([9, 15, 3], [3, 9, 15]), ([3, 16], [3, 16]), ([17, 3], [17]), ([18], [18]), ([19, 18], [18, 19]), ([18], [18]), ([20, 21, 18], [18, 20, 21]), ([22, 18], [18, 22]), ([23, 18], [18, 23]), ([18], [18]), ([25, 18], [18, 25]), ([18], [18]), ([26, 27, 18], [18, 26, 27]), ([28, 18], [18, 28]), ([29, 18], [18, 29]), ([24, 30, 18, 18], [18, 24, 30]), ([18, 31], [18, 31]), ([32, 31], [32]), ([33], [33]), ([33], [33]), ([33], [33]), ([34, 35, 36, 33, 33], [33, 34, 35, 36]), ([37, 33], [33, 37]), ([33, 38], [33, 38]), ([39, 37, 0, 1, 2, 3, 4, 5, 6, 7, 8, 9, 10, 11, 12, 13, 14, 15, 16, 17, 18, 19, 20, 21, 22, 23, 24, 25, 26, 27, 28, 29, 30, 31, 32, 33, 34, 35, 36, 37, 38, 39], [39])])
def fathomref27_Source.B1 : List Nat := [0, 0, 3, 7, 15, 31, 15, 127, 255, 511, 15, 1039, 15, 7183, 15375, 31759, 65535, 131071, 262143, 524287, 1048575, 524287, 4194303, 8388607, 16777215, 524287, 34078719, 524287, 235405311, 503840767, 1040711679, 2147483647, 4294967295, 8589934591, 17179869183, 17179869183, 17179869183, 137438953471, 274877906943, 549755813887, 1099511627775]
theorem fathomref27_Source.tab1 : rtab .any (opsOf Try.f16 1) = fathomref27_Source.T1 := by kernel_rfl
theorem fathomref27_Source.bits1 : waitsOk fathomref27_Source.T1.2 fathomref27_Source.B1 = true := by kernel_rfl
set_option maxHeartbeats 8000000 in
set_option maxRecDepth 100000 in
theorem fathomref27_Source.calls (k : Nat) (A0_0 : Option Addr) (c0_0 : Nat) (l0_0 : List (S38)) (A0_1 : Option Addr) (c0_1 : Nat) (l0_1 : List Int) (a1 : Int) (a2 : Int) (r : Bool) (w : World) (hr0_0 : Kd.C k38 w A0_0 l0_0.length l0_0) (hc0_0 : l0_0.length ≤ c0_0) (hr0_1 : Kd.C (Kd.int .i64) w A0_1 l0_1.length l0_1) (hc0_1 : l0_1.length ≤ c0_1) (h : fathomref27_Source.f k l0_0 l0_1 a1 a2 = some r) :
    Calls Try.prog 16 #[.agg #[.slice A0_0 l0_0.length c0_0, .slice A0_1 l0_1.length c0_1], .int .i64 a1, .int .i64 a2] w fun e w' => e = .returned (.bool r) ∧ Below w.heap.size w w' := by
 have hu25 := Try.underlying25
 have HR0_0 := Aside0.mk hr0_0
 have HC0_0 := Aside0.mk hc0_0
 clear hr0_0 hc0_0
 have HR0_1 := Aside0.mk hr0_1
 have HC0_1 := Aside0.mk hc0_1
 clear hr0_1 hc0_1
 have HB := Aside0.mk (Below.refl w.heap.size w)
 have H : (if a1 = a2 then (some false) else (if 0 ≤ a1 then (if a1 < (l0_0.length : Int) then (if 0 ≤ a2 then (if a2 < (l0_0.length : Int) then (if ((rd_T38 l0_0 a1).f3) = ((rd_T38 l0_0 a2).f3) then ((fathomref27_Feeds.f ((rd_T38 l0_0 a2).f2) ((rd_T38 l0_0 a1).f2)).bind fun t227 => (if t227 = true then ((fathomref27_Ahead.f k l0_0 l0_1 a1 a2).bind fun t228 => (some (!t228))) else (some false))) else (some false)) else (none)) else (none)) else (none)) else (none))) = some r := h
 clear h
 by_cases c4 : a1 = a2
 ·
  rw [if_pos c4] at H
  have c4b0 : (a1 == a2) = true := beq_iff_eq.mpr c4
  have c4b1 : (a1 != a2) = false := bne_eq_false_iff_eq.mpr c4
  clear c4
  obtain rfl := Option.some.inj H
  go_enter Try.func16, Try.ntmps16
  try go_wp2_with (first | ((with_reducible refine gate_dst (N := 3) rfl ?_); refine bx 3 #[.slice A0_0 l0_0.length c0_0, .slice A0_1 l0_1.length c0_1] 25 ?_; intro gb222 hg w5 hbox hb; have BK222 := Aside0.mk (hbox); have GW222 := Aside0.mk ((bz hg : w.heap.size ≤ gb222)); have GE222 := Aside0.mk ((bz hg : w.heap.size ≤ gb222)); replace HB := Aside0.mk (below_step bb hb); clear hb hbox hg))
  have n0_ := Aside0.mk (blk_drew BK222.out)
  have n1_ := Aside0.mk (below_drew1 HB.out)
  clear BK222
  clear HB
  have BK222 := n0_
  have HB := n1_
  clear n0_ n1_
  refine start_ (n := 41) (S := fun w' => True) (ds := []) #[false, false, false, false, false, false, false, false, false, false, false, false, false, false, false, false, false, false, false, false, false, false, false, false, false, false, false, false, false, false, false, false, false, false, false, false, false, false, false, false, false] (by kernel_rfl) rfl rfl trivial (fun hHeld => ?_); refine with_tabW fathomref27_Source.tab1 fathomref27_Source.bits1 (fun HT_ HW_ => ?_)
  generalize w5.drew = w6 at BK222 HB hHeld ⊢
  refine pv 0 7 HT_.out ?_
  refine pv 1 8 HT_.out ?_
  refine pv 2 9 HT_.out ?_
  refine pv 3 10 HT_.out ?_
  refine pu 4 11 HT_.out ?_
  refine pu 5 12 HT_.out ?_
  refine pu 6 13 HT_.out ?_
  refine pu 7 14 HT_.out ?_
  refine pu 8 15 HT_.out ?_
  refine pu 9 16 HT_.out ?_
  refine pu 10 17 HT_.out ?_
  refine pu 11 18 HT_.out ?_
  refine pu 12 19 HT_.out ?_
  refine pu 13 20 HT_.out ?_
  refine pu 14 21 HT_.out ?_
  refine pu 15 22 HT_.out ?_
  refine pu 16 23 HT_.out ?_
  refine pv 17 24 HT_.out ?_
  refine pv 18 25 HT_.out ?_
  refine pu 19 26 HT_.out ?_
  refine pu 20 27 HT_.out ?_
  refine pu 21 28 HT_.out ?_
  refine pu 22 29 HT_.out ?_
  refine pu 23 30 HT_.out ?_
  refine pu 24 31 HT_.out ?_
  refine pu 25 32 HT_.out ?_
  refine pu 26 33 HT_.out ?_
  refine pu 27 34 HT_.out ?_
  refine pu 28 35 HT_.out ?_
  refine pu 29 36 HT_.out ?_
  refine pu 30 37 HT_.out ?_
  refine pu 31 38 HT_.out ?_
  refine pv 32 39 HT_.out ?_
  refine pv 33 40 HT_.out ?_
  refine pu 34 41 HT_.out ?_
  refine pu 35 42 HT_.out ?_
  refine pu 36 43 HT_.out ?_
  refine pu 37 44 HT_.out ?_
  refine pu 38 45 HT_.out ?_
  refine pv 39 46 HT_.out ?_
  refine pv 40 6 HT_.out ?_
  refine done_ (done_of HT_.out (by kernel_rfl)) ?_
  try go_wp2
  go_ret
  exact ⟨ew, bb⟩
 rw [if_neg c4] at H
 have c4b0 : (a1 == a2) = false := beq_eq_false_iff_ne.mpr c4
 have c4b1 : (a1 != a2) = true := bne_iff_ne.mpr c4
 by_cases c7 : 0 ≤ a1
 rotate_left
 ·
  rw [if_neg c7] at H
  exact absurd H (by simp)
 rw [if_pos c7] at H
 have c7b0 : decide (0 ≤ a1) = true := decide_eq_true c7
 clear c7
 by_cases c8 : a1 < (l0_0.length : Int)
 rotate_left
 ·
  rw [if_neg c8] at H
  exact absurd H (by simp)
 rw [if_pos c8] at H
 have c8b0 : decide (a1 < (l0_0.length : Int)) = true := decide_eq_true c8
 clear c8
 by_cases c9 : 0 ≤ a2
 rotate_left
 ·
  rw [if_neg c9] at H
  exact absurd H (by simp)
 rw [if_pos c9] at H
 have c9b0 : decide (0 ≤ a2) = true := decide_eq_true c9
 clear c9
 by_cases c10 : a2 < (l0_0.length : Int)
 rotate_left
 ·
  rw [if_neg c10] at H
  exact absurd H (by simp)
 rw [if_pos c10] at H
 have c10b0 : decide (a2 < (l0_0.length : Int)) = true := decide_eq_true c10
 clear c10
 by_cases c11 : ((rd_T38 l0_0 a1).f3) = ((rd_T38 l0_0 a2).f3)
 rotate_left
 ·
  rw [if_neg c11] at H
  have c11b0 : (((rd_T38 l0_0 a1).f3) == ((rd_T38 l0_0 a2).f3)) = false := beq_eq_false_iff_ne.mpr c11
  have c11b1 : (((rd_T38 l0_0 a1).f3) != ((rd_T38 l0_0 a2).f3)) = true := bne_iff_ne.mpr c11
  obtain rfl := Option.some.inj H
  go_enter Try.func16, Try.ntmps16
  try go_wp2_with (first | ((with_reducible refine gate_dst (N := 3) rfl ?_); refine bx 3 #[.slice A0_0 l0_0.length c0_0, .slice A0_1 l0_1.length c0_1] 25 ?_; intro gb222 hg w20 hbox hb; have BK222 := Aside0.mk (hbox); have GW222 := Aside0.mk ((bz hg : w.heap.size ≤ gb222)); have GE222 := Aside0.mk ((bz hg : w.heap.size ≤ gb222)); replace HB := Aside0.mk (below_step bb hb); clear hb hbox hg))
  have n0_ := Aside0.mk (blk_drew BK222.out)
  have n1_ := Aside0.mk (below_drew1 HB.out)
  clear BK222
  clear HB
  have BK222 := n0_
  have HB := n1_
  clear n0_ n1_
  have p223 : 0 ≤ (a1 : Int) := od
  have q223 : a1 < (l0_0.length : Int) := od
  obtain ⟨ad223, e223, hx223_0, hx223_1, hx223_2, hx223_3⟩ := at_T38 HR0_0.out a1 p223 q223
  have hw223_3 := hx223_3
  have hw223_2 := hx223_2
  have hw223_1 := hx223_1
  have hw223_0 := hx223_0
  cases e223
  replace hx223_0 := bl HB hx223_0
  replace hx223_1 := bl HB hx223_1
  replace hx223_2 := bl HB hx223_2
  replace hx223_3 := bl HB hx223_3
  replace p223 := eq_true p223
  replace q223 := eq_true q223
  have p224 : 0 ≤ (a2 : Int) := od
  have q224 : a2 < (l0_0.length : Int) := od
  obtain ⟨ad224, e224, hx224_0, hx224_1, hx224_2, hx224_3⟩ := at_T38 HR0_0.out a2 p224 q224
  have hw224_3 := hx224_3
  have hw224_2 := hx224_2
  have hw224_1 := hx224_1
  have hw224_0 := hx224_0
  obtain rfl : ad223 = ad224 := (by injection e224)
  replace hx224_0 := bl HB hx224_0
  replace hx224_1 := bl HB hx224_1
  replace hx224_2 := bl HB hx224_2
  replace hx224_3 := bl HB hx224_3
  replace p224 := eq_true p224
  replace q224 := eq_true q224
  refine start_ (n := 41) (S := fun w' => w'.cell? ⟨gb222, 0, none⟩ = some (.slice (some ad223) l0_0.length c0_0) ∧ w'.cell? ⟨gb222, 1, none⟩ = some (.slice A0_1 l0_1.length c0_1) ∧ w'.cell? (ad223.add ((a1).toNat * 4)) = some (.int .i64 ((rd_T38 l0_0 a1).f0)) ∧ w'.cell? ⟨(ad223.add ((a1).toNat * 4)).block, (ad223.add ((a1).toNat * 4)).off + 1, none⟩ = some (.int .i64 ((rd_T38 l0_0 a1).f1)) ∧ w'.cell? ⟨(ad223.add ((a1).toNat * 4)).block, (ad223.add ((a1).toNat * 4)).off + 2, none⟩ = some (.int .i64 ((rd_T38 l0_0 a1).f2)) ∧ w'.cell? ⟨(ad223.add ((a1).toNat * 4)).block, (ad223.add ((a1).toNat * 4)).off + 3, none⟩ = some (.int .i64 ((rd_T38 l0_0 a1).f3)) ∧ w'.cell? (ad223.add ((a2).toNat * 4)) = some (.int .i64 ((rd_T38 l0_0 a2).f0)) ∧ w'.cell? ⟨(ad223.add ((a2).toNat * 4)).block, (ad223.add ((a2).toNat * 4)).off + 1, none⟩ = some (.int .i64 ((rd_T38 l0_0 a2).f1)) ∧ w'.cell? ⟨(ad223.add ((a2).toNat * 4)).block, (ad223.add ((a2).toNat * 4)).off + 2, none⟩ = some (.int .i64 ((rd_T38 l0_0 a2).f2)) ∧ w'.cell? ⟨(ad223.add ((a2).toNat * 4)).block, (ad223.add ((a2).toNat * 4)).off + 3, none⟩ = some (.int .i64 ((rd_T38 l0_0 a2).f3))) (ds := []) #[false, false, false, false, false, false, false, false, false, false, false, false, false, false, false, false, false, false, false, false, false, false, false, false, false, false, false, false, false, false, false, false, false, false, false, false, false, false, false, false, false] (by kernel_rfl) rfl rfl ⟨(blk_cell BK222.out 0).trans rfl, (blk_cell BK222.out 1).trans rfl, (bl HB hw223_0), (bl HB hw223_1), (bl HB hw223_2), (bl HB hw223_3), (bl HB hw224_0), (bl HB hw224_1), (bl HB hw224_2), (bl HB hw224_3)⟩ (fun hHeld => ?_); refine with_tabW fathomref27_Source.tab1 fathomref27_Source.bits1 (fun HT_ HW_ => ?_)
  generalize w20.drew = w21 at BK222 HB hx223_0 hx223_1 hx223_2 hx223_3 hx224_0 hx224_1 hx224_2 hx224_3 hHeld ⊢
  refine pv 0 7 HT_.out ?_
  refine pv 1 8 HT_.out ?_
  refine pv 2 9 HT_.out ?_
  refine pv 3 10 HT_.out ?_
  refine pv 4 11 HT_.out ?_
  refine pv 6 13 HT_.out ?_
  refine pv 10 17 HT_.out ?_
  refine pv 12 19 HT_.out ?_
  refine take_ (i := 5) (N := some 12) (v := ?_) (a' := ?_) #[true, true, true, true, true, true, true, false, false, false, true, false, true, false, false, false, false, false, false, false, false, false, false, false, false, false, false, false, false, false, false, false, false, false, false, false, false, false, false, false, false] rfl rfl (take_ofW HT_.out HW_.out (by kernel_rfl)) (fun _ _ _ h => h) (Or.inl ⟨by rfl, ?_⟩) hHeld ?_ ?_
  rotate_left
  ·
   rintro w' ⟨s0, s1, s2, s3, s4, s5, s6, s7, s8, s9⟩
   go_simp
   with_reducible rfl
  rotate_left
  ·
   simp only [Act.put, List.setIfInBounds_toArray, List.set_cons_zero, List.set_cons_succ, i64_w, i32_w]
   rfl
  refine pv 7 14 HT_.out ?_
  refine pv 8 15 HT_.out ?_
  refine take_ (i := 9) (N := some 16) (v := ?_) (a' := ?_) #[true, true, true, true, true, true, true, true, true, true, true, false, true, false, false, false, false, false, false, false, false, false, false, false, false, false, false, false, false, false, false, false, false, false, false, false, false, false, false, false, false] rfl rfl (take_ofW HT_.out HW_.out (by kernel_rfl)) (fun _ _ _ h => h) (Or.inl ⟨by rfl, ?_⟩) hHeld ?_ ?_
  rotate_left
  ·
   rintro w' ⟨s0, s1, s2, s3, s4, s5, s6, s7, s8, s9⟩
   go_simp
   with_reducible rfl
  rotate_left
  ·
   simp only [Act.put, List.setIfInBounds_toArray, List.set_cons_zero, List.set_cons_succ, i64_w, i32_w]
   rfl
  refine take_ (i := 11) (N := some 18) (v := ?_) (a' := ?_) #[true, true, true, true, true, true, true, true, true, true, true, true, true, false, false, false, false, false, false, false, false, false, false, false, false, false, false, false, false, false, false, false, false, false, false, false, false, false, false, false, false] rfl rfl (take_ofW HT_.out HW_.out (by kernel_rfl)) (fun _ _ _ h => h) (Or.inl ⟨by rfl, ?_⟩) hHeld ?_ ?_
  rotate_left
  ·
   rintro w' ⟨s0, s1, s2, s3, s4, s5, s6, s7, s8, s9⟩
   go_simp
   with_reducible rfl
  rotate_left
  ·
   simp only [Act.put, List.setIfInBounds_toArray, List.set_cons_zero, List.set_cons_succ, i64_w, i32_w]
   rfl
  refine pv 13 20 HT_.out ?_
  refine pv 14 21 HT_.out ?_
  refine take_ (i := 15) (N := some 22) (v := ?_) (a' := ?_) #[true, true, true, true, true, true, true, true, true, true, true, true, true, true, true, true, false, false, false, false, false, false, false, false, false, false, false, false, false, false, false, false, false, false, false, false, false, false, false, false, false] rfl rfl (take_ofW HT_.out HW_.out (by kernel_rfl)) (fun _ _ _ h => h) (Or.inl ⟨by rfl, ?_⟩) hHeld ?_ ?_
  rotate_left
  ·
   rintro w' ⟨s0, s1, s2, s3, s4, s5, s6, s7, s8, s9⟩
   go_simp
   with_reducible rfl
  rotate_left
  ·
   simp only [Act.put, List.setIfInBounds_toArray, List.set_cons_zero, List.set_cons_succ, i64_w, i32_w]
   rfl
  refine pv 16 23 HT_.out ?_
  refine pv 17 24 HT_.out ?_
  refine pv 18 25 HT_.out ?_
  refine pu 19 26 HT_.out ?_
  refine pu 20 27 HT_.out ?_
  refine pu 21 28 HT_.out ?_
  refine pu 22 29 HT_.out ?_
  refine pu 23 30 HT_.out ?_
  refine pu 24 31 HT_.out ?_
  refine pu 25 32 HT_.out ?_
  refine pu 26 33 HT_.out ?_
  refine pu 27 34 HT_.out ?_
  refine pu 28 35 HT_.out ?_
  refine pu 29 36 HT_.out ?_
  refine pu 30 37 HT_.out ?_
  refine pu 31 38 HT_.out ?_
  refine pv 32 39 HT_.out ?_
  refine pv 33 40 HT_.out ?_
  refine pu 34 41 HT_.out ?_
  refine pu 35 42 HT_.out ?_
  refine pu 36 43 HT_.out ?_
  refine pu 37 44 HT_.out ?_
  refine pu 38 45 HT_.out ?_
  refine pv 39 46 HT_.out ?_
  refine pv 40 6 HT_.out ?_
  refine done_ (done_of HT_.out (by kernel_rfl)) ?_
  try go_wp2
  go_ret
  exact ⟨ew, bb⟩
 rw [if_pos c11] at H
 have c11b0 : (((rd_T38 l0_0 a1).f3) == ((rd_T38 l0_0 a2).f3)) = true := beq_iff_eq.mpr c11
 have c11b1 : (((rd_T38 l0_0 a1).f3) != ((rd_T38 l0_0 a2).f3)) = false := bne_eq_false_iff_eq.mpr c11
 clear c11
 replace H := Option.bind_eq_some_iff.mp H
 obtain ⟨t227, A120, H⟩ := H
 replace H : (if t227 = true then ((fathomref27_Ahead.f k l0_0 l0_1 a1 a2).bind fun t228 => (some (!t228))) else (some false)) = some r := H
 have A12 := Aside0.mk A120
 clear A120
 by_cases c13 : t227 = true
 rotate_left
 ·
  replace c13 := Bool.eq_false_iff.mpr c13
  subst c13
  have H1 : (some false) = some r := by rw [if_neg (show ¬ (false = true) by decide)] at H; exact H
  clear H
  have H := H1
  clear H1
  obtain rfl := Option.some.inj H
  go_enter Try.func16, Try.ntmps16
  try go_wp2_with (first | ((with_reducible refine gate_dst (N := 3) rfl ?_); refine bx 3 #[.slice A0_0 l0_0.length c0_0, .slice A0_1 l0_1.length c0_1] 25 ?_; intro gb222 hg w18 hbox hb; have BK222 := Aside0.mk (hbox); have GW222 := Aside0.mk ((bz hg : w.heap.size ≤ gb222)); have GE222 := Aside0.mk ((bz hg : w.heap.size ≤ gb222)); replace HB := Aside0.mk (below_step bb hb); clear hb hbox hg))
  have n0_ := Aside0.mk (blk_drew BK222.out)
  have n1_ := Aside0.mk (below_drew1 HB.out)
  clear BK222
  clear HB
  have BK222 := n0_
  have HB := n1_
  clear n0_ n1_
  have p223 : 0 ≤ (a1 : Int) := od
  have q223 : a1 < (l0_0.length : Int) := od
  obtain ⟨ad223, e223, hx223_0, hx223_1, hx223_2, hx223_3⟩ := at_T38 HR0_0.out a1 p223 q223
  have hw223_3 := hx223_3
  have hw223_2 := hx223_2
  have hw223_1 := hx223_1
  have hw223_0 := hx223_0
  cases e223
  replace hx223_0 := bl HB hx223_0
  replace hx223_1 := bl HB hx223_1
  replace hx223_2 := bl HB hx223_2
  replace hx223_3 := bl HB hx223_3
  replace p223 := eq_true p223
  replace q223 := eq_true q223
  have p224 : 0 ≤ (a2 : Int) := od
  have q224 : a2 < (l0_0.length : Int) := od
  obtain ⟨ad224, e224, hx224_0, hx224_1, hx224_2, hx224_3⟩ := at_T38 HR0_0.out a2 p224 q224
  have hw224_3 := hx224_3
  have hw224_2 := hx224_2
  have hw224_1 := hx224_1
  have hw224_0 := hx224_0
  obtain rfl : ad223 = ad224 := (by injection e224)
  replace hx224_0 := bl HB hx224_0
  replace hx224_1 := bl HB hx224_1
  replace hx224_2 := bl HB hx224_2
  replace hx224_3 := bl HB hx224_3
  replace p224 := eq_true p224
  replace q224 := eq_true q224
  have p225 : 0 ≤ (a2 : Int) := od
  have q225 : a2 < (l0_0.length : Int) := od
  obtain ⟨ad225, e225, hx225_0, hx225_1, hx225_2, hx225_3⟩ := at_T38 HR0_0.out a2 p225 q225
  have hw225_3 := hx225_3
  have hw225_2 := hx225_2
  have hw225_1 := hx225_1
  have hw225_0 := hx225_0
  obtain rfl : ad223 = ad225 := (by injection e225)
  replace hx225_0 := bl HB hx225_0
  replace hx225_1 := bl HB hx225_1
  replace hx225_2 := bl HB hx225_2
  replace hx225_3 := bl HB hx225_3
  replace p225 := eq_true p225
  replace q225 := eq_true q225
  have p226 : 0 ≤ (a1 : Int) := od
  have q226 : a1 < (l0_0.length : Int) := od
  obtain ⟨ad226, e226, hx226_0, hx226_1, hx226_2, hx226_3⟩ := at_T38 HR0_0.out a1 p226 q226
  have hw226_3 := hx226_3
  have hw226_2 := hx226_2
  have hw226_1 := hx226_1
  have hw226_0 := hx226_0
  obtain rfl : ad223 = ad226 := (by injection e226)
  replace hx226_0 := bl HB hx226_0
  replace hx226_1 := bl HB hx226_1
  replace hx226_2 := bl HB hx226_2
  replace hx226_3 := bl HB hx226_3
  replace p226 := eq_true p226
  replace q226 := eq_true q226
  refine start_ (n := 41) (S := fun w' => w'.cell? ⟨gb222, 0, none⟩ = some (.slice (some ad223) l0_0.length c0_0) ∧ w'.cell? ⟨gb222, 1, none⟩ = some (.slice A0_1 l0_1.length c0_1) ∧ w'.cell? (ad223.add ((a1).toNat * 4)) = some (.int .i64 ((rd_T38 l0_0 a1).f0)) ∧ w'.cell? ⟨(ad223.add ((a1).toNat * 4)).block, (ad223.add ((a1).toNat * 4)).off + 1, none⟩ = some (.int .i64 ((rd_T38 l0_0 a1).f1)) ∧ w'.cell? ⟨(ad223.add ((a1).toNat * 4)).block, (ad223.add ((a1).toNat * 4)).off + 2, none⟩ = some (.int .i64 ((rd_T38 l0_0 a1).f2)) ∧ w'.cell? ⟨(ad223.add ((a1).toNat * 4)).block, (ad223.add ((a1).toNat * 4)).off + 3, none⟩ = some (.int .i64 ((rd_T38 l0_0 a1).f3)) ∧ w'.cell? (ad223.add ((a2).toNat * 4)) = some (.int .i64 ((rd_T38 l0_0 a2).f0)) ∧ w'.cell? ⟨(ad223.add ((a2).toNat * 4)).block, (ad223.add ((a2).toNat * 4)).off + 1, none⟩ = some (.int .i64 ((rd_T38 l0_0 a2).f1)) ∧ w'.cell? ⟨(ad223.add ((a2).toNat * 4)).block, (ad223.add ((a2).toNat * 4)).off + 2, none⟩ = some (.int .i64 ((rd_T38 l0_0 a2).f2)) ∧ w'.cell? ⟨(ad223.add ((a2).toNat * 4)).block, (ad223.add ((a2).toNat * 4)).off + 3, none⟩ = some (.int .i64 ((rd_T38 l0_0 a2).f3)) ∧ w'.cell? (ad223.add ((a2).toNat * 4)) = some (.int .i64 ((rd_T38 l0_0 a2).f0)) ∧ w'.cell? ⟨(ad223.add ((a2).toNat * 4)).block, (ad223.add ((a2).toNat * 4)).off + 1, none⟩ = some (.int .i64 ((rd_T38 l0_0 a2).f1)) ∧ w'.cell? ⟨(ad223.add ((a2).toNat * 4)).block, (ad223.add ((a2).toNat * 4)).off + 2, none⟩ = some (.int .i64 ((rd_T38 l0_0 a2).f2)) ∧ w'.cell? ⟨(ad223.add ((a2).toNat * 4)).block, (ad223.add ((a2).toNat * 4)).off + 3, none⟩ = some (.int .i64 ((rd_T38 l0_0 a2).f3)) ∧ w'.cell? (ad223.add ((a1).toNat * 4)) = some (.int .i64 ((rd_T38 l0_0 a1).f0)) ∧ w'.cell? ⟨(ad223.add ((a1).toNat * 4)).block, (ad223.add ((a1).toNat * 4)).off + 1, none⟩ = some (.int .i64 ((rd_T38 l0_0 a1).f1)) ∧ w'.cell? ⟨(ad223.add ((a1).toNat * 4)).block, (ad223.add ((a1).toNat * 4)).off + 2, none⟩ = some (.int .i64 ((rd_T38 l0_0 a1).f2)) ∧ w'.cell? ⟨(ad223.add ((a1).toNat * 4)).block, (ad223.add ((a1).toNat * 4)).off + 3, none⟩ = some (.int .i64 ((rd_T38 l0_0 a1).f3))) (ds := []) #[false, false, false, false, false, false, false, false, false, false, false, false, false, false, false, false, false, false, false, false, false, false, false, false, false, false, false, false, false, false, false, false, false, false, false, false, false, false, false, false, false] (by kernel_rfl) rfl rfl ⟨(blk_cell BK222.out 0).trans rfl, (blk_cell BK222.out 1).trans rfl, (bl HB hw223_0), (bl HB hw223_1), (bl HB hw223_2), (bl HB hw223_3), (bl HB hw224_0), (bl HB hw224_1), (bl HB hw224_2), (bl HB hw224_3), (bl HB hw225_0), (bl HB hw225_1), (bl HB hw225_2), (bl HB hw225_3), (bl HB hw226_0), (bl HB hw226_1), (bl HB hw226_2), (bl HB hw226_3)⟩ (fun hHeld => ?_); refine with_tabW fathomref27_Source.tab1 fathomref27_Source.bits1 (fun HT_ HW_ => ?_)
  generalize w18.drew = w19 at BK222 HB hx223_0 hx223_1 hx223_2 hx223_3 hx224_0 hx224_1 hx224_2 hx224_3 hx225_0 hx225_1 hx225_2 hx225_3 hx226_0 hx226_1 hx226_2 hx226_3 hHeld ⊢
  refine pv 0 7 HT_.out ?_
  refine pv 1 8 HT_.out ?_
  refine pv 2 9 HT_.out ?_
  refine pv 3 10 HT_.out ?_
  refine pv 4 11 HT_.out ?_
  refine pv 6 13 HT_.out ?_
  refine pv 10 17 HT_.out ?_
  refine pv 12 19 HT_.out ?_
  refine take_ (i := 5) (N := some 12) (v := ?_) (a' := ?_) #[true, true, true, true, true, true, true, false, false, false, true, false, true, false, false, false, false, false, false, false, false, false, false, false, false, false, false, false, false, false, false, false, false, false, false, false, false, false, false, false, false] rfl rfl (take_ofW HT_.out HW_.out (by kernel_rfl)) (fun _ _ _ h => h) (Or.inl ⟨by rfl, ?_⟩) hHeld ?_ ?_
  rotate_left
  ·
   rintro w' ⟨s0, s1, s2, s3, s4, s5, s6, s7, s8, s9, s10, s11, s12, s13, s14, s15, s16, s17⟩
   go_simp
   with_reducible rfl
  rotate_left
  ·
   simp only [Act.put, List.setIfInBounds_toArray, List.set_cons_zero, List.set_cons_succ, i64_w, i32_w]
   rfl
  refine pv 7 14 HT_.out ?_
  refine pv 8 15 HT_.out ?_
  refine take_ (i := 9) (N := some 16) (v := ?_) (a' := ?_) #[true, true, true, true, true, true, true, true, true, true, true, false, true, false, false, false, false, false, false, false, false, false, false, false, false, false, false, false, false, false, false, false, false, false, false, false, false, false, false, false, false] rfl rfl (take_ofW HT_.out HW_.out (by kernel_rfl)) (fun _ _ _ h => h) (Or.inl ⟨by rfl, ?_⟩) hHeld ?_ ?_
  rotate_left
  ·
   rintro w' ⟨s0, s1, s2, s3, s4, s5, s6, s7, s8, s9, s10, s11, s12, s13, s14, s15, s16, s17⟩
   go_simp
   with_reducible rfl
  rotate_left
  ·
   simp only [Act.put, List.setIfInBounds_toArray, List.set_cons_zero, List.set_cons_succ, i64_w, i32_w]
   rfl
  refine take_ (i := 11) (N := some 18) (v := ?_) (a' := ?_) #[true, true, true, true, true, true, true, true, true, true, true, true, true, false, false, false, false, false, false, false, false, false, false, false, false, false, false, false, false, false, false, false, false, false, false, false, false, false, false, false, false] rfl rfl (take_ofW HT_.out HW_.out (by kernel_rfl)) (fun _ _ _ h => h) (Or.inl ⟨by rfl, ?_⟩) hHeld ?_ ?_
  rotate_left
  ·
   rintro w' ⟨s0, s1, s2, s3, s4, s5, s6, s7, s8, s9, s10, s11, s12, s13, s14, s15, s16, s17⟩
   go_simp
   with_reducible rfl
  rotate_left
  ·
   simp only [Act.put, List.setIfInBounds_toArray, List.set_cons_zero, List.set_cons_succ, i64_w, i32_w]
   rfl
  refine pv 13 20 HT_.out ?_
  refine pv 14 21 HT_.out ?_
  refine take_ (i := 15) (N := some 22) (v := ?_) (a' := ?_) #[true, true, true, true, true, true, true, true, true, true, true, true, true, true, true, true, false, false, false, false, false, false, false, false, false, false, false, false, false, false, false, false, false, false, false, false, false, false, false, false, false] rfl rfl (take_ofW HT_.out HW_.out (by kernel_rfl)) (fun _ _ _ h => h) (Or.inl ⟨by rfl, ?_⟩) hHeld ?_ ?_
  rotate_left
  ·
   rintro w' ⟨s0, s1, s2, s3, s4, s5, s6, s7, s8, s9, s10, s11, s12, s13, s14, s15, s16, s17⟩
   go_simp
   with_reducible rfl
  rotate_left
  ·
   simp only [Act.put, List.setIfInBounds_toArray, List.set_cons_zero, List.set_cons_succ, i64_w, i32_w]
   rfl
  refine pv 16 23 HT_.out ?_
  refine pv 17 24 HT_.out ?_
  refine pv 18 25 HT_.out ?_
  refine pv 19 26 HT_.out ?_
  refine pv 21 28 HT_.out ?_
  refine pv 25 32 HT_.out ?_
  refine pv 27 34 HT_.out ?_
  refine take_ (i := 20) (N := some 27) (v := ?_) (a' := ?_) #[true, true, true, true, true, true, true, true, true, true, true, true, true, true, true, true, true, true, true, true, true, true, false, false, false, true, false, true, false, false, false, false, false, false, false, false, false, false, false, false, false] rfl rfl (take_ofW HT_.out HW_.out (by kernel_rfl)) (fun _ _ _ h => h) (Or.inl ⟨by rfl, ?_⟩) hHeld ?_ ?_
  rotate_left
  ·
   rintro w' ⟨s0, s1, s2, s3, s4, s5, s6, s7, s8, s9, s10, s11, s12, s13, s14, s15, s16, s17⟩
   go_simp
   with_reducible rfl
  rotate_left
  ·
   simp only [Act.put, List.setIfInBounds_toArray, List.set_cons_zero, List.set_cons_succ, i64_w, i32_w]
   rfl
  refine pv 22 29 HT_.out ?_
  refine pv 23 30 HT_.out ?_
  refine take_ (i := 24) (N := some 31) (v := ?_) (a' := ?_) #[true, true, true, true, true, true, true, true, true, true, true, true, true, true, true, true, true, true, true, true, true, true, true, true, true, true, false, true, false, false, false, false, false, false, false, false, false, false, false, false, false] rfl rfl (take_ofW HT_.out HW_.out (by kernel_rfl)) (fun _ _ _ h => h) (Or.inl ⟨by rfl, ?_⟩) hHeld ?_ ?_
  rotate_left
  ·
   rintro w' ⟨s0, s1, s2, s3, s4, s5, s6, s7, s8, s9, s10, s11, s12, s13, s14, s15, s16, s17⟩
   go_simp
   with_reducible rfl
  rotate_left
  ·
   simp only [Act.put, List.setIfInBounds_toArray, List.set_cons_zero, List.set_cons_succ, i64_w, i32_w]
   rfl
  refine take_ (i := 26) (N := some 33) (v := ?_) (a' := ?_) #[true, true, true, true, true, true, true, true, true, true, true, true, true, true, true, true, true, true, true, true, true, true, true, true, true, true, true, true, false, false, false, false, false, false, false, false, false, false, false, false, false] rfl rfl (take_ofW HT_.out HW_.out (by kernel_rfl)) (fun _ _ _ h => h) (Or.inl ⟨by rfl, ?_⟩) hHeld ?_ ?_
  rotate_left
  ·
   rintro w' ⟨s0, s1, s2, s3, s4, s5, s6, s7, s8, s9, s10, s11, s12, s13, s14, s15, s16, s17⟩
   go_simp
   with_reducible rfl
  rotate_left
  ·
   simp only [Act.put, List.setIfInBounds_toArray, List.set_cons_zero, List.set_cons_succ, i64_w, i32_w]
   rfl
  refine pv 28 35 HT_.out ?_
  refine pv 29 36 HT_.out ?_
  refine take_ (i := 30) (N := some 37) (v := ?_) (a' := ?_) #[true, true, true, true, true, true, true, true, true, true, true, true, true, true, true, true, true, true, true, true, true, true, true, true, true, true, true, true, true, true, true, false, false, false, false, false, false, false, false, false, false] rfl rfl (take_ofW HT_.out HW_.out (by kernel_rfl)) (fun _ _ _ h => h) (Or.inl ⟨by rfl, ?_⟩) hHeld ?_ ?_
  rotate_left
  ·
   rintro w' ⟨s0, s1, s2, s3, s4, s5, s6, s7, s8, s9, s10, s11, s12, s13, s14, s15, s16, s17⟩
   go_simp
   with_reducible rfl
  rotate_left
  ·
   simp only [Act.put, List.setIfInBounds_toArray, List.set_cons_zero, List.set_cons_succ, i64_w, i32_w]
   rfl
  refine one_ (i := 31) (N := some 38) #[true, true, true, true, true, true, true, true, true, true, true, true, true, true, true, true, true, true, true, true, true, true, true, true, true, true, true, true, true, true, true, true, false, false, false, false, false, false, false, false, false] rfl rfl (one_of HT_.out (by kernel_rfl)) (by decide) (fun K hK => ?_)
  refine goes_ Try.func27 (by kernel_rfl) rfl #[.int .i64 ((rd_T38 l0_0 a2).f2), .int .i64 ((rd_T38 l0_0 a1).f2)] (by rfl) rfl rfl mr ?_
  with_reducible refine (fathomref27_Feeds.calls ((rd_T38 l0_0 a2).f2) ((rd_T38 l0_0 a1).f2) false _ A12.out).mono ?_
  rintro e w' ⟨rfl, ⟨nd, rfl⟩⟩
  refine ⟨_, rfl, ?_⟩
  refine hK.out _ _ ⟨(blk_cell BK222.out 0).trans rfl, (blk_cell BK222.out 1).trans rfl, (bl HB hw223_0), (bl HB hw223_1), (bl HB hw223_2), (bl HB hw223_3), (bl HB hw224_0), (bl HB hw224_1), (bl HB hw224_2), (bl HB hw224_3), (bl HB hw225_0), (bl HB hw225_1), (bl HB hw225_2), (bl HB hw225_3), (bl HB hw226_0), (bl HB hw226_1), (bl HB hw226_2), (bl HB hw226_3)⟩ (fun hHeld => ?_)
  clear hK K
  refine norm_ (a' := ?_) ?_ ?_
  rotate_left
  ·
   show Act.put _ (some 38) _ = _
   simp only [Act.put, List.setIfInBounds_toArray, List.set_cons_zero, List.set_cons_succ, i64_w, i32_w]
   rfl
  refine pv 32 39 HT_.out ?_
  refine pv 33 40 HT_.out ?_
  refine pu 34 41 HT_.out ?_
  refine pu 35 42 HT_.out ?_
  refine pu 36 43 HT_.out ?_
  refine pu 37 44 HT_.out ?_
  refine pu 38 45 HT_.out ?_
  refine pv 39 46 HT_.out ?_
  refine pv 40 6 HT_.out ?_
  refine done_ (done_of HT_.out (by kernel_rfl)) ?_
  try go_wp2
  go_ret
  exact ⟨ew, bb⟩
 subst c13
 have H1 : ((fathomref27_Ahead.f k l0_0 l0_1 a1 a2).bind fun t228 => (some (!t228))) = some r := by rw [if_pos rfl] at H; exact H
 clear H
 have H := H1
 clear H1
 replace H := Option.bind_eq_some_iff.mp H
 obtain ⟨t228, A140, H⟩ := H
 replace H : (some (!t228)) = some r := H
 have A14 := Aside0.mk A140
 clear A140
 obtain rfl := Option.some.inj H
 go_enter Try.func16, Try.ntmps16
 try go_wp2_with (first | ((with_reducible refine gate_dst (N := 3) rfl ?_); refine bx 3 #[.slice A0_0 l0_0.length c0_0, .slice A0_1 l0_1.length c0_1] 25 ?_; intro gb222 hg w15 hbox hb; have BK222 := Aside0.mk (hbox); have GW222 := Aside0.mk ((bz hg : w.heap.size ≤ gb222)); have GE222 := Aside0.mk ((bz hg : w.heap.size ≤ gb222)); replace HB := Aside0.mk (below_step bb hb); clear hb hbox hg))
 have n0_ := Aside0.mk (blk_drew BK222.out)
 have n1_ := Aside0.mk (below_drew1 HB.out)
 clear BK222
 clear HB
 have BK222 := n0_
 have HB := n1_
 clear n0_ n1_
 have p223 : 0 ≤ (a1 : Int) := od
 have q223 : a1 < (l0_0.length : Int) := od
 obtain ⟨ad223, e223, hx223_0, hx223_1, hx223_2, hx223_3⟩ := at_T38 HR0_0.out a1 p223 q223
 have hw223_3 := hx223_3
 have hw223_2 := hx223_2
 have hw223_1 := hx223_1
 have hw223_0 := hx223_0
 cases e223
 replace hx223_0 := bl HB hx223_0
 replace hx223_1 := bl HB hx223_1
 replace hx223_2 := bl HB hx223_2
 replace hx223_3 := bl HB hx223_3
 replace p223 := eq_true p223
 replace q223 := eq_true q223
 have p224 : 0 ≤ (a2 : Int) := od
 have q224 : a2 < (l0_0.length : Int) := od
 obtain ⟨ad224, e224, hx224_0, hx224_1, hx224_2, hx224_3⟩ := at_T38 HR0_0.out a2 p224 q224
 have hw224_3 := hx224_3
 have hw224_2 := hx224_2
 have hw224_1 := hx224_1
 have hw224_0 := hx224_0
 obtain rfl : ad223 = ad224 := (by injection e224)
 replace hx224_0 := bl HB hx224_0
 replace hx224_1 := bl HB hx224_1
 replace hx224_2 := bl HB hx224_2
 replace hx224_3 := bl HB hx224_3
 replace p224 := eq_true p224
 replace q224 := eq_true q224
 have p225 : 0 ≤ (a2 : Int) := od
 have q225 : a2 < (l0_0.length : Int) := od
 obtain ⟨ad225, e225, hx225_0, hx225_1, hx225_2, hx225_3⟩ := at_T38 HR0_0.out a2 p225 q225
 have hw225_3 := hx225_3
 have hw225_2 := hx225_2
 have hw225_1 := hx225_1
 have hw225_0 := hx225_0
 obtain rfl : ad223 = ad225 := (by injection e225)
 replace hx225_0 := bl HB hx225_0
 replace hx225_1 := bl HB hx225_1
 replace hx225_2 := bl HB hx225_2
 replace hx225_3 := bl HB hx225_3
 replace p225 := eq_true p225
 replace q225 := eq_true q225
 have p226 : 0 ≤ (a1 : Int) := od
 have q226 : a1 < (l0_0.length : Int) := od
 obtain ⟨ad226, e226, hx226_0, hx226_1, hx226_2, hx226_3⟩ := at_T38 HR0_0.out a1 p226 q226
 have hw226_3 := hx226_3
 have hw226_2 := hx226_2
 have hw226_1 := hx226_1
 have hw226_0 := hx226_0
 obtain rfl : ad223 = ad226 := (by injection e226)
 replace hx226_0 := bl HB hx226_0
 replace hx226_1 := bl HB hx226_1
 replace hx226_2 := bl HB hx226_2
 replace hx226_3 := bl HB hx226_3
 replace p226 := eq_true p226
 replace q226 := eq_true q226
 refine start_ (n := 41) (S := fun w' => w'.cell? ⟨gb222, 0, none⟩ = some (.slice (some ad223) l0_0.length c0_0) ∧ w'.cell? ⟨gb222, 1, none⟩ = some (.slice A0_1 l0_1.length c0_1) ∧ w'.cell? (ad223.add ((a1).toNat * 4)) = some (.int .i64 ((rd_T38 l0_0 a1).f0)) ∧ w'.cell? ⟨(ad223.add ((a1).toNat * 4)).block, (ad223.add ((a1).toNat * 4)).off + 1, none⟩ = some (.int .i64 ((rd_T38 l0_0 a1).f1)) ∧ w'.cell? ⟨(ad223.add ((a1).toNat * 4)).block, (ad223.add ((a1).toNat * 4)).off + 2, none⟩ = some (.int .i64 ((rd_T38 l0_0 a1).f2)) ∧ w'.cell? ⟨(ad223.add ((a1).toNat * 4)).block, (ad223.add ((a1).toNat * 4)).off + 3, none⟩ = some (.int .i64 ((rd_T38 l0_0 a1).f3)) ∧ w'.cell? (ad223.add ((a2).toNat * 4)) = some (.int .i64 ((rd_T38 l0_0 a2).f0)) ∧ w'.cell? ⟨(ad223.add ((a2).toNat * 4)).block, (ad223.add ((a2).toNat * 4)).off + 1, none⟩ = some (.int .i64 ((rd_T38 l0_0 a2).f1)) ∧ w'.cell? ⟨(ad223.add ((a2).toNat * 4)).block, (ad223.add ((a2).toNat * 4)).off + 2, none⟩ = some (.int .i64 ((rd_T38 l0_0 a2).f2)) ∧ w'.cell? ⟨(ad223.add ((a2).toNat * 4)).block, (ad223.add ((a2).toNat * 4)).off + 3, none⟩ = some (.int .i64 ((rd_T38 l0_0 a2).f3)) ∧ w'.cell? (ad223.add ((a2).toNat * 4)) = some (.int .i64 ((rd_T38 l0_0 a2).f0)) ∧ w'.cell? ⟨(ad223.add ((a2).toNat * 4)).block, (ad223.add ((a2).toNat * 4)).off + 1, none⟩ = some (.int .i64 ((rd_T38 l0_0 a2).f1)) ∧ w'.cell? ⟨(ad223.add ((a2).toNat * 4)).block, (ad223.add ((a2).toNat * 4)).off + 2, none⟩ = some (.int .i64 ((rd_T38 l0_0 a2).f2)) ∧ w'.cell? ⟨(ad223.add ((a2).toNat * 4)).block, (ad223.add ((a2).toNat * 4)).off + 3, none⟩ = some (.int .i64 ((rd_T38 l0_0 a2).f3)) ∧ w'.cell? (ad223.add ((a1).toNat * 4)) = some (.int .i64 ((rd_T38 l0_0 a1).f0)) ∧ w'.cell? ⟨(ad223.add ((a1).toNat * 4)).block, (ad223.add ((a1).toNat * 4)).off + 1, none⟩ = some (.int .i64 ((rd_T38 l0_0 a1).f1)) ∧ w'.cell? ⟨(ad223.add ((a1).toNat * 4)).block, (ad223.add ((a1).toNat * 4)).off + 2, none⟩ = some (.int .i64 ((rd_T38 l0_0 a1).f2)) ∧ w'.cell? ⟨(ad223.add ((a1).toNat * 4)).block, (ad223.add ((a1).toNat * 4)).off + 3, none⟩ = some (.int .i64 ((rd_T38 l0_0 a1).f3))) (ds := []) #[false, false, false, false, false, false, false, false, false, false, false, false, false, false, false, false, false, false, false, false, false, false, false, false, false, false, false, false, false, false, false, false, false, false, false, false, false, false, false, false, false] (by kernel_rfl) rfl rfl ⟨(blk_cell BK222.out 0).trans rfl, (blk_cell BK222.out 1).trans rfl, (bl HB hw223_0), (bl HB hw223_1), (bl HB hw223_2), (bl HB hw223_3), (bl HB hw224_0), (bl HB hw224_1), (bl HB hw224_2), (bl HB hw224_3), (bl HB hw225_0), (bl HB hw225_1), (bl HB hw225_2), (bl HB hw225_3), (bl HB hw226_0), (bl HB hw226_1), (bl HB hw226_2), (bl HB hw226_3)⟩ (fun hHeld => ?_); refine with_tabW fathomref27_Source.tab1 fathomref27_Source.bits1 (fun HT_ HW_ => ?_)
 generalize w15.drew = w16 at BK222 HB hx223_0 hx223_1 hx223_2 hx223_3 hx224_0 hx224_1 hx224_2 hx224_3 hx225_0 hx225_1 hx225_2 hx225_3 hx226_0 hx226_1 hx226_2 hx226_3 hHeld ⊢
 refine pv 0 7 HT_.out ?_
 refine pv 1 8 HT_.out ?_
 refine pv 2 9 HT_.out ?_
 refine pv 3 10 HT_.out ?_
 refine pv 4 11 HT_.out ?_
 refine pv 6 13 HT_.out ?_
 refine pv 10 17 HT_.out ?_
 refine pv 12 19 HT_.out ?_
 refine take_ (i := 5) (N := some 12) (v := ?_) (a' := ?_) #[true, true, true, true, true, true, true, false, false, false, true, false, true, false, false, false, false, false, false, false, false, false, false, false, false, false, false, false, false, false, false, false, false, false, false, false, false, false, false, false, false] rfl rfl (take_ofW HT_.out HW_.out (by kernel_rfl)) (fun _ _ _ h => h) (Or.inl ⟨by rfl, ?_⟩) hHeld ?_ ?_
 rotate_left
 ·
  rintro w' ⟨s0, s1, s2, s3, s4, s5, s6, s7, s8, s9, s10, s11, s12, s13, s14, s15, s16, s17⟩
  go_simp
  with_reducible rfl
 rotate_left
 ·
  simp only [Act.put, List.setIfInBounds_toArray, List.set_cons_zero, List.set_cons_succ, i64_w, i32_w]
  rfl
 refine pv 7 14 HT_.out ?_
 refine pv 8 15 HT_.out ?_
 refine take_ (i := 9) (N := some 16) (v := ?_) (a' := ?_) #[true, true, true, true, true, true, true, true, true, true, true, false, true, false, false, false, false, false, false, false, false, false, false, false, false, false, false, false, false, false, false, false, false, false, false, false, false, false, false, false, false] rfl rfl (take_ofW HT_.out HW_.out (by kernel_rfl)) (fun _ _ _ h => h) (Or.inl ⟨by rfl, ?_⟩) hHeld ?_ ?_
 rotate_left
 ·
  rintro w' ⟨s0, s1, s2, s3, s4, s5, s6, s7, s8, s9, s10, s11, s12, s13, s14, s15, s16, s17⟩
  go_simp
  with_reducible rfl
 rotate_left
 ·
  simp only [Act.put, List.setIfInBounds_toArray, List.set_cons_zero, List.set_cons_succ, i64_w, i32_w]
  rfl
 refine take_ (i := 11) (N := some 18) (v := ?_) (a' := ?_) #[true, true, true, true, true, true, true, true, true, true, true, true, true, false, false, false, false, false, false, false, false, false, false, false, false, false, false, false, false, false, false, false, false, false, false, false, false, false, false, false, false] rfl rfl (take_ofW HT_.out HW_.out (by kernel_rfl)) (fun _ _ _ h => h) (Or.inl ⟨by rfl, ?_⟩) hHeld ?_ ?_
 rotate_left
 ·
  rintro w' ⟨s0, s1, s2, s3, s4, s5, s6, s7, s8, s9, s10, s11, s12, s13, s14, s15, s16, s17⟩
  go_simp
  with_reducible rfl
 rotate_left
 ·
  simp only [Act.put, List.setIfInBounds_toArray, List.set_cons_zero, List.set_cons_succ, i64_w, i32_w]
  rfl
 refine pv 13 20 HT_.out ?_
 refine pv 14 21 HT_.out ?_
 refine take_ (i := 15) (N := some 22) (v := ?_) (a' := ?_) #[true, true, true, true, true, true, true, true, true, true, true, true, true, true, true, true, false, false, false, false, false, false, false, false, false, false, false, false, false, false, false, false, false, false, false, false, false, false, false, false, false] rfl rfl (take_ofW HT_.out HW_.out (by kernel_rfl)) (fun _ _ _ h => h) (Or.inl ⟨by rfl, ?_⟩) hHeld ?_ ?_
 rotate_left
 ·
  rintro w' ⟨s0, s1, s2, s3, s4, s5, s6, s7, s8, s9, s10, s11, s12, s13, s14, s15, s16, s17⟩
  go_simp
  with_reducible rfl
 rotate_left
 ·
  simp only [Act.put, List.setIfInBounds_toArray, List.set_cons_zero, List.set_cons_succ, i64_w, i32_w]
  rfl
 refine pv 16 23 HT_.out ?_
 refine pv 17 24 HT_.out ?_
 refine pv 18 25 HT_.out ?_
 refine pv 19 26 HT_.out ?_
 refine pv 21 28 HT_.out ?_
 refine pv 25 32 HT_.out ?_
 refine pv 27 34 HT_.out ?_
 refine take_ (i := 20) (N := some 27) (v := ?_) (a' := ?_) #[true, true, true, true, true, true, true, true, true, true, true, true, true, true, true, true, true, true, true, true, true, true, false, false, false, true, false, true, false, false, false, false, false, false, false, false, false, false, false, false, false] rfl rfl (take_ofW HT_.out HW_.out (by kernel_rfl)) (fun _ _ _ h => h) (Or.inl ⟨by rfl, ?_⟩) hHeld ?_ ?_
 rotate_left
 ·
  rintro w' ⟨s0, s1, s2, s3, s4, s5, s6, s7, s8, s9, s10, s11, s12, s13, s14, s15, s16, s17⟩
  go_simp
  with_reducible rfl
 rotate_left
 ·
  simp only [Act.put, List.setIfInBounds_toArray, List.set_cons_zero, List.set_cons_succ, i64_w, i32_w]
  rfl
 refine pv 22 29 HT_.out ?_
 refine pv 23 30 HT_.out ?_
 refine take_ (i := 24) (N := some 31) (v := ?_) (a' := ?_) #[true, true, true, true, true, true, true, true, true, true, true, true, true, true, true, true, true, true, true, true, true, true, true, true, true, true, false, true, false, false, false, false, false, false, false, false, false, false, false, false, false] rfl rfl (take_ofW HT_.out HW_.out (by kernel_rfl)) (fun _ _ _ h => h) (Or.inl ⟨by rfl, ?_⟩) hHeld ?_ ?_
 rotate_left
 ·
  rintro w' ⟨s0, s1, s2, s3, s4, s5, s6, s7, s8, s9, s10, s11, s12, s13, s14, s15, s16, s17⟩
  go_simp
  with_reducible rfl
 rotate_left
 ·
  simp only [Act.put, List.setIfInBounds_toArray, List.set_cons_zero, List.set_cons_succ, i64_w, i32_w]
  rfl
 refine take_ (i := 26) (N := some 33) (v := ?_) (a' := ?_) #[true, true, true, true, true, true, true, true, true, true, true, true, true, true, true, true, true, true, true, true, true, true, true, true, true, true, true, true, false, false, false, false, false, false, false, false, false, false, false, false, false] rfl rfl (take_ofW HT_.out HW_.out (by kernel_rfl)) (fun _ _ _ h => h) (Or.inl ⟨by rfl, ?_⟩) hHeld ?_ ?_
 rotate_left
 ·
  rintro w' ⟨s0, s1, s2, s3, s4, s5, s6, s7, s8, s9, s10, s11, s12, s13, s14, s15, s16, s17⟩
  go_simp
  with_reducible rfl
 rotate_left
 ·
  simp only [Act.put, List.setIfInBounds_toArray, List.set_cons_zero, List.set_cons_succ, i64_w, i32_w]
  rfl
 refine pv 28 35 HT_.out ?_
 refine pv 29 36 HT_.out ?_
 refine take_ (i := 30) (N := some 37) (v := ?_) (a' := ?_) #[true, true, true, true, true, true, true, true, true, true, true, true, true, true, true, true, true, true, true, true, true, true, true, true, true, true, true, true, true, true, true, false, false, false, false, false, false, false, false, false, false] rfl rfl (take_ofW HT_.out HW_.out (by kernel_rfl)) (fun _ _ _ h => h) (Or.inl ⟨by rfl, ?_⟩) hHeld ?_ ?_
 rotate_left
 ·
  rintro w' ⟨s0, s1, s2, s3, s4, s5, s6, s7, s8, s9, s10, s11, s12, s13, s14, s15, s16, s17⟩
  go_simp
  with_reducible rfl
 rotate_left
 ·
  simp only [Act.put, List.setIfInBounds_toArray, List.set_cons_zero, List.set_cons_succ, i64_w, i32_w]
  rfl
 refine one_ (i := 31) (N := some 38) #[true, true, true, true, true, true, true, true, true, true, true, true, true, true, true, true, true, true, true, true, true, true, true, true, true, true, true, true, true, true, true, true, false, false, false, false, false, false, false, false, false] rfl rfl (one_of HT_.out (by kernel_rfl)) (by decide) (fun K hK => ?_)
 refine goes_ Try.func27 (by kernel_rfl) rfl #[.int .i64 ((rd_T38 l0_0 a2).f2), .int .i64 ((rd_T38 l0_0 a1).f2)] (by rfl) rfl rfl mr ?_
 with_reducible refine (fathomref27_Feeds.calls ((rd_T38 l0_0 a2).f2) ((rd_T38 l0_0 a1).f2) true _ A12.out).mono ?_
 rintro e w' ⟨rfl, ⟨nd, rfl⟩⟩
 refine ⟨_, rfl, ?_⟩
 refine hK.out _ _ ⟨(blk_cell BK222.out 0).trans rfl, (blk_cell BK222.out 1).trans rfl, (bl HB hw223_0), (bl HB hw223_1), (bl HB hw223_2), (bl HB hw223_3), (bl HB hw224_0), (bl HB hw224_1), (bl HB hw224_2), (bl HB hw224_3), (bl HB hw225_0), (bl HB hw225_1), (bl HB hw225_2), (bl HB hw225_3), (bl HB hw226_0), (bl HB hw226_1), (bl HB hw226_2), (bl HB hw226_3)⟩ (fun hHeld => ?_)
 clear hK K
 refine norm_ (a' := ?_) ?_ ?_
 rotate_left
 ·
  show Act.put _ (some 38) _ = _
  simp only [Act.put, List.setIfInBounds_toArray, List.set_cons_zero, List.set_cons_succ, i64_w, i32_w]
  rfl
 refine pv 32 39 HT_.out ?_
 refine pv 33 40 HT_.out ?_
 refine pv 35 42 HT_.out ?_
 refine pv 36 43 HT_.out ?_
 refine take_ (i := 34) (N := some 41) (v := ?_) (a' := ?_) #[true, true, true, true, true, true, true, true, true, true, true, true, true, true, true, true, true, true, true, true, true, true, true, true, true, true, true, true, true, true, true, true, true, true, true, true, true, false, false, false, false] rfl rfl (take_ofW HT_.out HW_.out (by kernel_rfl)) (fun _ _ _ h => h) (Or.inl ⟨by rfl, ?_⟩) hHeld ?_ ?_
 rotate_left
 ·
  rintro w' ⟨s0, s1, s2, s3, s4, s5, s6, s7, s8, s9, s10, s11, s12, s13, s14, s15, s16, s17⟩
  go_simp
  with_reducible rfl
 rotate_left
 ·
  simp only [Act.put, List.setIfInBounds_toArray, List.set_cons_zero, List.set_cons_succ, i64_w, i32_w]
  rfl
 refine one_ (i := 37) (N := some 44) #[true, true, true, true, true, true, true, true, true, true, true, true, true, true, true, true, true, true, true, true, true, true, true, true, true, true, true, true, true, true, true, true, true, true, true, true, true, true, false, false, false] rfl rfl (one_of HT_.out (by kernel_rfl)) (by decide) (fun K hK => ?_)
 refine goes_ Try.func15 (by kernel_rfl) rfl #[.agg #[.slice (some ad223) l0_0.length c0_0, .slice A0_1 l0_1.length c0_1], .int .i64 a1, .int .i64 a2] (by rfl) rfl rfl mr ?_
 with_reducible refine (fathomref27_Ahead.calls k _ _ l0_0 _ _ l0_1 a1 a2 t228 _ ?side1 ?side2 ?side3 ?side4 A14.out).mono ?_
 (case side1 => repeat (first | exact (Kd.C_below HR0_0.out bb) | (with_reducible refine Kd.C_alloc ?_ _) | (with_reducible refine Kd.C_drewN ?_ _) | (with_reducible refine Kd.C_drew ?_)))
 (case side2 => exact HC0_0.out)
 (case side3 => repeat (first | exact (Kd.C_below HR0_1.out bb) | (with_reducible refine Kd.C_alloc ?_ _) | (with_reducible refine Kd.C_drewN ?_ _) | (with_reducible refine Kd.C_drew ?_)))
 (case side4 => exact HC0_1.out)
 rintro e w17 ⟨rfl, hb⟩
 refine ⟨_, rfl, ?_⟩
 have n0_ := Aside0.mk (bw BK222 hb)
 have n1_ := Aside0.mk (below_step bb hb)
 clear BK222
 clear HB
 have BK222 := n0_
 have HB := n1_
 clear n0_ n1_
 (try clear hb)
 (try clear hb2)
 (try clear hk)
 (try clear hi)
 refine hK.out _ _ ⟨(blk_cell BK222.out 0).trans rfl, (blk_cell BK222.out 1).trans rfl, (bl HB hw223_0), (bl HB hw223_1), (bl HB hw223_2), (bl HB hw223_3), (bl HB hw224_0), (bl HB hw224_1), (bl HB hw224_2), (bl HB hw224_3), (bl HB hw225_0), (bl HB hw225_1), (bl HB hw225_2), (bl HB hw225_3), (bl HB hw226_0), (bl HB hw226_1), (bl HB hw226_2), (bl HB hw226_3)⟩ (fun hHeld => ?_)
 clear hK K
 refine norm_ (a' := ?_) ?_ ?_
 rotate_left
 ·
  show Act.put _ (some 44) _ = _
  simp only [Act.put, List.setIfInBounds_toArray, List.set_cons_zero, List.set_cons_succ, i64_w, i32_w]
  rfl
 refine pv 38 45 HT_.out ?_
 refine pv 39 46 HT_.out ?_
 refine pv 40 6 HT_.out ?_
 refine done_ (done_of HT_.out (by kernel_rfl)) ?_
 try go_wp2
 go_ret
 exact ⟨ew, bb⟩

end Go.Proofs.Ytcoelecaigkfcaa.K
