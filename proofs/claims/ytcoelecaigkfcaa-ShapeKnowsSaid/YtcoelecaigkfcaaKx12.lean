-- Laid by drive.py (a program of the session's) out of the translation. Lean checks it.
import Derived.Test.YtcoelecaigkfcaaKx0
import Derived.Test.YtcoelecaigkfcaaKx10
namespace Go.Proofs.Ytcoelecaigkfcaa.K
open Go.RowKit Go.Proofs.YtcoelecaigkfcaaW.PrintWords Go.Proofs.YtcoelecaigkfcaaW.PrintLast
set_option linter.unusedVariables false
set_option linter.unusedSimpArgs false

/-! ### fathomref27_Rival: function 17 -/
def fathomref27_Rival.f (k : Nat) (l0_0 : List (S38)) (l0_1 : List Int) (a1 : Int) (a2 : Int) : Option (Bool) := if 0 ≤ a1 then (if a1 < (l0_0.length : Int) then (if 0 ≤ a2 then (if a2 < (l0_0.length : Int) then (if ((rd_T38 l0_0 a1).f2) ≤ 2 then (if ((rd_T38 l0_0 a2).f2) ≤ 2 then (if ((rd_T38 l0_0 a1).f0) = ((rd_T38 l0_0 a2).f0) then (some false) else (if ((rd_T38 l0_0 a1).f3) = ((rd_T38 l0_0 a2).f3) then (if ((rd_T38 l0_0 a1).f2) = 2 then ((fathomref27_Ahead.f k l0_0 l0_1 a1 a2).bind fun t234 => (if t234 = true then (some false) else ((fathomref27_Ahead.f k l0_0 l0_1 a2 a1).bind fun t235 => (some (!t235))))) else (if ((rd_T38 l0_0 a2).f2) = 2 then ((fathomref27_Ahead.f k l0_0 l0_1 a1 a2).bind fun t236 => (if t236 = true then (some false) else ((fathomref27_Ahead.f k l0_0 l0_1 a2 a1).bind fun t237 => (some (!t237))))) else (some false))) else (some false))) else (some false)) else (some false)) else (none)) else (none)) else (none)) else (none)
theorem fathomref27_Rival.mono : ∀ a0 a1 a2 a3 k, LeO (fathomref27_Rival.f k a0 a1 a2 a3) (fathomref27_Rival.f (k + 1) a0 a1 a2 a3) := by
  intro a0 a1 a2 a3 k
  unfold fathomref27_Rival.f
  repeat' first
      | (with_reducible exact fathomref27_Ahead.mono _ _ _ _ _)
      | (with_reducible exact LeO.refl _)
      | (with_reducible exact LeO.none _)
      | (with_reducible refine LeO.ite ?_ ?_)
      | (with_reducible refine LeO.bind ?_ (fun _ => ?_))
      | exact fathomref27_Ahead.mono _ _ _ _ _
      | exact LeO.none _
      | refine LeO.ite ?_ ?_
      | refine LeO.bind ?_ (fun _ => ?_)
def fathomref27_Rival.T1 : Bool × List (List Nat × List Nat) := (true, [([], []), ([0], [0]), ([], []), ([1, 2], [1, 2]), ([3], [3]), ([], []), ([5], [5]), ([], []), ([6, 7], [6, 7]), ([8], [8]), ([], []), ([], []), ([10, 4, 0, 1, 2, 3, 4, 10, 11], [4, 10]), ([11, 9, 12, 0, 1, 2, 3, 4, 5, 6, 7, 8, 9, 10, 11, 12], [9, 11])])
def fathomref27_Rival.B1 : List Nat := [0, 1, 0, 7, 15, 0, 32, 0, 224, 480, 0, 0, 3103, 8191]
theorem fathomref27_Rival.tab1 : rtab .any (opsOf Try.f17 1) = fathomref27_Rival.T1 := by kernel_rfl
theorem fathomref27_Rival.bits1 : waitsOk fathomref27_Rival.T1.2 fathomref27_Rival.B1 = true := by kernel_rfl
set_option maxHeartbeats 8000000 in
set_option maxRecDepth 100000 in
theorem fathomref27_Rival.calls (k : Nat) (A0_0 : Option Addr) (c0_0 : Nat) (l0_0 : List (S38)) (A0_1 : Option Addr) (c0_1 : Nat) (l0_1 : List Int) (a1 : Int) (a2 : Int) (r : Bool) (w : World) (hr0_0 : Kd.C k38 w A0_0 l0_0.length l0_0) (hc0_0 : l0_0.length ≤ c0_0) (hr0_1 : Kd.C (Kd.int .i64) w A0_1 l0_1.length l0_1) (hc0_1 : l0_1.length ≤ c0_1) (h : fathomref27_Rival.f k l0_0 l0_1 a1 a2 = some r) :
    Calls Try.prog 17 #[.agg #[.slice A0_0 l0_0.length c0_0, .slice A0_1 l0_1.length c0_1], .int .i64 a1, .int .i64 a2] w fun e w' => e = .returned (.bool r) ∧ Below w.heap.size w w' := by
 have hu25 := Try.underlying25
 have hu38 := Try.underlying38
 have HR0_0 := Aside0.mk hr0_0
 have HC0_0 := Aside0.mk hc0_0
 clear hr0_0 hc0_0
 have HR0_1 := Aside0.mk hr0_1
 have HC0_1 := Aside0.mk hc0_1
 clear hr0_1 hc0_1
 have HB := Aside0.mk (Below.refl w.heap.size w)
 have H : (if 0 ≤ a1 then (if a1 < (l0_0.length : Int) then (if 0 ≤ a2 then (if a2 < (l0_0.length : Int) then (if ((rd_T38 l0_0 a1).f2) ≤ 2 then (if ((rd_T38 l0_0 a2).f2) ≤ 2 then (if ((rd_T38 l0_0 a1).f0) = ((rd_T38 l0_0 a2).f0) then (some false) else (if ((rd_T38 l0_0 a1).f3) = ((rd_T38 l0_0 a2).f3) then (if ((rd_T38 l0_0 a1).f2) = 2 then ((fathomref27_Ahead.f k l0_0 l0_1 a1 a2).bind fun t234 => (if t234 = true then (some false) else ((fathomref27_Ahead.f k l0_0 l0_1 a2 a1).bind fun t235 => (some (!t235))))) else (if ((rd_T38 l0_0 a2).f2) = 2 then ((fathomref27_Ahead.f k l0_0 l0_1 a1 a2).bind fun t236 => (if t236 = true then (some false) else ((fathomref27_Ahead.f k l0_0 l0_1 a2 a1).bind fun t237 => (some (!t237))))) else (some false))) else (some false))) else (some false)) else (some false)) else (none)) else (none)) else (none)) else (none)) = some r := h
 clear h
 by_cases c4 : 0 ≤ a1
 rotate_left
 ·
  rw [if_neg c4] at H
  exact absurd H (by simp)
 rw [if_pos c4] at H
 have c4b0 : decide (0 ≤ a1) = true := decide_eq_true c4
 clear c4
 by_cases c5 : a1 < (l0_0.length : Int)
 rotate_left
 ·
  rw [if_neg c5] at H
  exact absurd H (by simp)
 rw [if_pos c5] at H
 have c5b0 : decide (a1 < (l0_0.length : Int)) = true := decide_eq_true c5
 clear c5
 by_cases c6 : 0 ≤ a2
 rotate_left
 ·
  rw [if_neg c6] at H
  exact absurd H (by simp)
 rw [if_pos c6] at H
 have c6b0 : decide (0 ≤ a2) = true := decide_eq_true c6
 clear c6
 by_cases c7 : a2 < (l0_0.length : Int)
 rotate_left
 ·
  rw [if_neg c7] at H
  exact absurd H (by simp)
 rw [if_pos c7] at H
 have c7b0 : decide (a2 < (l0_0.length : Int)) = true := decide_eq_true c7
 clear c7
 have HX_ := Aside0.mk H
 clear H
 go_enter Try.func17, Try.ntmps17
 try go_wp2_with (first | ((with_reducible refine gate_dst (N := 3) rfl ?_); refine bx 3 #[.slice A0_0 l0_0.length c0_0, .slice A0_1 l0_1.length c0_1] 25 ?_; intro gb229 hg w176 hbox hb; have BK229 := Aside0.mk (hbox); have GW229 := Aside0.mk ((bz hg : w.heap.size ≤ gb229)); have GE229 := Aside0.mk ((bz hg : w.heap.size ≤ gb229)); replace HB := Aside0.mk (below_step bb hb); clear hb hbox hg))
 have n0_ := Aside0.mk (blk_drew BK229.out)
 have n1_ := Aside0.mk (below_drew1 HB.out)
 clear BK229
 clear HB
 have BK229 := n0_
 have HB := n1_
 clear n0_ n1_
 have p230 : 0 ≤ (a1 : Int) := od
 have q230 : a1 < (l0_0.length : Int) := od
 obtain ⟨ad230, e230, hx230_0, hx230_1, hx230_2, hx230_3⟩ := at_T38 HR0_0.out a1 p230 q230
 have hw230_3 := hx230_3
 have hw230_2 := hx230_2
 have hw230_1 := hx230_1
 have hw230_0 := hx230_0
 cases e230
 replace hx230_0 := bl HB hx230_0
 replace hx230_1 := bl HB hx230_1
 replace hx230_2 := bl HB hx230_2
 replace hx230_3 := bl HB hx230_3
 replace p230 := eq_true p230
 replace q230 := eq_true q230
 have p231 : 0 ≤ (a2 : Int) := od
 have q231 : a2 < (l0_0.length : Int) := od
 obtain ⟨ad231, e231, hx231_0, hx231_1, hx231_2, hx231_3⟩ := at_T38 HR0_0.out a2 p231 q231
 have hw231_3 := hx231_3
 have hw231_2 := hx231_2
 have hw231_1 := hx231_1
 have hw231_0 := hx231_0
 obtain rfl : ad230 = ad231 := (by injection e231)
 replace hx231_0 := bl HB hx231_0
 replace hx231_1 := bl HB hx231_1
 replace hx231_2 := bl HB hx231_2
 replace hx231_3 := bl HB hx231_3
 replace p231 := eq_true p231
 replace q231 := eq_true q231
 refine start_ (n := 14) (S := fun w' => w'.cell? ⟨gb229, 0, none⟩ = some (.slice (some ad230) l0_0.length c0_0) ∧ w'.cell? ⟨gb229, 1, none⟩ = some (.slice A0_1 l0_1.length c0_1) ∧ w'.cell? (ad230.add ((a1).toNat * 4)) = some (.int .i64 ((rd_T38 l0_0 a1).f0)) ∧ w'.cell? ⟨(ad230.add ((a1).toNat * 4)).block, (ad230.add ((a1).toNat * 4)).off + 1, none⟩ = some (.int .i64 ((rd_T38 l0_0 a1).f1)) ∧ w'.cell? ⟨(ad230.add ((a1).toNat * 4)).block, (ad230.add ((a1).toNat * 4)).off + 2, none⟩ = some (.int .i64 ((rd_T38 l0_0 a1).f2)) ∧ w'.cell? ⟨(ad230.add ((a1).toNat * 4)).block, (ad230.add ((a1).toNat * 4)).off + 3, none⟩ = some (.int .i64 ((rd_T38 l0_0 a1).f3)) ∧ w'.cell? (ad230.add ((a2).toNat * 4)) = some (.int .i64 ((rd_T38 l0_0 a2).f0)) ∧ w'.cell? ⟨(ad230.add ((a2).toNat * 4)).block, (ad230.add ((a2).toNat * 4)).off + 1, none⟩ = some (.int .i64 ((rd_T38 l0_0 a2).f1)) ∧ w'.cell? ⟨(ad230.add ((a2).toNat * 4)).block, (ad230.add ((a2).toNat * 4)).off + 2, none⟩ = some (.int .i64 ((rd_T38 l0_0 a2).f2)) ∧ w'.cell? ⟨(ad230.add ((a2).toNat * 4)).block, (ad230.add ((a2).toNat * 4)).off + 3, none⟩ = some (.int .i64 ((rd_T38 l0_0 a2).f3))) (ds := []) #[false, false, false, false, false, false, false, false, false, false, false, false, false, false] (by kernel_rfl) rfl rfl ⟨(blk_cell BK229.out 0).trans rfl, (blk_cell BK229.out 1).trans rfl, (bl HB hw230_0), (bl HB hw230_1), (bl HB hw230_2), (bl HB hw230_3), (bl HB hw231_0), (bl HB hw231_1), (bl HB hw231_2), (bl HB hw231_3)⟩ (fun hHeld => ?_); refine with_tabW fathomref27_Rival.tab1 fathomref27_Rival.bits1 (fun HT_ HW_ => ?_)
 generalize w176.drew = w177 at BK229 HB hx230_0 hx230_1 hx230_2 hx230_3 hx231_0 hx231_1 hx231_2 hx231_3 hHeld ⊢
 refine pv 0 10 HT_.out ?_
 refine pv 2 12 HT_.out ?_
 refine pv 5 15 HT_.out ?_
 refine pv 7 17 HT_.out ?_
 refine take_ (i := 1) (N := some 11) (v := ?_) (a' := ?_) #[true, true, true, false, false, true, false, true, false, false, false, false, false, false] rfl rfl (take_ofW HT_.out HW_.out (by kernel_rfl)) (fun _ _ _ h => h) (Or.inl ⟨by rfl, ?_⟩) hHeld ?_ ?_
 rotate_left
 ·
  rintro w' ⟨s0, s1, s2, s3, s4, s5, s6, s7, s8, s9⟩
  go_simp
  with_reducible rfl
 rotate_left
 ·
  simp only [Act.put, List.setIfInBounds_toArray, List.set_cons_zero, List.set_cons_succ, i64_w, i32_w]
  rfl
 refine pv 3 13 HT_.out ?_
 refine take_ (i := 4) (N := some 14) (v := ?_) (a' := ?_) #[true, true, true, true, true, true, false, true, false, false, false, false, false, false] rfl rfl (take_ofW HT_.out HW_.out (by kernel_rfl)) (fun _ _ _ h => h) (Or.inl ⟨by rfl, ?_⟩) hHeld ?_ ?_
 rotate_left
 ·
  rintro w' ⟨s0, s1, s2, s3, s4, s5, s6, s7, s8, s9⟩
  go_simp
  with_reducible rfl
 rotate_left
 ·
  simp only [Act.put, List.setIfInBounds_toArray, List.set_cons_zero, List.set_cons_succ, i64_w, i32_w]
  rfl
 refine take_ (i := 6) (N := some 16) (v := ?_) (a' := ?_) #[true, true, true, true, true, true, true, true, false, false, false, false, false, false] rfl rfl (take_ofW HT_.out HW_.out (by kernel_rfl)) (fun _ _ _ h => h) (Or.inl ⟨by rfl, ?_⟩) hHeld ?_ ?_
 rotate_left
 ·
  rintro w' ⟨s0, s1, s2, s3, s4, s5, s6, s7, s8, s9⟩
  go_simp
  with_reducible rfl
 rotate_left
 ·
  simp only [Act.put, List.setIfInBounds_toArray, List.set_cons_zero, List.set_cons_succ, i64_w, i32_w]
  rfl
 refine pv 8 18 HT_.out ?_
 refine take_ (i := 9) (N := some 19) (v := ?_) (a' := ?_) #[true, true, true, true, true, true, true, true, true, true, false, false, false, false] rfl rfl (take_ofW HT_.out HW_.out (by kernel_rfl)) (fun _ _ _ h => h) (Or.inl ⟨by rfl, ?_⟩) hHeld ?_ ?_
 rotate_left
 ·
  rintro w' ⟨s0, s1, s2, s3, s4, s5, s6, s7, s8, s9⟩
  go_simp
  with_reducible rfl
 rotate_left
 ·
  simp only [Act.put, List.setIfInBounds_toArray, List.set_cons_zero, List.set_cons_succ, i64_w, i32_w]
  rfl
 refine join_ (σ := Nat × Nat) 2 #[true, true, true, true, true, true, true, true, true, true, true, true, false, false] (fun s_ => [(7, .pointer (some ⟨s_.1, 0, none⟩)), (8, .pointer (some ⟨s_.2, 0, none⟩))]) (fun s_ w' => (w'.cell? ⟨gb229, 0, none⟩ = some (.slice (some ad230) l0_0.length c0_0) ∧ w'.cell? ⟨gb229, 1, none⟩ = some (.slice A0_1 l0_1.length c0_1) ∧ w'.cell? (ad230.add ((a1).toNat * 4)) = some (.int .i64 ((rd_T38 l0_0 a1).f0)) ∧ w'.cell? ⟨(ad230.add ((a1).toNat * 4)).block, (ad230.add ((a1).toNat * 4)).off + 1, none⟩ = some (.int .i64 ((rd_T38 l0_0 a1).f1)) ∧ w'.cell? ⟨(ad230.add ((a1).toNat * 4)).block, (ad230.add ((a1).toNat * 4)).off + 2, none⟩ = some (.int .i64 ((rd_T38 l0_0 a1).f2)) ∧ w'.cell? ⟨(ad230.add ((a1).toNat * 4)).block, (ad230.add ((a1).toNat * 4)).off + 3, none⟩ = some (.int .i64 ((rd_T38 l0_0 a1).f3)) ∧ w'.cell? (ad230.add ((a2).toNat * 4)) = some (.int .i64 ((rd_T38 l0_0 a2).f0)) ∧ w'.cell? ⟨(ad230.add ((a2).toNat * 4)).block, (ad230.add ((a2).toNat * 4)).off + 1, none⟩ = some (.int .i64 ((rd_T38 l0_0 a2).f1)) ∧ w'.cell? ⟨(ad230.add ((a2).toNat * 4)).block, (ad230.add ((a2).toNat * 4)).off + 2, none⟩ = some (.int .i64 ((rd_T38 l0_0 a2).f2)) ∧ w'.cell? ⟨(ad230.add ((a2).toNat * 4)).block, (ad230.add ((a2).toNat * 4)).off + 3, none⟩ = some (.int .i64 ((rd_T38 l0_0 a2).f3))) ∧ (w'.heap[gb229]? = some (.cells #[.slice (some ad230) l0_0.length c0_0, .slice A0_1 l0_1.length c0_1] 25 (0, 0))) ∧ (w'.heap[s_.1]? = some (.cells #[.int .i64 0, .int .i64 0, .int .i64 0, .int .i64 0] 38 (0, 0))) ∧ (w'.heap[s_.2]? = some (.cells #[.int .i64 0, .int .i64 0, .int .i64 0, .int .i64 0] 38 (0, 0))) ∧ (w.heap.size ≤ s_.1) ∧ (w.heap.size ≤ s_.1) ∧ (gb229 ≠ s_.1) ∧ (s_.1 ≠ gb229) ∧ (s_.2 ≠ s_.1) ∧ (s_.1 ≠ s_.2) ∧ (w.heap.size ≤ s_.2) ∧ (w.heap.size ≤ s_.2) ∧ (gb229 ≠ s_.2) ∧ (s_.2 ≠ gb229) ∧ (Below w.heap.size w w')) ?_ ?_
 rotate_left
 ·
  intro hCont
  refine two_ (i := 10) (j := 11) (Ni := some 7) (Nj := some 8) #[true, true, true, true, true, true, true, true, true, true, true, false, false, false] #[true, true, true, true, true, true, true, true, true, true, false, true, false, false] rfl rfl rfl rfl (two_of HT_.out (by kernel_rfl)) (by decide) (by decide) (fun K hK => ?_) (fun K hK => ?_)
  ·
   skip
   refine box_step ?hg (N := 7) ?hd (cs := #[.int .i64 0, .int .i64 0, .int .i64 0, .int .i64 0]) (t := 38) ?hr ?_; (case hd => rfl); (case hg => rfl); (case hr => first | (go_simp; done) | (go_simp; rfl))
   intro gb232 hg w178 hbox hb
   have n0_ := Aside0.mk (bw BK229 hb)
   have n1_ := Aside0.mk (below_step bb hb)
   have n2_ := Aside0.mk (hbox)
   have n3_ := Aside0.mk ((bz hg : w.heap.size ≤ gb232))
   have n4_ := Aside0.mk ((bz hg : w.heap.size ≤ gb232))
   have n5_ := Aside0.mk (nl BK229 hg)
   have n6_ := Aside0.mk (ng BK229 hg)
   clear BK229
   clear HB
   have BK229 := n0_
   have HB := n1_
   have BK232 := n2_
   have GW232 := n3_
   have GE232 := n4_
   have NB229_232 := n5_
   have NB232_229 := n6_
   clear n0_ n1_ n2_ n3_ n4_ n5_ n6_
   clear hb hbox hg
   refine hK.out _ _ ⟨(blk_cell BK229.out 0).trans rfl, (blk_cell BK229.out 1).trans rfl, (bl HB hw230_0), (bl HB hw230_1), (bl HB hw230_2), (bl HB hw230_3), (bl HB hw231_0), (bl HB hw231_1), (bl HB hw231_2), (bl HB hw231_3)⟩ (fun hHeld => ?_)
   clear hK K
   refine norm_ (a' := ?_) ?_ ?_
   rotate_left
   ·
    show Act.put _ (some 7) _ = _
    simp only [Act.put, List.setIfInBounds_toArray, List.set_cons_zero, List.set_cons_succ, i64_w, i32_w]
    rfl
   refine one_ (i := 11) (N := some 8) #[true, true, true, true, true, true, true, true, true, true, true, true, false, false] rfl rfl (one_of HT_.out (by kernel_rfl)) (by decide) (fun K hK => ?_)
   refine box_step ?hg (N := 8) ?hd (cs := #[.int .i64 0, .int .i64 0, .int .i64 0, .int .i64 0]) (t := 38) ?hr ?_; (case hd => rfl); (case hg => rfl); (case hr => first | (go_simp; done) | (go_simp; rfl))
   intro gb233 hg w179 hbox hb
   have n0_ := Aside0.mk (bw BK229 hb)
   have n1_ := Aside0.mk (bw BK232 hb)
   have n2_ := Aside0.mk (below_step bb hb)
   have n3_ := Aside0.mk (hbox)
   have n4_ := Aside0.mk ((bz hg : w.heap.size ≤ gb233))
   have n5_ := Aside0.mk ((bz hg : w.heap.size ≤ gb233))
   have n6_ := Aside0.mk (nl BK229 hg)
   have n7_ := Aside0.mk (ng BK229 hg)
   have n8_ := Aside0.mk (nl BK232 hg)
   have n9_ := Aside0.mk (ng BK232 hg)
   clear BK229
   clear BK232
   clear HB
   have BK229 := n0_
   have BK232 := n1_
   have HB := n2_
   have BK233 := n3_
   have GW233 := n4_
   have GE233 := n5_
   have NB229_233 := n6_
   have NB233_229 := n7_
   have NB232_233 := n8_
   have NB233_232 := n9_
   clear n0_ n1_ n2_ n3_ n4_ n5_ n6_ n7_ n8_ n9_
   clear hb hbox hg
   refine hK.out _ _ ⟨(blk_cell BK229.out 0).trans rfl, (blk_cell BK229.out 1).trans rfl, (bl HB hw230_0), (bl HB hw230_1), (bl HB hw230_2), (bl HB hw230_3), (bl HB hw231_0), (bl HB hw231_1), (bl HB hw231_2), (bl HB hw231_3)⟩ (fun hHeld => ?_)
   clear hK K
   refine norm_ (a' := ?_) ?_ ?_
   rotate_left
   ·
    show Act.put _ (some 8) _ = _
    simp only [Act.put, List.setIfInBounds_toArray, List.set_cons_zero, List.set_cons_succ, i64_w, i32_w]
    rfl
   exact norm_ (by simp only [putAll, Act.put, List.setIfInBounds_toArray, List.set_cons_zero, List.set_cons_succ]) (hCont (gb232, gb233) _ ⟨hHeld, (bk BK229), (bk BK232), (bk BK233), GW232.out, GE232.out, NB229_232.out, NB232_229.out, NB233_232.out, NB232_233.out, GW233.out, GE233.out, NB229_233.out, NB233_229.out, bb⟩)
  skip
  refine box_step ?hg (N := 8) ?hd (cs := #[.int .i64 0, .int .i64 0, .int .i64 0, .int .i64 0]) (t := 38) ?hr ?_; (case hd => rfl); (case hg => rfl); (case hr => first | (go_simp; done) | (go_simp; rfl))
  intro gb233 hg w178 hbox hb
  have n0_ := Aside0.mk (bw BK229 hb)
  have n1_ := Aside0.mk (below_step bb hb)
  have n2_ := Aside0.mk (hbox)
  have n3_ := Aside0.mk ((bz hg : w.heap.size ≤ gb233))
  have n4_ := Aside0.mk ((bz hg : w.heap.size ≤ gb233))
  have n5_ := Aside0.mk (nl BK229 hg)
  have n6_ := Aside0.mk (ng BK229 hg)
  clear BK229
  clear HB
  have BK229 := n0_
  have HB := n1_
  have BK233 := n2_
  have GW233 := n3_
  have GE233 := n4_
  have NB229_233 := n5_
  have NB233_229 := n6_
  clear n0_ n1_ n2_ n3_ n4_ n5_ n6_
  clear hb hbox hg
  refine hK.out _ _ ⟨(blk_cell BK229.out 0).trans rfl, (blk_cell BK229.out 1).trans rfl, (bl HB hw230_0), (bl HB hw230_1), (bl HB hw230_2), (bl HB hw230_3), (bl HB hw231_0), (bl HB hw231_1), (bl HB hw231_2), (bl HB hw231_3)⟩ (fun hHeld => ?_)
  clear hK K
  refine norm_ (a' := ?_) ?_ ?_
  rotate_left
  ·
   show Act.put _ (some 8) _ = _
   simp only [Act.put, List.setIfInBounds_toArray, List.set_cons_zero, List.set_cons_succ, i64_w, i32_w]
   rfl
  refine one_ (i := 10) (N := some 7) #[true, true, true, true, true, true, true, true, true, true, true, true, false, false] rfl rfl (one_of HT_.out (by kernel_rfl)) (by decide) (fun K hK => ?_)
  refine box_step ?hg (N := 7) ?hd (cs := #[.int .i64 0, .int .i64 0, .int .i64 0, .int .i64 0]) (t := 38) ?hr ?_; (case hd => rfl); (case hg => rfl); (case hr => first | (go_simp; done) | (go_simp; rfl))
  intro gb232 hg w179 hbox hb
  have n0_ := Aside0.mk (bw BK229 hb)
  have n1_ := Aside0.mk (bw BK233 hb)
  have n2_ := Aside0.mk (below_step bb hb)
  have n3_ := Aside0.mk (hbox)
  have n4_ := Aside0.mk ((bz hg : w.heap.size ≤ gb232))
  have n5_ := Aside0.mk ((bz hg : w.heap.size ≤ gb232))
  have n6_ := Aside0.mk (nl BK229 hg)
  have n7_ := Aside0.mk (ng BK229 hg)
  have n8_ := Aside0.mk (nl BK233 hg)
  have n9_ := Aside0.mk (ng BK233 hg)
  clear BK229
  clear BK233
  clear HB
  have BK229 := n0_
  have BK233 := n1_
  have HB := n2_
  have BK232 := n3_
  have GW232 := n4_
  have GE232 := n5_
  have NB229_232 := n6_
  have NB232_229 := n7_
  have NB233_232 := n8_
  have NB232_233 := n9_
  clear n0_ n1_ n2_ n3_ n4_ n5_ n6_ n7_ n8_ n9_
  clear hb hbox hg
  refine hK.out _ _ ⟨(blk_cell BK229.out 0).trans rfl, (blk_cell BK229.out 1).trans rfl, (bl HB hw230_0), (bl HB hw230_1), (bl HB hw230_2), (bl HB hw230_3), (bl HB hw231_0), (bl HB hw231_1), (bl HB hw231_2), (bl HB hw231_3)⟩ (fun hHeld => ?_)
  clear hK K
  refine norm_ (a' := ?_) ?_ ?_
  rotate_left
  ·
   show Act.put _ (some 7) _ = _
   simp only [Act.put, List.setIfInBounds_toArray, List.set_cons_zero, List.set_cons_succ, i64_w, i32_w]
   rfl
  exact norm_ (by simp only [putAll, Act.put, List.setIfInBounds_toArray, List.set_cons_zero, List.set_cons_succ]) (hCont (gb232, gb233) _ ⟨hHeld, (bk BK229), (bk BK232), (bk BK233), GW232.out, GE232.out, NB229_232.out, NB232_229.out, NB233_232.out, NB232_233.out, GW233.out, GE233.out, NB229_233.out, NB233_229.out, bb⟩)
 rintro ⟨gb232, gb233⟩ w180 ⟨hS_, h0_, h1_, h2_, h3_, h4_, h5_, h6_, h7_, h8_, h9_, h10_, h11_, h12_, h13_⟩
 have n0_ : Aside0 (w180.heap[gb229]? = some (.cells #[.slice (some ad230) l0_0.length c0_0, .slice A0_1 l0_1.length c0_1] 25 (0, 0))) := ⟨h0_⟩
 have n1_ : Aside0 (w180.heap[gb232]? = some (.cells #[.int .i64 0, .int .i64 0, .int .i64 0, .int .i64 0] 38 (0, 0))) := ⟨h1_⟩
 have n2_ : Aside0 (w180.heap[gb233]? = some (.cells #[.int .i64 0, .int .i64 0, .int .i64 0, .int .i64 0] 38 (0, 0))) := ⟨h2_⟩
 have n3_ : Aside0 (w.heap.size ≤ gb232) := ⟨h3_⟩
 have n4_ : Aside0 (w.heap.size ≤ gb232) := ⟨h4_⟩
 have n5_ : Aside0 (gb229 ≠ gb232) := ⟨h5_⟩
 have n6_ : Aside0 (gb232 ≠ gb229) := ⟨h6_⟩
 have n7_ : Aside0 (gb233 ≠ gb232) := ⟨h7_⟩
 have n8_ : Aside0 (gb232 ≠ gb233) := ⟨h8_⟩
 have n9_ : Aside0 (w.heap.size ≤ gb233) := ⟨h9_⟩
 have n10_ : Aside0 (w.heap.size ≤ gb233) := ⟨h10_⟩
 have n11_ : Aside0 (gb229 ≠ gb233) := ⟨h11_⟩
 have n12_ : Aside0 (gb233 ≠ gb229) := ⟨h12_⟩
 have n13_ : Aside0 (Below w.heap.size w w180) := ⟨h13_⟩
 clear BK229
 clear HB
 clear h0_ h1_ h2_ h3_ h4_ h5_ h6_ h7_ h8_ h9_ h10_ h11_ h12_ h13_
 have BK229 := n0_
 have BK232 := n1_
 have BK233 := n2_
 have GW232 := n3_
 have GE232 := n4_
 have NB229_232 := n5_
 have NB232_229 := n6_
 have NB233_232 := n7_
 have NB232_233 := n8_
 have GW233 := n9_
 have GE233 := n10_
 have NB229_233 := n11_
 have NB233_229 := n12_
 have HB := n13_
 clear n0_ n1_ n2_ n3_ n4_ n5_ n6_ n7_ n8_ n9_ n10_ n11_ n12_ n13_
 have hHeld : w180.cell? ⟨gb229, 0, none⟩ = some (.slice (some ad230) l0_0.length c0_0) ∧ w180.cell? ⟨gb229, 1, none⟩ = some (.slice A0_1 l0_1.length c0_1) ∧ w180.cell? (ad230.add ((a1).toNat * 4)) = some (.int .i64 ((rd_T38 l0_0 a1).f0)) ∧ w180.cell? ⟨(ad230.add ((a1).toNat * 4)).block, (ad230.add ((a1).toNat * 4)).off + 1, none⟩ = some (.int .i64 ((rd_T38 l0_0 a1).f1)) ∧ w180.cell? ⟨(ad230.add ((a1).toNat * 4)).block, (ad230.add ((a1).toNat * 4)).off + 2, none⟩ = some (.int .i64 ((rd_T38 l0_0 a1).f2)) ∧ w180.cell? ⟨(ad230.add ((a1).toNat * 4)).block, (ad230.add ((a1).toNat * 4)).off + 3, none⟩ = some (.int .i64 ((rd_T38 l0_0 a1).f3)) ∧ w180.cell? (ad230.add ((a2).toNat * 4)) = some (.int .i64 ((rd_T38 l0_0 a2).f0)) ∧ w180.cell? ⟨(ad230.add ((a2).toNat * 4)).block, (ad230.add ((a2).toNat * 4)).off + 1, none⟩ = some (.int .i64 ((rd_T38 l0_0 a2).f1)) ∧ w180.cell? ⟨(ad230.add ((a2).toNat * 4)).block, (ad230.add ((a2).toNat * 4)).off + 2, none⟩ = some (.int .i64 ((rd_T38 l0_0 a2).f2)) ∧ w180.cell? ⟨(ad230.add ((a2).toNat * 4)).block, (ad230.add ((a2).toNat * 4)).off + 3, none⟩ = some (.int .i64 ((rd_T38 l0_0 a2).f3)) := hS_
 refine norm_ (a' := ?_) ?_ ?_
 rotate_left
 ·
  simp only [putAll, Act.put, List.setIfInBounds_toArray, List.set_cons_zero, List.set_cons_succ]
  rfl
 refine one_ (i := 12) (N := none) #[true, true, true, true, true, true, true, true, true, true, true, true, true, false] rfl rfl (one_of HT_.out (by kernel_rfl)) (by decide) (fun K hK => ?_)
 have hs181 : w180.cell? ⟨gb232, 0, none⟩ = some (.int .i64 0) := (blk_cell BK232.out 0).trans rfl
 have hfs181 := blk_frozen BK232.out 0
 have hns181_0 := NB229_232.out
 have hns181_2 := NB233_232.out
 have hms181_0 := NB232_229.out
 have hms181_2 := NB232_233.out
 have hs182 : w180.cell? ⟨gb232, 1, none⟩ = some (.int .i64 0) := (blk_cell BK232.out 1).trans rfl
 have hfs182 := blk_frozen BK232.out 1
 have hns182_0 := NB229_232.out
 have hns182_2 := NB233_232.out
 have hms182_0 := NB232_229.out
 have hms182_2 := NB232_233.out
 have hs183 : w180.cell? ⟨gb232, 2, none⟩ = some (.int .i64 0) := (blk_cell BK232.out 2).trans rfl
 have hfs183 := blk_frozen BK232.out 2
 have hns183_0 := NB229_232.out
 have hns183_2 := NB233_232.out
 have hms183_0 := NB232_229.out
 have hms183_2 := NB232_233.out
 have hs184 : w180.cell? ⟨gb232, 3, none⟩ = some (.int .i64 0) := (blk_cell BK232.out 3).trans rfl
 have hfs184 := blk_frozen BK232.out 3
 have hns184_0 := NB229_232.out
 have hns184_2 := NB233_232.out
 have hms184_0 := NB232_229.out
 have hms184_2 := NB232_233.out
 refine skip_ (w1 := ?_) (by rfl) rfl ?_ ?_
 rotate_left
 ·
  go_simp
  rfl
 refine hK.out _ _ ⟨((cell_far (p := ⟨gb232, _, none⟩) NB229_232.out _).trans (((cell_far (p := ⟨gb232, _, none⟩) NB229_232.out _).trans (((cell_far (p := ⟨gb232, _, none⟩) NB229_232.out _).trans (((cell_far (p := ⟨gb232, _, none⟩) NB229_232.out _).trans (hHeld.1)))))))), ((cell_far (p := ⟨gb232, _, none⟩) NB229_232.out _).trans (((cell_far (p := ⟨gb232, _, none⟩) NB229_232.out _).trans (((cell_far (p := ⟨gb232, _, none⟩) NB229_232.out _).trans (((cell_far (p := ⟨gb232, _, none⟩) NB229_232.out _).trans (hHeld.2.1)))))))), ((cell_far (p := ⟨gb232, _, none⟩) (by first | exact Nat.ne_of_lt (Nat.lt_of_lt_of_le (by have := World.block_lt_of_cell? _ _ hw230_0; first | rwa [add_block] at this | exact this) GW232.out) | (rw [add_block]; exact Nat.ne_of_lt (Nat.lt_of_lt_of_le (by have := World.block_lt_of_cell? _ _ hw230_0; first | rwa [add_block] at this | exact this) GW232.out)) | (show (Addr.add _ _).block ≠ _; rw [add_block]; exact Nat.ne_of_lt (Nat.lt_of_lt_of_le (by have := World.block_lt_of_cell? _ _ hw230_0; first | rwa [add_block] at this | exact this) GW232.out)) | (dsimp only; exact Nat.ne_of_lt (Nat.lt_of_lt_of_le (by have := World.block_lt_of_cell? _ _ hw230_0; first | rwa [add_block] at this | exact this) GW232.out))) _).trans (((cell_far (p := ⟨gb232, _, none⟩) (by first | exact Nat.ne_of_lt (Nat.lt_of_lt_of_le (by have := World.block_lt_of_cell? _ _ hw230_0; first | rwa [add_block] at this | exact this) GW232.out) | (rw [add_block]; exact Nat.ne_of_lt (Nat.lt_of_lt_of_le (by have := World.block_lt_of_cell? _ _ hw230_0; first | rwa [add_block] at this | exact this) GW232.out)) | (show (Addr.add _ _).block ≠ _; rw [add_block]; exact Nat.ne_of_lt (Nat.lt_of_lt_of_le (by have := World.block_lt_of_cell? _ _ hw230_0; first | rwa [add_block] at this | exact this) GW232.out)) | (dsimp only; exact Nat.ne_of_lt (Nat.lt_of_lt_of_le (by have := World.block_lt_of_cell? _ _ hw230_0; first | rwa [add_block] at this | exact this) GW232.out))) _).trans (((cell_far (p := ⟨gb232, _, none⟩) (by first | exact Nat.ne_of_lt (Nat.lt_of_lt_of_le (by have := World.block_lt_of_cell? _ _ hw230_0; first | rwa [add_block] at this | exact this) GW232.out) | (rw [add_block]; exact Nat.ne_of_lt (Nat.lt_of_lt_of_le (by have := World.block_lt_of_cell? _ _ hw230_0; first | rwa [add_block] at this | exact this) GW232.out)) | (show (Addr.add _ _).block ≠ _; rw [add_block]; exact Nat.ne_of_lt (Nat.lt_of_lt_of_le (by have := World.block_lt_of_cell? _ _ hw230_0; first | rwa [add_block] at this | exact this) GW232.out)) | (dsimp only; exact Nat.ne_of_lt (Nat.lt_of_lt_of_le (by have := World.block_lt_of_cell? _ _ hw230_0; first | rwa [add_block] at this | exact this) GW232.out))) _).trans (((cell_far (p := ⟨gb232, _, none⟩) (by first | exact Nat.ne_of_lt (Nat.lt_of_lt_of_le (by have := World.block_lt_of_cell? _ _ hw230_0; first | rwa [add_block] at this | exact this) GW232.out) | (rw [add_block]; exact Nat.ne_of_lt (Nat.lt_of_lt_of_le (by have := World.block_lt_of_cell? _ _ hw230_0; first | rwa [add_block] at this | exact this) GW232.out)) | (show (Addr.add _ _).block ≠ _; rw [add_block]; exact Nat.ne_of_lt (Nat.lt_of_lt_of_le (by have := World.block_lt_of_cell? _ _ hw230_0; first | rwa [add_block] at this | exact this) GW232.out)) | (dsimp only; exact Nat.ne_of_lt (Nat.lt_of_lt_of_le (by have := World.block_lt_of_cell? _ _ hw230_0; first | rwa [add_block] at this | exact this) GW232.out))) _).trans (hHeld.2.2.1)))))))), ((cell_far (p := ⟨gb232, _, none⟩) (by first | exact Nat.ne_of_lt (Nat.lt_of_lt_of_le (by have := World.block_lt_of_cell? _ _ hw230_1; first | rwa [add_block] at this | exact this) GW232.out) | (rw [add_block]; exact Nat.ne_of_lt (Nat.lt_of_lt_of_le (by have := World.block_lt_of_cell? _ _ hw230_1; first | rwa [add_block] at this | exact this) GW232.out)) | (show (Addr.add _ _).block ≠ _; rw [add_block]; exact Nat.ne_of_lt (Nat.lt_of_lt_of_le (by have := World.block_lt_of_cell? _ _ hw230_1; first | rwa [add_block] at this | exact this) GW232.out)) | (dsimp only; exact Nat.ne_of_lt (Nat.lt_of_lt_of_le (by have := World.block_lt_of_cell? _ _ hw230_1; first | rwa [add_block] at this | exact this) GW232.out))) _).trans (((cell_far (p := ⟨gb232, _, none⟩) (by first | exact Nat.ne_of_lt (Nat.lt_of_lt_of_le (by have := World.block_lt_of_cell? _ _ hw230_1; first | rwa [add_block] at this | exact this) GW232.out) | (rw [add_block]; exact Nat.ne_of_lt (Nat.lt_of_lt_of_le (by have := World.block_lt_of_cell? _ _ hw230_1; first | rwa [add_block] at this | exact this) GW232.out)) | (show (Addr.add _ _).block ≠ _; rw [add_block]; exact Nat.ne_of_lt (Nat.lt_of_lt_of_le (by have := World.block_lt_of_cell? _ _ hw230_1; first | rwa [add_block] at this | exact this) GW232.out)) | (dsimp only; exact Nat.ne_of_lt (Nat.lt_of_lt_of_le (by have := World.block_lt_of_cell? _ _ hw230_1; first | rwa [add_block] at this | exact this) GW232.out))) _).trans (((cell_far (p := ⟨gb232, _, none⟩) (by first | exact Nat.ne_of_lt (Nat.lt_of_lt_of_le (by have := World.block_lt_of_cell? _ _ hw230_1; first | rwa [add_block] at this | exact this) GW232.out) | (rw [add_block]; exact Nat.ne_of_lt (Nat.lt_of_lt_of_le (by have := World.block_lt_of_cell? _ _ hw230_1; first | rwa [add_block] at this | exact this) GW232.out)) | (show (Addr.add _ _).block ≠ _; rw [add_block]; exact Nat.ne_of_lt (Nat.lt_of_lt_of_le (by have := World.block_lt_of_cell? _ _ hw230_1; first | rwa [add_block] at this | exact this) GW232.out)) | (dsimp only; exact Nat.ne_of_lt (Nat.lt_of_lt_of_le (by have := World.block_lt_of_cell? _ _ hw230_1; first | rwa [add_block] at this | exact this) GW232.out))) _).trans (((cell_far (p := ⟨gb232, _, none⟩) (by first | exact Nat.ne_of_lt (Nat.lt_of_lt_of_le (by have := World.block_lt_of_cell? _ _ hw230_1; first | rwa [add_block] at this | exact this) GW232.out) | (rw [add_block]; exact Nat.ne_of_lt (Nat.lt_of_lt_of_le (by have := World.block_lt_of_cell? _ _ hw230_1; first | rwa [add_block] at this | exact this) GW232.out)) | (show (Addr.add _ _).block ≠ _; rw [add_block]; exact Nat.ne_of_lt (Nat.lt_of_lt_of_le (by have := World.block_lt_of_cell? _ _ hw230_1; first | rwa [add_block] at this | exact this) GW232.out)) | (dsimp only; exact Nat.ne_of_lt (Nat.lt_of_lt_of_le (by have := World.block_lt_of_cell? _ _ hw230_1; first | rwa [add_block] at this | exact this) GW232.out))) _).trans (hHeld.2.2.2.1)))))))), ((cell_far (p := ⟨gb232, _, none⟩) (by first | exact Nat.ne_of_lt (Nat.lt_of_lt_of_le (by have := World.block_lt_of_cell? _ _ hw230_2; first | rwa [add_block] at this | exact this) GW232.out) | (rw [add_block]; exact Nat.ne_of_lt (Nat.lt_of_lt_of_le (by have := World.block_lt_of_cell? _ _ hw230_2; first | rwa [add_block] at this | exact this) GW232.out)) | (show (Addr.add _ _).block ≠ _; rw [add_block]; exact Nat.ne_of_lt (Nat.lt_of_lt_of_le (by have := World.block_lt_of_cell? _ _ hw230_2; first | rwa [add_block] at this | exact this) GW232.out)) | (dsimp only; exact Nat.ne_of_lt (Nat.lt_of_lt_of_le (by have := World.block_lt_of_cell? _ _ hw230_2; first | rwa [add_block] at this | exact this) GW232.out))) _).trans (((cell_far (p := ⟨gb232, _, none⟩) (by first | exact Nat.ne_of_lt (Nat.lt_of_lt_of_le (by have := World.block_lt_of_cell? _ _ hw230_2; first | rwa [add_block] at this | exact this) GW232.out) | (rw [add_block]; exact Nat.ne_of_lt (Nat.lt_of_lt_of_le (by have := World.block_lt_of_cell? _ _ hw230_2; first | rwa [add_block] at this | exact this) GW232.out)) | (show (Addr.add _ _).block ≠ _; rw [add_block]; exact Nat.ne_of_lt (Nat.lt_of_lt_of_le (by have := World.block_lt_of_cell? _ _ hw230_2; first | rwa [add_block] at this | exact this) GW232.out)) | (dsimp only; exact Nat.ne_of_lt (Nat.lt_of_lt_of_le (by have := World.block_lt_of_cell? _ _ hw230_2; first | rwa [add_block] at this | exact this) GW232.out))) _).trans (((cell_far (p := ⟨gb232, _, none⟩) (by first | exact Nat.ne_of_lt (Nat.lt_of_lt_of_le (by have := World.block_lt_of_cell? _ _ hw230_2; first | rwa [add_block] at this | exact this) GW232.out) | (rw [add_block]; exact Nat.ne_of_lt (Nat.lt_of_lt_of_le (by have := World.block_lt_of_cell? _ _ hw230_2; first | rwa [add_block] at this | exact this) GW232.out)) | (show (Addr.add _ _).block ≠ _; rw [add_block]; exact Nat.ne_of_lt (Nat.lt_of_lt_of_le (by have := World.block_lt_of_cell? _ _ hw230_2; first | rwa [add_block] at this | exact this) GW232.out)) | (dsimp only; exact Nat.ne_of_lt (Nat.lt_of_lt_of_le (by have := World.block_lt_of_cell? _ _ hw230_2; first | rwa [add_block] at this | exact this) GW232.out))) _).trans (((cell_far (p := ⟨gb232, _, none⟩) (by first | exact Nat.ne_of_lt (Nat.lt_of_lt_of_le (by have := World.block_lt_of_cell? _ _ hw230_2; first | rwa [add_block] at this | exact this) GW232.out) | (rw [add_block]; exact Nat.ne_of_lt (Nat.lt_of_lt_of_le (by have := World.block_lt_of_cell? _ _ hw230_2; first | rwa [add_block] at this | exact this) GW232.out)) | (show (Addr.add _ _).block ≠ _; rw [add_block]; exact Nat.ne_of_lt (Nat.lt_of_lt_of_le (by have := World.block_lt_of_cell? _ _ hw230_2; first | rwa [add_block] at this | exact this) GW232.out)) | (dsimp only; exact Nat.ne_of_lt (Nat.lt_of_lt_of_le (by have := World.block_lt_of_cell? _ _ hw230_2; first | rwa [add_block] at this | exact this) GW232.out))) _).trans (hHeld.2.2.2.2.1)))))))), ((cell_far (p := ⟨gb232, _, none⟩) (by first | exact Nat.ne_of_lt (Nat.lt_of_lt_of_le (by have := World.block_lt_of_cell? _ _ hw230_3; first | rwa [add_block] at this | exact this) GW232.out) | (rw [add_block]; exact Nat.ne_of_lt (Nat.lt_of_lt_of_le (by have := World.block_lt_of_cell? _ _ hw230_3; first | rwa [add_block] at this | exact this) GW232.out)) | (show (Addr.add _ _).block ≠ _; rw [add_block]; exact Nat.ne_of_lt (Nat.lt_of_lt_of_le (by have := World.block_lt_of_cell? _ _ hw230_3; first | rwa [add_block] at this | exact this) GW232.out)) | (dsimp only; exact Nat.ne_of_lt (Nat.lt_of_lt_of_le (by have := World.block_lt_of_cell? _ _ hw230_3; first | rwa [add_block] at this | exact this) GW232.out))) _).trans (((cell_far (p := ⟨gb232, _, none⟩) (by first | exact Nat.ne_of_lt (Nat.lt_of_lt_of_le (by have := World.block_lt_of_cell? _ _ hw230_3; first | rwa [add_block] at this | exact this) GW232.out) | (rw [add_block]; exact Nat.ne_of_lt (Nat.lt_of_lt_of_le (by have := World.block_lt_of_cell? _ _ hw230_3; first | rwa [add_block] at this | exact this) GW232.out)) | (show (Addr.add _ _).block ≠ _; rw [add_block]; exact Nat.ne_of_lt (Nat.lt_of_lt_of_le (by have := World.block_lt_of_cell? _ _ hw230_3; first | rwa [add_block] at this | exact this) GW232.out)) | (dsimp only; exact Nat.ne_of_lt (Nat.lt_of_lt_of_le (by have := World.block_lt_of_cell? _ _ hw230_3; first | rwa [add_block] at this | exact this) GW232.out))) _).trans (((cell_far (p := ⟨gb232, _, none⟩) (by first | exact Nat.ne_of_lt (Nat.lt_of_lt_of_le (by have := World.block_lt_of_cell? _ _ hw230_3; first | rwa [add_block] at this | exact this) GW232.out) | (rw [add_block]; exact Nat.ne_of_lt (Nat.lt_of_lt_of_le (by have := World.block_lt_of_cell? _ _ hw230_3; first | rwa [add_block] at this | exact this) GW232.out)) | (show (Addr.add _ _).block ≠ _; rw [add_block]; exact Nat.ne_of_lt (Nat.lt_of_lt_of_le (by have := World.block_lt_of_cell? _ _ hw230_3; first | rwa [add_block] at this | exact this) GW232.out)) | (dsimp only; exact Nat.ne_of_lt (Nat.lt_of_lt_of_le (by have := World.block_lt_of_cell? _ _ hw230_3; first | rwa [add_block] at this | exact this) GW232.out))) _).trans (((cell_far (p := ⟨gb232, _, none⟩) (by first | exact Nat.ne_of_lt (Nat.lt_of_lt_of_le (by have := World.block_lt_of_cell? _ _ hw230_3; first | rwa [add_block] at this | exact this) GW232.out) | (rw [add_block]; exact Nat.ne_of_lt (Nat.lt_of_lt_of_le (by have := World.block_lt_of_cell? _ _ hw230_3; first | rwa [add_block] at this | exact this) GW232.out)) | (show (Addr.add _ _).block ≠ _; rw [add_block]; exact Nat.ne_of_lt (Nat.lt_of_lt_of_le (by have := World.block_lt_of_cell? _ _ hw230_3; first | rwa [add_block] at this | exact this) GW232.out)) | (dsimp only; exact Nat.ne_of_lt (Nat.lt_of_lt_of_le (by have := World.block_lt_of_cell? _ _ hw230_3; first | rwa [add_block] at this | exact this) GW232.out))) _).trans (hHeld.2.2.2.2.2.1)))))))), ((cell_far (p := ⟨gb232, _, none⟩) (by first | exact Nat.ne_of_lt (Nat.lt_of_lt_of_le (by have := World.block_lt_of_cell? _ _ hw231_0; first | rwa [add_block] at this | exact this) GW232.out) | (rw [add_block]; exact Nat.ne_of_lt (Nat.lt_of_lt_of_le (by have := World.block_lt_of_cell? _ _ hw231_0; first | rwa [add_block] at this | exact this) GW232.out)) | (show (Addr.add _ _).block ≠ _; rw [add_block]; exact Nat.ne_of_lt (Nat.lt_of_lt_of_le (by have := World.block_lt_of_cell? _ _ hw231_0; first | rwa [add_block] at this | exact this) GW232.out)) | (dsimp only; exact Nat.ne_of_lt (Nat.lt_of_lt_of_le (by have := World.block_lt_of_cell? _ _ hw231_0; first | rwa [add_block] at this | exact this) GW232.out))) _).trans (((cell_far (p := ⟨gb232, _, none⟩) (by first | exact Nat.ne_of_lt (Nat.lt_of_lt_of_le (by have := World.block_lt_of_cell? _ _ hw231_0; first | rwa [add_block] at this | exact this) GW232.out) | (rw [add_block]; exact Nat.ne_of_lt (Nat.lt_of_lt_of_le (by have := World.block_lt_of_cell? _ _ hw231_0; first | rwa [add_block] at this | exact this) GW232.out)) | (show (Addr.add _ _).block ≠ _; rw [add_block]; exact Nat.ne_of_lt (Nat.lt_of_lt_of_le (by have := World.block_lt_of_cell? _ _ hw231_0; first | rwa [add_block] at this | exact this) GW232.out)) | (dsimp only; exact Nat.ne_of_lt (Nat.lt_of_lt_of_le (by have := World.block_lt_of_cell? _ _ hw231_0; first | rwa [add_block] at this | exact this) GW232.out))) _).trans (((cell_far (p := ⟨gb232, _, none⟩) (by first | exact Nat.ne_of_lt (Nat.lt_of_lt_of_le (by have := World.block_lt_of_cell? _ _ hw231_0; first | rwa [add_block] at this | exact this) GW232.out) | (rw [add_block]; exact Nat.ne_of_lt (Nat.lt_of_lt_of_le (by have := World.block_lt_of_cell? _ _ hw231_0; first | rwa [add_block] at this | exact this) GW232.out)) | (show (Addr.add _ _).block ≠ _; rw [add_block]; exact Nat.ne_of_lt (Nat.lt_of_lt_of_le (by have := World.block_lt_of_cell? _ _ hw231_0; first | rwa [add_block] at this | exact this) GW232.out)) | (dsimp only; exact Nat.ne_of_lt (Nat.lt_of_lt_of_le (by have := World.block_lt_of_cell? _ _ hw231_0; first | rwa [add_block] at this | exact this) GW232.out))) _).trans (((cell_far (p := ⟨gb232, _, none⟩) (by first | exact Nat.ne_of_lt (Nat.lt_of_lt_of_le (by have := World.block_lt_of_cell? _ _ hw231_0; first | rwa [add_block] at this | exact this) GW232.out) | (rw [add_block]; exact Nat.ne_of_lt (Nat.lt_of_lt_of_le (by have := World.block_lt_of_cell? _ _ hw231_0; first | rwa [add_block] at this | exact this) GW232.out)) | (show (Addr.add _ _).block ≠ _; rw [add_block]; exact Nat.ne_of_lt (Nat.lt_of_lt_of_le (by have := World.block_lt_of_cell? _ _ hw231_0; first | rwa [add_block] at this | exact this) GW232.out)) | (dsimp only; exact Nat.ne_of_lt (Nat.lt_of_lt_of_le (by have := World.block_lt_of_cell? _ _ hw231_0; first | rwa [add_block] at this | exact this) GW232.out))) _).trans (hHeld.2.2.2.2.2.2.1)))))))), ((cell_far (p := ⟨gb232, _, none⟩) (by first | exact Nat.ne_of_lt (Nat.lt_of_lt_of_le (by have := World.block_lt_of_cell? _ _ hw231_1; first | rwa [add_block] at this | exact this) GW232.out) | (rw [add_block]; exact Nat.ne_of_lt (Nat.lt_of_lt_of_le (by have := World.block_lt_of_cell? _ _ hw231_1; first | rwa [add_block] at this | exact this) GW232.out)) | (show (Addr.add _ _).block ≠ _; rw [add_block]; exact Nat.ne_of_lt (Nat.lt_of_lt_of_le (by have := World.block_lt_of_cell? _ _ hw231_1; first | rwa [add_block] at this | exact this) GW232.out)) | (dsimp only; exact Nat.ne_of_lt (Nat.lt_of_lt_of_le (by have := World.block_lt_of_cell? _ _ hw231_1; first | rwa [add_block] at this | exact this) GW232.out))) _).trans (((cell_far (p := ⟨gb232, _, none⟩) (by first | exact Nat.ne_of_lt (Nat.lt_of_lt_of_le (by have := World.block_lt_of_cell? _ _ hw231_1; first | rwa [add_block] at this | exact this) GW232.out) | (rw [add_block]; exact Nat.ne_of_lt (Nat.lt_of_lt_of_le (by have := World.block_lt_of_cell? _ _ hw231_1; first | rwa [add_block] at this | exact this) GW232.out)) | (show (Addr.add _ _).block ≠ _; rw [add_block]; exact Nat.ne_of_lt (Nat.lt_of_lt_of_le (by have := World.block_lt_of_cell? _ _ hw231_1; first | rwa [add_block] at this | exact this) GW232.out)) | (dsimp only; exact Nat.ne_of_lt (Nat.lt_of_lt_of_le (by have := World.block_lt_of_cell? _ _ hw231_1; first | rwa [add_block] at this | exact this) GW232.out))) _).trans (((cell_far (p := ⟨gb232, _, none⟩) (by first | exact Nat.ne_of_lt (Nat.lt_of_lt_of_le (by have := World.block_lt_of_cell? _ _ hw231_1; first | rwa [add_block] at this | exact this) GW232.out) | (rw [add_block]; exact Nat.ne_of_lt (Nat.lt_of_lt_of_le (by have := World.block_lt_of_cell? _ _ hw231_1; first | rwa [add_block] at this | exact this) GW232.out)) | (show (Addr.add _ _).block ≠ _; rw [add_block]; exact Nat.ne_of_lt (Nat.lt_of_lt_of_le (by have := World.block_lt_of_cell? _ _ hw231_1; first | rwa [add_block] at this | exact this) GW232.out)) | (dsimp only; exact Nat.ne_of_lt (Nat.lt_of_lt_of_le (by have := World.block_lt_of_cell? _ _ hw231_1; first | rwa [add_block] at this | exact this) GW232.out))) _).trans (((cell_far (p := ⟨gb232, _, none⟩) (by first | exact Nat.ne_of_lt (Nat.lt_of_lt_of_le (by have := World.block_lt_of_cell? _ _ hw231_1; first | rwa [add_block] at this | exact this) GW232.out) | (rw [add_block]; exact Nat.ne_of_lt (Nat.lt_of_lt_of_le (by have := World.block_lt_of_cell? _ _ hw231_1; first | rwa [add_block] at this | exact this) GW232.out)) | (show (Addr.add _ _).block ≠ _; rw [add_block]; exact Nat.ne_of_lt (Nat.lt_of_lt_of_le (by have := World.block_lt_of_cell? _ _ hw231_1; first | rwa [add_block] at this | exact this) GW232.out)) | (dsimp only; exact Nat.ne_of_lt (Nat.lt_of_lt_of_le (by have := World.block_lt_of_cell? _ _ hw231_1; first | rwa [add_block] at this | exact this) GW232.out))) _).trans (hHeld.2.2.2.2.2.2.2.1)))))))), ((cell_far (p := ⟨gb232, _, none⟩) (by first | exact Nat.ne_of_lt (Nat.lt_of_lt_of_le (by have := World.block_lt_of_cell? _ _ hw231_2; first | rwa [add_block] at this | exact this) GW232.out) | (rw [add_block]; exact Nat.ne_of_lt (Nat.lt_of_lt_of_le (by have := World.block_lt_of_cell? _ _ hw231_2; first | rwa [add_block] at this | exact this) GW232.out)) | (show (Addr.add _ _).block ≠ _; rw [add_block]; exact Nat.ne_of_lt (Nat.lt_of_lt_of_le (by have := World.block_lt_of_cell? _ _ hw231_2; first | rwa [add_block] at this | exact this) GW232.out)) | (dsimp only; exact Nat.ne_of_lt (Nat.lt_of_lt_of_le (by have := World.block_lt_of_cell? _ _ hw231_2; first | rwa [add_block] at this | exact this) GW232.out))) _).trans (((cell_far (p := ⟨gb232, _, none⟩) (by first | exact Nat.ne_of_lt (Nat.lt_of_lt_of_le (by have := World.block_lt_of_cell? _ _ hw231_2; first | rwa [add_block] at this | exact this) GW232.out) | (rw [add_block]; exact Nat.ne_of_lt (Nat.lt_of_lt_of_le (by have := World.block_lt_of_cell? _ _ hw231_2; first | rwa [add_block] at this | exact this) GW232.out)) | (show (Addr.add _ _).block ≠ _; rw [add_block]; exact Nat.ne_of_lt (Nat.lt_of_lt_of_le (by have := World.block_lt_of_cell? _ _ hw231_2; first | rwa [add_block] at this | exact this) GW232.out)) | (dsimp only; exact Nat.ne_of_lt (Nat.lt_of_lt_of_le (by have := World.block_lt_of_cell? _ _ hw231_2; first | rwa [add_block] at this | exact this) GW232.out))) _).trans (((cell_far (p := ⟨gb232, _, none⟩) (by first | exact Nat.ne_of_lt (Nat.lt_of_lt_of_le (by have := World.block_lt_of_cell? _ _ hw231_2; first | rwa [add_block] at this | exact this) GW232.out) | (rw [add_block]; exact Nat.ne_of_lt (Nat.lt_of_lt_of_le (by have := World.block_lt_of_cell? _ _ hw231_2; first | rwa [add_block] at this | exact this) GW232.out)) | (show (Addr.add _ _).block ≠ _; rw [add_block]; exact Nat.ne_of_lt (Nat.lt_of_lt_of_le (by have := World.block_lt_of_cell? _ _ hw231_2; first | rwa [add_block] at this | exact this) GW232.out)) | (dsimp only; exact Nat.ne_of_lt (Nat.lt_of_lt_of_le (by have := World.block_lt_of_cell? _ _ hw231_2; first | rwa [add_block] at this | exact this) GW232.out))) _).trans (((cell_far (p := ⟨gb232, _, none⟩) (by first | exact Nat.ne_of_lt (Nat.lt_of_lt_of_le (by have := World.block_lt_of_cell? _ _ hw231_2; first | rwa [add_block] at this | exact this) GW232.out) | (rw [add_block]; exact Nat.ne_of_lt (Nat.lt_of_lt_of_le (by have := World.block_lt_of_cell? _ _ hw231_2; first | rwa [add_block] at this | exact this) GW232.out)) | (show (Addr.add _ _).block ≠ _; rw [add_block]; exact Nat.ne_of_lt (Nat.lt_of_lt_of_le (by have := World.block_lt_of_cell? _ _ hw231_2; first | rwa [add_block] at this | exact this) GW232.out)) | (dsimp only; exact Nat.ne_of_lt (Nat.lt_of_lt_of_le (by have := World.block_lt_of_cell? _ _ hw231_2; first | rwa [add_block] at this | exact this) GW232.out))) _).trans (hHeld.2.2.2.2.2.2.2.2.1)))))))), ((cell_far (p := ⟨gb232, _, none⟩) (by first | exact Nat.ne_of_lt (Nat.lt_of_lt_of_le (by have := World.block_lt_of_cell? _ _ hw231_3; first | rwa [add_block] at this | exact this) GW232.out) | (rw [add_block]; exact Nat.ne_of_lt (Nat.lt_of_lt_of_le (by have := World.block_lt_of_cell? _ _ hw231_3; first | rwa [add_block] at this | exact this) GW232.out)) | (show (Addr.add _ _).block ≠ _; rw [add_block]; exact Nat.ne_of_lt (Nat.lt_of_lt_of_le (by have := World.block_lt_of_cell? _ _ hw231_3; first | rwa [add_block] at this | exact this) GW232.out)) | (dsimp only; exact Nat.ne_of_lt (Nat.lt_of_lt_of_le (by have := World.block_lt_of_cell? _ _ hw231_3; first | rwa [add_block] at this | exact this) GW232.out))) _).trans (((cell_far (p := ⟨gb232, _, none⟩) (by first | exact Nat.ne_of_lt (Nat.lt_of_lt_of_le (by have := World.block_lt_of_cell? _ _ hw231_3; first | rwa [add_block] at this | exact this) GW232.out) | (rw [add_block]; exact Nat.ne_of_lt (Nat.lt_of_lt_of_le (by have := World.block_lt_of_cell? _ _ hw231_3; first | rwa [add_block] at this | exact this) GW232.out)) | (show (Addr.add _ _).block ≠ _; rw [add_block]; exact Nat.ne_of_lt (Nat.lt_of_lt_of_le (by have := World.block_lt_of_cell? _ _ hw231_3; first | rwa [add_block] at this | exact this) GW232.out)) | (dsimp only; exact Nat.ne_of_lt (Nat.lt_of_lt_of_le (by have := World.block_lt_of_cell? _ _ hw231_3; first | rwa [add_block] at this | exact this) GW232.out))) _).trans (((cell_far (p := ⟨gb232, _, none⟩) (by first | exact Nat.ne_of_lt (Nat.lt_of_lt_of_le (by have := World.block_lt_of_cell? _ _ hw231_3; first | rwa [add_block] at this | exact this) GW232.out) | (rw [add_block]; exact Nat.ne_of_lt (Nat.lt_of_lt_of_le (by have := World.block_lt_of_cell? _ _ hw231_3; first | rwa [add_block] at this | exact this) GW232.out)) | (show (Addr.add _ _).block ≠ _; rw [add_block]; exact Nat.ne_of_lt (Nat.lt_of_lt_of_le (by have := World.block_lt_of_cell? _ _ hw231_3; first | rwa [add_block] at this | exact this) GW232.out)) | (dsimp only; exact Nat.ne_of_lt (Nat.lt_of_lt_of_le (by have := World.block_lt_of_cell? _ _ hw231_3; first | rwa [add_block] at this | exact this) GW232.out))) _).trans (((cell_far (p := ⟨gb232, _, none⟩) (by first | exact Nat.ne_of_lt (Nat.lt_of_lt_of_le (by have := World.block_lt_of_cell? _ _ hw231_3; first | rwa [add_block] at this | exact this) GW232.out) | (rw [add_block]; exact Nat.ne_of_lt (Nat.lt_of_lt_of_le (by have := World.block_lt_of_cell? _ _ hw231_3; first | rwa [add_block] at this | exact this) GW232.out)) | (show (Addr.add _ _).block ≠ _; rw [add_block]; exact Nat.ne_of_lt (Nat.lt_of_lt_of_le (by have := World.block_lt_of_cell? _ _ hw231_3; first | rwa [add_block] at this | exact this) GW232.out)) | (dsimp only; exact Nat.ne_of_lt (Nat.lt_of_lt_of_le (by have := World.block_lt_of_cell? _ _ hw231_3; first | rwa [add_block] at this | exact this) GW232.out))) _).trans (hHeld.2.2.2.2.2.2.2.2.2))))))))⟩ (fun hHeld => ?_)
 clear hK K
 refine one_ (i := 13) (N := none) #[true, true, true, true, true, true, true, true, true, true, true, true, true, true] rfl rfl (one_of HT_.out (by kernel_rfl)) (by decide) (fun K hK => ?_)
 have hs185 : w180.cell? ⟨gb233, 0, none⟩ = some (.int .i64 0) := (blk_cell BK233.out 0).trans rfl
 have hfs185 := blk_frozen BK233.out 0
 have hns185_0 := NB229_233.out
 have hns185_1 := NB232_233.out
 have hms185_0 := NB233_229.out
 have hms185_1 := NB233_232.out
 have hs186 : w180.cell? ⟨gb233, 1, none⟩ = some (.int .i64 0) := (blk_cell BK233.out 1).trans rfl
 have hfs186 := blk_frozen BK233.out 1
 have hns186_0 := NB229_233.out
 have hns186_1 := NB232_233.out
 have hms186_0 := NB233_229.out
 have hms186_1 := NB233_232.out
 have hs187 : w180.cell? ⟨gb233, 2, none⟩ = some (.int .i64 0) := (blk_cell BK233.out 2).trans rfl
 have hfs187 := blk_frozen BK233.out 2
 have hns187_0 := NB229_233.out
 have hns187_1 := NB232_233.out
 have hms187_0 := NB233_229.out
 have hms187_1 := NB233_232.out
 have hs188 : w180.cell? ⟨gb233, 3, none⟩ = some (.int .i64 0) := (blk_cell BK233.out 3).trans rfl
 have hfs188 := blk_frozen BK233.out 3
 have hns188_0 := NB229_233.out
 have hns188_1 := NB232_233.out
 have hms188_0 := NB233_229.out
 have hms188_1 := NB233_232.out
 refine skip_ (w1 := ?_) (by rfl) rfl ?_ ?_
 rotate_left
 ·
  go_simp
  rfl
 refine hK.out _ _ ⟨((cell_far (p := ⟨gb233, _, none⟩) NB229_233.out _).trans (((cell_far (p := ⟨gb233, _, none⟩) NB229_233.out _).trans (((cell_far (p := ⟨gb233, _, none⟩) NB229_233.out _).trans (((cell_far (p := ⟨gb233, _, none⟩) NB229_233.out _).trans (hHeld.1)))))))), ((cell_far (p := ⟨gb233, _, none⟩) NB229_233.out _).trans (((cell_far (p := ⟨gb233, _, none⟩) NB229_233.out _).trans (((cell_far (p := ⟨gb233, _, none⟩) NB229_233.out _).trans (((cell_far (p := ⟨gb233, _, none⟩) NB229_233.out _).trans (hHeld.2.1)))))))), ((cell_far (p := ⟨gb233, _, none⟩) (by first | exact Nat.ne_of_lt (Nat.lt_of_lt_of_le (by have := World.block_lt_of_cell? _ _ hw230_0; first | rwa [add_block] at this | exact this) GW233.out) | (rw [add_block]; exact Nat.ne_of_lt (Nat.lt_of_lt_of_le (by have := World.block_lt_of_cell? _ _ hw230_0; first | rwa [add_block] at this | exact this) GW233.out)) | (show (Addr.add _ _).block ≠ _; rw [add_block]; exact Nat.ne_of_lt (Nat.lt_of_lt_of_le (by have := World.block_lt_of_cell? _ _ hw230_0; first | rwa [add_block] at this | exact this) GW233.out)) | (dsimp only; exact Nat.ne_of_lt (Nat.lt_of_lt_of_le (by have := World.block_lt_of_cell? _ _ hw230_0; first | rwa [add_block] at this | exact this) GW233.out))) _).trans (((cell_far (p := ⟨gb233, _, none⟩) (by first | exact Nat.ne_of_lt (Nat.lt_of_lt_of_le (by have := World.block_lt_of_cell? _ _ hw230_0; first | rwa [add_block] at this | exact this) GW233.out) | (rw [add_block]; exact Nat.ne_of_lt (Nat.lt_of_lt_of_le (by have := World.block_lt_of_cell? _ _ hw230_0; first | rwa [add_block] at this | exact this) GW233.out)) | (show (Addr.add _ _).block ≠ _; rw [add_block]; exact Nat.ne_of_lt (Nat.lt_of_lt_of_le (by have := World.block_lt_of_cell? _ _ hw230_0; first | rwa [add_block] at this | exact this) GW233.out)) | (dsimp only; exact Nat.ne_of_lt (Nat.lt_of_lt_of_le (by have := World.block_lt_of_cell? _ _ hw230_0; first | rwa [add_block] at this | exact this) GW233.out))) _).trans (((cell_far (p := ⟨gb233, _, none⟩) (by first | exact Nat.ne_of_lt (Nat.lt_of_lt_of_le (by have := World.block_lt_of_cell? _ _ hw230_0; first | rwa [add_block] at this | exact this) GW233.out) | (rw [add_block]; exact Nat.ne_of_lt (Nat.lt_of_lt_of_le (by have := World.block_lt_of_cell? _ _ hw230_0; first | rwa [add_block] at this | exact this) GW233.out)) | (show (Addr.add _ _).block ≠ _; rw [add_block]; exact Nat.ne_of_lt (Nat.lt_of_lt_of_le (by have := World.block_lt_of_cell? _ _ hw230_0; first | rwa [add_block] at this | exact this) GW233.out)) | (dsimp only; exact Nat.ne_of_lt (Nat.lt_of_lt_of_le (by have := World.block_lt_of_cell? _ _ hw230_0; first | rwa [add_block] at this | exact this) GW233.out))) _).trans (((cell_far (p := ⟨gb233, _, none⟩) (by first | exact Nat.ne_of_lt (Nat.lt_of_lt_of_le (by have := World.block_lt_of_cell? _ _ hw230_0; first | rwa [add_block] at this | exact this) GW233.out) | (rw [add_block]; exact Nat.ne_of_lt (Nat.lt_of_lt_of_le (by have := World.block_lt_of_cell? _ _ hw230_0; first | rwa [add_block] at this | exact this) GW233.out)) | (show (Addr.add _ _).block ≠ _; rw [add_block]; exact Nat.ne_of_lt (Nat.lt_of_lt_of_le (by have := World.block_lt_of_cell? _ _ hw230_0; first | rwa [add_block] at this | exact this) GW233.out)) | (dsimp only; exact Nat.ne_of_lt (Nat.lt_of_lt_of_le (by have := World.block_lt_of_cell? _ _ hw230_0; first | rwa [add_block] at this | exact this) GW233.out))) _).trans (hHeld.2.2.1)))))))), ((cell_far (p := ⟨gb233, _, none⟩) (by first | exact Nat.ne_of_lt (Nat.lt_of_lt_of_le (by have := World.block_lt_of_cell? _ _ hw230_1; first | rwa [add_block] at this | exact this) GW233.out) | (rw [add_block]; exact Nat.ne_of_lt (Nat.lt_of_lt_of_le (by have := World.block_lt_of_cell? _ _ hw230_1; first | rwa [add_block] at this | exact this) GW233.out)) | (show (Addr.add _ _).block ≠ _; rw [add_block]; exact Nat.ne_of_lt (Nat.lt_of_lt_of_le (by have := World.block_lt_of_cell? _ _ hw230_1; first | rwa [add_block] at this | exact this) GW233.out)) | (dsimp only; exact Nat.ne_of_lt (Nat.lt_of_lt_of_le (by have := World.block_lt_of_cell? _ _ hw230_1; first | rwa [add_block] at this | exact this) GW233.out))) _).trans (((cell_far (p := ⟨gb233, _, none⟩) (by first | exact Nat.ne_of_lt (Nat.lt_of_lt_of_le (by have := World.block_lt_of_cell? _ _ hw230_1; first | rwa [add_block] at this | exact this) GW233.out) | (rw [add_block]; exact Nat.ne_of_lt (Nat.lt_of_lt_of_le (by have := World.block_lt_of_cell? _ _ hw230_1; first | rwa [add_block] at this | exact this) GW233.out)) | (show (Addr.add _ _).block ≠ _; rw [add_block]; exact Nat.ne_of_lt (Nat.lt_of_lt_of_le (by have := World.block_lt_of_cell? _ _ hw230_1; first | rwa [add_block] at this | exact this) GW233.out)) | (dsimp only; exact Nat.ne_of_lt (Nat.lt_of_lt_of_le (by have := World.block_lt_of_cell? _ _ hw230_1; first | rwa [add_block] at this | exact this) GW233.out))) _).trans (((cell_far (p := ⟨gb233, _, none⟩) (by first | exact Nat.ne_of_lt (Nat.lt_of_lt_of_le (by have := World.block_lt_of_cell? _ _ hw230_1; first | rwa [add_block] at this | exact this) GW233.out) | (rw [add_block]; exact Nat.ne_of_lt (Nat.lt_of_lt_of_le (by have := World.block_lt_of_cell? _ _ hw230_1; first | rwa [add_block] at this | exact this) GW233.out)) | (show (Addr.add _ _).block ≠ _; rw [add_block]; exact Nat.ne_of_lt (Nat.lt_of_lt_of_le (by have := World.block_lt_of_cell? _ _ hw230_1; first | rwa [add_block] at this | exact this) GW233.out)) | (dsimp only; exact Nat.ne_of_lt (Nat.lt_of_lt_of_le (by have := World.block_lt_of_cell? _ _ hw230_1; first | rwa [add_block] at this | exact this) GW233.out))) _).trans (((cell_far (p := ⟨gb233, _, none⟩) (by first | exact Nat.ne_of_lt (Nat.lt_of_lt_of_le (by have := World.block_lt_of_cell? _ _ hw230_1; first | rwa [add_block] at this | exact this) GW233.out) | (rw [add_block]; exact Nat.ne_of_lt (Nat.lt_of_lt_of_le (by have := World.block_lt_of_cell? _ _ hw230_1; first | rwa [add_block] at this | exact this) GW233.out)) | (show (Addr.add _ _).block ≠ _; rw [add_block]; exact Nat.ne_of_lt (Nat.lt_of_lt_of_le (by have := World.block_lt_of_cell? _ _ hw230_1; first | rwa [add_block] at this | exact this) GW233.out)) | (dsimp only; exact Nat.ne_of_lt (Nat.lt_of_lt_of_le (by have := World.block_lt_of_cell? _ _ hw230_1; first | rwa [add_block] at this | exact this) GW233.out))) _).trans (hHeld.2.2.2.1)))))))), ((cell_far (p := ⟨gb233, _, none⟩) (by first | exact Nat.ne_of_lt (Nat.lt_of_lt_of_le (by have := World.block_lt_of_cell? _ _ hw230_2; first | rwa [add_block] at this | exact this) GW233.out) | (rw [add_block]; exact Nat.ne_of_lt (Nat.lt_of_lt_of_le (by have := World.block_lt_of_cell? _ _ hw230_2; first | rwa [add_block] at this | exact this) GW233.out)) | (show (Addr.add _ _).block ≠ _; rw [add_block]; exact Nat.ne_of_lt (Nat.lt_of_lt_of_le (by have := World.block_lt_of_cell? _ _ hw230_2; first | rwa [add_block] at this | exact this) GW233.out)) | (dsimp only; exact Nat.ne_of_lt (Nat.lt_of_lt_of_le (by have := World.block_lt_of_cell? _ _ hw230_2; first | rwa [add_block] at this | exact this) GW233.out))) _).trans (((cell_far (p := ⟨gb233, _, none⟩) (by first | exact Nat.ne_of_lt (Nat.lt_of_lt_of_le (by have := World.block_lt_of_cell? _ _ hw230_2; first | rwa [add_block] at this | exact this) GW233.out) | (rw [add_block]; exact Nat.ne_of_lt (Nat.lt_of_lt_of_le (by have := World.block_lt_of_cell? _ _ hw230_2; first | rwa [add_block] at this | exact this) GW233.out)) | (show (Addr.add _ _).block ≠ _; rw [add_block]; exact Nat.ne_of_lt (Nat.lt_of_lt_of_le (by have := World.block_lt_of_cell? _ _ hw230_2; first | rwa [add_block] at this | exact this) GW233.out)) | (dsimp only; exact Nat.ne_of_lt (Nat.lt_of_lt_of_le (by have := World.block_lt_of_cell? _ _ hw230_2; first | rwa [add_block] at this | exact this) GW233.out))) _).trans (((cell_far (p := ⟨gb233, _, none⟩) (by first | exact Nat.ne_of_lt (Nat.lt_of_lt_of_le (by have := World.block_lt_of_cell? _ _ hw230_2; first | rwa [add_block] at this | exact this) GW233.out) | (rw [add_block]; exact Nat.ne_of_lt (Nat.lt_of_lt_of_le (by have := World.block_lt_of_cell? _ _ hw230_2; first | rwa [add_block] at this | exact this) GW233.out)) | (show (Addr.add _ _).block ≠ _; rw [add_block]; exact Nat.ne_of_lt (Nat.lt_of_lt_of_le (by have := World.block_lt_of_cell? _ _ hw230_2; first | rwa [add_block] at this | exact this) GW233.out)) | (dsimp only; exact Nat.ne_of_lt (Nat.lt_of_lt_of_le (by have := World.block_lt_of_cell? _ _ hw230_2; first | rwa [add_block] at this | exact this) GW233.out))) _).trans (((cell_far (p := ⟨gb233, _, none⟩) (by first | exact Nat.ne_of_lt (Nat.lt_of_lt_of_le (by have := World.block_lt_of_cell? _ _ hw230_2; first | rwa [add_block] at this | exact this) GW233.out) | (rw [add_block]; exact Nat.ne_of_lt (Nat.lt_of_lt_of_le (by have := World.block_lt_of_cell? _ _ hw230_2; first | rwa [add_block] at this | exact this) GW233.out)) | (show (Addr.add _ _).block ≠ _; rw [add_block]; exact Nat.ne_of_lt (Nat.lt_of_lt_of_le (by have := World.block_lt_of_cell? _ _ hw230_2; first | rwa [add_block] at this | exact this) GW233.out)) | (dsimp only; exact Nat.ne_of_lt (Nat.lt_of_lt_of_le (by have := World.block_lt_of_cell? _ _ hw230_2; first | rwa [add_block] at this | exact this) GW233.out))) _).trans (hHeld.2.2.2.2.1)))))))), ((cell_far (p := ⟨gb233, _, none⟩) (by first | exact Nat.ne_of_lt (Nat.lt_of_lt_of_le (by have := World.block_lt_of_cell? _ _ hw230_3; first | rwa [add_block] at this | exact this) GW233.out) | (rw [add_block]; exact Nat.ne_of_lt (Nat.lt_of_lt_of_le (by have := World.block_lt_of_cell? _ _ hw230_3; first | rwa [add_block] at this | exact this) GW233.out)) | (show (Addr.add _ _).block ≠ _; rw [add_block]; exact Nat.ne_of_lt (Nat.lt_of_lt_of_le (by have := World.block_lt_of_cell? _ _ hw230_3; first | rwa [add_block] at this | exact this) GW233.out)) | (dsimp only; exact Nat.ne_of_lt (Nat.lt_of_lt_of_le (by have := World.block_lt_of_cell? _ _ hw230_3; first | rwa [add_block] at this | exact this) GW233.out))) _).trans (((cell_far (p := ⟨gb233, _, none⟩) (by first | exact Nat.ne_of_lt (Nat.lt_of_lt_of_le (by have := World.block_lt_of_cell? _ _ hw230_3; first | rwa [add_block] at this | exact this) GW233.out) | (rw [add_block]; exact Nat.ne_of_lt (Nat.lt_of_lt_of_le (by have := World.block_lt_of_cell? _ _ hw230_3; first | rwa [add_block] at this | exact this) GW233.out)) | (show (Addr.add _ _).block ≠ _; rw [add_block]; exact Nat.ne_of_lt (Nat.lt_of_lt_of_le (by have := World.block_lt_of_cell? _ _ hw230_3; first | rwa [add_block] at this | exact this) GW233.out)) | (dsimp only; exact Nat.ne_of_lt (Nat.lt_of_lt_of_le (by have := World.block_lt_of_cell? _ _ hw230_3; first | rwa [add_block] at this | exact this) GW233.out))) _).trans (((cell_far (p := ⟨gb233, _, none⟩) (by first | exact Nat.ne_of_lt (Nat.lt_of_lt_of_le (by have := World.block_lt_of_cell? _ _ hw230_3; first | rwa [add_block] at this | exact this) GW233.out) | (rw [add_block]; exact Nat.ne_of_lt (Nat.lt_of_lt_of_le (by have := World.block_lt_of_cell? _ _ hw230_3; first | rwa [add_block] at this | exact this) GW233.out)) | (show (Addr.add _ _).block ≠ _; rw [add_block]; exact Nat.ne_of_lt (Nat.lt_of_lt_of_le (by have := World.block_lt_of_cell? _ _ hw230_3; first | rwa [add_block] at this | exact this) GW233.out)) | (dsimp only; exact Nat.ne_of_lt (Nat.lt_of_lt_of_le (by have := World.block_lt_of_cell? _ _ hw230_3; first | rwa [add_block] at this | exact this) GW233.out))) _).trans (((cell_far (p := ⟨gb233, _, none⟩) (by first | exact Nat.ne_of_lt (Nat.lt_of_lt_of_le (by have := World.block_lt_of_cell? _ _ hw230_3; first | rwa [add_block] at this | exact this) GW233.out) | (rw [add_block]; exact Nat.ne_of_lt (Nat.lt_of_lt_of_le (by have := World.block_lt_of_cell? _ _ hw230_3; first | rwa [add_block] at this | exact this) GW233.out)) | (show (Addr.add _ _).block ≠ _; rw [add_block]; exact Nat.ne_of_lt (Nat.lt_of_lt_of_le (by have := World.block_lt_of_cell? _ _ hw230_3; first | rwa [add_block] at this | exact this) GW233.out)) | (dsimp only; exact Nat.ne_of_lt (Nat.lt_of_lt_of_le (by have := World.block_lt_of_cell? _ _ hw230_3; first | rwa [add_block] at this | exact this) GW233.out))) _).trans (hHeld.2.2.2.2.2.1)))))))), ((cell_far (p := ⟨gb233, _, none⟩) (by first | exact Nat.ne_of_lt (Nat.lt_of_lt_of_le (by have := World.block_lt_of_cell? _ _ hw231_0; first | rwa [add_block] at this | exact this) GW233.out) | (rw [add_block]; exact Nat.ne_of_lt (Nat.lt_of_lt_of_le (by have := World.block_lt_of_cell? _ _ hw231_0; first | rwa [add_block] at this | exact this) GW233.out)) | (show (Addr.add _ _).block ≠ _; rw [add_block]; exact Nat.ne_of_lt (Nat.lt_of_lt_of_le (by have := World.block_lt_of_cell? _ _ hw231_0; first | rwa [add_block] at this | exact this) GW233.out)) | (dsimp only; exact Nat.ne_of_lt (Nat.lt_of_lt_of_le (by have := World.block_lt_of_cell? _ _ hw231_0; first | rwa [add_block] at this | exact this) GW233.out))) _).trans (((cell_far (p := ⟨gb233, _, none⟩) (by first | exact Nat.ne_of_lt (Nat.lt_of_lt_of_le (by have := World.block_lt_of_cell? _ _ hw231_0; first | rwa [add_block] at this | exact this) GW233.out) | (rw [add_block]; exact Nat.ne_of_lt (Nat.lt_of_lt_of_le (by have := World.block_lt_of_cell? _ _ hw231_0; first | rwa [add_block] at this | exact this) GW233.out)) | (show (Addr.add _ _).block ≠ _; rw [add_block]; exact Nat.ne_of_lt (Nat.lt_of_lt_of_le (by have := World.block_lt_of_cell? _ _ hw231_0; first | rwa [add_block] at this | exact this) GW233.out)) | (dsimp only; exact Nat.ne_of_lt (Nat.lt_of_lt_of_le (by have := World.block_lt_of_cell? _ _ hw231_0; first | rwa [add_block] at this | exact this) GW233.out))) _).trans (((cell_far (p := ⟨gb233, _, none⟩) (by first | exact Nat.ne_of_lt (Nat.lt_of_lt_of_le (by have := World.block_lt_of_cell? _ _ hw231_0; first | rwa [add_block] at this | exact this) GW233.out) | (rw [add_block]; exact Nat.ne_of_lt (Nat.lt_of_lt_of_le (by have := World.block_lt_of_cell? _ _ hw231_0; first | rwa [add_block] at this | exact this) GW233.out)) | (show (Addr.add _ _).block ≠ _; rw [add_block]; exact Nat.ne_of_lt (Nat.lt_of_lt_of_le (by have := World.block_lt_of_cell? _ _ hw231_0; first | rwa [add_block] at this | exact this) GW233.out)) | (dsimp only; exact Nat.ne_of_lt (Nat.lt_of_lt_of_le (by have := World.block_lt_of_cell? _ _ hw231_0; first | rwa [add_block] at this | exact this) GW233.out))) _).trans (((cell_far (p := ⟨gb233, _, none⟩) (by first | exact Nat.ne_of_lt (Nat.lt_of_lt_of_le (by have := World.block_lt_of_cell? _ _ hw231_0; first | rwa [add_block] at this | exact this) GW233.out) | (rw [add_block]; exact Nat.ne_of_lt (Nat.lt_of_lt_of_le (by have := World.block_lt_of_cell? _ _ hw231_0; first | rwa [add_block] at this | exact this) GW233.out)) | (show (Addr.add _ _).block ≠ _; rw [add_block]; exact Nat.ne_of_lt (Nat.lt_of_lt_of_le (by have := World.block_lt_of_cell? _ _ hw231_0; first | rwa [add_block] at this | exact this) GW233.out)) | (dsimp only; exact Nat.ne_of_lt (Nat.lt_of_lt_of_le (by have := World.block_lt_of_cell? _ _ hw231_0; first | rwa [add_block] at this | exact this) GW233.out))) _).trans (hHeld.2.2.2.2.2.2.1)))))))), ((cell_far (p := ⟨gb233, _, none⟩) (by first | exact Nat.ne_of_lt (Nat.lt_of_lt_of_le (by have := World.block_lt_of_cell? _ _ hw231_1; first | rwa [add_block] at this | exact this) GW233.out) | (rw [add_block]; exact Nat.ne_of_lt (Nat.lt_of_lt_of_le (by have := World.block_lt_of_cell? _ _ hw231_1; first | rwa [add_block] at this | exact this) GW233.out)) | (show (Addr.add _ _).block ≠ _; rw [add_block]; exact Nat.ne_of_lt (Nat.lt_of_lt_of_le (by have := World.block_lt_of_cell? _ _ hw231_1; first | rwa [add_block] at this | exact this) GW233.out)) | (dsimp only; exact Nat.ne_of_lt (Nat.lt_of_lt_of_le (by have := World.block_lt_of_cell? _ _ hw231_1; first | rwa [add_block] at this | exact this) GW233.out))) _).trans (((cell_far (p := ⟨gb233, _, none⟩) (by first | exact Nat.ne_of_lt (Nat.lt_of_lt_of_le (by have := World.block_lt_of_cell? _ _ hw231_1; first | rwa [add_block] at this | exact this) GW233.out) | (rw [add_block]; exact Nat.ne_of_lt (Nat.lt_of_lt_of_le (by have := World.block_lt_of_cell? _ _ hw231_1; first | rwa [add_block] at this | exact this) GW233.out)) | (show (Addr.add _ _).block ≠ _; rw [add_block]; exact Nat.ne_of_lt (Nat.lt_of_lt_of_le (by have := World.block_lt_of_cell? _ _ hw231_1; first | rwa [add_block] at this | exact this) GW233.out)) | (dsimp only; exact Nat.ne_of_lt (Nat.lt_of_lt_of_le (by have := World.block_lt_of_cell? _ _ hw231_1; first | rwa [add_block] at this | exact this) GW233.out))) _).trans (((cell_far (p := ⟨gb233, _, none⟩) (by first | exact Nat.ne_of_lt (Nat.lt_of_lt_of_le (by have := World.block_lt_of_cell? _ _ hw231_1; first | rwa [add_block] at this | exact this) GW233.out) | (rw [add_block]; exact Nat.ne_of_lt (Nat.lt_of_lt_of_le (by have := World.block_lt_of_cell? _ _ hw231_1; first | rwa [add_block] at this | exact this) GW233.out)) | (show (Addr.add _ _).block ≠ _; rw [add_block]; exact Nat.ne_of_lt (Nat.lt_of_lt_of_le (by have := World.block_lt_of_cell? _ _ hw231_1; first | rwa [add_block] at this | exact this) GW233.out)) | (dsimp only; exact Nat.ne_of_lt (Nat.lt_of_lt_of_le (by have := World.block_lt_of_cell? _ _ hw231_1; first | rwa [add_block] at this | exact this) GW233.out))) _).trans (((cell_far (p := ⟨gb233, _, none⟩) (by first | exact Nat.ne_of_lt (Nat.lt_of_lt_of_le (by have := World.block_lt_of_cell? _ _ hw231_1; first | rwa [add_block] at this | exact this) GW233.out) | (rw [add_block]; exact Nat.ne_of_lt (Nat.lt_of_lt_of_le (by have := World.block_lt_of_cell? _ _ hw231_1; first | rwa [add_block] at this | exact this) GW233.out)) | (show (Addr.add _ _).block ≠ _; rw [add_block]; exact Nat.ne_of_lt (Nat.lt_of_lt_of_le (by have := World.block_lt_of_cell? _ _ hw231_1; first | rwa [add_block] at this | exact this) GW233.out)) | (dsimp only; exact Nat.ne_of_lt (Nat.lt_of_lt_of_le (by have := World.block_lt_of_cell? _ _ hw231_1; first | rwa [add_block] at this | exact this) GW233.out))) _).trans (hHeld.2.2.2.2.2.2.2.1)))))))), ((cell_far (p := ⟨gb233, _, none⟩) (by first | exact Nat.ne_of_lt (Nat.lt_of_lt_of_le (by have := World.block_lt_of_cell? _ _ hw231_2; first | rwa [add_block] at this | exact this) GW233.out) | (rw [add_block]; exact Nat.ne_of_lt (Nat.lt_of_lt_of_le (by have := World.block_lt_of_cell? _ _ hw231_2; first | rwa [add_block] at this | exact this) GW233.out)) | (show (Addr.add _ _).block ≠ _; rw [add_block]; exact Nat.ne_of_lt (Nat.lt_of_lt_of_le (by have := World.block_lt_of_cell? _ _ hw231_2; first | rwa [add_block] at this | exact this) GW233.out)) | (dsimp only; exact Nat.ne_of_lt (Nat.lt_of_lt_of_le (by have := World.block_lt_of_cell? _ _ hw231_2; first | rwa [add_block] at this | exact this) GW233.out))) _).trans (((cell_far (p := ⟨gb233, _, none⟩) (by first | exact Nat.ne_of_lt (Nat.lt_of_lt_of_le (by have := World.block_lt_of_cell? _ _ hw231_2; first | rwa [add_block] at this | exact this) GW233.out) | (rw [add_block]; exact Nat.ne_of_lt (Nat.lt_of_lt_of_le (by have := World.block_lt_of_cell? _ _ hw231_2; first | rwa [add_block] at this | exact this) GW233.out)) | (show (Addr.add _ _).block ≠ _; rw [add_block]; exact Nat.ne_of_lt (Nat.lt_of_lt_of_le (by have := World.block_lt_of_cell? _ _ hw231_2; first | rwa [add_block] at this | exact this) GW233.out)) | (dsimp only; exact Nat.ne_of_lt (Nat.lt_of_lt_of_le (by have := World.block_lt_of_cell? _ _ hw231_2; first | rwa [add_block] at this | exact this) GW233.out))) _).trans (((cell_far (p := ⟨gb233, _, none⟩) (by first | exact Nat.ne_of_lt (Nat.lt_of_lt_of_le (by have := World.block_lt_of_cell? _ _ hw231_2; first | rwa [add_block] at this | exact this) GW233.out) | (rw [add_block]; exact Nat.ne_of_lt (Nat.lt_of_lt_of_le (by have := World.block_lt_of_cell? _ _ hw231_2; first | rwa [add_block] at this | exact this) GW233.out)) | (show (Addr.add _ _).block ≠ _; rw [add_block]; exact Nat.ne_of_lt (Nat.lt_of_lt_of_le (by have := World.block_lt_of_cell? _ _ hw231_2; first | rwa [add_block] at this | exact this) GW233.out)) | (dsimp only; exact Nat.ne_of_lt (Nat.lt_of_lt_of_le (by have := World.block_lt_of_cell? _ _ hw231_2; first | rwa [add_block] at this | exact this) GW233.out))) _).trans (((cell_far (p := ⟨gb233, _, none⟩) (by first | exact Nat.ne_of_lt (Nat.lt_of_lt_of_le (by have := World.block_lt_of_cell? _ _ hw231_2; first | rwa [add_block] at this | exact this) GW233.out) | (rw [add_block]; exact Nat.ne_of_lt (Nat.lt_of_lt_of_le (by have := World.block_lt_of_cell? _ _ hw231_2; first | rwa [add_block] at this | exact this) GW233.out)) | (show (Addr.add _ _).block ≠ _; rw [add_block]; exact Nat.ne_of_lt (Nat.lt_of_lt_of_le (by have := World.block_lt_of_cell? _ _ hw231_2; first | rwa [add_block] at this | exact this) GW233.out)) | (dsimp only; exact Nat.ne_of_lt (Nat.lt_of_lt_of_le (by have := World.block_lt_of_cell? _ _ hw231_2; first | rwa [add_block] at this | exact this) GW233.out))) _).trans (hHeld.2.2.2.2.2.2.2.2.1)))))))), ((cell_far (p := ⟨gb233, _, none⟩) (by first | exact Nat.ne_of_lt (Nat.lt_of_lt_of_le (by have := World.block_lt_of_cell? _ _ hw231_3; first | rwa [add_block] at this | exact this) GW233.out) | (rw [add_block]; exact Nat.ne_of_lt (Nat.lt_of_lt_of_le (by have := World.block_lt_of_cell? _ _ hw231_3; first | rwa [add_block] at this | exact this) GW233.out)) | (show (Addr.add _ _).block ≠ _; rw [add_block]; exact Nat.ne_of_lt (Nat.lt_of_lt_of_le (by have := World.block_lt_of_cell? _ _ hw231_3; first | rwa [add_block] at this | exact this) GW233.out)) | (dsimp only; exact Nat.ne_of_lt (Nat.lt_of_lt_of_le (by have := World.block_lt_of_cell? _ _ hw231_3; first | rwa [add_block] at this | exact this) GW233.out))) _).trans (((cell_far (p := ⟨gb233, _, none⟩) (by first | exact Nat.ne_of_lt (Nat.lt_of_lt_of_le (by have := World.block_lt_of_cell? _ _ hw231_3; first | rwa [add_block] at this | exact this) GW233.out) | (rw [add_block]; exact Nat.ne_of_lt (Nat.lt_of_lt_of_le (by have := World.block_lt_of_cell? _ _ hw231_3; first | rwa [add_block] at this | exact this) GW233.out)) | (show (Addr.add _ _).block ≠ _; rw [add_block]; exact Nat.ne_of_lt (Nat.lt_of_lt_of_le (by have := World.block_lt_of_cell? _ _ hw231_3; first | rwa [add_block] at this | exact this) GW233.out)) | (dsimp only; exact Nat.ne_of_lt (Nat.lt_of_lt_of_le (by have := World.block_lt_of_cell? _ _ hw231_3; first | rwa [add_block] at this | exact this) GW233.out))) _).trans (((cell_far (p := ⟨gb233, _, none⟩) (by first | exact Nat.ne_of_lt (Nat.lt_of_lt_of_le (by have := World.block_lt_of_cell? _ _ hw231_3; first | rwa [add_block] at this | exact this) GW233.out) | (rw [add_block]; exact Nat.ne_of_lt (Nat.lt_of_lt_of_le (by have := World.block_lt_of_cell? _ _ hw231_3; first | rwa [add_block] at this | exact this) GW233.out)) | (show (Addr.add _ _).block ≠ _; rw [add_block]; exact Nat.ne_of_lt (Nat.lt_of_lt_of_le (by have := World.block_lt_of_cell? _ _ hw231_3; first | rwa [add_block] at this | exact this) GW233.out)) | (dsimp only; exact Nat.ne_of_lt (Nat.lt_of_lt_of_le (by have := World.block_lt_of_cell? _ _ hw231_3; first | rwa [add_block] at this | exact this) GW233.out))) _).trans (((cell_far (p := ⟨gb233, _, none⟩) (by first | exact Nat.ne_of_lt (Nat.lt_of_lt_of_le (by have := World.block_lt_of_cell? _ _ hw231_3; first | rwa [add_block] at this | exact this) GW233.out) | (rw [add_block]; exact Nat.ne_of_lt (Nat.lt_of_lt_of_le (by have := World.block_lt_of_cell? _ _ hw231_3; first | rwa [add_block] at this | exact this) GW233.out)) | (show (Addr.add _ _).block ≠ _; rw [add_block]; exact Nat.ne_of_lt (Nat.lt_of_lt_of_le (by have := World.block_lt_of_cell? _ _ hw231_3; first | rwa [add_block] at this | exact this) GW233.out)) | (dsimp only; exact Nat.ne_of_lt (Nat.lt_of_lt_of_le (by have := World.block_lt_of_cell? _ _ hw231_3; first | rwa [add_block] at this | exact this) GW233.out))) _).trans (hHeld.2.2.2.2.2.2.2.2.2))))))))⟩ (fun hHeld => ?_)
 clear hK K
 refine done_ (done_of HT_.out (by kernel_rfl)) ?_
 have H := HX_.out
 clear HX_
 by_cases c8 : ((rd_T38 l0_0 a1).f2) ≤ 2
 rotate_left
 ·
  rw [if_neg c8] at H
  have c8b0 : decide (((rd_T38 l0_0 a1).f2) ≤ 2) = false := decide_eq_false c8
  clear c8
  obtain rfl := Option.some.inj H
  have hnb189 := NB232_229.out
  have hnc189 := NB229_232.out
  have hnb190 := NB232_233.out
  have hnc190 := NB233_232.out
  obtain ⟨hcz191_0, hcz191_1, hcz191_2, hcz191_3, hfz191_0, hfz191_1, hfz191_2, hfz191_3⟩ := bo4 BK232
  try go_wp2
  go_ret
  exact ⟨ew, bb⟩
 rw [if_pos c8] at H
 have c8b0 : decide (((rd_T38 l0_0 a1).f2) ≤ 2) = true := decide_eq_true c8
 clear c8
 by_cases c9 : ((rd_T38 l0_0 a2).f2) ≤ 2
 rotate_left
 ·
  rw [if_neg c9] at H
  have c9b0 : decide (((rd_T38 l0_0 a2).f2) ≤ 2) = false := decide_eq_false c9
  clear c9
  obtain rfl := Option.some.inj H
  have hnb171 := NB232_229.out
  have hnc171 := NB229_232.out
  have hnb172 := NB232_233.out
  have hnc172 := NB233_232.out
  obtain ⟨hcz173_0, hcz173_1, hcz173_2, hcz173_3, hfz173_0, hfz173_1, hfz173_2, hfz173_3⟩ := bo4 BK232
  have hnb174 := NB233_229.out
  have hnc174 := NB229_233.out
  obtain ⟨hcz175_0, hcz175_1, hcz175_2, hcz175_3, hfz175_0, hfz175_1, hfz175_2, hfz175_3⟩ := bo4 BK233
  try go_wp2
  go_ret
  exact ⟨ew, bb⟩
 rw [if_pos c9] at H
 have c9b0 : decide (((rd_T38 l0_0 a2).f2) ≤ 2) = true := decide_eq_true c9
 clear c9
 by_cases c10 : ((rd_T38 l0_0 a1).f0) = ((rd_T38 l0_0 a2).f0)
 ·
  rw [if_pos c10] at H
  have c10b0 : (((rd_T38 l0_0 a1).f0) == ((rd_T38 l0_0 a2).f0)) = true := beq_iff_eq.mpr c10
  have c10b1 : (((rd_T38 l0_0 a1).f0) != ((rd_T38 l0_0 a2).f0)) = false := bne_eq_false_iff_eq.mpr c10
  clear c10
  obtain rfl := Option.some.inj H
  have hnb24 := NB232_229.out
  have hnc24 := NB229_232.out
  have hnb25 := NB232_233.out
  have hnc25 := NB233_232.out
  obtain ⟨hcz26_0, hcz26_1, hcz26_2, hcz26_3, hfz26_0, hfz26_1, hfz26_2, hfz26_3⟩ := bo4 BK232
  have hnb27 := NB233_229.out
  have hnc27 := NB229_233.out
  obtain ⟨hcz28_0, hcz28_1, hcz28_2, hcz28_3, hfz28_0, hfz28_1, hfz28_2, hfz28_3⟩ := bo4 BK233
  try go_wp2
  go_ret
  exact ⟨ew, bb⟩
 rw [if_neg c10] at H
 have c10b0 : (((rd_T38 l0_0 a1).f0) == ((rd_T38 l0_0 a2).f0)) = false := beq_eq_false_iff_ne.mpr c10
 have c10b1 : (((rd_T38 l0_0 a1).f0) != ((rd_T38 l0_0 a2).f0)) = true := bne_iff_ne.mpr c10
 by_cases c29 : ((rd_T38 l0_0 a1).f3) = ((rd_T38 l0_0 a2).f3)
 rotate_left
 ·
  rw [if_neg c29] at H
  have c29b0 : (((rd_T38 l0_0 a1).f3) == ((rd_T38 l0_0 a2).f3)) = false := beq_eq_false_iff_ne.mpr c29
  have c29b1 : (((rd_T38 l0_0 a1).f3) != ((rd_T38 l0_0 a2).f3)) = true := bne_iff_ne.mpr c29
  obtain rfl := Option.some.inj H
  have hnb153 := NB232_229.out
  have hnc153 := NB229_232.out
  have hnb154 := NB232_233.out
  have hnc154 := NB233_232.out
  obtain ⟨hcz155_0, hcz155_1, hcz155_2, hcz155_3, hfz155_0, hfz155_1, hfz155_2, hfz155_3⟩ := bo4 BK232
  have hnb156 := NB233_229.out
  have hnc156 := NB229_233.out
  obtain ⟨hcz157_0, hcz157_1, hcz157_2, hcz157_3, hfz157_0, hfz157_1, hfz157_2, hfz157_3⟩ := bo4 BK233
  try go_wp2
  go_ret
  exact ⟨ew, bb⟩
 rw [if_pos c29] at H
 have c29b0 : (((rd_T38 l0_0 a1).f3) == ((rd_T38 l0_0 a2).f3)) = true := beq_iff_eq.mpr c29
 have c29b1 : (((rd_T38 l0_0 a1).f3) != ((rd_T38 l0_0 a2).f3)) = false := bne_eq_false_iff_eq.mpr c29
 clear c29
 by_cases c30 : ((rd_T38 l0_0 a1).f2) = 2
 ·
  rw [if_pos c30] at H
  have c30b0 : (((rd_T38 l0_0 a1).f2) == 2) = true := beq_iff_eq.mpr c30
  have c30b1 : (((rd_T38 l0_0 a1).f2) != 2) = false := bne_eq_false_iff_eq.mpr c30
  clear c30
  replace H := Option.bind_eq_some_iff.mp H
  obtain ⟨t234, A310, H⟩ := H
  replace H : (if t234 = true then (some false) else ((fathomref27_Ahead.f k l0_0 l0_1 a2 a1).bind fun t235 => (some (!t235)))) = some r := H
  have A31 := Aside0.mk A310
  clear A310
  by_cases c32 : t234 = true
  ·
   subst c32
   have H1 : (some false) = some r := by rw [if_pos rfl] at H; exact H
   clear H
   have H := H1
   clear H1
   obtain rfl := Option.some.inj H
   have hnb46 := NB232_229.out
   have hnc46 := NB229_232.out
   have hnb47 := NB232_233.out
   have hnc47 := NB233_232.out
   obtain ⟨hcz48_0, hcz48_1, hcz48_2, hcz48_3, hfz48_0, hfz48_1, hfz48_2, hfz48_3⟩ := bo4 BK232
   have hnb49 := NB233_229.out
   have hnc49 := NB229_233.out
   obtain ⟨hcz50_0, hcz50_1, hcz50_2, hcz50_3, hfz50_0, hfz50_1, hfz50_2, hfz50_3⟩ := bo4 BK233
   obtain ⟨hcz51_0, hcz51_1, hfz51_0, hfz51_1⟩ := bo2 BK229
   try go_wp2_with (first | (go_at_call 15; (with_reducible refine (fathomref27_Ahead.calls k _ _ l0_0 _ _ l0_1 a1 a2 true _ ?side1 ?side2 ?side3 ?side4 A31.out).mono ?_); (case side1 => exact Kd.C_below HR0_0.out bb); (case side2 => exact HC0_0.out); (case side3 => exact Kd.C_below HR0_1.out bb); (case side4 => exact HC0_1.out); rintro e w52 ⟨rfl, hb⟩; replace BK229 := Aside0.mk (blk_below (g := gb229) (o := .cells #[.slice (some ad230) l0_0.length c0_0, .slice A0_1 l0_1.length c0_1] 25 (0, 0)) (by refine bm ?_; refine blk_far ?_ NB229_233.out _; refine bm ?_; refine blk_far ?_ NB229_233.out _; refine bm ?_; refine blk_far ?_ NB229_233.out _; refine bm ?_; refine blk_far ?_ NB229_233.out _; refine bm ?_; refine blk_far ?_ NB229_232.out _; refine bm ?_; refine blk_far ?_ NB229_232.out _; refine bm ?_; refine blk_far ?_ NB229_232.out _; refine bm ?_; refine blk_far ?_ NB229_232.out _; refine bm ?_; exact BK229.out) hb); replace BK232 := Aside0.mk (blk_below (g := gb232) (o := .cells #[.int .i64 ((rd_T38 l0_0 a1).f0), .int .i64 ((rd_T38 l0_0 a1).f1), .int .i64 ((rd_T38 l0_0 a1).f2), .int .i64 ((rd_T38 l0_0 a1).f3)] 38 (0, 0)) (by refine bm ?_; refine blk_far ?_ NB232_233.out _; refine bm ?_; refine blk_far ?_ NB232_233.out _; refine bm ?_; refine blk_far ?_ NB232_233.out _; refine bm ?_; refine blk_far ?_ NB232_233.out _; refine bm ?_; refine blk_put (cs := #[.int .i64 ((rd_T38 l0_0 a1).f0), .int .i64 ((rd_T38 l0_0 a1).f1), .int .i64 ((rd_T38 l0_0 a1).f2), .int .i64 0]) ?_ 3 _ rfl; refine bm ?_; refine blk_put (cs := #[.int .i64 ((rd_T38 l0_0 a1).f0), .int .i64 ((rd_T38 l0_0 a1).f1), .int .i64 0, .int .i64 0]) ?_ 2 _ rfl; refine bm ?_; refine blk_put (cs := #[.int .i64 ((rd_T38 l0_0 a1).f0), .int .i64 0, .int .i64 0, .int .i64 0]) ?_ 1 _ rfl; refine bm ?_; refine blk_put (cs := #[.int .i64 0, .int .i64 0, .int .i64 0, .int .i64 0]) ?_ 0 _ rfl; refine bm ?_; exact BK232.out) hb); replace BK233 := Aside0.mk (blk_below (g := gb233) (o := .cells #[.int .i64 ((rd_T38 l0_0 a2).f0), .int .i64 ((rd_T38 l0_0 a2).f1), .int .i64 ((rd_T38 l0_0 a2).f2), .int .i64 ((rd_T38 l0_0 a2).f3)] 38 (0, 0)) (by refine bm ?_; refine blk_put (cs := #[.int .i64 ((rd_T38 l0_0 a2).f0), .int .i64 ((rd_T38 l0_0 a2).f1), .int .i64 ((rd_T38 l0_0 a2).f2), .int .i64 0]) ?_ 3 _ rfl; refine bm ?_; refine blk_put (cs := #[.int .i64 ((rd_T38 l0_0 a2).f0), .int .i64 ((rd_T38 l0_0 a2).f1), .int .i64 0, .int .i64 0]) ?_ 2 _ rfl; refine bm ?_; refine blk_put (cs := #[.int .i64 ((rd_T38 l0_0 a2).f0), .int .i64 0, .int .i64 0, .int .i64 0]) ?_ 1 _ rfl; refine bm ?_; refine blk_put (cs := #[.int .i64 0, .int .i64 0, .int .i64 0, .int .i64 0]) ?_ 0 _ rfl; refine bm ?_; refine blk_far ?_ NB233_232.out _; refine bm ?_; refine blk_far ?_ NB233_232.out _; refine bm ?_; refine blk_far ?_ NB233_232.out _; refine bm ?_; refine blk_far ?_ NB233_232.out _; refine bm ?_; exact BK233.out) hb); replace HB := Aside0.mk (below_step bb hb); (try clear hb); (try clear hb2); (try clear hk); (try clear hi)))
   go_ret
   exact ⟨ew, bb⟩
  replace c32 := Bool.eq_false_iff.mpr c32
  subst c32
  have H1 : ((fathomref27_Ahead.f k l0_0 l0_1 a2 a1).bind fun t235 => (some (!t235))) = some r := by rw [if_neg (show ¬ (false = true) by decide)] at H; exact H
  clear H
  have H := H1
  clear H1
  replace H := Option.bind_eq_some_iff.mp H
  obtain ⟨t235, A530, H⟩ := H
  replace H : (some (!t235)) = some r := H
  have A53 := Aside0.mk A530
  clear A530
  obtain rfl := Option.some.inj H
  have hnb67 := NB232_229.out
  have hnc67 := NB229_232.out
  have hnb68 := NB232_233.out
  have hnc68 := NB233_232.out
  obtain ⟨hcz69_0, hcz69_1, hcz69_2, hcz69_3, hfz69_0, hfz69_1, hfz69_2, hfz69_3⟩ := bo4 BK232
  have hnb70 := NB233_229.out
  have hnc70 := NB229_233.out
  obtain ⟨hcz71_0, hcz71_1, hcz71_2, hcz71_3, hfz71_0, hfz71_1, hfz71_2, hfz71_3⟩ := bo4 BK233
  obtain ⟨hcz72_0, hcz72_1, hfz72_0, hfz72_1⟩ := bo2 BK229
  try go_wp2_with (first | (go_at_call 15; (with_reducible refine (fathomref27_Ahead.calls k _ _ l0_0 _ _ l0_1 a1 a2 false _ ?side1 ?side2 ?side3 ?side4 A31.out).mono ?_); (case side1 => exact Kd.C_below HR0_0.out bb); (case side2 => exact HC0_0.out); (case side3 => exact Kd.C_below HR0_1.out bb); (case side4 => exact HC0_1.out); rintro e w73 ⟨rfl, hb⟩; replace BK229 := Aside0.mk (blk_below (g := gb229) (o := .cells #[.slice (some ad230) l0_0.length c0_0, .slice A0_1 l0_1.length c0_1] 25 (0, 0)) (by refine bm ?_; refine blk_far ?_ NB229_233.out _; refine bm ?_; refine blk_far ?_ NB229_233.out _; refine bm ?_; refine blk_far ?_ NB229_233.out _; refine bm ?_; refine blk_far ?_ NB229_233.out _; refine bm ?_; refine blk_far ?_ NB229_232.out _; refine bm ?_; refine blk_far ?_ NB229_232.out _; refine bm ?_; refine blk_far ?_ NB229_232.out _; refine bm ?_; refine blk_far ?_ NB229_232.out _; refine bm ?_; exact BK229.out) hb); replace BK232 := Aside0.mk (blk_below (g := gb232) (o := .cells #[.int .i64 ((rd_T38 l0_0 a1).f0), .int .i64 ((rd_T38 l0_0 a1).f1), .int .i64 ((rd_T38 l0_0 a1).f2), .int .i64 ((rd_T38 l0_0 a1).f3)] 38 (0, 0)) (by refine bm ?_; refine blk_far ?_ NB232_233.out _; refine bm ?_; refine blk_far ?_ NB232_233.out _; refine bm ?_; refine blk_far ?_ NB232_233.out _; refine bm ?_; refine blk_far ?_ NB232_233.out _; refine bm ?_; refine blk_put (cs := #[.int .i64 ((rd_T38 l0_0 a1).f0), .int .i64 ((rd_T38 l0_0 a1).f1), .int .i64 ((rd_T38 l0_0 a1).f2), .int .i64 0]) ?_ 3 _ rfl; refine bm ?_; refine blk_put (cs := #[.int .i64 ((rd_T38 l0_0 a1).f0), .int .i64 ((rd_T38 l0_0 a1).f1), .int .i64 0, .int .i64 0]) ?_ 2 _ rfl; refine bm ?_; refine blk_put (cs := #[.int .i64 ((rd_T38 l0_0 a1).f0), .int .i64 0, .int .i64 0, .int .i64 0]) ?_ 1 _ rfl; refine bm ?_; refine blk_put (cs := #[.int .i64 0, .int .i64 0, .int .i64 0, .int .i64 0]) ?_ 0 _ rfl; refine bm ?_; exact BK232.out) hb); replace BK233 := Aside0.mk (blk_below (g := gb233) (o := .cells #[.int .i64 ((rd_T38 l0_0 a2).f0), .int .i64 ((rd_T38 l0_0 a2).f1), .int .i64 ((rd_T38 l0_0 a2).f2), .int .i64 ((rd_T38 l0_0 a2).f3)] 38 (0, 0)) (by refine bm ?_; refine blk_put (cs := #[.int .i64 ((rd_T38 l0_0 a2).f0), .int .i64 ((rd_T38 l0_0 a2).f1), .int .i64 ((rd_T38 l0_0 a2).f2), .int .i64 0]) ?_ 3 _ rfl; refine bm ?_; refine blk_put (cs := #[.int .i64 ((rd_T38 l0_0 a2).f0), .int .i64 ((rd_T38 l0_0 a2).f1), .int .i64 0, .int .i64 0]) ?_ 2 _ rfl; refine bm ?_; refine blk_put (cs := #[.int .i64 ((rd_T38 l0_0 a2).f0), .int .i64 0, .int .i64 0, .int .i64 0]) ?_ 1 _ rfl; refine bm ?_; refine blk_put (cs := #[.int .i64 0, .int .i64 0, .int .i64 0, .int .i64 0]) ?_ 0 _ rfl; refine bm ?_; refine blk_far ?_ NB233_232.out _; refine bm ?_; refine blk_far ?_ NB233_232.out _; refine bm ?_; refine blk_far ?_ NB233_232.out _; refine bm ?_; refine blk_far ?_ NB233_232.out _; refine bm ?_; exact BK233.out) hb); replace HB := Aside0.mk (below_step bb hb); (try clear hb); (try clear hb2); (try clear hk); (try clear hi); obtain ⟨hcz74_0, hcz74_1, hfz74_0, hfz74_1⟩ := bo2 BK229) | (go_at_call 15; (with_reducible refine (fathomref27_Ahead.calls k _ _ l0_0 _ _ l0_1 a2 a1 t235 _ ?side1 ?side2 ?side3 ?side4 A53.out).mono ?_); (case side1 => exact cw HR0_0 HB); (case side2 => exact HC0_0.out); (case side3 => exact cw HR0_1 HB); (case side4 => exact HC0_1.out); rintro e w75 ⟨rfl, hb⟩; replace BK229 := Aside0.mk (bw BK229 hb); replace BK232 := Aside0.mk (bw BK232 hb); replace BK233 := Aside0.mk (bw BK233 hb); replace HB := Aside0.mk (below_step bb hb); (try clear hb); (try clear hb2); (try clear hk); (try clear hi)))
  go_ret
  exact ⟨ew, bb⟩
 rw [if_neg c30] at H
 have c30b0 : (((rd_T38 l0_0 a1).f2) == 2) = false := beq_eq_false_iff_ne.mpr c30
 have c30b1 : (((rd_T38 l0_0 a1).f2) != 2) = true := bne_iff_ne.mpr c30
 by_cases c76 : ((rd_T38 l0_0 a2).f2) = 2
 rotate_left
 ·
  rw [if_neg c76] at H
  have c76b0 : (((rd_T38 l0_0 a2).f2) == 2) = false := beq_eq_false_iff_ne.mpr c76
  have c76b1 : (((rd_T38 l0_0 a2).f2) != 2) = true := bne_iff_ne.mpr c76
  obtain rfl := Option.some.inj H
  have hnb135 := NB232_229.out
  have hnc135 := NB229_232.out
  have hnb136 := NB232_233.out
  have hnc136 := NB233_232.out
  obtain ⟨hcz137_0, hcz137_1, hcz137_2, hcz137_3, hfz137_0, hfz137_1, hfz137_2, hfz137_3⟩ := bo4 BK232
  have hnb138 := NB233_229.out
  have hnc138 := NB229_233.out
  obtain ⟨hcz139_0, hcz139_1, hcz139_2, hcz139_3, hfz139_0, hfz139_1, hfz139_2, hfz139_3⟩ := bo4 BK233
  try go_wp2
  go_ret
  exact ⟨ew, bb⟩
 rw [if_pos c76] at H
 have c76b0 : (((rd_T38 l0_0 a2).f2) == 2) = true := beq_iff_eq.mpr c76
 have c76b1 : (((rd_T38 l0_0 a2).f2) != 2) = false := bne_eq_false_iff_eq.mpr c76
 clear c76
 replace H := Option.bind_eq_some_iff.mp H
 obtain ⟨t236, A770, H⟩ := H
 replace H : (if t236 = true then (some false) else ((fathomref27_Ahead.f k l0_0 l0_1 a2 a1).bind fun t237 => (some (!t237)))) = some r := H
 have A77 := Aside0.mk A770
 clear A770
 by_cases c78 : t236 = true
 ·
  subst c78
  have H1 : (some false) = some r := by rw [if_pos rfl] at H; exact H
  clear H
  have H := H1
  clear H1
  obtain rfl := Option.some.inj H
  have hnb92 := NB232_229.out
  have hnc92 := NB229_232.out
  have hnb93 := NB232_233.out
  have hnc93 := NB233_232.out
  obtain ⟨hcz94_0, hcz94_1, hcz94_2, hcz94_3, hfz94_0, hfz94_1, hfz94_2, hfz94_3⟩ := bo4 BK232
  have hnb95 := NB233_229.out
  have hnc95 := NB229_233.out
  obtain ⟨hcz96_0, hcz96_1, hcz96_2, hcz96_3, hfz96_0, hfz96_1, hfz96_2, hfz96_3⟩ := bo4 BK233
  obtain ⟨hcz97_0, hcz97_1, hfz97_0, hfz97_1⟩ := bo2 BK229
  try go_wp2_with (first | (go_at_call 15; (with_reducible refine (fathomref27_Ahead.calls k _ _ l0_0 _ _ l0_1 a1 a2 true _ ?side1 ?side2 ?side3 ?side4 A77.out).mono ?_); (case side1 => exact Kd.C_below HR0_0.out bb); (case side2 => exact HC0_0.out); (case side3 => exact Kd.C_below HR0_1.out bb); (case side4 => exact HC0_1.out); rintro e w98 ⟨rfl, hb⟩; replace BK229 := Aside0.mk (blk_below (g := gb229) (o := .cells #[.slice (some ad230) l0_0.length c0_0, .slice A0_1 l0_1.length c0_1] 25 (0, 0)) (by refine bm ?_; refine blk_far ?_ NB229_233.out _; refine bm ?_; refine blk_far ?_ NB229_233.out _; refine bm ?_; refine blk_far ?_ NB229_233.out _; refine bm ?_; refine blk_far ?_ NB229_233.out _; refine bm ?_; refine blk_far ?_ NB229_232.out _; refine bm ?_; refine blk_far ?_ NB229_232.out _; refine bm ?_; refine blk_far ?_ NB229_232.out _; refine bm ?_; refine blk_far ?_ NB229_232.out _; refine bm ?_; exact BK229.out) hb); replace BK232 := Aside0.mk (blk_below (g := gb232) (o := .cells #[.int .i64 ((rd_T38 l0_0 a1).f0), .int .i64 ((rd_T38 l0_0 a1).f1), .int .i64 ((rd_T38 l0_0 a1).f2), .int .i64 ((rd_T38 l0_0 a1).f3)] 38 (0, 0)) (by refine bm ?_; refine blk_far ?_ NB232_233.out _; refine bm ?_; refine blk_far ?_ NB232_233.out _; refine bm ?_; refine blk_far ?_ NB232_233.out _; refine bm ?_; refine blk_far ?_ NB232_233.out _; refine bm ?_; refine blk_put (cs := #[.int .i64 ((rd_T38 l0_0 a1).f0), .int .i64 ((rd_T38 l0_0 a1).f1), .int .i64 ((rd_T38 l0_0 a1).f2), .int .i64 0]) ?_ 3 _ rfl; refine bm ?_; refine blk_put (cs := #[.int .i64 ((rd_T38 l0_0 a1).f0), .int .i64 ((rd_T38 l0_0 a1).f1), .int .i64 0, .int .i64 0]) ?_ 2 _ rfl; refine bm ?_; refine blk_put (cs := #[.int .i64 ((rd_T38 l0_0 a1).f0), .int .i64 0, .int .i64 0, .int .i64 0]) ?_ 1 _ rfl; refine bm ?_; refine blk_put (cs := #[.int .i64 0, .int .i64 0, .int .i64 0, .int .i64 0]) ?_ 0 _ rfl; refine bm ?_; exact BK232.out) hb); replace BK233 := Aside0.mk (blk_below (g := gb233) (o := .cells #[.int .i64 ((rd_T38 l0_0 a2).f0), .int .i64 ((rd_T38 l0_0 a2).f1), .int .i64 ((rd_T38 l0_0 a2).f2), .int .i64 ((rd_T38 l0_0 a2).f3)] 38 (0, 0)) (by refine bm ?_; refine blk_put (cs := #[.int .i64 ((rd_T38 l0_0 a2).f0), .int .i64 ((rd_T38 l0_0 a2).f1), .int .i64 ((rd_T38 l0_0 a2).f2), .int .i64 0]) ?_ 3 _ rfl; refine bm ?_; refine blk_put (cs := #[.int .i64 ((rd_T38 l0_0 a2).f0), .int .i64 ((rd_T38 l0_0 a2).f1), .int .i64 0, .int .i64 0]) ?_ 2 _ rfl; refine bm ?_; refine blk_put (cs := #[.int .i64 ((rd_T38 l0_0 a2).f0), .int .i64 0, .int .i64 0, .int .i64 0]) ?_ 1 _ rfl; refine bm ?_; refine blk_put (cs := #[.int .i64 0, .int .i64 0, .int .i64 0, .int .i64 0]) ?_ 0 _ rfl; refine bm ?_; refine blk_far ?_ NB233_232.out _; refine bm ?_; refine blk_far ?_ NB233_232.out _; refine bm ?_; refine blk_far ?_ NB233_232.out _; refine bm ?_; refine blk_far ?_ NB233_232.out _; refine bm ?_; exact BK233.out) hb); replace HB := Aside0.mk (below_step bb hb); (try clear hb); (try clear hb2); (try clear hk); (try clear hi)))
  go_ret
  exact ⟨ew, bb⟩
 replace c78 := Bool.eq_false_iff.mpr c78
 subst c78
 have H1 : ((fathomref27_Ahead.f k l0_0 l0_1 a2 a1).bind fun t237 => (some (!t237))) = some r := by rw [if_neg (show ¬ (false = true) by decide)] at H; exact H
 clear H
 have H := H1
 clear H1
 replace H := Option.bind_eq_some_iff.mp H
 obtain ⟨t237, A990, H⟩ := H
 replace H : (some (!t237)) = some r := H
 have A99 := Aside0.mk A990
 clear A990
 obtain rfl := Option.some.inj H
 have hnb113 := NB232_229.out
 have hnc113 := NB229_232.out
 have hnb114 := NB232_233.out
 have hnc114 := NB233_232.out
 obtain ⟨hcz115_0, hcz115_1, hcz115_2, hcz115_3, hfz115_0, hfz115_1, hfz115_2, hfz115_3⟩ := bo4 BK232
 have hnb116 := NB233_229.out
 have hnc116 := NB229_233.out
 obtain ⟨hcz117_0, hcz117_1, hcz117_2, hcz117_3, hfz117_0, hfz117_1, hfz117_2, hfz117_3⟩ := bo4 BK233
 obtain ⟨hcz118_0, hcz118_1, hfz118_0, hfz118_1⟩ := bo2 BK229
 try go_wp2_with (first | (go_at_call 15; (with_reducible refine (fathomref27_Ahead.calls k _ _ l0_0 _ _ l0_1 a1 a2 false _ ?side1 ?side2 ?side3 ?side4 A77.out).mono ?_); (case side1 => exact Kd.C_below HR0_0.out bb); (case side2 => exact HC0_0.out); (case side3 => exact Kd.C_below HR0_1.out bb); (case side4 => exact HC0_1.out); rintro e w119 ⟨rfl, hb⟩; replace BK229 := Aside0.mk (blk_below (g := gb229) (o := .cells #[.slice (some ad230) l0_0.length c0_0, .slice A0_1 l0_1.length c0_1] 25 (0, 0)) (by refine bm ?_; refine blk_far ?_ NB229_233.out _; refine bm ?_; refine blk_far ?_ NB229_233.out _; refine bm ?_; refine blk_far ?_ NB229_233.out _; refine bm ?_; refine blk_far ?_ NB229_233.out _; refine bm ?_; refine blk_far ?_ NB229_232.out _; refine bm ?_; refine blk_far ?_ NB229_232.out _; refine bm ?_; refine blk_far ?_ NB229_232.out _; refine bm ?_; refine blk_far ?_ NB229_232.out _; refine bm ?_; exact BK229.out) hb); replace BK232 := Aside0.mk (blk_below (g := gb232) (o := .cells #[.int .i64 ((rd_T38 l0_0 a1).f0), .int .i64 ((rd_T38 l0_0 a1).f1), .int .i64 ((rd_T38 l0_0 a1).f2), .int .i64 ((rd_T38 l0_0 a1).f3)] 38 (0, 0)) (by refine bm ?_; refine blk_far ?_ NB232_233.out _; refine bm ?_; refine blk_far ?_ NB232_233.out _; refine bm ?_; refine blk_far ?_ NB232_233.out _; refine bm ?_; refine blk_far ?_ NB232_233.out _; refine bm ?_; refine blk_put (cs := #[.int .i64 ((rd_T38 l0_0 a1).f0), .int .i64 ((rd_T38 l0_0 a1).f1), .int .i64 ((rd_T38 l0_0 a1).f2), .int .i64 0]) ?_ 3 _ rfl; refine bm ?_; refine blk_put (cs := #[.int .i64 ((rd_T38 l0_0 a1).f0), .int .i64 ((rd_T38 l0_0 a1).f1), .int .i64 0, .int .i64 0]) ?_ 2 _ rfl; refine bm ?_; refine blk_put (cs := #[.int .i64 ((rd_T38 l0_0 a1).f0), .int .i64 0, .int .i64 0, .int .i64 0]) ?_ 1 _ rfl; refine bm ?_; refine blk_put (cs := #[.int .i64 0, .int .i64 0, .int .i64 0, .int .i64 0]) ?_ 0 _ rfl; refine bm ?_; exact BK232.out) hb); replace BK233 := Aside0.mk (blk_below (g := gb233) (o := .cells #[.int .i64 ((rd_T38 l0_0 a2).f0), .int .i64 ((rd_T38 l0_0 a2).f1), .int .i64 ((rd_T38 l0_0 a2).f2), .int .i64 ((rd_T38 l0_0 a2).f3)] 38 (0, 0)) (by refine bm ?_; refine blk_put (cs := #[.int .i64 ((rd_T38 l0_0 a2).f0), .int .i64 ((rd_T38 l0_0 a2).f1), .int .i64 ((rd_T38 l0_0 a2).f2), .int .i64 0]) ?_ 3 _ rfl; refine bm ?_; refine blk_put (cs := #[.int .i64 ((rd_T38 l0_0 a2).f0), .int .i64 ((rd_T38 l0_0 a2).f1), .int .i64 0, .int .i64 0]) ?_ 2 _ rfl; refine bm ?_; refine blk_put (cs := #[.int .i64 ((rd_T38 l0_0 a2).f0), .int .i64 0, .int .i64 0, .int .i64 0]) ?_ 1 _ rfl; refine bm ?_; refine blk_put (cs := #[.int .i64 0, .int .i64 0, .int .i64 0, .int .i64 0]) ?_ 0 _ rfl; refine bm ?_; refine blk_far ?_ NB233_232.out _; refine bm ?_; refine blk_far ?_ NB233_232.out _; refine bm ?_; refine blk_far ?_ NB233_232.out _; refine bm ?_; refine blk_far ?_ NB233_232.out _; refine bm ?_; exact BK233.out) hb); replace HB := Aside0.mk (below_step bb hb); (try clear hb); (try clear hb2); (try clear hk); (try clear hi); obtain ⟨hcz120_0, hcz120_1, hfz120_0, hfz120_1⟩ := bo2 BK229) | (go_at_call 15; (with_reducible refine (fathomref27_Ahead.calls k _ _ l0_0 _ _ l0_1 a2 a1 t237 _ ?side1 ?side2 ?side3 ?side4 A99.out).mono ?_); (case side1 => exact cw HR0_0 HB); (case side2 => exact HC0_0.out); (case side3 => exact cw HR0_1 HB); (case side4 => exact HC0_1.out); rintro e w121 ⟨rfl, hb⟩; replace BK229 := Aside0.mk (bw BK229 hb); replace BK232 := Aside0.mk (bw BK232 hb); replace BK233 := Aside0.mk (bw BK233 hb); replace HB := Aside0.mk (below_step bb hb); (try clear hb); (try clear hb2); (try clear hk); (try clear hi)))
 go_ret
 exact ⟨ew, bb⟩

end Go.Proofs.Ytcoelecaigkfcaa.K
