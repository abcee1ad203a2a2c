-- Laid by drive.py (a program of the session's) out of the translation. Lean checks it.
import Derived.Test.YtgjehnjonleibaaQx0
import Derived.Test.YtgjehnjonleibaaQx3
import Derived.Test.YtgjehnjonleibaaQx4
namespace Go.Proofs.Ytgjehnjonleibaa.Q
open Go.RowKit Go.Proofs.YtgjehnjonleibaaW.PrintWords Go.Proofs.YtgjehnjonleibaaW.PrintLast Go.Proofs.YtgjehnjonleibaaW.PrintMore
attribute [local go_sem] max2_int min2_int max_two min_two max_three min_three max_four min_four   -- for this text's walks alone
set_option linter.unusedVariables false
set_option linter.unusedSimpArgs false

/-! ### fathomlaw20_LexCovers: function 3 -/
mutual
def fathomlaw20_LexCovers.l0 : Nat → List Int → List (S29) → Int → List Int → Int → Option (Bool)
  | 0, _, _, _, _, _ => none
  | k + 1, x0, x3, x6, x7, x8 => if x8 < (x3.length : Int) then (if 0 ≤ x8 then (if ((rd_T29 x3 x8).f1) < x6 then (some false) else (if (wrap64 (((rd_T29 x3 x8).f1) + (((rd_T29 x3 x8).f2).size : Int))) > (x0.length : Int) then (some false) else (if 0 ≤ ((rd_T29 x3 x8).f1) then (if ((rd_T29 x3 x8).f1) ≤ (wrap64 (((rd_T29 x3 x8).f1) + (((rd_T29 x3 x8).f2).size : Int))) then (if (wrap64 (((rd_T29 x3 x8).f1) + (((rd_T29 x3 x8).f2).size : Int))) ≤ (x0.length : Int) then (if (strOfNums ((x0.take ((wrap64 (((rd_T29 x3 x8).f1) + (((rd_T29 x3 x8).f2).size : Int))) : Int).toNat).drop (((rd_T29 x3 x8).f1) : Int).toNat)).toList = ((rd_T29 x3 x8).f2).toList then ((fathomref20_Start.f k x0 x6).bind fun t186 => (if t186 = ((rd_T29 x3 x8).f1) then (if x7.length < 140737488355328 then ((some (x7 ++ [32] : List Int)).bind fun y187 => (if y187.length + ((rd_T29 x3 x8).f2).size < 140737488355328 then (fathomlaw20_LexCovers.l0 k x0 x3 (wrap64 (((rd_T29 x3 x8).f1) + (((rd_T29 x3 x8).f2).size : Int))) (y187 ++ bytesOf ((rd_T29 x3 x8).f2)) (wrap64 (x8 + 1))) else (none))) else (none)) else (some false))) else (some false)) else (none)) else (none)) else (none)))) else (none)) else ((lex_All.f k x7).bind fun bt193 => (if bt193.2.2 = 0 then (if (bt193.1.length : Int) = (x3.length : Int) then (fathomlaw20_LexCovers.j1 k x3 bt193.1 (x6 != (x0.length : Int))) else (fathomlaw20_LexCovers.j1 k x3 bt193.1 true)) else (fathomlaw20_LexCovers.j1 k x3 bt193.1 true)))
def fathomlaw20_LexCovers.j1 : Nat → List (S29) → List (S29) → Bool → Option (Bool)
  | 0, _, _, _ => none
  | k + 1, x3, x10, x111 => if x111 = true then (some false) else (fathomlaw20_LexCovers.l1 k x3 x10 0)
def fathomlaw20_LexCovers.l1 : Nat → List (S29) → List (S29) → Int → Option (Bool)
  | 0, _, _, _ => none
  | k + 1, x3, x10, x13 => if x13 < (x3.length : Int) then (if 0 ≤ x13 then (if x13 < (x10.length : Int) then (if ((rd_T29 x10 x13).f0) = ((rd_T29 x3 x13).f0) then (if ((rd_T29 x10 x13).f2).toList = ((rd_T29 x3 x13).f2).toList then (if ((rd_T29 x10 x13).f3) = ((rd_T29 x3 x13).f3) then (fathomlaw20_LexCovers.l1 k x3 x10 (wrap64 (x13 + 1))) else (some false)) else (some false)) else (some false)) else (none)) else (none)) else ((fathomlaw20_awake.f k).bind fun t204 => (some t204))
end
def fathomlaw20_LexCovers.f (k : Nat) (l0 : List Int) : Option (Bool) := if (l0.length : Int) > 3000 then ((fathomlaw20_awake.f k).bind fun t167 => (some t167)) else ((some (([] : List Int) : List Int)).bind fun y168 => (if y168.length + l0.length < 140737488355328 then ((lex_All.f k (y168 ++ l0)).bind fun bt174 => (if bt174.2.2 = 0 then (fathomlaw20_LexCovers.l0 k l0 bt174.1 0 (([] : List Int)) 0) else ((fathomlaw20_awake.f k).bind fun t179 => (some t179)))) else (none)))
theorem fathomlaw20_LexCovers.mono_l : ∀ k, (∀ y0 y1 y2 y3 y4, LeO (fathomlaw20_LexCovers.l0 k y0 y1 y2 y3 y4) (fathomlaw20_LexCovers.l0 (k + 1) y0 y1 y2 y3 y4)) ∧ (∀ y0 y1 y2, LeO (fathomlaw20_LexCovers.j1 k y0 y1 y2) (fathomlaw20_LexCovers.j1 (k + 1) y0 y1 y2)) ∧ (∀ y0 y1 y2, LeO (fathomlaw20_LexCovers.l1 k y0 y1 y2) (fathomlaw20_LexCovers.l1 (k + 1) y0 y1 y2))
  | 0 => ⟨fun _ _ _ _ _ r h => by simp [fathomlaw20_LexCovers.l0] at h, fun _ _ _ r h => by simp [fathomlaw20_LexCovers.j1] at h, fun _ _ _ r h => by simp [fathomlaw20_LexCovers.l1] at h⟩
  | k + 1 => by
    obtain ⟨ih0, ih1, ih2⟩ := fathomlaw20_LexCovers.mono_l k
    refine ⟨?_, ?_, ?_⟩
    · intro y0 y1 y2 y3 y4
      unfold fathomlaw20_LexCovers.l0
      repeat' first
      | (with_reducible exact ih0 _ _ _ _ _)
      | (with_reducible exact ih1 _ _ _)
      | (with_reducible exact ih2 _ _ _)
      | (with_reducible exact fathomlaw20_awake.mono _)
      | (with_reducible exact fathomref20_Start.mono _ _ _)
      | (with_reducible exact lex_All.mono _ _)
      | (with_reducible exact LeO.refl _)
      | (with_reducible exact LeO.none _)
      | (with_reducible refine LeO.ite ?_ ?_)
      | (with_reducible refine LeO.bind ?_ (fun _ => ?_))
      | exact ih0 _ _ _ _ _
      | exact ih1 _ _ _
      | exact ih2 _ _ _
      | exact fathomlaw20_awake.mono _
      | exact fathomref20_Start.mono _ _ _
      | exact lex_All.mono _ _
      | exact LeO.none _
      | refine LeO.ite ?_ ?_
      | refine LeO.bind ?_ (fun _ => ?_)
    · intro y0 y1 y2
      unfold fathomlaw20_LexCovers.j1
      repeat' first
      | (with_reducible exact ih0 _ _ _ _ _)
      | (with_reducible exact ih1 _ _ _)
      | (with_reducible exact ih2 _ _ _)
      | (with_reducible exact fathomlaw20_awake.mono _)
      | (with_reducible exact fathomref20_Start.mono _ _ _)
      | (with_reducible exact lex_All.mono _ _)
      | (with_reducible exact LeO.refl _)
      | (with_reducible exact LeO.none _)
      | (with_reducible refine LeO.ite ?_ ?_)
      | (with_reducible refine LeO.bind ?_ (fun _ => ?_))
      | exact ih0 _ _ _ _ _
      | exact ih1 _ _ _
      | exact ih2 _ _ _
      | exact fathomlaw20_awake.mono _
      | exact fathomref20_Start.mono _ _ _
      | exact lex_All.mono _ _
      | exact LeO.none _
      | refine LeO.ite ?_ ?_
      | refine LeO.bind ?_ (fun _ => ?_)
    · intro y0 y1 y2
      unfold fathomlaw20_LexCovers.l1
      repeat' first
      | (with_reducible exact ih0 _ _ _ _ _)
      | (with_reducible exact ih1 _ _ _)
      | (with_reducible exact ih2 _ _ _)
      | (with_reducible exact fathomlaw20_awake.mono _)
      | (with_reducible exact fathomref20_Start.mono _ _ _)
      | (with_reducible exact lex_All.mono _ _)
      | (with_reducible exact LeO.refl _)
      | (with_reducible exact LeO.none _)
      | (with_reducible refine LeO.ite ?_ ?_)
      | (with_reducible refine LeO.bind ?_ (fun _ => ?_))
      | exact ih0 _ _ _ _ _
      | exact ih1 _ _ _
      | exact ih2 _ _ _
      | exact fathomlaw20_awake.mono _
      | exact fathomref20_Start.mono _ _ _
      | exact lex_All.mono _ _
      | exact LeO.none _
      | refine LeO.ite ?_ ?_
      | refine LeO.bind ?_ (fun _ => ?_)
theorem fathomlaw20_LexCovers.mono : ∀ a0 k, LeO (fathomlaw20_LexCovers.f k a0) (fathomlaw20_LexCovers.f (k + 1) a0) := by
  intro a0 k
  obtain ⟨ih0, ih1, ih2⟩ := fathomlaw20_LexCovers.mono_l k
  unfold fathomlaw20_LexCovers.f
  repeat' first
      | (with_reducible exact ih0 _ _ _ _ _)
      | (with_reducible exact ih1 _ _ _)
      | (with_reducible exact ih2 _ _ _)
      | (with_reducible exact fathomlaw20_awake.mono _)
      | (with_reducible exact fathomref20_Start.mono _ _ _)
      | (with_reducible exact lex_All.mono _ _)
      | (with_reducible exact LeO.refl _)
      | (with_reducible exact LeO.none _)
      | (with_reducible refine LeO.ite ?_ ?_)
      | (with_reducible refine LeO.bind ?_ (fun _ => ?_))
      | exact ih0 _ _ _ _ _
      | exact ih1 _ _ _
      | exact ih2 _ _ _
      | exact fathomlaw20_awake.mono _
      | exact fathomref20_Start.mono _ _ _
      | exact lex_All.mono _ _
      | exact LeO.none _
      | refine LeO.ite ?_ ?_
      | refine LeO.bind ?_ (fun _ => ?_)
def fathomlaw20_LexCovers.T12 : Bool × List (List Nat × List Nat) := (true, [([], []), ([0], [0]), ([], []), ([1, 2], [1, 2]), ([3], [3]), ([4], [4]), ([5, 4], [4, 5]), ([4], [4]), ([7, 4], [4, 7]), ([8, 4], [4, 8]), ([6, 9, 4], [4, 6, 9]), ([4], [4]), ([11, 4], [4, 11]), ([10, 12, 4], [4, 10, 12]), ([4, 13], [4, 13]), ([14, 4], [14]), ([15], [15]), ([15], [15]), ([17, 15], [15, 17]), ([15], [15]), ([19, 15], [15, 19]), ([15], [15]), ([21, 15], [15, 21]), ([22, 15], [15, 22]), ([20, 23, 15], [15, 20, 23]), ([16, 18, 24, 15], [15, 16, 18, 24]), ([25, 15], [15, 25]), ([15], [15]), ([27, 15], [15, 27]), ([26, 28, 15], [15, 26, 28]), ([15, 29], [15, 29]), ([30, 15], [30]), ([31], [31]), ([31], [31]), ([32, 33, 31, 31], [31, 32, 33]), ([31], [31]), ([35, 31], [31, 35]), ([34, 36, 31], [31, 34, 36]), ([31, 37], [31, 37])])
def fathomlaw20_LexCovers.B12 : List Nat := [0, 1, 0, 7, 15, 31, 63, 31, 159, 415, 1023, 31, 2079, 8191, 16383, 32767, 65535, 65535, 196607, 65535, 589823, 65535, 2162687, 6356991, 16318463, 33554431, 67108863, 65535, 134283263, 536870911, 1073741823, 2147483647, 4294967295, 4294967295, 17179869183, 4294967295, 38654705663, 137438953471, 274877906943]
theorem fathomlaw20_LexCovers.tab12 : rtab .any (opsOf Try.f3 12) = fathomlaw20_LexCovers.T12 := by kernel_rfl
theorem fathomlaw20_LexCovers.bits12 : waitsOk fathomlaw20_LexCovers.T12.2 fathomlaw20_LexCovers.B12 = true := by kernel_rfl
def fathomlaw20_LexCovers.T22 : Bool × List (List Nat × List Nat) := (true, [([], []), ([], []), ([0, 1], [0, 1]), ([2], [2]), ([3], [3]), ([], []), ([], []), ([5, 6], [5, 6]), ([7], [7]), ([8], [8]), ([4, 9], [4, 9]), ([10], [10]), ([11], [11]), ([11], [11]), ([12, 13, 11], [11, 12, 13]), ([14, 11], [11, 14]), ([15, 11], [11, 15]), ([11], [11]), ([11], [11]), ([17, 18, 11], [11, 17, 18]), ([19, 11], [11, 19]), ([20, 11], [11, 20]), ([16, 21, 11], [11, 16, 21]), ([11, 22], [11, 22]), ([23, 11], [23]), ([24], [24]), ([24], [24]), ([25, 26, 24], [24, 25, 26]), ([27, 24], [24, 27]), ([28, 24], [24, 28]), ([24], [24]), ([24], [24]), ([30, 31, 24], [24, 30, 31]), ([32, 24], [24, 32]), ([33, 24], [24, 33]), ([29, 34, 24], [24, 29, 34]), ([24, 35], [24, 35])])
def fathomlaw20_LexCovers.B22 : List Nat := [0, 0, 3, 7, 15, 0, 0, 96, 224, 480, 1023, 2047, 4095, 4095, 16383, 32767, 65535, 4095, 4095, 397311, 921599, 1970175, 4194303, 8388607, 16777215, 33554431, 33554431, 134217727, 268435455, 536870911, 33554431, 33554431, 3254779903, 7549747199, 16139681791, 34359738367, 68719476735]
theorem fathomlaw20_LexCovers.tab22 : rtab .any (opsOf Try.f3 22) = fathomlaw20_LexCovers.T22 := by kernel_rfl
theorem fathomlaw20_LexCovers.bits22 : waitsOk fathomlaw20_LexCovers.T22.2 fathomlaw20_LexCovers.B22 = true := by kernel_rfl
set_option maxHeartbeats 8000000 in
set_option maxRecDepth 100000 in
theorem fathomlaw20_LexCovers.calls (k : Nat) (A0 : Option Addr) (c0 : Nat) (l0 : List Int) (r : Bool) (w : World) (hr0 : Kd.C (Kd.int .u8) w A0 l0.length l0) (hc0 : l0.length ≤ c0) (h : fathomlaw20_LexCovers.f k l0 = some r) (hG : GlobOK w) :
    Calls Try.prog 3 #[.slice A0 l0.length c0] w fun e w' => e = .returned (.bool r) ∧ Below w.heap.size w w' := by
 have HG := Aside0.mk hG
 clear hG
 have hu29 := Try.underlying29
 have HR0 := Aside0.mk hr0
 have HC0 := Aside0.mk hc0
 clear hr0 hc0
 have HB := Aside0.mk (Below.refl w.heap.size w)
 have H : (if (l0.length : Int) > 3000 then ((fathomlaw20_awake.f k).bind fun t167 => (some t167)) else ((some (([] : List Int) : List Int)).bind fun y168 => (if y168.length + l0.length < 140737488355328 then ((lex_All.f k (y168 ++ l0)).bind fun bt174 => (if bt174.2.2 = 0 then (fathomlaw20_LexCovers.l0 k l0 bt174.1 0 (([] : List Int)) 0) else ((fathomlaw20_awake.f k).bind fun t179 => (some t179)))) else (none)))) = some r := h
 clear h
 by_cases c2 : (l0.length : Int) > 3000
 ·
  rw [if_pos c2] at H
  have c2b0 : decide (3000 < (l0.length : Int)) = true := decide_eq_true c2
  have c2b1 : decide (3000 < l0.length) = true := decide_eq_true (by omega)
  clear c2
  replace H := Option.bind_eq_some_iff.mp H
  obtain ⟨t167, A30, H⟩ := H
  replace H : (some t167) = some r := H
  have A3 := Aside0.mk A30
  clear A30
  obtain rfl := Option.some.inj H
  go_enter Try.func3, Try.ntmps3
  go_wp2_with (first | ((with_reducible refine gate_callee (f := 5) rfl ?_); refine gl (some 17) Try.func5 #[] ?_; (with_reducible refine (fathomlaw20_awake.calls k  t167 _ A3.out ?gside).mono ?_); (case gside => repeat (first | exact (GlobOK.below HG.out HB.out) | (with_reducible refine GlobOK.alloc HG.out ?_ _) | (with_reducible refine GlobOK.drewN ?_ _) | (with_reducible refine GlobOK.drew ?_) | (refine GlobOK.set HG.out (by with_reducible assumption) ?_))); rintro e w4 ⟨rfl, hb⟩; refine ⟨_, rfl, ?_⟩; replace HB := Aside0.mk (below_step bb hb); (try clear hb); (try clear hb2); (try clear hk); (try clear hi)))
  go_ret
  exact ⟨ew, bb⟩
 rw [if_neg c2] at H
 have c2b0 : decide (3000 < (l0.length : Int)) = false := decide_eq_false c2
 have c2b1 : decide (3000 < l0.length) = false := decide_eq_false (by omega)
 clear c2
 obtain ⟨y168, hy168⟩ : ∃ y_ : List Int, y_ = (([] : List Int)) := ⟨_, rfl⟩
 replace H : (if y168.length + l0.length < 140737488355328 then ((lex_All.f k (y168 ++ l0)).bind fun bt174 => (if bt174.2.2 = 0 then (fathomlaw20_LexCovers.l0 k l0 bt174.1 0 (([] : List Int)) 0) else ((fathomlaw20_awake.f k).bind fun t179 => (some t179)))) else (none)) = some r := by first | (rw [hy168]; with_reducible exact H) | (have H2_ := (Option.bind_some _ _).symm.trans H; rw [hy168]; with_reducible exact H2_) | (have H2_ := (Option.bind_some _ _).symm.trans H; with_reducible exact H2_) | with_reducible exact H | (rw [hy168]; exact H) | exact H
 have Ny168 := Aside0.mk hy168
 clear hy168
 by_cases c5 : y168.length + l0.length < 140737488355328
 rotate_left
 ·
  rw [if_neg c5] at H
  exact absurd H (by simp)
 rw [if_pos c5] at H
 have LMc5 := Aside0.mk c5
 clear c5
 obtain ⟨y171, hy171⟩ : ∃ y_ : List Int, y_ = (y168 ++ l0) := ⟨_, rfl⟩
 replace H : ((lex_All.f k y171).bind fun bt174 => (if bt174.2.2 = 0 then (fathomlaw20_LexCovers.l0 k l0 bt174.1 0 (([] : List Int)) 0) else ((fathomlaw20_awake.f k).bind fun t179 => (some t179)))) = some r := by first | (rw [hy171]; with_reducible exact H) | (have H2_ := (Option.bind_some _ _).symm.trans H; rw [hy171]; with_reducible exact H2_) | (have H2_ := (Option.bind_some _ _).symm.trans H; with_reducible exact H2_) | with_reducible exact H | (rw [hy171]; exact H) | exact H
 have Ny171 := Aside0.mk hy171
 clear hy171
 replace H := Option.bind_eq_some_iff.mp H
 obtain ⟨⟨t174, t175, t176⟩, A60, H⟩ := H
 replace H : (if t176 = 0 then (fathomlaw20_LexCovers.l0 k l0 t174 0 (([] : List Int)) 0) else ((fathomlaw20_awake.f k).bind fun t179 => (some t179))) = some r := H
 have A6 := Aside0.mk A60
 clear A60
 by_cases c7 : t176 = 0
 rotate_left
 ·
  rw [if_neg c7] at H
  have c7b0 : (t176 == 0) = false := beq_eq_false_iff_ne.mpr c7
  have c7b1 : (t176 != 0) = true := bne_iff_ne.mpr c7
  replace H := Option.bind_eq_some_iff.mp H
  obtain ⟨t179, A880, H⟩ := H
  replace H : (some t179) = some r := H
  have A88 := Aside0.mk A880
  clear A880
  obtain rfl := Option.some.inj H
  go_enter Try.func3, Try.ntmps3
  go_wp2_with (first | ((with_reducible refine gate_dst (N := 19) rfl ?_); (try (refine gate_guard (by rfl) ?_; dsimp only)); refine Kd.R_lit (Kd.int .u8) _ 5 ?hg (N := 19) ?hd (xs := ([] : List Int)) (inner := []) (ok := fun _ => True) (okp := fun _ => True) ?hr ?hp (fun _ hk => hk) trivial (Below.refl _ _) (Nat.le_refl _) (by simp) ?_; (case hd => rfl); (case hg => rfl); (case hr => first | (go_simp; done) | (go_simp; rfl)); (case hp => exact (Reps.none _ _)); intro v169 w89 ho90 hb hg_ hnew_; clear hg_ hnew_; (first | rw [← Ny168.out] at ho90 | (simp only [Int.reduceToNat] at ho90; rw [← Ny168.out] at ho90)); have HO170 := Aside0.mk (Kd.R_lower ho90 (below_size bb)); replace HB := Aside0.mk (below_step bb hb); clear hb ho90) | ((with_reducible refine gate_builtin (b := .append) (xs := #[.tmp 19, .tmp 20]) rfl ?_); (try (refine gate_guard (by rfl) ?_; dsimp only)); at_builtin; refine Kd.R_append_rows (Kd.int .u8) (w0 := w) w.heap.size rfl (.tmp 19) (.tmp 20) 22 5 (.int .u8 0) 1 rfl Try.underlying22 info5 rfl (by decide) (by omega) v169 y168 l0 _ _ _ (fun _ => True) (fun _ => False) rfl rfl ?aO ?aR (fun _ _ h => h) (fun _ h => h.elim) ?aF ?aB ?aS ?aL ?_; (case aR => exact cw HR0 HB); (case aB => exact bb); (case aF => exact (fun _ _ => trivial)); (case aO => exact (rk HO170)); (case aS => exact (below_size bb)); (case aL => have := LMc5.out; omega); intro v172 w91 ho hb hg hat; rw [← Ny171.out] at ho; replace HB := Aside0.mk (hb); have HO173 := Aside0.mk (ho); clear HO170; clear ho hb hg hat; obtain ⟨Ao92, co92, eo92⟩ := Kd.R_slice HO173.out; subst eo92) | ((with_reducible refine gate_callee (f := 6) rfl ?_); refine gl (some 22) Try.func6 #[.slice Ao92 y171.length co92] ?_; (with_reducible refine (lex_All.calls k _ _ y171 t174 t175 t176 _ ?side1 ?side2 A6.out ?gside).mono ?_); (case gside => repeat (first | exact (GlobOK.below HG.out HB.out) | (with_reducible refine GlobOK.alloc HG.out ?_ _) | (with_reducible refine GlobOK.drewN ?_ _) | (with_reducible refine GlobOK.drew ?_) | (refine GlobOK.set HG.out (by with_reducible assumption) ?_))); (case side1 => repeat (first | exact (Kd.R_reads' HO173.out).2.2 | (with_reducible refine Kd.C_alloc ?_ _) | (with_reducible refine Kd.C_drewN ?_ _) | (with_reducible refine Kd.C_drew ?_))); (case side2 => exact (Kd.R_reads' HO173.out).2.1); rintro e w93 ⟨v177, rfl, ho0, hb⟩; refine ⟨_, rfl, ?_⟩; replace HO173 := Aside0.mk (Kd.R_below (rk HO173) hb); have HO178 := Aside0.mk (Kd.R_lower ho0 (below_size bb)); replace HB := Aside0.mk (below_step bb hb); (try clear hb); (try clear hb2); (try clear hk); (try clear hi); (try clear ho0)) | ((with_reducible refine gate_callee (f := 5) rfl ?_); refine gl (some 28) Try.func5 #[] ?_; (with_reducible refine (fathomlaw20_awake.calls k  t179 _ A88.out ?gside).mono ?_); (case gside => repeat (first | exact (GlobOK.below HG.out HB.out) | (with_reducible refine GlobOK.alloc HG.out ?_ _) | (with_reducible refine GlobOK.drewN ?_ _) | (with_reducible refine GlobOK.drew ?_) | (refine GlobOK.set HG.out (by with_reducible assumption) ?_))); rintro e w94 ⟨rfl, hb⟩; refine ⟨_, rfl, ?_⟩; replace HO173 := Aside0.mk (Kd.R_below (rk HO173) hb); replace HO178 := Aside0.mk (Kd.R_below (rk HO178) hb); replace HB := Aside0.mk (below_step bb hb); (try clear hb); (try clear hb2); (try clear hk); (try clear hi)))
  go_ret
  exact ⟨ew, bb⟩
 rw [if_pos c7] at H
 have c7b0 : (t176 == 0) = true := beq_iff_eq.mpr c7
 have c7b1 : (t176 != 0) = false := bne_eq_false_iff_eq.mpr c7
 clear c7
 obtain ⟨y180, hy180⟩ : ∃ y_ : List Int, y_ = (([] : List Int)) := ⟨_, rfl⟩
 replace H : (fathomlaw20_LexCovers.l0 k l0 t174 0 y180 0) = some r := by first | (rw [hy180]; with_reducible exact H) | (have H2_ := (Option.bind_some _ _).symm.trans H; rw [hy180]; with_reducible exact H2_) | (have H2_ := (Option.bind_some _ _).symm.trans H; with_reducible exact H2_) | with_reducible exact H | (rw [hy180]; exact H) | exact H
 have Ny180 := Aside0.mk hy180
 clear hy180
 have H' := Aside0.mk H
 clear H
 go_enter Try.func3, Try.ntmps3
 go_wp2_with (first | ((with_reducible refine gate_dst (N := 19) rfl ?_); (try (refine gate_guard (by rfl) ?_; dsimp only)); refine Kd.R_lit (Kd.int .u8) _ 5 ?hg (N := 19) ?hd (xs := ([] : List Int)) (inner := []) (ok := fun _ => True) (okp := fun _ => True) ?hr ?hp (fun _ hk => hk) trivial (Below.refl _ _) (Nat.le_refl _) (by simp) ?_; (case hd => rfl); (case hg => rfl); (case hr => first | (go_simp; done) | (go_simp; rfl)); (case hp => exact (Reps.none _ _)); intro v169 w8 ho9 hb hg_ hnew_; clear hg_ hnew_; (first | rw [← Ny168.out] at ho9 | (simp only [Int.reduceToNat] at ho9; rw [← Ny168.out] at ho9)); have HO170 := Aside0.mk (Kd.R_lower ho9 (below_size bb)); replace HB := Aside0.mk (below_step bb hb); clear hb ho9) | ((with_reducible refine gate_builtin (b := .append) (xs := #[.tmp 19, .tmp 20]) rfl ?_); (try (refine gate_guard (by rfl) ?_; dsimp only)); at_builtin; refine Kd.R_append_rows (Kd.int .u8) (w0 := w) w.heap.size rfl (.tmp 19) (.tmp 20) 22 5 (.int .u8 0) 1 rfl Try.underlying22 info5 rfl (by decide) (by omega) v169 y168 l0 _ _ _ (fun _ => True) (fun _ => False) rfl rfl ?aO ?aR (fun _ _ h => h) (fun _ h => h.elim) ?aF ?aB ?aS ?aL ?_; (case aR => exact cw HR0 HB); (case aB => exact bb); (case aF => exact (fun _ _ => trivial)); (case aO => exact (rk HO170)); (case aS => exact (below_size bb)); (case aL => have := LMc5.out; omega); intro v172 w10 ho hb hg hat; rw [← Ny171.out] at ho; replace HB := Aside0.mk (hb); have HO173 := Aside0.mk (ho); clear HO170; clear ho hb hg hat; obtain ⟨Ao11, co11, eo11⟩ := Kd.R_slice HO173.out; subst eo11) | ((with_reducible refine gate_callee (f := 6) rfl ?_); refine gl (some 22) Try.func6 #[.slice Ao11 y171.length co11] ?_; (with_reducible refine (lex_All.calls k _ _ y171 t174 t175 t176 _ ?side1 ?side2 A6.out ?gside).mono ?_); (case gside => repeat (first | exact (GlobOK.below HG.out HB.out) | (with_reducible refine GlobOK.alloc HG.out ?_ _) | (with_reducible refine GlobOK.drewN ?_ _) | (with_reducible refine GlobOK.drew ?_) | (refine GlobOK.set HG.out (by with_reducible assumption) ?_))); (case side1 => repeat (first | exact (Kd.R_reads' HO173.out).2.2 | (with_reducible refine Kd.C_alloc ?_ _) | (with_reducible refine Kd.C_drewN ?_ _) | (with_reducible refine Kd.C_drew ?_))); (case side2 => exact (Kd.R_reads' HO173.out).2.1); rintro e w12 ⟨v177, rfl, ho0, hb⟩; refine ⟨_, rfl, ?_⟩; replace HO173 := Aside0.mk (Kd.R_below (rk HO173) hb); have HO178 := Aside0.mk (Kd.R_lower ho0 (below_size bb)); replace HB := Aside0.mk (below_step bb hb); (try clear hb); (try clear hb2); (try clear hk); (try clear hi); (try clear ho0)) | ((with_reducible refine gate_dst (N := 29) rfl ?_); (try (refine gate_guard (by rfl) ?_; dsimp only)); refine Kd.R_lit (Kd.int .u8) _ 5 ?hg (N := 29) ?hd (xs := ([] : List Int)) (inner := []) (ok := fun _ => True) (okp := fun _ => True) ?hr ?hp (fun _ hk => hk) trivial (Below.refl _ _) (Nat.le_refl _) (by simp) ?_; (case hd => rfl); (case hg => rfl); (case hr => first | (go_simp; done) | (go_simp; rfl)); (case hp => exact (Reps.none _ _)); intro v181 w13 ho14 hb hg_ hnew_; clear hg_ hnew_; (first | rw [← Ny180.out] at ho14 | (simp only [Int.reduceToNat] at ho14; rw [← Ny180.out] at ho14)); replace HO178 := Aside0.mk (Kd.R_below (rk HO178) hb); have HO182 := Aside0.mk (Kd.R_lower (Kd.R_new' ho14 (Kd.R_lt (rk HO173))) (below_size bb)); replace HO173 := Aside0.mk (Kd.R_elder' (rk HO173) (Kd.R_base ho14) hb); replace HB := Aside0.mk (below_step bb hb); clear hb ho14))
 go_loopg [6, 7, 8] k (fun kq v6 v7 v8 w' => ∃ (x6_1 : Int) (x7_1 : List Int) (x8_1 : Int), v6 = .int .i64 x6_1 ∧ v8 = .int .i64 x8_1 ∧ Aside0 (fathomlaw20_LexCovers.l0 kq l0 t174 x6_1 x7_1 x8_1 = some r) ∧ Aside0 (kq ≤ k) ∧ Aside0 (Kd.R k29 29 w' w.heap.size (fun _ => True) v177 t174) ∧ Aside0 (Kd.R (Kd.int .u8) 5 w' w.heap.size (fun _ => True) v7 x7_1) ∧ Aside0 (Below w.heap.size w w'))
 case atStart => exact ⟨(0), (y180), (0), rs, rs, H', ⟨Nat.le_refl _⟩, ⟨by refine rm ?_; exact HO178.out⟩, ⟨by refine rm ?_; exact Kd.R_mono HO182.out (fun _ hk => trivial)⟩, ⟨bb⟩⟩
 case round =>
  clear H'
  try clear c2
  try clear c2b0
  try clear c2b1
  try clear p2
  try clear c3
  try clear c5
  try clear c6
  try clear c7
  try clear c7b0
  try clear c7b1
  obtain ⟨x6_1, x7_1, x8_1, rfl, rfl, HA, HK1, HO_3, HO_7, HB⟩ := hrel
  cases gk with
  | zero => exact absurd HA.out (by simp [fathomlaw20_LexCovers.l0])
  | succ k1 =>
   have H := HA.out
   clear HA
   simp only [fathomlaw20_LexCovers.l0] at H
   by_cases c15 : x8_1 < (t174.length : Int)
   rotate_left
   ·
    rw [if_neg c15] at H
    have c15b0 : decide (x8_1 < (t174.length : Int)) = false := decide_eq_false c15
    clear c15
    replace H := Option.bind_eq_some_iff.mp H
    obtain ⟨⟨t193, t194, t195⟩, A620, H⟩ := H
    replace H : (if t195 = 0 then (if (t193.length : Int) = (t174.length : Int) then (fathomlaw20_LexCovers.j1 k1 t174 t193 (x6_1 != (l0.length : Int))) else (fathomlaw20_LexCovers.j1 k1 t174 t193 true)) else (fathomlaw20_LexCovers.j1 k1 t174 t193 true)) = some r := H
    have A62 := Aside0.mk A620
    clear A620
    have HC63 := Aside0.mk H
    clear H
    obtain ⟨Ao64, co64, eo64⟩ := Kd.R_slice HO_3.out
    subst eo64
    obtain ⟨Ao65, co65, eo65⟩ := Kd.R_slice HO_7.out
    subst eo65
    go_upto_region 17 with (first | ((with_reducible refine gate_callee (f := 6) rfl ?_); refine gl (some 93) Try.func6 #[.slice Ao65 x7_1.length co65] ?_; (with_reducible refine (lex_All.calls k1 _ _ x7_1 t193 t194 t195 _ ?side1 ?side2 A62.out ?gside).mono ?_); (case gside => repeat (first | exact (GlobOK.below HG.out HB.out) | (with_reducible refine GlobOK.alloc HG.out ?_ _) | (with_reducible refine GlobOK.drewN ?_ _) | (with_reducible refine GlobOK.drew ?_) | (refine GlobOK.set HG.out (by with_reducible assumption) ?_))); (case side1 => repeat (first | exact (Kd.R_reads' HO_7.out).2.2 | (with_reducible refine Kd.C_alloc ?_ _) | (with_reducible refine Kd.C_drewN ?_ _) | (with_reducible refine Kd.C_drew ?_))); (case side2 => exact (Kd.R_reads' HO_7.out).2.1); rintro e w66 ⟨v196, rfl, ho0, hb⟩; refine ⟨_, rfl, ?_⟩; replace HO_7 := Aside0.mk (Kd.R_below (rk HO_7) hb); have HO197 := Aside0.mk (Kd.R_lower (Kd.R_new' ho0 (Kd.R_lt (rk HO_3))) (below_size bb)); replace HO_3 := Aside0.mk (Kd.R_elder' (rk HO_3) (Kd.R_base ho0) hb); replace HB := Aside0.mk (below_step bb hb); (try clear hb); (try clear hb2); (try clear hk); (try clear hi); (try clear ho0)))
    repeat ((with_reducible refine upon_gate ?_); go_simp; go_upto_region 17 with (first | ((with_reducible refine gate_callee (f := 6) rfl ?_); refine gl (some 93) Try.func6 #[.slice Ao65 x7_1.length co65] ?_; (with_reducible refine (lex_All.calls k1 _ _ x7_1 t193 t194 t195 _ ?side1 ?side2 A62.out ?gside).mono ?_); (case gside => repeat (first | exact (GlobOK.below HG.out HB.out) | (with_reducible refine GlobOK.alloc HG.out ?_ _) | (with_reducible refine GlobOK.drewN ?_ _) | (with_reducible refine GlobOK.drew ?_) | (refine GlobOK.set HG.out (by with_reducible assumption) ?_))); (case side1 => repeat (first | exact (Kd.R_reads' HO_7.out).2.2 | (with_reducible refine Kd.C_alloc ?_ _) | (with_reducible refine Kd.C_drewN ?_ _) | (with_reducible refine Kd.C_drew ?_))); (case side2 => exact (Kd.R_reads' HO_7.out).2.1); rintro e w66 ⟨v196, rfl, ho0, hb⟩; refine ⟨_, rfl, ?_⟩; replace HO_7 := Aside0.mk (Kd.R_below (rk HO_7) hb); have HO197 := Aside0.mk (Kd.R_lower (Kd.R_new' ho0 (Kd.R_lt (rk HO_3))) (below_size bb)); replace HO_3 := Aside0.mk (Kd.R_elder' (rk HO_3) (Kd.R_base ho0) hb); replace HB := Aside0.mk (below_step bb hb); (try clear hb); (try clear hb2); (try clear hk); (try clear hi); (try clear ho0))))
    (try simp only [Act.put, List.setIfInBounds_toArray, List.set_cons_zero, List.set_cons_succ])
    go_cut [111] (fun v111 wc => ∃ (kq : Nat) (x111_62 : Bool), v111 = .bool x111_62 ∧ Aside0 (fathomlaw20_LexCovers.j1 kq t174 t193 x111_62 = some r) ∧ Aside0 (kq ≤ k1) ∧ Aside0 (Kd.R k29 29 wc w.heap.size (fun k_ => some k_ ≠ (v196 : Value).ownBlock) (.slice Ao64 t174.length co64) t174) ∧ Aside0 (Kd.R k29 29 wc w.heap.size (fun k_ => some k_ ≠ ((.slice Ao64 t174.length co64) : Value).ownBlock) v196 t193) ∧ Aside0 (Below w.heap.size w wc))
    case first =>
     have H := HC63.out
     clear HC63
     by_cases c67 : t195 = 0
     rotate_left
     ·
      rw [if_neg c67] at H
      have c67b0 : (t195 == 0) = false := beq_eq_false_iff_ne.mpr c67
      have c67b1 : (t195 != 0) = true := bne_iff_ne.mpr c67
      (first | rw [c67b0] | (simp only [i64_w, i32_w]; rw [c67b0]) | skip)
      have H' := Aside0.mk H
      clear H
      go_wp2
      go_meet
      case rel => exact ⟨_, (true), rs, H', ⟨by have := HK1.out; first | omega | exact Nat.le_refl _⟩, ⟨by refine rm ?_; exact Kd.R_mono HO_3.out (fun _ hk => hk.2)⟩, ⟨by refine rm ?_; exact Kd.R_mono HO197.out (fun _ hk => hk.2)⟩, ⟨bb⟩⟩
     rw [if_pos c67] at H
     have c67b0 : (t195 == 0) = true := beq_iff_eq.mpr c67
     have c67b1 : (t195 != 0) = false := bne_eq_false_iff_eq.mpr c67
     clear c67
     (first | rw [c67b0] | (simp only [i64_w, i32_w]; rw [c67b0]) | skip)
     by_cases c68 : (t193.length : Int) = (t174.length : Int)
     rotate_left
     ·
      rw [if_neg c68] at H
      have c68b0 : ((t193.length : Int) == (t174.length : Int)) = false := beq_eq_false_iff_ne.mpr c68
      have c68b1 : ((t193.length : Int) != (t174.length : Int)) = true := bne_iff_ne.mpr c68
      have c68b2 : (t193.length == t174.length) = false := by first | simpa using c68 | (simp at c68 ⊢; omega)
      have H' := Aside0.mk H
      clear H
      obtain ⟨Ao70, co70, eo70⟩ := Kd.R_slice HO197.out
      subst eo70
      go_wp2
      go_meet
      case rel => exact ⟨_, (true), rs, H', ⟨by have := HK1.out; first | omega | exact Nat.le_refl _⟩, ⟨by refine rm ?_; exact Kd.R_mono HO_3.out (fun _ hk => hk.2)⟩, ⟨by refine rm ?_; exact Kd.R_mono HO197.out (fun _ hk => hk.2)⟩, ⟨bb⟩⟩
     rw [if_pos c68] at H
     have c68b0 : ((t193.length : Int) == (t174.length : Int)) = true := beq_iff_eq.mpr c68
     have c68b1 : ((t193.length : Int) != (t174.length : Int)) = false := bne_eq_false_iff_eq.mpr c68
     have c68b2 : (t193.length == t174.length) = true := by first | simpa using c68 | (simp at c68 ⊢; omega)
     clear c68
     have H' := Aside0.mk H
     clear H
     obtain ⟨Ao69, co69, eo69⟩ := Kd.R_slice HO197.out
     subst eo69
     go_wp2
     go_meet
     case rel => exact ⟨_, ((x6_1 != (l0.length : Int))), rs, H', ⟨by have := HK1.out; first | omega | exact Nat.le_refl _⟩, ⟨by refine rm ?_; exact Kd.R_mono HO_3.out (fun _ hk => hk.2)⟩, ⟨by refine rm ?_; exact Kd.R_mono HO197.out (fun _ hk => hk.2)⟩, ⟨bb⟩⟩
    case rest =>
     clear HC63
     try clear c1
     try clear p1
     try clear q1
     try clear hx1
     try clear c2
     try clear p2
     try clear c3
     try clear c6
     try clear p6
     try clear hcv6
     try clear c7
     try clear c15
     try clear c15b0
     try clear c16
     try clear p18
     try clear q18
     try clear hx18
     try clear c29
     try clear c30
     try clear c31
     try clear c32
     try clear c32b0
     try clear c32b1
     try clear hcv61
     try clear p64
     try clear c67
     try clear c67b0
     try clear c67b1
     try clear c68
     try clear c68b0
     try clear c68b1
     try clear c68b2
     try clear hcz57_0
     try clear hcz57_1
     try clear hcz57_2
     try clear hcz57_3
     try clear hfz57_0
     try clear hfz57_1
     try clear hfz57_2
     try clear hfz57_3
     try clear hx183_0
     try clear hx183_1
     try clear hx183_2
     try clear hx183_3
     try clear p183
     try clear q183
     obtain ⟨kq, x111_62, rfl, HA, HJ62, HO_3, HO_10, HB⟩ := hcut
     cases kq with
     | zero => exact absurd HA.out (by simp [fathomlaw20_LexCovers.j1])
     | succ kj62 =>
      have H := HA.out
      clear HA
      simp only [fathomlaw20_LexCovers.j1] at H
      by_cases c71 : x111_62 = true
      ·
       subst c71
       have H1 : (some false) = some r := by rw [if_pos rfl] at H; exact H
       clear H
       have H := H1
       clear H1
       obtain rfl := Option.some.inj H
       go_wp2
       go_ret
       exact ⟨ew, bb⟩
      replace c71 := Bool.eq_false_iff.mpr c71
      subst c71
      have H1 : (fathomlaw20_LexCovers.l1 kj62 t174 t193 0) = some r := by rw [if_neg (show ¬ (false = true) by decide)] at H; exact H
      clear H
      have H := H1
      clear H1
      have H' := Aside0.mk H
      clear H
      go_wp2
      go_loopg [13] kj62 (fun kq v13 w' => ∃ (x13_3 : Int), v13 = .int .i64 x13_3 ∧ Aside0 (fathomlaw20_LexCovers.l1 kq t174 t193 x13_3 = some r) ∧ Aside0 (kq ≤ kj62) ∧ Aside0 (Kd.R k29 29 w' w.heap.size (fun k_ => some k_ ≠ (v196 : Value).ownBlock) (.slice Ao64 t174.length co64) t174) ∧ Aside0 (Kd.R k29 29 w' w.heap.size (fun k_ => some k_ ≠ ((.slice Ao64 t174.length co64) : Value).ownBlock) v196 t193) ∧ Aside0 (Below w.heap.size w w'))
      case atStart => exact ⟨(0), rs, H', ⟨Nat.le_refl _⟩, ⟨by refine rm ?_; exact HO_3.out⟩, ⟨by refine rm ?_; exact HO_10.out⟩, ⟨bb⟩⟩
      case round =>
       clear H'
       try clear c1
       try clear p1
       try clear q1
       try clear hx1
       try clear c2
       try clear p2
       try clear c3
       try clear c6
       try clear p6
       try clear hcv6
       try clear c7
       try clear c15
       try clear c15b0
       try clear c16
       try clear p18
       try clear q18
       try clear hx18
       try clear c29
       try clear c30
       try clear c31
       try clear c32
       try clear c32b0
       try clear c32b1
       try clear hcv61
       try clear p64
       try clear c67
       try clear c67b0
       try clear c67b1
       try clear c68
       try clear c68b0
       try clear c68b1
       try clear c68b2
       try clear c71
       try clear hcz57_0
       try clear hcz57_1
       try clear hcz57_2
       try clear hcz57_3
       try clear hfz57_0
       try clear hfz57_1
       try clear hfz57_2
       try clear hfz57_3
       try clear hx183_0
       try clear hx183_1
       try clear hx183_2
       try clear hx183_3
       try clear p183
       try clear q183
       obtain ⟨x13_3, rfl, HA, HK3, HO_3, HO_10, HB⟩ := hrel
       cases gk with
       | zero => exact absurd HA.out (by simp [fathomlaw20_LexCovers.l1])
       | succ k3 =>
        have H := HA.out
        clear HA
        simp only [fathomlaw20_LexCovers.l1] at H
        by_cases c72 : x13_3 < (t174.length : Int)
        rotate_left
        ·
         rw [if_neg c72] at H
         have c72b0 : decide (x13_3 < (t174.length : Int)) = false := decide_eq_false c72
         clear c72
         replace H := Option.bind_eq_some_iff.mp H
         obtain ⟨t204, A860, H⟩ := H
         replace H : (some t204) = some r := H
         have A86 := Aside0.mk A860
         clear A860
         obtain rfl := Option.some.inj H
         go_wp2_with (first | ((with_reducible refine gate_callee (f := 5) rfl ?_); refine gl (some 155) Try.func5 #[] ?_; (with_reducible refine (fathomlaw20_awake.calls k3  t204 _ A86.out ?gside).mono ?_); (case gside => repeat (first | exact (GlobOK.below HG.out HB.out) | (with_reducible refine GlobOK.alloc HG.out ?_ _) | (with_reducible refine GlobOK.drewN ?_ _) | (with_reducible refine GlobOK.drew ?_) | (refine GlobOK.set HG.out (by with_reducible assumption) ?_))); rintro e w87 ⟨rfl, hb⟩; refine ⟨_, rfl, ?_⟩; replace HO_3 := Aside0.mk (Kd.R_below (rk HO_3) hb); replace HO_10 := Aside0.mk (Kd.R_below (rk HO_10) hb); replace HB := Aside0.mk (below_step bb hb); (try clear hb); (try clear hb2); (try clear hk); (try clear hi)))
         go_ret
         exact ⟨ew, bb⟩
        rw [if_pos c72] at H
        have c72b0 : decide (x13_3 < (t174.length : Int)) = true := decide_eq_true c72
        clear c72
        by_cases c73 : 0 ≤ x13_3
        rotate_left
        ·
         rw [if_neg c73] at H
         exact absurd H (by simp)
        rw [if_pos c73] at H
        have c73b0 : decide (0 ≤ x13_3) = true := decide_eq_true c73
        clear c73
        by_cases c74 : x13_3 < (t193.length : Int)
        rotate_left
        ·
         rw [if_neg c74] at H
         exact absurd H (by simp)
        rw [if_pos c74] at H
        have c74b0 : decide (x13_3 < (t193.length : Int)) = true := decide_eq_true c74
        clear c74
        by_cases c75 : ((rd_T29 t193 x13_3).f0) = ((rd_T29 t174 x13_3).f0)
        rotate_left
        ·
         rw [if_neg c75] at H
         have c75b0 : (((rd_T29 t193 x13_3).f0) == ((rd_T29 t174 x13_3).f0)) = false := beq_eq_false_iff_ne.mpr c75
         have c75b1 : (((rd_T29 t193 x13_3).f0) != ((rd_T29 t174 x13_3).f0)) = true := bne_iff_ne.mpr c75
         obtain rfl := Option.some.inj H
         try go_wp2
         have n0_ := Aside0.mk (Kd.R_drew HO_3.out)
         have n1_ := Aside0.mk (Kd.R_drew HO_10.out)
         have n2_ := Aside0.mk (below_drew1 HB.out)
         clear HO_3
         clear HO_10
         clear HB
         have HO_3 := n0_
         have HO_10 := n1_
         have HB := n2_
         clear n0_ n1_ n2_
         obtain ⟨Ao85, co85, eo85⟩ := Kd.R_slice HO_10.out
         (first | subst eo85 | (injection eo85 with f1_ f2_ f3_; have f4_ := f1_.symm; have f5_ := f3_.symm; clear f1_ f2_ f3_; subst f4_; subst f5_))
         have p198 : 0 ≤ (x13_3 : Int) := od
         have q198 : x13_3 < (t193.length : Int) := od
         obtain ⟨ad198, e198, hx198_0, hx198_1, hx198_2, hx198_3⟩ := at_T29 (Kd.R_reads' HO_10.out).2.2 x13_3 p198 q198
         cases e198
         replace p198 := eq_true p198
         replace q198 := eq_true q198
         have p199 : 0 ≤ (x13_3 : Int) := od
         have q199 : x13_3 < (t174.length : Int) := od
         obtain ⟨ad199, e199, hx199_0, hx199_1, hx199_2, hx199_3⟩ := at_T29 (Kd.R_reads' HO_3.out).2.2 x13_3 p199 q199
         cases e199
         replace p199 := eq_true p199
         replace q199 := eq_true q199
         refine start_ (n := 37) (S := fun w' => w'.cell? (ad198.add ((x13_3).toNat * 4)) = some (.int .i64 ((rd_T29 t193 x13_3).f0)) ∧ w'.cell? ⟨(ad198.add ((x13_3).toNat * 4)).block, (ad198.add ((x13_3).toNat * 4)).off + 1, none⟩ = some (.int .i64 ((rd_T29 t193 x13_3).f1)) ∧ w'.cell? ⟨(ad198.add ((x13_3).toNat * 4)).block, (ad198.add ((x13_3).toNat * 4)).off + 2, none⟩ = some (.string ((rd_T29 t193 x13_3).f2)) ∧ w'.cell? ⟨(ad198.add ((x13_3).toNat * 4)).block, (ad198.add ((x13_3).toNat * 4)).off + 3, none⟩ = some (.int .i64 ((rd_T29 t193 x13_3).f3)) ∧ w'.cell? (ad199.add ((x13_3).toNat * 4)) = some (.int .i64 ((rd_T29 t174 x13_3).f0)) ∧ w'.cell? ⟨(ad199.add ((x13_3).toNat * 4)).block, (ad199.add ((x13_3).toNat * 4)).off + 1, none⟩ = some (.int .i64 ((rd_T29 t174 x13_3).f1)) ∧ w'.cell? ⟨(ad199.add ((x13_3).toNat * 4)).block, (ad199.add ((x13_3).toNat * 4)).off + 2, none⟩ = some (.string ((rd_T29 t174 x13_3).f2)) ∧ w'.cell? ⟨(ad199.add ((x13_3).toNat * 4)).block, (ad199.add ((x13_3).toNat * 4)).off + 3, none⟩ = some (.int .i64 ((rd_T29 t174 x13_3).f3))) (ds := []) #[false, false, false, false, false, false, false, false, false, false, false, false, false, false, false, false, false, false, false, false, false, false, false, false, false, false, false, false, false, false, false, false, false, false, false, false, false] (by kernel_rfl) rfl rfl ⟨hx198_0, hx198_1, hx198_2, hx198_3, hx199_0, hx199_1, hx199_2, hx199_3⟩ (fun hHeld => ?_); refine with_tabW fathomlaw20_LexCovers.tab22 fathomlaw20_LexCovers.bits22 (fun HT_ HW_ => ?_)
         generalize wr.drew = w84 at HO_3 HO_10 HB hx198_0 hx198_1 hx198_2 hx198_3 hx199_0 hx199_1 hx199_2 hx199_3 hHeld ⊢
         refine pv 0 118 HT_.out ?_
         refine pv 1 119 HT_.out ?_
         refine pv 2 120 HT_.out ?_
         refine pv 3 121 HT_.out ?_
         refine pv 5 123 HT_.out ?_
         refine pv 6 124 HT_.out ?_
         refine pv 7 125 HT_.out ?_
         refine pv 8 126 HT_.out ?_
         refine take_ (i := 4) (N := some 122) (v := ?_) (a' := ?_) #[true, true, true, true, true, true, true, true, true, false, false, false, false, false, false, false, false, false, false, false, false, false, false, false, false, false, false, false, false, false, false, false, false, false, false, false, false] rfl rfl (take_ofW HT_.out HW_.out (by kernel_rfl)) (fun _ _ _ h => h) (Or.inl ⟨by rfl, ?_⟩) hHeld ?_ ?_
         rotate_left
         ·
          rintro w' ⟨s0, s1, s2, s3, s4, s5, s6, s7⟩
          go_simp
          with_reducible rfl
         rotate_left
         ·
          simp only [Act.put, List.setIfInBounds_toArray, List.set_cons_zero, List.set_cons_succ, i64_w, i32_w]
          rfl
         refine take_ (i := 9) (N := some 127) (v := ?_) (a' := ?_) #[true, true, true, true, true, true, true, true, true, true, false, false, false, false, false, false, false, false, false, false, false, false, false, false, false, false, false, false, false, false, false, false, false, false, false, false, false] rfl rfl (take_ofW HT_.out HW_.out (by kernel_rfl)) (fun _ _ _ h => h) (Or.inl ⟨by rfl, ?_⟩) hHeld ?_ ?_
         rotate_left
         ·
          rintro w' ⟨s0, s1, s2, s3, s4, s5, s6, s7⟩
          go_simp
          with_reducible rfl
         rotate_left
         ·
          simp only [Act.put, List.setIfInBounds_toArray, List.set_cons_zero, List.set_cons_succ, i64_w, i32_w]
          rfl
         refine pv 10 128 HT_.out ?_
         refine pv 11 129 HT_.out ?_
         refine pu 12 130 HT_.out ?_
         refine pu 13 131 HT_.out ?_
         refine pu 14 132 HT_.out ?_
         refine pu 15 133 HT_.out ?_
         refine pu 16 134 HT_.out ?_
         refine pu 17 135 HT_.out ?_
         refine pu 18 136 HT_.out ?_
         refine pu 19 137 HT_.out ?_
         refine pu 20 138 HT_.out ?_
         refine pu 21 139 HT_.out ?_
         refine pu 22 140 HT_.out ?_
         refine pv 23 141 HT_.out ?_
         refine pv 24 142 HT_.out ?_
         refine pu 25 143 HT_.out ?_
         refine pu 26 144 HT_.out ?_
         refine pu 27 145 HT_.out ?_
         refine pu 28 146 HT_.out ?_
         refine pu 29 147 HT_.out ?_
         refine pu 30 148 HT_.out ?_
         refine pu 31 149 HT_.out ?_
         refine pu 32 150 HT_.out ?_
         refine pu 33 151 HT_.out ?_
         refine pu 34 152 HT_.out ?_
         refine pu 35 153 HT_.out ?_
         refine pv 36 154 HT_.out ?_
         refine done_ (done_of HT_.out (by kernel_rfl)) ?_
         try go_wp2
         go_ret
         exact ⟨ew, bb⟩
        rw [if_pos c75] at H
        have c75b0 : (((rd_T29 t193 x13_3).f0) == ((rd_T29 t174 x13_3).f0)) = true := beq_iff_eq.mpr c75
        have c75b1 : (((rd_T29 t193 x13_3).f0) != ((rd_T29 t174 x13_3).f0)) = false := bne_eq_false_iff_eq.mpr c75
        clear c75
        by_cases c76 : ((rd_T29 t193 x13_3).f2).toList = ((rd_T29 t174 x13_3).f2).toList
        rotate_left
        ·
         rw [if_neg c76] at H
         have c76b0 : (((rd_T29 t193 x13_3).f2).toList == ((rd_T29 t174 x13_3).f2).toList) = false := beq_eq_false_iff_ne.mpr c76
         have c76b1 : (((rd_T29 t193 x13_3).f2).toList != ((rd_T29 t174 x13_3).f2).toList) = true := bne_iff_ne.mpr c76
         obtain rfl := Option.some.inj H
         try go_wp2
         have n0_ := Aside0.mk (Kd.R_drew HO_3.out)
         have n1_ := Aside0.mk (Kd.R_drew HO_10.out)
         have n2_ := Aside0.mk (below_drew1 HB.out)
         clear HO_3
         clear HO_10
         clear HB
         have HO_3 := n0_
         have HO_10 := n1_
         have HB := n2_
         clear n0_ n1_ n2_
         obtain ⟨Ao83, co83, eo83⟩ := Kd.R_slice HO_10.out
         (first | subst eo83 | (injection eo83 with f1_ f2_ f3_; have f4_ := f1_.symm; have f5_ := f3_.symm; clear f1_ f2_ f3_; subst f4_; subst f5_))
         have p198 : 0 ≤ (x13_3 : Int) := od
         have q198 : x13_3 < (t193.length : Int) := od
         obtain ⟨ad198, e198, hx198_0, hx198_1, hx198_2, hx198_3⟩ := at_T29 (Kd.R_reads' HO_10.out).2.2 x13_3 p198 q198
         cases e198
         replace p198 := eq_true p198
         replace q198 := eq_true q198
         have p199 : 0 ≤ (x13_3 : Int) := od
         have q199 : x13_3 < (t174.length : Int) := od
         obtain ⟨ad199, e199, hx199_0, hx199_1, hx199_2, hx199_3⟩ := at_T29 (Kd.R_reads' HO_3.out).2.2 x13_3 p199 q199
         cases e199
         replace p199 := eq_true p199
         replace q199 := eq_true q199
         have p200 : 0 ≤ (x13_3 : Int) := od
         have q200 : x13_3 < (t193.length : Int) := od
         obtain ⟨ad200, e200, hx200_0, hx200_1, hx200_2, hx200_3⟩ := at_T29 (Kd.R_reads' HO_10.out).2.2 x13_3 p200 q200
         obtain rfl : ad198 = ad200 := (by injection e200)
         replace p200 := eq_true p200
         replace q200 := eq_true q200
         have p201 : 0 ≤ (x13_3 : Int) := od
         have q201 : x13_3 < (t174.length : Int) := od
         obtain ⟨ad201, e201, hx201_0, hx201_1, hx201_2, hx201_3⟩ := at_T29 (Kd.R_reads' HO_3.out).2.2 x13_3 p201 q201
         obtain rfl : ad199 = ad201 := (by injection e201)
         replace p201 := eq_true p201
         replace q201 := eq_true q201
         refine start_ (n := 37) (S := fun w' => w'.cell? (ad198.add ((x13_3).toNat * 4)) = some (.int .i64 ((rd_T29 t193 x13_3).f0)) ∧ w'.cell? ⟨(ad198.add ((x13_3).toNat * 4)).block, (ad198.add ((x13_3).toNat * 4)).off + 1, none⟩ = some (.int .i64 ((rd_T29 t193 x13_3).f1)) ∧ w'.cell? ⟨(ad198.add ((x13_3).toNat * 4)).block, (ad198.add ((x13_3).toNat * 4)).off + 2, none⟩ = some (.string ((rd_T29 t193 x13_3).f2)) ∧ w'.cell? ⟨(ad198.add ((x13_3).toNat * 4)).block, (ad198.add ((x13_3).toNat * 4)).off + 3, none⟩ = some (.int .i64 ((rd_T29 t193 x13_3).f3)) ∧ w'.cell? (ad199.add ((x13_3).toNat * 4)) = some (.int .i64 ((rd_T29 t174 x13_3).f0)) ∧ w'.cell? ⟨(ad199.add ((x13_3).toNat * 4)).block, (ad199.add ((x13_3).toNat * 4)).off + 1, none⟩ = some (.int .i64 ((rd_T29 t174 x13_3).f1)) ∧ w'.cell? ⟨(ad199.add ((x13_3).toNat * 4)).block, (ad199.add ((x13_3).toNat * 4)).off + 2, none⟩ = some (.string ((rd_T29 t174 x13_3).f2)) ∧ w'.cell? ⟨(ad199.add ((x13_3).toNat * 4)).block, (ad199.add ((x13_3).toNat * 4)).off + 3, none⟩ = some (.int .i64 ((rd_T29 t174 x13_3).f3)) ∧ w'.cell? (ad198.add ((x13_3).toNat * 4)) = some (.int .i64 ((rd_T29 t193 x13_3).f0)) ∧ w'.cell? ⟨(ad198.add ((x13_3).toNat * 4)).block, (ad198.add ((x13_3).toNat * 4)).off + 1, none⟩ = some (.int .i64 ((rd_T29 t193 x13_3).f1)) ∧ w'.cell? ⟨(ad198.add ((x13_3).toNat * 4)).block, (ad198.add ((x13_3).toNat * 4)).off + 2, none⟩ = some (.string ((rd_T29 t193 x13_3).f2)) ∧ w'.cell? ⟨(ad198.add ((x13_3).toNat * 4)).block, (ad198.add ((x13_3).toNat * 4)).off + 3, none⟩ = some (.int .i64 ((rd_T29 t193 x13_3).f3)) ∧ w'.cell? (ad199.add ((x13_3).toNat * 4)) = some (.int .i64 ((rd_T29 t174 x13_3).f0)) ∧ w'.cell? ⟨(ad199.add ((x13_3).toNat * 4)).block, (ad199.add ((x13_3).toNat * 4)).off + 1, none⟩ = some (.int .i64 ((rd_T29 t174 x13_3).f1)) ∧ w'.cell? ⟨(ad199.add ((x13_3).toNat * 4)).block, (ad199.add ((x13_3).toNat * 4)).off + 2, none⟩ = some (.string ((rd_T29 t174 x13_3).f2)) ∧ w'.cell? ⟨(ad199.add ((x13_3).toNat * 4)).block, (ad199.add ((x13_3).toNat * 4)).off + 3, none⟩ = some (.int .i64 ((rd_T29 t174 x13_3).f3))) (ds := []) #[false, false, false, false, false, false, false, false, false, false, false, false, false, false, false, false, false, false, false, false, false, false, false, false, false, false, false, false, false, false, false, false, false, false, false, false, false] (by kernel_rfl) rfl rfl ⟨hx198_0, hx198_1, hx198_2, hx198_3, hx199_0, hx199_1, hx199_2, hx199_3, hx200_0, hx200_1, hx200_2, hx200_3, hx201_0, hx201_1, hx201_2, hx201_3⟩ (fun hHeld => ?_); refine with_tabW fathomlaw20_LexCovers.tab22 fathomlaw20_LexCovers.bits22 (fun HT_ HW_ => ?_)
         generalize wr.drew = w82 at HO_3 HO_10 HB hx198_0 hx198_1 hx198_2 hx198_3 hx199_0 hx199_1 hx199_2 hx199_3 hx200_0 hx200_1 hx200_2 hx200_3 hx201_0 hx201_1 hx201_2 hx201_3 hHeld ⊢
         refine pv 0 118 HT_.out ?_
         refine pv 1 119 HT_.out ?_
         refine pv 2 120 HT_.out ?_
         refine pv 3 121 HT_.out ?_
         refine pv 5 123 HT_.out ?_
         refine pv 6 124 HT_.out ?_
         refine pv 7 125 HT_.out ?_
         refine pv 8 126 HT_.out ?_
         refine take_ (i := 4) (N := some 122) (v := ?_) (a' := ?_) #[true, true, true, true, true, true, true, true, true, false, false, false, false, false, false, false, false, false, false, false, false, false, false, false, false, false, false, false, false, false, false, false, false, false, false, false, false] rfl rfl (take_ofW HT_.out HW_.out (by kernel_rfl)) (fun _ _ _ h => h) (Or.inl ⟨by rfl, ?_⟩) hHeld ?_ ?_
         rotate_left
         ·
          rintro w' ⟨s0, s1, s2, s3, s4, s5, s6, s7, s8, s9, s10, s11, s12, s13, s14, s15⟩
          go_simp
          with_reducible rfl
         rotate_left
         ·
          simp only [Act.put, List.setIfInBounds_toArray, List.set_cons_zero, List.set_cons_succ, i64_w, i32_w]
          rfl
         refine take_ (i := 9) (N := some 127) (v := ?_) (a' := ?_) #[true, true, true, true, true, true, true, true, true, true, false, false, false, false, false, false, false, false, false, false, false, false, false, false, false, false, false, false, false, false, false, false, false, false, false, false, false] rfl rfl (take_ofW HT_.out HW_.out (by kernel_rfl)) (fun _ _ _ h => h) (Or.inl ⟨by rfl, ?_⟩) hHeld ?_ ?_
         rotate_left
         ·
          rintro w' ⟨s0, s1, s2, s3, s4, s5, s6, s7, s8, s9, s10, s11, s12, s13, s14, s15⟩
          go_simp
          with_reducible rfl
         rotate_left
         ·
          simp only [Act.put, List.setIfInBounds_toArray, List.set_cons_zero, List.set_cons_succ, i64_w, i32_w]
          rfl
         refine pv 10 128 HT_.out ?_
         refine pv 11 129 HT_.out ?_
         refine pv 12 130 HT_.out ?_
         refine pv 13 131 HT_.out ?_
         refine pv 14 132 HT_.out ?_
         refine pv 15 133 HT_.out ?_
         refine pv 17 135 HT_.out ?_
         refine pv 18 136 HT_.out ?_
         refine pv 19 137 HT_.out ?_
         refine pv 20 138 HT_.out ?_
         refine take_ (i := 16) (N := some 134) (v := ?_) (a' := ?_) #[true, true, true, true, true, true, true, true, true, true, true, true, true, true, true, true, true, true, true, true, true, false, false, false, false, false, false, false, false, false, false, false, false, false, false, false, false] rfl rfl (take_ofW HT_.out HW_.out (by kernel_rfl)) (fun _ _ _ h => h) (Or.inl ⟨by rfl, ?_⟩) hHeld ?_ ?_
         rotate_left
         ·
          rintro w' ⟨s0, s1, s2, s3, s4, s5, s6, s7, s8, s9, s10, s11, s12, s13, s14, s15⟩
          go_simp
          with_reducible rfl
         rotate_left
         ·
          simp only [Act.put, List.setIfInBounds_toArray, List.set_cons_zero, List.set_cons_succ, i64_w, i32_w]
          rfl
         refine take_ (i := 21) (N := some 139) (v := ?_) (a' := ?_) #[true, true, true, true, true, true, true, true, true, true, true, true, true, true, true, true, true, true, true, true, true, true, false, false, false, false, false, false, false, false, false, false, false, false, false, false, false] rfl rfl (take_ofW HT_.out HW_.out (by kernel_rfl)) (fun _ _ _ h => h) (Or.inl ⟨by rfl, ?_⟩) hHeld ?_ ?_
         rotate_left
         ·
          rintro w' ⟨s0, s1, s2, s3, s4, s5, s6, s7, s8, s9, s10, s11, s12, s13, s14, s15⟩
          go_simp
          with_reducible rfl
         rotate_left
         ·
          simp only [Act.put, List.setIfInBounds_toArray, List.set_cons_zero, List.set_cons_succ, i64_w, i32_w]
          rfl
         refine pv 22 140 HT_.out ?_
         refine pv 23 141 HT_.out ?_
         refine pv 24 142 HT_.out ?_
         refine pu 25 143 HT_.out ?_
         refine pu 26 144 HT_.out ?_
         refine pu 27 145 HT_.out ?_
         refine pu 28 146 HT_.out ?_
         refine pu 29 147 HT_.out ?_
         refine pu 30 148 HT_.out ?_
         refine pu 31 149 HT_.out ?_
         refine pu 32 150 HT_.out ?_
         refine pu 33 151 HT_.out ?_
         refine pu 34 152 HT_.out ?_
         refine pu 35 153 HT_.out ?_
         refine pv 36 154 HT_.out ?_
         refine done_ (done_of HT_.out (by kernel_rfl)) ?_
         try go_wp2
         go_ret
         exact ⟨ew, bb⟩
        rw [if_pos c76] at H
        have c76b0 : (((rd_T29 t193 x13_3).f2).toList == ((rd_T29 t174 x13_3).f2).toList) = true := beq_iff_eq.mpr c76
        have c76b1 : (((rd_T29 t193 x13_3).f2).toList != ((rd_T29 t174 x13_3).f2).toList) = false := bne_eq_false_iff_eq.mpr c76
        clear c76
        by_cases c77 : ((rd_T29 t193 x13_3).f3) = ((rd_T29 t174 x13_3).f3)
        rotate_left
        ·
         rw [if_neg c77] at H
         have c77b0 : (((rd_T29 t193 x13_3).f3) == ((rd_T29 t174 x13_3).f3)) = false := beq_eq_false_iff_ne.mpr c77
         have c77b1 : (((rd_T29 t193 x13_3).f3) != ((rd_T29 t174 x13_3).f3)) = true := bne_iff_ne.mpr c77
         obtain rfl := Option.some.inj H
         try go_wp2
         have n0_ := Aside0.mk (Kd.R_drew HO_3.out)
         have n1_ := Aside0.mk (Kd.R_drew HO_10.out)
         have n2_ := Aside0.mk (below_drew1 HB.out)
         clear HO_3
         clear HO_10
         clear HB
         have HO_3 := n0_
         have HO_10 := n1_
         have HB := n2_
         clear n0_ n1_ n2_
         obtain ⟨Ao81, co81, eo81⟩ := Kd.R_slice HO_10.out
         (first | subst eo81 | (injection eo81 with f1_ f2_ f3_; have f4_ := f1_.symm; have f5_ := f3_.symm; clear f1_ f2_ f3_; subst f4_; subst f5_))
         have p198 : 0 ≤ (x13_3 : Int) := od
         have q198 : x13_3 < (t193.length : Int) := od
         obtain ⟨ad198, e198, hx198_0, hx198_1, hx198_2, hx198_3⟩ := at_T29 (Kd.R_reads' HO_10.out).2.2 x13_3 p198 q198
         cases e198
         replace p198 := eq_true p198
         replace q198 := eq_true q198
         have p199 : 0 ≤ (x13_3 : Int) := od
         have q199 : x13_3 < (t174.length : Int) := od
         obtain ⟨ad199, e199, hx199_0, hx199_1, hx199_2, hx199_3⟩ := at_T29 (Kd.R_reads' HO_3.out).2.2 x13_3 p199 q199
         cases e199
         replace p199 := eq_true p199
         replace q199 := eq_true q199
         have p200 : 0 ≤ (x13_3 : Int) := od
         have q200 : x13_3 < (t193.length : Int) := od
         obtain ⟨ad200, e200, hx200_0, hx200_1, hx200_2, hx200_3⟩ := at_T29 (Kd.R_reads' HO_10.out).2.2 x13_3 p200 q200
         obtain rfl : ad198 = ad200 := (by injection e200)
         replace p200 := eq_true p200
         replace q200 := eq_true q200
         have p201 : 0 ≤ (x13_3 : Int) := od
         have q201 : x13_3 < (t174.length : Int) := od
         obtain ⟨ad201, e201, hx201_0, hx201_1, hx201_2, hx201_3⟩ := at_T29 (Kd.R_reads' HO_3.out).2.2 x13_3 p201 q201
         obtain rfl : ad199 = ad201 := (by injection e201)
         replace p201 := eq_true p201
         replace q201 := eq_true q201
         have p202 : 0 ≤ (x13_3 : Int) := od
         have q202 : x13_3 < (t193.length : Int) := od
         obtain ⟨ad202, e202, hx202_0, hx202_1, hx202_2, hx202_3⟩ := at_T29 (Kd.R_reads' HO_10.out).2.2 x13_3 p202 q202
         obtain rfl : ad198 = ad202 := (by injection e202)
         replace p202 := eq_true p202
         replace q202 := eq_true q202
         have p203 : 0 ≤ (x13_3 : Int) := od
         have q203 : x13_3 < (t174.length : Int) := od
         obtain ⟨ad203, e203, hx203_0, hx203_1, hx203_2, hx203_3⟩ := at_T29 (Kd.R_reads' HO_3.out).2.2 x13_3 p203 q203
         obtain rfl : ad199 = ad203 := (by injection e203)
         replace p203 := eq_true p203
         replace q203 := eq_true q203
         refine start_ (n := 37) (S := fun w' => w'.cell? (ad198.add ((x13_3).toNat * 4)) = some (.int .i64 ((rd_T29 t193 x13_3).f0)) ∧ w'.cell? ⟨(ad198.add ((x13_3).toNat * 4)).block, (ad198.add ((x13_3).toNat * 4)).off + 1, none⟩ = some (.int .i64 ((rd_T29 t193 x13_3).f1)) ∧ w'.cell? ⟨(ad198.add ((x13_3).toNat * 4)).block, (ad198.add ((x13_3).toNat * 4)).off + 2, none⟩ = some (.string ((rd_T29 t193 x13_3).f2)) ∧ w'.cell? ⟨(ad198.add ((x13_3).toNat * 4)).block, (ad198.add ((x13_3).toNat * 4)).off + 3, none⟩ = some (.int .i64 ((rd_T29 t193 x13_3).f3)) ∧ w'.cell? (ad199.add ((x13_3).toNat * 4)) = some (.int .i64 ((rd_T29 t174 x13_3).f0)) ∧ w'.cell? ⟨(ad199.add ((x13_3).toNat * 4)).block, (ad199.add ((x13_3).toNat * 4)).off + 1, none⟩ = some (.int .i64 ((rd_T29 t174 x13_3).f1)) ∧ w'.cell? ⟨(ad199.add ((x13_3).toNat * 4)).block, (ad199.add ((x13_3).toNat * 4)).off + 2, none⟩ = some (.string ((rd_T29 t174 x13_3).f2)) ∧ w'.cell? ⟨(ad199.add ((x13_3).toNat * 4)).block, (ad199.add ((x13_3).toNat * 4)).off + 3, none⟩ = some (.int .i64 ((rd_T29 t174 x13_3).f3)) ∧ w'.cell? (ad198.add ((x13_3).toNat * 4)) = some (.int .i64 ((rd_T29 t193 x13_3).f0)) ∧ w'.cell? ⟨(ad198.add ((x13_3).toNat * 4)).block, (ad198.add ((x13_3).toNat * 4)).off + 1, none⟩ = some (.int .i64 ((rd_T29 t193 x13_3).f1)) ∧ w'.cell? ⟨(ad198.add ((x13_3).toNat * 4)).block, (ad198.add ((x13_3).toNat * 4)).off + 2, none⟩ = some (.string ((rd_T29 t193 x13_3).f2)) ∧ w'.cell? ⟨(ad198.add ((x13_3).toNat * 4)).block, (ad198.add ((x13_3).toNat * 4)).off + 3, none⟩ = some (.int .i64 ((rd_T29 t193 x13_3).f3)) ∧ w'.cell? (ad199.add ((x13_3).toNat * 4)) = some (.int .i64 ((rd_T29 t174 x13_3).f0)) ∧ w'.cell? ⟨(ad199.add ((x13_3).toNat * 4)).block, (ad199.add ((x13_3).toNat * 4)).off + 1, none⟩ = some (.int .i64 ((rd_T29 t174 x13_3).f1)) ∧ w'.cell? ⟨(ad199.add ((x13_3).toNat * 4)).block, (ad199.add ((x13_3).toNat * 4)).off + 2, none⟩ = some (.string ((rd_T29 t174 x13_3).f2)) ∧ w'.cell? ⟨(ad199.add ((x13_3).toNat * 4)).block, (ad199.add ((x13_3).toNat * 4)).off + 3, none⟩ = some (.int .i64 ((rd_T29 t174 x13_3).f3)) ∧ w'.cell? (ad198.add ((x13_3).toNat * 4)) = some (.int .i64 ((rd_T29 t193 x13_3).f0)) ∧ w'.cell? ⟨(ad198.add ((x13_3).toNat * 4)).block, (ad198.add ((x13_3).toNat * 4)).off + 1, none⟩ = some (.int .i64 ((rd_T29 t193 x13_3).f1)) ∧ w'.cell? ⟨(ad198.add ((x13_3).toNat * 4)).block, (ad198.add ((x13_3).toNat * 4)).off + 2, none⟩ = some (.string ((rd_T29 t193 x13_3).f2)) ∧ w'.cell? ⟨(ad198.add ((x13_3).toNat * 4)).block, (ad198.add ((x13_3).toNat * 4)).off + 3, none⟩ = some (.int .i64 ((rd_T29 t193 x13_3).f3)) ∧ w'.cell? (ad199.add ((x13_3).toNat * 4)) = some (.int .i64 ((rd_T29 t174 x13_3).f0)) ∧ w'.cell? ⟨(ad199.add ((x13_3).toNat * 4)).block, (ad199.add ((x13_3).toNat * 4)).off + 1, none⟩ = some (.int .i64 ((rd_T29 t174 x13_3).f1)) ∧ w'.cell? ⟨(ad199.add ((x13_3).toNat * 4)).block, (ad199.add ((x13_3).toNat * 4)).off + 2, none⟩ = some (.string ((rd_T29 t174 x13_3).f2)) ∧ w'.cell? ⟨(ad199.add ((x13_3).toNat * 4)).block, (ad199.add ((x13_3).toNat * 4)).off + 3, none⟩ = some (.int .i64 ((rd_T29 t174 x13_3).f3))) (ds := []) #[false, false, false, false, false, false, false, false, false, false, false, false, false, false, false, false, false, false, false, false, false, false, false, false, false, false, false, false, false, false, false, false, false, false, false, false, false] (by kernel_rfl) rfl rfl ⟨hx198_0, hx198_1, hx198_2, hx198_3, hx199_0, hx199_1, hx199_2, hx199_3, hx200_0, hx200_1, hx200_2, hx200_3, hx201_0, hx201_1, hx201_2, hx201_3, hx202_0, hx202_1, hx202_2, hx202_3, hx203_0, hx203_1, hx203_2, hx203_3⟩ (fun hHeld => ?_); refine with_tabW fathomlaw20_LexCovers.tab22 fathomlaw20_LexCovers.bits22 (fun HT_ HW_ => ?_)
         generalize wr.drew = w80 at HO_3 HO_10 HB hx198_0 hx198_1 hx198_2 hx198_3 hx199_0 hx199_1 hx199_2 hx199_3 hx200_0 hx200_1 hx200_2 hx200_3 hx201_0 hx201_1 hx201_2 hx201_3 hx202_0 hx202_1 hx202_2 hx202_3 hx203_0 hx203_1 hx203_2 hx203_3 hHeld ⊢
         refine pv 0 118 HT_.out ?_
         refine pv 1 119 HT_.out ?_
         refine pv 2 120 HT_.out ?_
         refine pv 3 121 HT_.out ?_
         refine pv 5 123 HT_.out ?_
         refine pv 6 124 HT_.out ?_
         refine pv 7 125 HT_.out ?_
         refine pv 8 126 HT_.out ?_
         refine take_ (i := 4) (N := some 122) (v := ?_) (a' := ?_) #[true, true, true, true, true, true, true, true, true, false, false, false, false, false, false, false, false, false, false, false, false, false, false, false, false, false, false, false, false, false, false, false, false, false, false, false, false] rfl rfl (take_ofW HT_.out HW_.out (by kernel_rfl)) (fun _ _ _ h => h) (Or.inl ⟨by rfl, ?_⟩) hHeld ?_ ?_
         rotate_left
         ·
          rintro w' ⟨s0, s1, s2, s3, s4, s5, s6, s7, s8, s9, s10, s11, s12, s13, s14, s15, s16, s17, s18, s19, s20, s21, s22, s23⟩
          go_simp
          with_reducible rfl
         rotate_left
         ·
          simp only [Act.put, List.setIfInBounds_toArray, List.set_cons_zero, List.set_cons_succ, i64_w, i32_w]
          rfl
         refine take_ (i := 9) (N := some 127) (v := ?_) (a' := ?_) #[true, true, true, true, true, true, true, true, true, true, false, false, false, false, false, false, false, false, false, false, false, false, false, false, false, false, false, false, false, false, false, false, false, false, false, false, false] rfl rfl (take_ofW HT_.out HW_.out (by kernel_rfl)) (fun _ _ _ h => h) (Or.inl ⟨by rfl, ?_⟩) hHeld ?_ ?_
         rotate_left
         ·
          rintro w' ⟨s0, s1, s2, s3, s4, s5, s6, s7, s8, s9, s10, s11, s12, s13, s14, s15, s16, s17, s18, s19, s20, s21, s22, s23⟩
          go_simp
          with_reducible rfl
         rotate_left
         ·
          simp only [Act.put, List.setIfInBounds_toArray, List.set_cons_zero, List.set_cons_succ, i64_w, i32_w]
          rfl
         refine pv 10 128 HT_.out ?_
         refine pv 11 129 HT_.out ?_
         refine pv 12 130 HT_.out ?_
         refine pv 13 131 HT_.out ?_
         refine pv 14 132 HT_.out ?_
         refine pv 15 133 HT_.out ?_
         refine pv 17 135 HT_.out ?_
         refine pv 18 136 HT_.out ?_
         refine pv 19 137 HT_.out ?_
         refine pv 20 138 HT_.out ?_
         refine take_ (i := 16) (N := some 134) (v := ?_) (a' := ?_) #[true, true, true, true, true, true, true, true, true, true, true, true, true, true, true, true, true, true, true, true, true, false, false, false, false, false, false, false, false, false, false, false, false, false, false, false, false] rfl rfl (take_ofW HT_.out HW_.out (by kernel_rfl)) (fun _ _ _ h => h) (Or.inl ⟨by rfl, ?_⟩) hHeld ?_ ?_
         rotate_left
         ·
          rintro w' ⟨s0, s1, s2, s3, s4, s5, s6, s7, s8, s9, s10, s11, s12, s13, s14, s15, s16, s17, s18, s19, s20, s21, s22, s23⟩
          go_simp
          with_reducible rfl
         rotate_left
         ·
          simp only [Act.put, List.setIfInBounds_toArray, List.set_cons_zero, List.set_cons_succ, i64_w, i32_w]
          rfl
         refine take_ (i := 21) (N := some 139) (v := ?_) (a' := ?_) #[true, true, true, true, true, true, true, true, true, true, true, true, true, true, true, true, true, true, true, true, true, true, false, false, false, false, false, false, false, false, false, false, false, false, false, false, false] rfl rfl (take_ofW HT_.out HW_.out (by kernel_rfl)) (fun _ _ _ h => h) (Or.inl ⟨by rfl, ?_⟩) hHeld ?_ ?_
         rotate_left
         ·
          rintro w' ⟨s0, s1, s2, s3, s4, s5, s6, s7, s8, s9, s10, s11, s12, s13, s14, s15, s16, s17, s18, s19, s20, s21, s22, s23⟩
          go_simp
          with_reducible rfl
         rotate_left
         ·
          simp only [Act.put, List.setIfInBounds_toArray, List.set_cons_zero, List.set_cons_succ, i64_w, i32_w]
          rfl
         refine pv 22 140 HT_.out ?_
         refine pv 23 141 HT_.out ?_
         refine pv 24 142 HT_.out ?_
         refine pv 25 143 HT_.out ?_
         refine pv 26 144 HT_.out ?_
         refine pv 27 145 HT_.out ?_
         refine pv 28 146 HT_.out ?_
         refine pv 30 148 HT_.out ?_
         refine pv 31 149 HT_.out ?_
         refine pv 32 150 HT_.out ?_
         refine pv 33 151 HT_.out ?_
         refine take_ (i := 29) (N := some 147) (v := ?_) (a' := ?_) #[true, true, true, true, true, true, true, true, true, true, true, true, true, true, true, true, true, true, true, true, true, true, true, true, true, true, true, true, true, true, true, true, true, true, false, false, false] rfl rfl (take_ofW HT_.out HW_.out (by kernel_rfl)) (fun _ _ _ h => h) (Or.inl ⟨by rfl, ?_⟩) hHeld ?_ ?_
         rotate_left
         ·
          rintro w' ⟨s0, s1, s2, s3, s4, s5, s6, s7, s8, s9, s10, s11, s12, s13, s14, s15, s16, s17, s18, s19, s20, s21, s22, s23⟩
          go_simp
          with_reducible rfl
         rotate_left
         ·
          simp only [Act.put, List.setIfInBounds_toArray, List.set_cons_zero, List.set_cons_succ, i64_w, i32_w]
          rfl
         refine take_ (i := 34) (N := some 152) (v := ?_) (a' := ?_) #[true, true, true, true, true, true, true, true, true, true, true, true, true, true, true, true, true, true, true, true, true, true, true, true, true, true, true, true, true, true, true, true, true, true, true, false, false] rfl rfl (take_ofW HT_.out HW_.out (by kernel_rfl)) (fun _ _ _ h => h) (Or.inl ⟨by rfl, ?_⟩) hHeld ?_ ?_
         rotate_left
         ·
          rintro w' ⟨s0, s1, s2, s3, s4, s5, s6, s7, s8, s9, s10, s11, s12, s13, s14, s15, s16, s17, s18, s19, s20, s21, s22, s23⟩
          go_simp
          with_reducible rfl
         rotate_left
         ·
          simp only [Act.put, List.setIfInBounds_toArray, List.set_cons_zero, List.set_cons_succ, i64_w, i32_w]
          rfl
         refine pv 35 153 HT_.out ?_
         refine pv 36 154 HT_.out ?_
         refine done_ (done_of HT_.out (by kernel_rfl)) ?_
         try go_wp2
         go_ret
         exact ⟨ew, bb⟩
        rw [if_pos c77] at H
        have c77b0 : (((rd_T29 t193 x13_3).f3) == ((rd_T29 t174 x13_3).f3)) = true := beq_iff_eq.mpr c77
        have c77b1 : (((rd_T29 t193 x13_3).f3) != ((rd_T29 t174 x13_3).f3)) = false := bne_eq_false_iff_eq.mpr c77
        clear c77
        have H' := Aside0.mk H
        clear H
        try go_wp2
        have n0_ := Aside0.mk (Kd.R_drew HO_3.out)
        have n1_ := Aside0.mk (Kd.R_drew HO_10.out)
        have n2_ := Aside0.mk (below_drew1 HB.out)
        clear HO_3
        clear HO_10
        clear HB
        have HO_3 := n0_
        have HO_10 := n1_
        have HB := n2_
        clear n0_ n1_ n2_
        obtain ⟨Ao79, co79, eo79⟩ := Kd.R_slice HO_10.out
        (first | subst eo79 | (injection eo79 with f1_ f2_ f3_; have f4_ := f1_.symm; have f5_ := f3_.symm; clear f1_ f2_ f3_; subst f4_; subst f5_))
        have p198 : 0 ≤ (x13_3 : Int) := od
        have q198 : x13_3 < (t193.length : Int) := od
        obtain ⟨ad198, e198, hx198_0, hx198_1, hx198_2, hx198_3⟩ := at_T29 (Kd.R_reads' HO_10.out).2.2 x13_3 p198 q198
        cases e198
        replace p198 := eq_true p198
        replace q198 := eq_true q198
        have p199 : 0 ≤ (x13_3 : Int) := od
        have q199 : x13_3 < (t174.length : Int) := od
        obtain ⟨ad199, e199, hx199_0, hx199_1, hx199_2, hx199_3⟩ := at_T29 (Kd.R_reads' HO_3.out).2.2 x13_3 p199 q199
        cases e199
        replace p199 := eq_true p199
        replace q199 := eq_true q199
        have p200 : 0 ≤ (x13_3 : Int) := od
        have q200 : x13_3 < (t193.length : Int) := od
        obtain ⟨ad200, e200, hx200_0, hx200_1, hx200_2, hx200_3⟩ := at_T29 (Kd.R_reads' HO_10.out).2.2 x13_3 p200 q200
        obtain rfl : ad198 = ad200 := (by injection e200)
        replace p200 := eq_true p200
        replace q200 := eq_true q200
        have p201 : 0 ≤ (x13_3 : Int) := od
        have q201 : x13_3 < (t174.length : Int) := od
        obtain ⟨ad201, e201, hx201_0, hx201_1, hx201_2, hx201_3⟩ := at_T29 (Kd.R_reads' HO_3.out).2.2 x13_3 p201 q201
        obtain rfl : ad199 = ad201 := (by injection e201)
        replace p201 := eq_true p201
        replace q201 := eq_true q201
        have p202 : 0 ≤ (x13_3 : Int) := od
        have q202 : x13_3 < (t193.length : Int) := od
        obtain ⟨ad202, e202, hx202_0, hx202_1, hx202_2, hx202_3⟩ := at_T29 (Kd.R_reads' HO_10.out).2.2 x13_3 p202 q202
        obtain rfl : ad198 = ad202 := (by injection e202)
        replace p202 := eq_true p202
        replace q202 := eq_true q202
        have p203 : 0 ≤ (x13_3 : Int) := od
        have q203 : x13_3 < (t174.length : Int) := od
        obtain ⟨ad203, e203, hx203_0, hx203_1, hx203_2, hx203_3⟩ := at_T29 (Kd.R_reads' HO_3.out).2.2 x13_3 p203 q203
        obtain rfl : ad199 = ad203 := (by injection e203)
        replace p203 := eq_true p203
        replace q203 := eq_true q203
        refine start_ (n := 37) (S := fun w' => w'.cell? (ad198.add ((x13_3).toNat * 4)) = some (.int .i64 ((rd_T29 t193 x13_3).f0)) ∧ w'.cell? ⟨(ad198.add ((x13_3).toNat * 4)).block, (ad198.add ((x13_3).toNat * 4)).off + 1, none⟩ = some (.int .i64 ((rd_T29 t193 x13_3).f1)) ∧ w'.cell? ⟨(ad198.add ((x13_3).toNat * 4)).block, (ad198.add ((x13_3).toNat * 4)).off + 2, none⟩ = some (.string ((rd_T29 t193 x13_3).f2)) ∧ w'.cell? ⟨(ad198.add ((x13_3).toNat * 4)).block, (ad198.add ((x13_3).toNat * 4)).off + 3, none⟩ = some (.int .i64 ((rd_T29 t193 x13_3).f3)) ∧ w'.cell? (ad199.add ((x13_3).toNat * 4)) = some (.int .i64 ((rd_T29 t174 x13_3).f0)) ∧ w'.cell? ⟨(ad199.add ((x13_3).toNat * 4)).block, (ad199.add ((x13_3).toNat * 4)).off + 1, none⟩ = some (.int .i64 ((rd_T29 t174 x13_3).f1)) ∧ w'.cell? ⟨(ad199.add ((x13_3).toNat * 4)).block, (ad199.add ((x13_3).toNat * 4)).off + 2, none⟩ = some (.string ((rd_T29 t174 x13_3).f2)) ∧ w'.cell? ⟨(ad199.add ((x13_3).toNat * 4)).block, (ad199.add ((x13_3).toNat * 4)).off + 3, none⟩ = some (.int .i64 ((rd_T29 t174 x13_3).f3)) ∧ w'.cell? (ad198.add ((x13_3).toNat * 4)) = some (.int .i64 ((rd_T29 t193 x13_3).f0)) ∧ w'.cell? ⟨(ad198.add ((x13_3).toNat * 4)).block, (ad198.add ((x13_3).toNat * 4)).off + 1, none⟩ = some (.int .i64 ((rd_T29 t193 x13_3).f1)) ∧ w'.cell? ⟨(ad198.add ((x13_3).toNat * 4)).block, (ad198.add ((x13_3).toNat * 4)).off + 2, none⟩ = some (.string ((rd_T29 t193 x13_3).f2)) ∧ w'.cell? ⟨(ad198.add ((x13_3).toNat * 4)).block, (ad198.add ((x13_3).toNat * 4)).off + 3, none⟩ = some (.int .i64 ((rd_T29 t193 x13_3).f3)) ∧ w'.cell? (ad199.add ((x13_3).toNat * 4)) = some (.int .i64 ((rd_T29 t174 x13_3).f0)) ∧ w'.cell? ⟨(ad199.add ((x13_3).toNat * 4)).block, (ad199.add ((x13_3).toNat * 4)).off + 1, none⟩ = some (.int .i64 ((rd_T29 t174 x13_3).f1)) ∧ w'.cell? ⟨(ad199.add ((x13_3).toNat * 4)).block, (ad199.add ((x13_3).toNat * 4)).off + 2, none⟩ = some (.string ((rd_T29 t174 x13_3).f2)) ∧ w'.cell? ⟨(ad199.add ((x13_3).toNat * 4)).block, (ad199.add ((x13_3).toNat * 4)).off + 3, none⟩ = some (.int .i64 ((rd_T29 t174 x13_3).f3)) ∧ w'.cell? (ad198.add ((x13_3).toNat * 4)) = some (.int .i64 ((rd_T29 t193 x13_3).f0)) ∧ w'.cell? ⟨(ad198.add ((x13_3).toNat * 4)).block, (ad198.add ((x13_3).toNat * 4)).off + 1, none⟩ = some (.int .i64 ((rd_T29 t193 x13_3).f1)) ∧ w'.cell? ⟨(ad198.add ((x13_3).toNat * 4)).block, (ad198.add ((x13_3).toNat * 4)).off + 2, none⟩ = some (.string ((rd_T29 t193 x13_3).f2)) ∧ w'.cell? ⟨(ad198.add ((x13_3).toNat * 4)).block, (ad198.add ((x13_3).toNat * 4)).off + 3, none⟩ = some (.int .i64 ((rd_T29 t193 x13_3).f3)) ∧ w'.cell? (ad199.add ((x13_3).toNat * 4)) = some (.int .i64 ((rd_T29 t174 x13_3).f0)) ∧ w'.cell? ⟨(ad199.add ((x13_3).toNat * 4)).block, (ad199.add ((x13_3).toNat * 4)).off + 1, none⟩ = some (.int .i64 ((rd_T29 t174 x13_3).f1)) ∧ w'.cell? ⟨(ad199.add ((x13_3).toNat * 4)).block, (ad199.add ((x13_3).toNat * 4)).off + 2, none⟩ = some (.string ((rd_T29 t174 x13_3).f2)) ∧ w'.cell? ⟨(ad199.add ((x13_3).toNat * 4)).block, (ad199.add ((x13_3).toNat * 4)).off + 3, none⟩ = some (.int .i64 ((rd_T29 t174 x13_3).f3))) (ds := []) #[false, false, false, false, false, false, false, false, false, false, false, false, false, false, false, false, false, false, false, false, false, false, false, false, false, false, false, false, false, false, false, false, false, false, false, false, false] (by kernel_rfl) rfl rfl ⟨hx198_0, hx198_1, hx198_2, hx198_3, hx199_0, hx199_1, hx199_2, hx199_3, hx200_0, hx200_1, hx200_2, hx200_3, hx201_0, hx201_1, hx201_2, hx201_3, hx202_0, hx202_1, hx202_2, hx202_3, hx203_0, hx203_1, hx203_2, hx203_3⟩ (fun hHeld => ?_); refine with_tabW fathomlaw20_LexCovers.tab22 fathomlaw20_LexCovers.bits22 (fun HT_ HW_ => ?_)
        generalize wr.drew = w78 at HO_3 HO_10 HB hx198_0 hx198_1 hx198_2 hx198_3 hx199_0 hx199_1 hx199_2 hx199_3 hx200_0 hx200_1 hx200_2 hx200_3 hx201_0 hx201_1 hx201_2 hx201_3 hx202_0 hx202_1 hx202_2 hx202_3 hx203_0 hx203_1 hx203_2 hx203_3 hHeld ⊢
        refine pv 0 118 HT_.out ?_
        refine pv 1 119 HT_.out ?_
        refine pv 2 120 HT_.out ?_
        refine pv 3 121 HT_.out ?_
        refine pv 5 123 HT_.out ?_
        refine pv 6 124 HT_.out ?_
        refine pv 7 125 HT_.out ?_
        refine pv 8 126 HT_.out ?_
        refine take_ (i := 4) (N := some 122) (v := ?_) (a' := ?_) #[true, true, true, true, true, true, true, true, true, false, false, false, false, false, false, false, false, false, false, false, false, false, false, false, false, false, false, false, false, false, false, false, false, false, false, false, false] rfl rfl (take_ofW HT_.out HW_.out (by kernel_rfl)) (fun _ _ _ h => h) (Or.inl ⟨by rfl, ?_⟩) hHeld ?_ ?_
        rotate_left
        ·
         rintro w' ⟨s0, s1, s2, s3, s4, s5, s6, s7, s8, s9, s10, s11, s12, s13, s14, s15, s16, s17, s18, s19, s20, s21, s22, s23⟩
         go_simp
         with_reducible rfl
        rotate_left
        ·
         simp only [Act.put, List.setIfInBounds_toArray, List.set_cons_zero, List.set_cons_succ, i64_w, i32_w]
         rfl
        refine take_ (i := 9) (N := some 127) (v := ?_) (a' := ?_) #[true, true, true, true, true, true, true, true, true, true, false, false, false, false, false, false, false, false, false, false, false, false, false, false, false, false, false, false, false, false, false, false, false, false, false, false, false] rfl rfl (take_ofW HT_.out HW_.out (by kernel_rfl)) (fun _ _ _ h => h) (Or.inl ⟨by rfl, ?_⟩) hHeld ?_ ?_
        rotate_left
        ·
         rintro w' ⟨s0, s1, s2, s3, s4, s5, s6, s7, s8, s9, s10, s11, s12, s13, s14, s15, s16, s17, s18, s19, s20, s21, s22, s23⟩
         go_simp
         with_reducible rfl
        rotate_left
        ·
         simp only [Act.put, List.setIfInBounds_toArray, List.set_cons_zero, List.set_cons_succ, i64_w, i32_w]
         rfl
        refine pv 10 128 HT_.out ?_
        refine pv 11 129 HT_.out ?_
        refine pv 12 130 HT_.out ?_
        refine pv 13 131 HT_.out ?_
        refine pv 14 132 HT_.out ?_
        refine pv 15 133 HT_.out ?_
        refine pv 17 135 HT_.out ?_
        refine pv 18 136 HT_.out ?_
        refine pv 19 137 HT_.out ?_
        refine pv 20 138 HT_.out ?_
        refine take_ (i := 16) (N := some 134) (v := ?_) (a' := ?_) #[true, true, true, true, true, true, true, true, true, true, true, true, true, true, true, true, true, true, true, true, true, false, false, false, false, false, false, false, false, false, false, false, false, false, false, false, false] rfl rfl (take_ofW HT_.out HW_.out (by kernel_rfl)) (fun _ _ _ h => h) (Or.inl ⟨by rfl, ?_⟩) hHeld ?_ ?_
        rotate_left
        ·
         rintro w' ⟨s0, s1, s2, s3, s4, s5, s6, s7, s8, s9, s10, s11, s12, s13, s14, s15, s16, s17, s18, s19, s20, s21, s22, s23⟩
         go_simp
         with_reducible rfl
        rotate_left
        ·
         simp only [Act.put, List.setIfInBounds_toArray, List.set_cons_zero, List.set_cons_succ, i64_w, i32_w]
         rfl
        refine take_ (i := 21) (N := some 139) (v := ?_) (a' := ?_) #[true, true, true, true, true, true, true, true, true, true, true, true, true, true, true, true, true, true, true, true, true, true, false, false, false, false, false, false, false, false, false, false, false, false, false, false, false] rfl rfl (take_ofW HT_.out HW_.out (by kernel_rfl)) (fun _ _ _ h => h) (Or.inl ⟨by rfl, ?_⟩) hHeld ?_ ?_
        rotate_left
        ·
         rintro w' ⟨s0, s1, s2, s3, s4, s5, s6, s7, s8, s9, s10, s11, s12, s13, s14, s15, s16, s17, s18, s19, s20, s21, s22, s23⟩
         go_simp
         with_reducible rfl
        rotate_left
        ·
         simp only [Act.put, List.setIfInBounds_toArray, List.set_cons_zero, List.set_cons_succ, i64_w, i32_w]
         rfl
        refine pv 22 140 HT_.out ?_
        refine pv 23 141 HT_.out ?_
        refine pv 24 142 HT_.out ?_
        refine pv 25 143 HT_.out ?_
        refine pv 26 144 HT_.out ?_
        refine pv 27 145 HT_.out ?_
        refine pv 28 146 HT_.out ?_
        refine pv 30 148 HT_.out ?_
        refine pv 31 149 HT_.out ?_
        refine pv 32 150 HT_.out ?_
        refine pv 33 151 HT_.out ?_
        refine take_ (i := 29) (N := some 147) (v := ?_) (a' := ?_) #[true, true, true, true, true, true, true, true, true, true, true, true, true, true, true, true, true, true, true, true, true, true, true, true, true, true, true, true, true, true, true, true, true, true, false, false, false] rfl rfl (take_ofW HT_.out HW_.out (by kernel_rfl)) (fun _ _ _ h => h) (Or.inl ⟨by rfl, ?_⟩) hHeld ?_ ?_
        rotate_left
        ·
         rintro w' ⟨s0, s1, s2, s3, s4, s5, s6, s7, s8, s9, s10, s11, s12, s13, s14, s15, s16, s17, s18, s19, s20, s21, s22, s23⟩
         go_simp
         with_reducible rfl
        rotate_left
        ·
         simp only [Act.put, List.setIfInBounds_toArray, List.set_cons_zero, List.set_cons_succ, i64_w, i32_w]
         rfl
        refine take_ (i := 34) (N := some 152) (v := ?_) (a' := ?_) #[true, true, true, true, true, true, true, true, true, true, true, true, true, true, true, true, true, true, true, true, true, true, true, true, true, true, true, true, true, true, true, true, true, true, true, false, false] rfl rfl (take_ofW HT_.out HW_.out (by kernel_rfl)) (fun _ _ _ h => h) (Or.inl ⟨by rfl, ?_⟩) hHeld ?_ ?_
        rotate_left
        ·
         rintro w' ⟨s0, s1, s2, s3, s4, s5, s6, s7, s8, s9, s10, s11, s12, s13, s14, s15, s16, s17, s18, s19, s20, s21, s22, s23⟩
         go_simp
         with_reducible rfl
        rotate_left
        ·
         simp only [Act.put, List.setIfInBounds_toArray, List.set_cons_zero, List.set_cons_succ, i64_w, i32_w]
         rfl
        refine pv 35 153 HT_.out ?_
        refine pv 36 154 HT_.out ?_
        refine done_ (done_of HT_.out (by kernel_rfl)) ?_
        try go_wp2
        go_roundg k3
        case measure => have := HK1.out; have := HJ62.out; have := HK3.out; omega
        case rel => exact ⟨(wrap64 (x13_3 + 1)), rs, H', ⟨by have := HK1.out; have := HJ62.out; have := HK3.out; omega⟩, ⟨by refine rm ?_; exact HO_3.out⟩, ⟨by refine rm ?_; exact HO_10.out⟩, ⟨bb⟩⟩
   rw [if_pos c15] at H
   have c15b0 : decide (x8_1 < (t174.length : Int)) = true := decide_eq_true c15
   clear c15
   by_cases c16 : 0 ≤ x8_1
   rotate_left
   ·
    rw [if_neg c16] at H
    exact absurd H (by simp)
   rw [if_pos c16] at H
   have c16b0 : decide (0 ≤ x8_1) = true := decide_eq_true c16
   clear c16
   by_cases c17 : ((rd_T29 t174 x8_1).f1) < x6_1
   ·
    rw [if_pos c17] at H
    have c17b0 : decide (((rd_T29 t174 x8_1).f1) < x6_1) = true := decide_eq_true c17
    clear c17
    obtain rfl := Option.some.inj H
    obtain ⟨Ao18, co18, eo18⟩ := Kd.R_slice HO_3.out
    subst eo18
    have p183 : 0 ≤ (x8_1 : Int) := od
    have q183 : x8_1 < (t174.length : Int) := od
    obtain ⟨ad183, e183, hx183_0, hx183_1, hx183_2, hx183_3⟩ := at_T29 (Kd.R_reads' HO_3.out).2.2 x8_1 p183 q183
    cases e183
    replace p183 := eq_true p183
    replace q183 := eq_true q183
    try go_wp2_with (first | ((with_reducible refine gate_dst (N := 9) rfl ?_); (try (refine gate_guard (by rfl) ?_; dsimp only)); refine bx 9 #[.int .i64 0, .int .i64 0, .string (⟨#[]⟩ : ByteArray), .int .i64 0] 29 ?_; intro gb184 hg w19 hbox hb; replace HO_3 := Aside0.mk (Kd.R_below (Kd.R_elderB (rk HO_3) gb184 (Nat.le_of_eq hg.symm)) hb); replace HO_7 := Aside0.mk (Kd.R_below (rk HO_7) hb); have BK184 := Aside0.mk (hbox); have GW184 := Aside0.mk ((bz hg : w.heap.size ≤ gb184)); have GE184 := Aside0.mk ((bz hg : w.heap.size ≤ gb184)); replace HB := Aside0.mk (below_step bb hb); clear hb hbox hg; obtain ⟨hcz20_0, hcz20_1, hcz20_2, hcz20_3, hfz20_0, hfz20_1, hfz20_2, hfz20_3⟩ := bo4 BK184))
    have n0_ : Aside0 (Kd.R k29 29 ((((w19.setCell ⟨gb184, 0, none⟩ (.int .i64 ((rd_T29 t174 x8_1).f0))).setCell ⟨gb184, 1, none⟩ (.int .i64 ((rd_T29 t174 x8_1).f1))).setCell ⟨gb184, 2, none⟩ (.string ((rd_T29 t174 x8_1).f2))).setCell ⟨gb184, 3, none⟩ (.int .i64 ((rd_T29 t174 x8_1).f3))) w.heap.size (fun k_ => k_ ≠ gb184) (.slice (some ad183) t174.length co18) t174) := ⟨by refine rm ?_; exact Kd.R_mono (Kd.R_far (p := ⟨gb184, 3, none⟩) (Kd.R_far (p := ⟨gb184, 2, none⟩) (Kd.R_far (p := ⟨gb184, 1, none⟩) (Kd.R_far (p := ⟨gb184, 0, none⟩) (Kd.R_mono HO_3.out (fun k_ hk => (⟨hk, hk.2⟩ : _ ∧ k_ ≠ gb184))) (fun _ hk => hk.2) (.int .i64 ((rd_T29 t174 x8_1).f0))) (fun _ hk => hk.2) (.int .i64 ((rd_T29 t174 x8_1).f1))) (fun _ hk => hk.2) (.string ((rd_T29 t174 x8_1).f2))) (fun _ hk => hk.2) (.int .i64 ((rd_T29 t174 x8_1).f3))) (fun _ hk => hk.1.2)⟩
    have n1_ : Aside0 (Kd.R (Kd.int .u8) 5 ((((w19.setCell ⟨gb184, 0, none⟩ (.int .i64 ((rd_T29 t174 x8_1).f0))).setCell ⟨gb184, 1, none⟩ (.int .i64 ((rd_T29 t174 x8_1).f1))).setCell ⟨gb184, 2, none⟩ (.string ((rd_T29 t174 x8_1).f2))).setCell ⟨gb184, 3, none⟩ (.int .i64 ((rd_T29 t174 x8_1).f3))) w.heap.size (fun _ => True) u7 x7_1) := ⟨by refine rm ?_; exact Kd.R_mono (Kd.R_far (p := ⟨gb184, 3, none⟩) (Kd.R_far (p := ⟨gb184, 2, none⟩) (Kd.R_far (p := ⟨gb184, 1, none⟩) (Kd.R_far (p := ⟨gb184, 0, none⟩) (Kd.R_types HO_7.out BK184.out (by decide)) (fun _ hk => hk.2) (.int .i64 ((rd_T29 t174 x8_1).f0))) (fun _ hk => hk.2) (.int .i64 ((rd_T29 t174 x8_1).f1))) (fun _ hk => hk.2) (.string ((rd_T29 t174 x8_1).f2))) (fun _ hk => hk.2) (.int .i64 ((rd_T29 t174 x8_1).f3))) (fun _ hk => trivial)⟩
    have n2_ : Aside0 (((((w19.setCell ⟨gb184, 0, none⟩ (.int .i64 ((rd_T29 t174 x8_1).f0))).setCell ⟨gb184, 1, none⟩ (.int .i64 ((rd_T29 t174 x8_1).f1))).setCell ⟨gb184, 2, none⟩ (.string ((rd_T29 t174 x8_1).f2))).setCell ⟨gb184, 3, none⟩ (.int .i64 ((rd_T29 t174 x8_1).f3))).heap[gb184]? = some (.cells #[.int .i64 ((rd_T29 t174 x8_1).f0), .int .i64 ((rd_T29 t174 x8_1).f1), .string ((rd_T29 t174 x8_1).f2), .int .i64 ((rd_T29 t174 x8_1).f3)] 29 (0, 0))) := ⟨by refine bm ?_; refine blk_put (cs := #[.int .i64 ((rd_T29 t174 x8_1).f0), .int .i64 ((rd_T29 t174 x8_1).f1), .string ((rd_T29 t174 x8_1).f2), .int .i64 0]) ?_ 3 _ rfl; refine bm ?_; refine blk_put (cs := #[.int .i64 ((rd_T29 t174 x8_1).f0), .int .i64 ((rd_T29 t174 x8_1).f1), .string (⟨#[]⟩ : ByteArray), .int .i64 0]) ?_ 2 _ rfl; refine bm ?_; refine blk_put (cs := #[.int .i64 ((rd_T29 t174 x8_1).f0), .int .i64 0, .string (⟨#[]⟩ : ByteArray), .int .i64 0]) ?_ 1 _ rfl; refine bm ?_; refine blk_put (cs := #[.int .i64 0, .int .i64 0, .string (⟨#[]⟩ : ByteArray), .int .i64 0]) ?_ 0 _ rfl; refine bm ?_; exact BK184.out⟩
    have n3_ : Aside0 (Below w.heap.size w ((((w19.setCell ⟨gb184, 0, none⟩ (.int .i64 ((rd_T29 t174 x8_1).f0))).setCell ⟨gb184, 1, none⟩ (.int .i64 ((rd_T29 t174 x8_1).f1))).setCell ⟨gb184, 2, none⟩ (.string ((rd_T29 t174 x8_1).f2))).setCell ⟨gb184, 3, none⟩ (.int .i64 ((rd_T29 t174 x8_1).f3)))) := ⟨bb⟩
    (try clear HO_3)
    (try clear HO_7)
    (try clear BK184)
    (try clear HB)
    generalize ((((w19.setCell ⟨gb184, 0, none⟩ (.int .i64 ((rd_T29 t174 x8_1).f0))).setCell ⟨gb184, 1, none⟩ (.int .i64 ((rd_T29 t174 x8_1).f1))).setCell ⟨gb184, 2, none⟩ (.string ((rd_T29 t174 x8_1).f2))).setCell ⟨gb184, 3, none⟩ (.int .i64 ((rd_T29 t174 x8_1).f3))) = w21 at n0_ n1_ n2_ n3_ ⊢
    have HO_3 := n0_
    have HO_7 := n1_
    have BK184 := n2_
    have HB := n3_
    clear n0_ n1_ n2_ n3_
    have n0_ := Aside0.mk (Kd.R_drew HO_3.out)
    have n1_ := Aside0.mk (Kd.R_drew HO_7.out)
    have n2_ := Aside0.mk (blk_drew BK184.out)
    have n3_ := Aside0.mk (below_drew1 HB.out)
    clear HO_3
    clear HO_7
    clear BK184
    clear HB
    have HO_3 := n0_
    have HO_7 := n1_
    have BK184 := n2_
    have HB := n3_
    clear n0_ n1_ n2_ n3_
    refine start_ (n := 39) (S := fun w' => w'.cell? ⟨gb184, 0, none⟩ = some (.int .i64 ((rd_T29 t174 x8_1).f0)) ∧ w'.cell? ⟨gb184, 1, none⟩ = some (.int .i64 ((rd_T29 t174 x8_1).f1)) ∧ w'.cell? ⟨gb184, 2, none⟩ = some (.string ((rd_T29 t174 x8_1).f2)) ∧ w'.cell? ⟨gb184, 3, none⟩ = some (.int .i64 ((rd_T29 t174 x8_1).f3))) (ds := []) #[false, false, false, false, false, false, false, false, false, false, false, false, false, false, false, false, false, false, false, false, false, false, false, false, false, false, false, false, false, false, false, false, false, false, false, false, false, false, false] (by kernel_rfl) rfl rfl ⟨(blk_cell BK184.out 0).trans rfl, (blk_cell BK184.out 1).trans rfl, (blk_cell BK184.out 2).trans rfl, (blk_cell BK184.out 3).trans rfl⟩ (fun hHeld => ?_); refine with_tabW fathomlaw20_LexCovers.tab12 fathomlaw20_LexCovers.bits12 (fun HT_ HW_ => ?_)
    generalize w21.drew = w22 at HO_3 HO_7 BK184 HB hHeld ⊢
    refine pv 0 40 HT_.out ?_
    refine pv 2 42 HT_.out ?_
    refine take_ (i := 1) (N := some 41) (v := ?_) (a' := ?_) #[true, true, true, false, false, false, false, false, false, false, false, false, false, false, false, false, false, false, false, false, false, false, false, false, false, false, false, false, false, false, false, false, false, false, false, false, false, false, false] rfl rfl (take_ofW HT_.out HW_.out (by kernel_rfl)) (fun _ _ _ h => h) (Or.inl ⟨by rfl, ?_⟩) hHeld ?_ ?_
    rotate_left
    ·
     rintro w' ⟨s0, s1, s2, s3⟩
     go_simp
     with_reducible rfl
    rotate_left
    ·
     simp only [Act.put, List.setIfInBounds_toArray, List.set_cons_zero, List.set_cons_succ, i64_w, i32_w]
     rfl
    refine pv 3 43 HT_.out ?_
    refine pv 4 44 HT_.out ?_
    refine pu 5 45 HT_.out ?_
    refine pu 6 46 HT_.out ?_
    refine pu 7 47 HT_.out ?_
    refine pu 8 48 HT_.out ?_
    refine pu 9 49 HT_.out ?_
    refine pu 10 50 HT_.out ?_
    refine pu 11 51 HT_.out ?_
    refine pu 12 52 HT_.out ?_
    refine pu 13 53 HT_.out ?_
    refine pv 14 54 HT_.out ?_
    refine pv 15 55 HT_.out ?_
    refine pu 16 56 HT_.out ?_
    refine pu 17 57 HT_.out ?_
    refine pu 18 58 HT_.out ?_
    refine pu 19 59 HT_.out ?_
    refine pu 20 60 HT_.out ?_
    refine pu 21 61 HT_.out ?_
    refine pu 22 62 HT_.out ?_
    refine pu 23 63 HT_.out ?_
    refine pu 24 64 HT_.out ?_
    refine pu 25 65 HT_.out ?_
    refine pu 26 66 HT_.out ?_
    refine pu 27 67 HT_.out ?_
    refine pu 28 68 HT_.out ?_
    refine pu 29 69 HT_.out ?_
    refine pv 30 70 HT_.out ?_
    refine pv 31 71 HT_.out ?_
    refine pu 32 72 HT_.out ?_
    refine pu 33 73 HT_.out ?_
    refine pu 34 74 HT_.out ?_
    refine pu 35 75 HT_.out ?_
    refine pu 36 76 HT_.out ?_
    refine pu 37 77 HT_.out ?_
    refine pv 38 78 HT_.out ?_
    refine done_ (done_of HT_.out (by kernel_rfl)) ?_
    try go_wp2
    go_ret
    exact ⟨ew, bb⟩
   rw [if_neg c17] at H
   have c17b0 : decide (((rd_T29 t174 x8_1).f1) < x6_1) = false := decide_eq_false c17
   clear c17
   by_cases c23 : (wrap64 (((rd_T29 t174 x8_1).f1) + (((rd_T29 t174 x8_1).f2).size : Int))) > (l0.length : Int)
   ·
    rw [if_pos c23] at H
    have c23b0 : decide ((l0.length : Int) < (wrap64 (((rd_T29 t174 x8_1).f1) + (((rd_T29 t174 x8_1).f2).size : Int)))) = true := decide_eq_true c23
    clear c23
    obtain rfl := Option.some.inj H
    obtain ⟨Ao24, co24, eo24⟩ := Kd.R_slice HO_3.out
    subst eo24
    have p183 : 0 ≤ (x8_1 : Int) := od
    have q183 : x8_1 < (t174.length : Int) := od
    obtain ⟨ad183, e183, hx183_0, hx183_1, hx183_2, hx183_3⟩ := at_T29 (Kd.R_reads' HO_3.out).2.2 x8_1 p183 q183
    cases e183
    replace p183 := eq_true p183
    replace q183 := eq_true q183
    try go_wp2_with (first | ((with_reducible refine gate_dst (N := 9) rfl ?_); (try (refine gate_guard (by rfl) ?_; dsimp only)); refine bx 9 #[.int .i64 0, .int .i64 0, .string (⟨#[]⟩ : ByteArray), .int .i64 0] 29 ?_; intro gb184 hg w25 hbox hb; replace HO_3 := Aside0.mk (Kd.R_below (Kd.R_elderB (rk HO_3) gb184 (Nat.le_of_eq hg.symm)) hb); replace HO_7 := Aside0.mk (Kd.R_below (rk HO_7) hb); have BK184 := Aside0.mk (hbox); have GW184 := Aside0.mk ((bz hg : w.heap.size ≤ gb184)); have GE184 := Aside0.mk ((bz hg : w.heap.size ≤ gb184)); replace HB := Aside0.mk (below_step bb hb); clear hb hbox hg; obtain ⟨hcz26_0, hcz26_1, hcz26_2, hcz26_3, hfz26_0, hfz26_1, hfz26_2, hfz26_3⟩ := bo4 BK184))
    have n0_ : Aside0 (Kd.R k29 29 ((((w25.setCell ⟨gb184, 0, none⟩ (.int .i64 ((rd_T29 t174 x8_1).f0))).setCell ⟨gb184, 1, none⟩ (.int .i64 ((rd_T29 t174 x8_1).f1))).setCell ⟨gb184, 2, none⟩ (.string ((rd_T29 t174 x8_1).f2))).setCell ⟨gb184, 3, none⟩ (.int .i64 ((rd_T29 t174 x8_1).f3))) w.heap.size (fun k_ => k_ ≠ gb184) (.slice (some ad183) t174.length co24) t174) := ⟨by refine rm ?_; exact Kd.R_mono (Kd.R_far (p := ⟨gb184, 3, none⟩) (Kd.R_far (p := ⟨gb184, 2, none⟩) (Kd.R_far (p := ⟨gb184, 1, none⟩) (Kd.R_far (p := ⟨gb184, 0, none⟩) (Kd.R_mono HO_3.out (fun k_ hk => (⟨hk, hk.2⟩ : _ ∧ k_ ≠ gb184))) (fun _ hk => hk.2) (.int .i64 ((rd_T29 t174 x8_1).f0))) (fun _ hk => hk.2) (.int .i64 ((rd_T29 t174 x8_1).f1))) (fun _ hk => hk.2) (.string ((rd_T29 t174 x8_1).f2))) (fun _ hk => hk.2) (.int .i64 ((rd_T29 t174 x8_1).f3))) (fun _ hk => hk.1.2)⟩
    have n1_ : Aside0 (Kd.R (Kd.int .u8) 5 ((((w25.setCell ⟨gb184, 0, none⟩ (.int .i64 ((rd_T29 t174 x8_1).f0))).setCell ⟨gb184, 1, none⟩ (.int .i64 ((rd_T29 t174 x8_1).f1))).setCell ⟨gb184, 2, none⟩ (.string ((rd_T29 t174 x8_1).f2))).setCell ⟨gb184, 3, none⟩ (.int .i64 ((rd_T29 t174 x8_1).f3))) w.heap.size (fun _ => True) u7 x7_1) := ⟨by refine rm ?_; exact Kd.R_mono (Kd.R_far (p := ⟨gb184, 3, none⟩) (Kd.R_far (p := ⟨gb184, 2, none⟩) (Kd.R_far (p := ⟨gb184, 1, none⟩) (Kd.R_far (p := ⟨gb184, 0, none⟩) (Kd.R_types HO_7.out BK184.out (by decide)) (fun _ hk => hk.2) (.int .i64 ((rd_T29 t174 x8_1).f0))) (fun _ hk => hk.2) (.int .i64 ((rd_T29 t174 x8_1).f1))) (fun _ hk => hk.2) (.string ((rd_T29 t174 x8_1).f2))) (fun _ hk => hk.2) (.int .i64 ((rd_T29 t174 x8_1).f3))) (fun _ hk => trivial)⟩
    have n2_ : Aside0 (((((w25.setCell ⟨gb184, 0, none⟩ (.int .i64 ((rd_T29 t174 x8_1).f0))).setCell ⟨gb184, 1, none⟩ (.int .i64 ((rd_T29 t174 x8_1).f1))).setCell ⟨gb184, 2, none⟩ (.string ((rd_T29 t174 x8_1).f2))).setCell ⟨gb184, 3, none⟩ (.int .i64 ((rd_T29 t174 x8_1).f3))).heap[gb184]? = some (.cells #[.int .i64 ((rd_T29 t174 x8_1).f0), .int .i64 ((rd_T29 t174 x8_1).f1), .string ((rd_T29 t174 x8_1).f2), .int .i64 ((rd_T29 t174 x8_1).f3)] 29 (0, 0))) := ⟨by refine bm ?_; refine blk_put (cs := #[.int .i64 ((rd_T29 t174 x8_1).f0), .int .i64 ((rd_T29 t174 x8_1).f1), .string ((rd_T29 t174 x8_1).f2), .int .i64 0]) ?_ 3 _ rfl; refine bm ?_; refine blk_put (cs := #[.int .i64 ((rd_T29 t174 x8_1).f0), .int .i64 ((rd_T29 t174 x8_1).f1), .string (⟨#[]⟩ : ByteArray), .int .i64 0]) ?_ 2 _ rfl; refine bm ?_; refine blk_put (cs := #[.int .i64 ((rd_T29 t174 x8_1).f0), .int .i64 0, .string (⟨#[]⟩ : ByteArray), .int .i64 0]) ?_ 1 _ rfl; refine bm ?_; refine blk_put (cs := #[.int .i64 0, .int .i64 0, .string (⟨#[]⟩ : ByteArray), .int .i64 0]) ?_ 0 _ rfl; refine bm ?_; exact BK184.out⟩
    have n3_ : Aside0 (Below w.heap.size w ((((w25.setCell ⟨gb184, 0, none⟩ (.int .i64 ((rd_T29 t174 x8_1).f0))).setCell ⟨gb184, 1, none⟩ (.int .i64 ((rd_T29 t174 x8_1).f1))).setCell ⟨gb184, 2, none⟩ (.string ((rd_T29 t174 x8_1).f2))).setCell ⟨gb184, 3, none⟩ (.int .i64 ((rd_T29 t174 x8_1).f3)))) := ⟨bb⟩
    (try clear HO_3)
    (try clear HO_7)
    (try clear BK184)
    (try clear HB)
    generalize ((((w25.setCell ⟨gb184, 0, none⟩ (.int .i64 ((rd_T29 t174 x8_1).f0))).setCell ⟨gb184, 1, none⟩ (.int .i64 ((rd_T29 t174 x8_1).f1))).setCell ⟨gb184, 2, none⟩ (.string ((rd_T29 t174 x8_1).f2))).setCell ⟨gb184, 3, none⟩ (.int .i64 ((rd_T29 t174 x8_1).f3))) = w27 at n0_ n1_ n2_ n3_ ⊢
    have HO_3 := n0_
    have HO_7 := n1_
    have BK184 := n2_
    have HB := n3_
    clear n0_ n1_ n2_ n3_
    have n0_ := Aside0.mk (Kd.R_drew HO_3.out)
    have n1_ := Aside0.mk (Kd.R_drew HO_7.out)
    have n2_ := Aside0.mk (blk_drew BK184.out)
    have n3_ := Aside0.mk (below_drew1 HB.out)
    clear HO_3
    clear HO_7
    clear BK184
    clear HB
    have HO_3 := n0_
    have HO_7 := n1_
    have BK184 := n2_
    have HB := n3_
    clear n0_ n1_ n2_ n3_
    refine start_ (n := 39) (S := fun w' => w'.cell? ⟨gb184, 0, none⟩ = some (.int .i64 ((rd_T29 t174 x8_1).f0)) ∧ w'.cell? ⟨gb184, 1, none⟩ = some (.int .i64 ((rd_T29 t174 x8_1).f1)) ∧ w'.cell? ⟨gb184, 2, none⟩ = some (.string ((rd_T29 t174 x8_1).f2)) ∧ w'.cell? ⟨gb184, 3, none⟩ = some (.int .i64 ((rd_T29 t174 x8_1).f3))) (ds := []) #[false, false, false, false, false, false, false, false, false, false, false, false, false, false, false, false, false, false, false, false, false, false, false, false, false, false, false, false, false, false, false, false, false, false, false, false, false, false, false] (by kernel_rfl) rfl rfl ⟨(blk_cell BK184.out 0).trans rfl, (blk_cell BK184.out 1).trans rfl, (blk_cell BK184.out 2).trans rfl, (blk_cell BK184.out 3).trans rfl⟩ (fun hHeld => ?_); refine with_tabW fathomlaw20_LexCovers.tab12 fathomlaw20_LexCovers.bits12 (fun HT_ HW_ => ?_)
    generalize w27.drew = w28 at HO_3 HO_7 BK184 HB hHeld ⊢
    refine pv 0 40 HT_.out ?_
    refine pv 2 42 HT_.out ?_
    refine take_ (i := 1) (N := some 41) (v := ?_) (a' := ?_) #[true, true, true, false, false, false, false, false, false, false, false, false, false, false, false, false, false, false, false, false, false, false, false, false, false, false, false, false, false, false, false, false, false, false, false, false, false, false, false] rfl rfl (take_ofW HT_.out HW_.out (by kernel_rfl)) (fun _ _ _ h => h) (Or.inl ⟨by rfl, ?_⟩) hHeld ?_ ?_
    rotate_left
    ·
     rintro w' ⟨s0, s1, s2, s3⟩
     go_simp
     with_reducible rfl
    rotate_left
    ·
     simp only [Act.put, List.setIfInBounds_toArray, List.set_cons_zero, List.set_cons_succ, i64_w, i32_w]
     rfl
    refine pv 3 43 HT_.out ?_
    refine pv 4 44 HT_.out ?_
    refine pv 5 45 HT_.out ?_
    refine pv 7 47 HT_.out ?_
    refine pv 11 51 HT_.out ?_
    refine pv 12 52 HT_.out ?_
    refine take_ (i := 6) (N := some 46) (v := ?_) (a' := ?_) #[true, true, true, true, true, true, true, true, false, false, false, true, true, false, false, false, false, false, false, false, false, false, false, false, false, false, false, false, false, false, false, false, false, false, false, false, false, false, false] rfl rfl (take_ofW HT_.out HW_.out (by kernel_rfl)) (fun _ _ _ h => h) (Or.inl ⟨by rfl, ?_⟩) hHeld ?_ ?_
    rotate_left
    ·
     rintro w' ⟨s0, s1, s2, s3⟩
     go_simp
     with_reducible rfl
    rotate_left
    ·
     simp only [Act.put, List.setIfInBounds_toArray, List.set_cons_zero, List.set_cons_succ, i64_w, i32_w]
     rfl
    refine take_ (i := 8) (N := some 48) (v := ?_) (a' := ?_) #[true, true, true, true, true, true, true, true, true, false, false, true, true, false, false, false, false, false, false, false, false, false, false, false, false, false, false, false, false, false, false, false, false, false, false, false, false, false, false] rfl rfl (take_ofW HT_.out HW_.out (by kernel_rfl)) (fun _ _ _ h => h) (Or.inl ⟨by rfl, ?_⟩) hHeld ?_ ?_
    rotate_left
    ·
     rintro w' ⟨s0, s1, s2, s3⟩
     go_simp
     with_reducible rfl
    rotate_left
    ·
     simp only [Act.put, List.setIfInBounds_toArray, List.set_cons_zero, List.set_cons_succ, i64_w, i32_w]
     rfl
    refine pv 9 49 HT_.out ?_
    refine pv 10 50 HT_.out ?_
    refine pv 13 53 HT_.out ?_
    refine pv 14 54 HT_.out ?_
    refine pv 15 55 HT_.out ?_
    refine pu 16 56 HT_.out ?_
    refine pu 17 57 HT_.out ?_
    refine pu 18 58 HT_.out ?_
    refine pu 19 59 HT_.out ?_
    refine pu 20 60 HT_.out ?_
    refine pu 21 61 HT_.out ?_
    refine pu 22 62 HT_.out ?_
    refine pu 23 63 HT_.out ?_
    refine pu 24 64 HT_.out ?_
    refine pu 25 65 HT_.out ?_
    refine pu 26 66 HT_.out ?_
    refine pu 27 67 HT_.out ?_
    refine pu 28 68 HT_.out ?_
    refine pu 29 69 HT_.out ?_
    refine pv 30 70 HT_.out ?_
    refine pv 31 71 HT_.out ?_
    refine pu 32 72 HT_.out ?_
    refine pu 33 73 HT_.out ?_
    refine pu 34 74 HT_.out ?_
    refine pu 35 75 HT_.out ?_
    refine pu 36 76 HT_.out ?_
    refine pu 37 77 HT_.out ?_
    refine pv 38 78 HT_.out ?_
    refine done_ (done_of HT_.out (by kernel_rfl)) ?_
    try go_wp2
    go_ret
    exact ⟨ew, bb⟩
   rw [if_neg c23] at H
   have c23b0 : decide ((l0.length : Int) < (wrap64 (((rd_T29 t174 x8_1).f1) + (((rd_T29 t174 x8_1).f2).size : Int)))) = false := decide_eq_false c23
   clear c23
   by_cases c29 : 0 ≤ ((rd_T29 t174 x8_1).f1)
   rotate_left
   ·
    rw [if_neg c29] at H
    exact absurd H (by simp)
   rw [if_pos c29] at H
   have c29b0 := eq_true c29
   have c29b1 : decide (0 ≤ ((rd_T29 t174 x8_1).f1)) = true := decide_eq_true c29
   clear c29
   by_cases c30 : ((rd_T29 t174 x8_1).f1) ≤ (wrap64 (((rd_T29 t174 x8_1).f1) + (((rd_T29 t174 x8_1).f2).size : Int)))
   rotate_left
   ·
    rw [if_neg c30] at H
    exact absurd H (by simp)
   rw [if_pos c30] at H
   have c30b0 := eq_true c30
   have c30b1 : decide (((rd_T29 t174 x8_1).f1) ≤ (wrap64 (((rd_T29 t174 x8_1).f1) + (((rd_T29 t174 x8_1).f2).size : Int)))) = true := decide_eq_true c30
   by_cases c31 : (wrap64 (((rd_T29 t174 x8_1).f1) + (((rd_T29 t174 x8_1).f2).size : Int))) ≤ (l0.length : Int)
   rotate_left
   ·
    rw [if_neg c31] at H
    exact absurd H (by simp)
   rw [if_pos c31] at H
   have c31b0 := eq_true c31
   have c31b1 : decide ((wrap64 (((rd_T29 t174 x8_1).f1) + (((rd_T29 t174 x8_1).f2).size : Int))) ≤ (l0.length : Int)) = true := decide_eq_true c31
   by_cases c32 : (strOfNums ((l0.take ((wrap64 (((rd_T29 t174 x8_1).f1) + (((rd_T29 t174 x8_1).f2).size : Int))) : Int).toNat).drop (((rd_T29 t174 x8_1).f1) : Int).toNat)).toList = ((rd_T29 t174 x8_1).f2).toList
   rotate_left
   ·
    rw [if_neg c32] at H
    have c32b0 : ((strOfNums ((l0.take ((wrap64 (((rd_T29 t174 x8_1).f1) + (((rd_T29 t174 x8_1).f2).size : Int))) : Int).toNat).drop (((rd_T29 t174 x8_1).f1) : Int).toNat)).toList == ((rd_T29 t174 x8_1).f2).toList) = false := beq_eq_false_iff_ne.mpr c32
    have c32b1 : ((strOfNums ((l0.take ((wrap64 (((rd_T29 t174 x8_1).f1) + (((rd_T29 t174 x8_1).f2).size : Int))) : Int).toNat).drop (((rd_T29 t174 x8_1).f1) : Int).toNat)).toList != ((rd_T29 t174 x8_1).f2).toList) = true := bne_iff_ne.mpr c32
    obtain rfl := Option.some.inj H
    obtain ⟨Ao55, co55, eo55⟩ := Kd.R_slice HO_3.out
    subst eo55
    have p183 : 0 ≤ (x8_1 : Int) := od
    have q183 : x8_1 < (t174.length : Int) := od
    obtain ⟨ad183, e183, hx183_0, hx183_1, hx183_2, hx183_3⟩ := at_T29 (Kd.R_reads' HO_3.out).2.2 x8_1 p183 q183
    cases e183
    replace p183 := eq_true p183
    replace q183 := eq_true q183
    try go_wp2_with (first | ((with_reducible refine gate_dst (N := 9) rfl ?_); (try (refine gate_guard (by rfl) ?_; dsimp only)); refine bx 9 #[.int .i64 0, .int .i64 0, .string (⟨#[]⟩ : ByteArray), .int .i64 0] 29 ?_; intro gb184 hg w56 hbox hb; replace HO_3 := Aside0.mk (Kd.R_below (Kd.R_elderB (rk HO_3) gb184 (Nat.le_of_eq hg.symm)) hb); replace HO_7 := Aside0.mk (Kd.R_below (rk HO_7) hb); have BK184 := Aside0.mk (hbox); have GW184 := Aside0.mk ((bz hg : w.heap.size ≤ gb184)); have GE184 := Aside0.mk ((bz hg : w.heap.size ≤ gb184)); replace HB := Aside0.mk (below_step bb hb); clear hb hbox hg; obtain ⟨hcz57_0, hcz57_1, hcz57_2, hcz57_3, hfz57_0, hfz57_1, hfz57_2, hfz57_3⟩ := bo4 BK184))
    have n0_ : Aside0 (Kd.R k29 29 ((((w56.setCell ⟨gb184, 0, none⟩ (.int .i64 ((rd_T29 t174 x8_1).f0))).setCell ⟨gb184, 1, none⟩ (.int .i64 ((rd_T29 t174 x8_1).f1))).setCell ⟨gb184, 2, none⟩ (.string ((rd_T29 t174 x8_1).f2))).setCell ⟨gb184, 3, none⟩ (.int .i64 ((rd_T29 t174 x8_1).f3))) w.heap.size (fun k_ => k_ ≠ gb184) (.slice (some ad183) t174.length co55) t174) := ⟨by refine rm ?_; exact Kd.R_mono (Kd.R_far (p := ⟨gb184, 3, none⟩) (Kd.R_far (p := ⟨gb184, 2, none⟩) (Kd.R_far (p := ⟨gb184, 1, none⟩) (Kd.R_far (p := ⟨gb184, 0, none⟩) (Kd.R_mono HO_3.out (fun k_ hk => (⟨hk, hk.2⟩ : _ ∧ k_ ≠ gb184))) (fun _ hk => hk.2) (.int .i64 ((rd_T29 t174 x8_1).f0))) (fun _ hk => hk.2) (.int .i64 ((rd_T29 t174 x8_1).f1))) (fun _ hk => hk.2) (.string ((rd_T29 t174 x8_1).f2))) (fun _ hk => hk.2) (.int .i64 ((rd_T29 t174 x8_1).f3))) (fun _ hk => hk.1.2)⟩
    have n1_ : Aside0 (Kd.R (Kd.int .u8) 5 ((((w56.setCell ⟨gb184, 0, none⟩ (.int .i64 ((rd_T29 t174 x8_1).f0))).setCell ⟨gb184, 1, none⟩ (.int .i64 ((rd_T29 t174 x8_1).f1))).setCell ⟨gb184, 2, none⟩ (.string ((rd_T29 t174 x8_1).f2))).setCell ⟨gb184, 3, none⟩ (.int .i64 ((rd_T29 t174 x8_1).f3))) w.heap.size (fun _ => True) u7 x7_1) := ⟨by refine rm ?_; exact Kd.R_mono (Kd.R_far (p := ⟨gb184, 3, none⟩) (Kd.R_far (p := ⟨gb184, 2, none⟩) (Kd.R_far (p := ⟨gb184, 1, none⟩) (Kd.R_far (p := ⟨gb184, 0, none⟩) (Kd.R_types HO_7.out BK184.out (by decide)) (fun _ hk => hk.2) (.int .i64 ((rd_T29 t174 x8_1).f0))) (fun _ hk => hk.2) (.int .i64 ((rd_T29 t174 x8_1).f1))) (fun _ hk => hk.2) (.string ((rd_T29 t174 x8_1).f2))) (fun _ hk => hk.2) (.int .i64 ((rd_T29 t174 x8_1).f3))) (fun _ hk => trivial)⟩
    have n2_ : Aside0 (((((w56.setCell ⟨gb184, 0, none⟩ (.int .i64 ((rd_T29 t174 x8_1).f0))).setCell ⟨gb184, 1, none⟩ (.int .i64 ((rd_T29 t174 x8_1).f1))).setCell ⟨gb184, 2, none⟩ (.string ((rd_T29 t174 x8_1).f2))).setCell ⟨gb184, 3, none⟩ (.int .i64 ((rd_T29 t174 x8_1).f3))).heap[gb184]? = some (.cells #[.int .i64 ((rd_T29 t174 x8_1).f0), .int .i64 ((rd_T29 t174 x8_1).f1), .string ((rd_T29 t174 x8_1).f2), .int .i64 ((rd_T29 t174 x8_1).f3)] 29 (0, 0))) := ⟨by refine bm ?_; refine blk_put (cs := #[.int .i64 ((rd_T29 t174 x8_1).f0), .int .i64 ((rd_T29 t174 x8_1).f1), .string ((rd_T29 t174 x8_1).f2), .int .i64 0]) ?_ 3 _ rfl; refine bm ?_; refine blk_put (cs := #[.int .i64 ((rd_T29 t174 x8_1).f0), .int .i64 ((rd_T29 t174 x8_1).f1), .string (⟨#[]⟩ : ByteArray), .int .i64 0]) ?_ 2 _ rfl; refine bm ?_; refine blk_put (cs := #[.int .i64 ((rd_T29 t174 x8_1).f0), .int .i64 0, .string (⟨#[]⟩ : ByteArray), .int .i64 0]) ?_ 1 _ rfl; refine bm ?_; refine blk_put (cs := #[.int .i64 0, .int .i64 0, .string (⟨#[]⟩ : ByteArray), .int .i64 0]) ?_ 0 _ rfl; refine bm ?_; exact BK184.out⟩
    have n3_ : Aside0 (Below w.heap.size w ((((w56.setCell ⟨gb184, 0, none⟩ (.int .i64 ((rd_T29 t174 x8_1).f0))).setCell ⟨gb184, 1, none⟩ (.int .i64 ((rd_T29 t174 x8_1).f1))).setCell ⟨gb184, 2, none⟩ (.string ((rd_T29 t174 x8_1).f2))).setCell ⟨gb184, 3, none⟩ (.int .i64 ((rd_T29 t174 x8_1).f3)))) := ⟨bb⟩
    (try clear HO_3)
    (try clear HO_7)
    (try clear BK184)
    (try clear HB)
    generalize ((((w56.setCell ⟨gb184, 0, none⟩ (.int .i64 ((rd_T29 t174 x8_1).f0))).setCell ⟨gb184, 1, none⟩ (.int .i64 ((rd_T29 t174 x8_1).f1))).setCell ⟨gb184, 2, none⟩ (.string ((rd_T29 t174 x8_1).f2))).setCell ⟨gb184, 3, none⟩ (.int .i64 ((rd_T29 t174 x8_1).f3))) = w58 at n0_ n1_ n2_ n3_ ⊢
    have HO_3 := n0_
    have HO_7 := n1_
    have BK184 := n2_
    have HB := n3_
    clear n0_ n1_ n2_ n3_
    have n0_ := Aside0.mk (Kd.R_drew HO_3.out)
    have n1_ := Aside0.mk (Kd.R_drew HO_7.out)
    have n2_ := Aside0.mk (blk_drew BK184.out)
    have n3_ := Aside0.mk (below_drew1 HB.out)
    clear HO_3
    clear HO_7
    clear BK184
    clear HB
    have HO_3 := n0_
    have HO_7 := n1_
    have BK184 := n2_
    have HB := n3_
    clear n0_ n1_ n2_ n3_
    obtain ⟨i060, hi060, _, hsz60, _⟩ := info_parts info5
    obtain ⟨A60, hcut60, hA60, hC60⟩ := print_mid_of (P := Try.prog) (Value.int .u8) 0 22 5 .i64 .i64 Try.underlying22 hi060 hsz60 A0 c0 l0 ((rd_T29 t174 x8_1).f1) (wrap64 (((rd_T29 t174 x8_1).f1) + (((rd_T29 t174 x8_1).f2).size : Int))) (od) (by first | omega | exact od) (od) HC0.out
    have HR185 := Aside0.mk (Kd.C_of_reads (h1 := fun _ => rfl) (hA60 _ (Kd.reads_of_C HR0.out)))
    have HC185 := Aside0.mk hC60
    clear hA60 hC60 hi060 hsz60
    have hcv61 := Kd.C_string (P := Try.prog) (A := A60) (c := (c0 - ((rd_T29 t174 x8_1).f1).toNat)) Try.underlying22 Try.underlying5 Try.underlying9 (Kd.C_below HR185.out HB.out)
    have hcv61b := hcv61
    (try rw [List.length_drop, List.length_take, Nat.min_eq_left (Int.toNat_le.mpr (od))] at hcv61b)
    refine start_ (n := 39) (S := fun w' => w'.cell? ⟨gb184, 0, none⟩ = some (.int .i64 ((rd_T29 t174 x8_1).f0)) ∧ w'.cell? ⟨gb184, 1, none⟩ = some (.int .i64 ((rd_T29 t174 x8_1).f1)) ∧ w'.cell? ⟨gb184, 2, none⟩ = some (.string ((rd_T29 t174 x8_1).f2)) ∧ w'.cell? ⟨gb184, 3, none⟩ = some (.int .i64 ((rd_T29 t174 x8_1).f3)) ∧ Below w.heap.size w w') (ds := []) #[false, false, false, false, false, false, false, false, false, false, false, false, false, false, false, false, false, false, false, false, false, false, false, false, false, false, false, false, false, false, false, false, false, false, false, false, false, false, false] (by kernel_rfl) rfl rfl ⟨(blk_cell BK184.out 0).trans rfl, (blk_cell BK184.out 1).trans rfl, (blk_cell BK184.out 2).trans rfl, (blk_cell BK184.out 3).trans rfl, bb⟩ (fun hHeld => ?_); refine with_tabW fathomlaw20_LexCovers.tab12 fathomlaw20_LexCovers.bits12 (fun HT_ HW_ => ?_)
    generalize w58.drew = w59 at HO_3 HO_7 BK184 HB HR185 hHeld ⊢
    refine pv 0 40 HT_.out ?_
    refine pv 2 42 HT_.out ?_
    refine take_ (i := 1) (N := some 41) (v := ?_) (a' := ?_) #[true, true, true, false, false, false, false, false, false, false, false, false, false, false, false, false, false, false, false, false, false, false, false, false, false, false, false, false, false, false, false, false, false, false, false, false, false, false, false] rfl rfl (take_ofW HT_.out HW_.out (by kernel_rfl)) (fun _ _ _ h => h) (Or.inl ⟨by rfl, ?_⟩) hHeld ?_ ?_
    rotate_left
    ·
     rintro w' ⟨s0, s1, s2, s3, sB⟩
     go_simp
     with_reducible rfl
    rotate_left
    ·
     simp only [Act.put, List.setIfInBounds_toArray, List.set_cons_zero, List.set_cons_succ, i64_w, i32_w]
     rfl
    refine pv 3 43 HT_.out ?_
    refine pv 4 44 HT_.out ?_
    refine pv 5 45 HT_.out ?_
    refine pv 7 47 HT_.out ?_
    refine pv 11 51 HT_.out ?_
    refine pv 12 52 HT_.out ?_
    refine take_ (i := 6) (N := some 46) (v := ?_) (a' := ?_) #[true, true, true, true, true, true, true, true, false, false, false, true, true, false, false, false, false, false, false, false, false, false, false, false, false, false, false, false, false, false, false, false, false, false, false, false, false, false, false] rfl rfl (take_ofW HT_.out HW_.out (by kernel_rfl)) (fun _ _ _ h => h) (Or.inl ⟨by rfl, ?_⟩) hHeld ?_ ?_
    rotate_left
    ·
     rintro w' ⟨s0, s1, s2, s3, sB⟩
     go_simp
     with_reducible rfl
    rotate_left
    ·
     simp only [Act.put, List.setIfInBounds_toArray, List.set_cons_zero, List.set_cons_succ, i64_w, i32_w]
     rfl
    refine take_ (i := 8) (N := some 48) (v := ?_) (a' := ?_) #[true, true, true, true, true, true, true, true, true, false, false, true, true, false, false, false, false, false, false, false, false, false, false, false, false, false, false, false, false, false, false, false, false, false, false, false, false, false, false] rfl rfl (take_ofW HT_.out HW_.out (by kernel_rfl)) (fun _ _ _ h => h) (Or.inl ⟨by rfl, ?_⟩) hHeld ?_ ?_
    rotate_left
    ·
     rintro w' ⟨s0, s1, s2, s3, sB⟩
     go_simp
     with_reducible rfl
    rotate_left
    ·
     simp only [Act.put, List.setIfInBounds_toArray, List.set_cons_zero, List.set_cons_succ, i64_w, i32_w]
     rfl
    refine pv 9 49 HT_.out ?_
    refine pv 10 50 HT_.out ?_
    refine pv 13 53 HT_.out ?_
    refine pv 14 54 HT_.out ?_
    refine pv 15 55 HT_.out ?_
    refine pv 16 56 HT_.out ?_
    refine pv 17 57 HT_.out ?_
    refine pv 19 59 HT_.out ?_
    refine pv 21 61 HT_.out ?_
    refine pv 27 67 HT_.out ?_
    refine take_ (i := 18) (N := some 58) (v := ?_) (a' := ?_) #[true, true, true, true, true, true, true, true, true, true, true, true, true, true, true, true, true, true, true, true, false, true, false, false, false, false, false, true, false, false, false, false, false, false, false, false, false, false, false] rfl rfl (take_ofW HT_.out HW_.out (by kernel_rfl)) (fun _ _ _ h => h) (Or.inl ⟨by rfl, ?_⟩) hHeld ?_ ?_
    rotate_left
    ·
     rintro w' ⟨s0, s1, s2, s3, sB⟩
     go_simp
     with_reducible rfl
    rotate_left
    ·
     simp only [Act.put, List.setIfInBounds_toArray, List.set_cons_zero, List.set_cons_succ, i64_w, i32_w]
     rfl
    refine take_ (i := 20) (N := some 60) (v := ?_) (a' := ?_) #[true, true, true, true, true, true, true, true, true, true, true, true, true, true, true, true, true, true, true, true, true, true, false, false, false, false, false, true, false, false, false, false, false, false, false, false, false, false, false] rfl rfl (take_ofW HT_.out HW_.out (by kernel_rfl)) (fun _ _ _ h => h) (Or.inl ⟨by rfl, ?_⟩) hHeld ?_ ?_
    rotate_left
    ·
     rintro w' ⟨s0, s1, s2, s3, sB⟩
     go_simp
     with_reducible rfl
    rotate_left
    ·
     simp only [Act.put, List.setIfInBounds_toArray, List.set_cons_zero, List.set_cons_succ, i64_w, i32_w]
     rfl
    refine take_ (i := 22) (N := some 62) (v := ?_) (a' := ?_) #[true, true, true, true, true, true, true, true, true, true, true, true, true, true, true, true, true, true, true, true, true, true, true, false, false, false, false, true, false, false, false, false, false, false, false, false, false, false, false] rfl rfl (take_ofW HT_.out HW_.out (by kernel_rfl)) (fun _ _ _ h => h) (Or.inl ⟨by rfl, ?_⟩) hHeld ?_ ?_
    rotate_left
    ·
     rintro w' ⟨s0, s1, s2, s3, sB⟩
     go_simp
     with_reducible rfl
    rotate_left
    ·
     simp only [Act.put, List.setIfInBounds_toArray, List.set_cons_zero, List.set_cons_succ, i64_w, i32_w]
     rfl
    refine pv 23 63 HT_.out ?_
    refine pv 24 64 HT_.out ?_
    refine pv 25 65 HT_.out ?_
    refine take_ (i := 26) (N := some 66) (v := ?_) (a' := ?_) #[true, true, true, true, true, true, true, true, true, true, true, true, true, true, true, true, true, true, true, true, true, true, true, true, true, true, true, true, false, false, false, false, false, false, false, false, false, false, false] rfl rfl (take_ofW HT_.out HW_.out (by kernel_rfl)) (fun _ _ _ h => h) (Or.inl ⟨by rfl, ?_⟩) hHeld ?_ ?_
    rotate_left
    ·
     rintro w' ⟨s0, s1, s2, s3, sB⟩
     have hcx := Kd.C_string (P := Try.prog) (A := A60) (c := (c0 - ((rd_T29 t174 x8_1).f1).toNat)) Try.underlying22 Try.underlying5 Try.underlying9 (Kd.C_below HR185.out sB)
     (try rw [List.length_drop, List.length_take, Nat.min_eq_left (Int.toNat_le.mpr (od))] at hcx)
     go_simp
     with_reducible rfl
    rotate_left
    ·
     simp only [Act.put, List.setIfInBounds_toArray, List.set_cons_zero, List.set_cons_succ, i64_w, i32_w]
     rfl
    refine take_ (i := 28) (N := some 68) (v := ?_) (a' := ?_) #[true, true, true, true, true, true, true, true, true, true, true, true, true, true, true, true, true, true, true, true, true, true, true, true, true, true, true, true, true, false, false, false, false, false, false, false, false, false, false] rfl rfl (take_ofW HT_.out HW_.out (by kernel_rfl)) (fun _ _ _ h => h) (Or.inl ⟨by rfl, ?_⟩) hHeld ?_ ?_
    rotate_left
    ·
     rintro w' ⟨s0, s1, s2, s3, sB⟩
     go_simp
     with_reducible rfl
    rotate_left
    ·
     simp only [Act.put, List.setIfInBounds_toArray, List.set_cons_zero, List.set_cons_succ, i64_w, i32_w]
     rfl
    refine pv 29 69 HT_.out ?_
    refine pv 30 70 HT_.out ?_
    refine pv 31 71 HT_.out ?_
    refine pu 32 72 HT_.out ?_
    refine pu 33 73 HT_.out ?_
    refine pu 34 74 HT_.out ?_
    refine pu 35 75 HT_.out ?_
    refine pu 36 76 HT_.out ?_
    refine pu 37 77 HT_.out ?_
    refine pv 38 78 HT_.out ?_
    refine done_ (done_of HT_.out (by kernel_rfl)) ?_
    try go_wp2
    go_ret
    exact ⟨ew, bb⟩
   rw [if_pos c32] at H
   have c32b0 : ((strOfNums ((l0.take ((wrap64 (((rd_T29 t174 x8_1).f1) + (((rd_T29 t174 x8_1).f2).size : Int))) : Int).toNat).drop (((rd_T29 t174 x8_1).f1) : Int).toNat)).toList == ((rd_T29 t174 x8_1).f2).toList) = true := beq_iff_eq.mpr c32
   have c32b1 : ((strOfNums ((l0.take ((wrap64 (((rd_T29 t174 x8_1).f1) + (((rd_T29 t174 x8_1).f2).size : Int))) : Int).toNat).drop (((rd_T29 t174 x8_1).f1) : Int).toNat)).toList != ((rd_T29 t174 x8_1).f2).toList) = false := bne_eq_false_iff_eq.mpr c32
   clear c32
   replace H := Option.bind_eq_some_iff.mp H
   obtain ⟨t186, A330, H⟩ := H
   replace H : (if t186 = ((rd_T29 t174 x8_1).f1) then (if x7_1.length < 140737488355328 then ((some (x7_1 ++ [32] : List Int)).bind fun y187 => (if y187.length + ((rd_T29 t174 x8_1).f2).size < 140737488355328 then (fathomlaw20_LexCovers.l0 k1 l0 t174 (wrap64 (((rd_T29 t174 x8_1).f1) + (((rd_T29 t174 x8_1).f2).size : Int))) (y187 ++ bytesOf ((rd_T29 t174 x8_1).f2)) (wrap64 (x8_1 + 1))) else (none))) else (none)) else (some false)) = some r := H
   have A33 := Aside0.mk A330
   clear A330
   by_cases c34 : t186 = ((rd_T29 t174 x8_1).f1)
   rotate_left
   ·
    rw [if_neg c34] at H
    have c34b0 : (t186 == ((rd_T29 t174 x8_1).f1)) = false := beq_eq_false_iff_ne.mpr c34
    have c34b1 : (t186 != ((rd_T29 t174 x8_1).f1)) = true := bne_iff_ne.mpr c34
    obtain rfl := Option.some.inj H
    obtain ⟨Ao48, co48, eo48⟩ := Kd.R_slice HO_3.out
    subst eo48
    have p183 : 0 ≤ (x8_1 : Int) := od
    have q183 : x8_1 < (t174.length : Int) := od
    obtain ⟨ad183, e183, hx183_0, hx183_1, hx183_2, hx183_3⟩ := at_T29 (Kd.R_reads' HO_3.out).2.2 x8_1 p183 q183
    cases e183
    replace p183 := eq_true p183
    replace q183 := eq_true q183
    try go_wp2_with (first | ((with_reducible refine gate_dst (N := 9) rfl ?_); (try (refine gate_guard (by rfl) ?_; dsimp only)); refine bx 9 #[.int .i64 0, .int .i64 0, .string (⟨#[]⟩ : ByteArray), .int .i64 0] 29 ?_; intro gb184 hg w49 hbox hb; replace HO_3 := Aside0.mk (Kd.R_below (Kd.R_elderB (rk HO_3) gb184 (Nat.le_of_eq hg.symm)) hb); replace HO_7 := Aside0.mk (Kd.R_below (rk HO_7) hb); have BK184 := Aside0.mk (hbox); have GW184 := Aside0.mk ((bz hg : w.heap.size ≤ gb184)); have GE184 := Aside0.mk ((bz hg : w.heap.size ≤ gb184)); replace HB := Aside0.mk (below_step bb hb); clear hb hbox hg; obtain ⟨hcz50_0, hcz50_1, hcz50_2, hcz50_3, hfz50_0, hfz50_1, hfz50_2, hfz50_3⟩ := bo4 BK184))
    have n0_ : Aside0 (Kd.R k29 29 ((((w49.setCell ⟨gb184, 0, none⟩ (.int .i64 ((rd_T29 t174 x8_1).f0))).setCell ⟨gb184, 1, none⟩ (.int .i64 ((rd_T29 t174 x8_1).f1))).setCell ⟨gb184, 2, none⟩ (.string ((rd_T29 t174 x8_1).f2))).setCell ⟨gb184, 3, none⟩ (.int .i64 ((rd_T29 t174 x8_1).f3))) w.heap.size (fun k_ => k_ ≠ gb184) (.slice (some ad183) t174.length co48) t174) := ⟨by refine rm ?_; exact Kd.R_mono (Kd.R_far (p := ⟨gb184, 3, none⟩) (Kd.R_far (p := ⟨gb184, 2, none⟩) (Kd.R_far (p := ⟨gb184, 1, none⟩) (Kd.R_far (p := ⟨gb184, 0, none⟩) (Kd.R_mono HO_3.out (fun k_ hk => (⟨hk, hk.2⟩ : _ ∧ k_ ≠ gb184))) (fun _ hk => hk.2) (.int .i64 ((rd_T29 t174 x8_1).f0))) (fun _ hk => hk.2) (.int .i64 ((rd_T29 t174 x8_1).f1))) (fun _ hk => hk.2) (.string ((rd_T29 t174 x8_1).f2))) (fun _ hk => hk.2) (.int .i64 ((rd_T29 t174 x8_1).f3))) (fun _ hk => hk.1.2)⟩
    have n1_ : Aside0 (Kd.R (Kd.int .u8) 5 ((((w49.setCell ⟨gb184, 0, none⟩ (.int .i64 ((rd_T29 t174 x8_1).f0))).setCell ⟨gb184, 1, none⟩ (.int .i64 ((rd_T29 t174 x8_1).f1))).setCell ⟨gb184, 2, none⟩ (.string ((rd_T29 t174 x8_1).f2))).setCell ⟨gb184, 3, none⟩ (.int .i64 ((rd_T29 t174 x8_1).f3))) w.heap.size (fun _ => True) u7 x7_1) := ⟨by refine rm ?_; exact Kd.R_mono (Kd.R_far (p := ⟨gb184, 3, none⟩) (Kd.R_far (p := ⟨gb184, 2, none⟩) (Kd.R_far (p := ⟨gb184, 1, none⟩) (Kd.R_far (p := ⟨gb184, 0, none⟩) (Kd.R_types HO_7.out BK184.out (by decide)) (fun _ hk => hk.2) (.int .i64 ((rd_T29 t174 x8_1).f0))) (fun _ hk => hk.2) (.int .i64 ((rd_T29 t174 x8_1).f1))) (fun _ hk => hk.2) (.string ((rd_T29 t174 x8_1).f2))) (fun _ hk => hk.2) (.int .i64 ((rd_T29 t174 x8_1).f3))) (fun _ hk => trivial)⟩
    have n2_ : Aside0 (((((w49.setCell ⟨gb184, 0, none⟩ (.int .i64 ((rd_T29 t174 x8_1).f0))).setCell ⟨gb184, 1, none⟩ (.int .i64 ((rd_T29 t174 x8_1).f1))).setCell ⟨gb184, 2, none⟩ (.string ((rd_T29 t174 x8_1).f2))).setCell ⟨gb184, 3, none⟩ (.int .i64 ((rd_T29 t174 x8_1).f3))).heap[gb184]? = some (.cells #[.int .i64 ((rd_T29 t174 x8_1).f0), .int .i64 ((rd_T29 t174 x8_1).f1), .string ((rd_T29 t174 x8_1).f2), .int .i64 ((rd_T29 t174 x8_1).f3)] 29 (0, 0))) := ⟨by refine bm ?_; refine blk_put (cs := #[.int .i64 ((rd_T29 t174 x8_1).f0), .int .i64 ((rd_T29 t174 x8_1).f1), .string ((rd_T29 t174 x8_1).f2), .int .i64 0]) ?_ 3 _ rfl; refine bm ?_; refine blk_put (cs := #[.int .i64 ((rd_T29 t174 x8_1).f0), .int .i64 ((rd_T29 t174 x8_1).f1), .string (⟨#[]⟩ : ByteArray), .int .i64 0]) ?_ 2 _ rfl; refine bm ?_; refine blk_put (cs := #[.int .i64 ((rd_T29 t174 x8_1).f0), .int .i64 0, .string (⟨#[]⟩ : ByteArray), .int .i64 0]) ?_ 1 _ rfl; refine bm ?_; refine blk_put (cs := #[.int .i64 0, .int .i64 0, .string (⟨#[]⟩ : ByteArray), .int .i64 0]) ?_ 0 _ rfl; refine bm ?_; exact BK184.out⟩
    have n3_ : Aside0 (Below w.heap.size w ((((w49.setCell ⟨gb184, 0, none⟩ (.int .i64 ((rd_T29 t174 x8_1).f0))).setCell ⟨gb184, 1, none⟩ (.int .i64 ((rd_T29 t174 x8_1).f1))).setCell ⟨gb184, 2, none⟩ (.string ((rd_T29 t174 x8_1).f2))).setCell ⟨gb184, 3, none⟩ (.int .i64 ((rd_T29 t174 x8_1).f3)))) := ⟨bb⟩
    (try clear HO_3)
    (try clear HO_7)
    (try clear BK184)
    (try clear HB)
    generalize ((((w49.setCell ⟨gb184, 0, none⟩ (.int .i64 ((rd_T29 t174 x8_1).f0))).setCell ⟨gb184, 1, none⟩ (.int .i64 ((rd_T29 t174 x8_1).f1))).setCell ⟨gb184, 2, none⟩ (.string ((rd_T29 t174 x8_1).f2))).setCell ⟨gb184, 3, none⟩ (.int .i64 ((rd_T29 t174 x8_1).f3))) = w51 at n0_ n1_ n2_ n3_ ⊢
    have HO_3 := n0_
    have HO_7 := n1_
    have BK184 := n2_
    have HB := n3_
    clear n0_ n1_ n2_ n3_
    have n0_ := Aside0.mk (Kd.R_drew HO_3.out)
    have n1_ := Aside0.mk (Kd.R_drew HO_7.out)
    have n2_ := Aside0.mk (blk_drew BK184.out)
    have n3_ := Aside0.mk (below_drew1 HB.out)
    clear HO_3
    clear HO_7
    clear BK184
    clear HB
    have HO_3 := n0_
    have HO_7 := n1_
    have BK184 := n2_
    have HB := n3_
    clear n0_ n1_ n2_ n3_
    obtain ⟨i053, hi053, _, hsz53, _⟩ := info_parts info5
    obtain ⟨A53, hcut53, hA53, hC53⟩ := print_mid_of (P := Try.prog) (Value.int .u8) 0 22 5 .i64 .i64 Try.underlying22 hi053 hsz53 A0 c0 l0 ((rd_T29 t174 x8_1).f1) (wrap64 (((rd_T29 t174 x8_1).f1) + (((rd_T29 t174 x8_1).f2).size : Int))) (od) (by first | omega | exact od) (od) HC0.out
    have HR185 := Aside0.mk (Kd.C_of_reads (h1 := fun _ => rfl) (hA53 _ (Kd.reads_of_C HR0.out)))
    have HC185 := Aside0.mk hC53
    clear hA53 hC53 hi053 hsz53
    have hcv54 := Kd.C_string (P := Try.prog) (A := A53) (c := (c0 - ((rd_T29 t174 x8_1).f1).toNat)) Try.underlying22 Try.underlying5 Try.underlying9 (Kd.C_below HR185.out HB.out)
    have hcv54b := hcv54
    (try rw [List.length_drop, List.length_take, Nat.min_eq_left (Int.toNat_le.mpr (od))] at hcv54b)
    refine start_ (n := 39) (S := fun w' => w'.cell? ⟨gb184, 0, none⟩ = some (.int .i64 ((rd_T29 t174 x8_1).f0)) ∧ w'.cell? ⟨gb184, 1, none⟩ = some (.int .i64 ((rd_T29 t174 x8_1).f1)) ∧ w'.cell? ⟨gb184, 2, none⟩ = some (.string ((rd_T29 t174 x8_1).f2)) ∧ w'.cell? ⟨gb184, 3, none⟩ = some (.int .i64 ((rd_T29 t174 x8_1).f3)) ∧ Below w.heap.size w w') (ds := []) #[false, false, false, false, false, false, false, false, false, false, false, false, false, false, false, false, false, false, false, false, false, false, false, false, false, false, false, false, false, false, false, false, false, false, false, false, false, false, false] (by kernel_rfl) rfl rfl ⟨(blk_cell BK184.out 0).trans rfl, (blk_cell BK184.out 1).trans rfl, (blk_cell BK184.out 2).trans rfl, (blk_cell BK184.out 3).trans rfl, bb⟩ (fun hHeld => ?_); refine with_tabW fathomlaw20_LexCovers.tab12 fathomlaw20_LexCovers.bits12 (fun HT_ HW_ => ?_)
    generalize w51.drew = w52 at HO_3 HO_7 BK184 HB HR185 hHeld ⊢
    refine pv 0 40 HT_.out ?_
    refine pv 2 42 HT_.out ?_
    refine take_ (i := 1) (N := some 41) (v := ?_) (a' := ?_) #[true, true, true, false, false, false, false, false, false, false, false, false, false, false, false, false, false, false, false, false, false, false, false, false, false, false, false, false, false, false, false, false, false, false, false, false, false, false, false] rfl rfl (take_ofW HT_.out HW_.out (by kernel_rfl)) (fun _ _ _ h => h) (Or.inl ⟨by rfl, ?_⟩) hHeld ?_ ?_
    rotate_left
    ·
     rintro w' ⟨s0, s1, s2, s3, sB⟩
     go_simp
     with_reducible rfl
    rotate_left
    ·
     simp only [Act.put, List.setIfInBounds_toArray, List.set_cons_zero, List.set_cons_succ, i64_w, i32_w]
     rfl
    refine pv 3 43 HT_.out ?_
    refine pv 4 44 HT_.out ?_
    refine pv 5 45 HT_.out ?_
    refine pv 7 47 HT_.out ?_
    refine pv 11 51 HT_.out ?_
    refine pv 12 52 HT_.out ?_
    refine take_ (i := 6) (N := some 46) (v := ?_) (a' := ?_) #[true, true, true, true, true, true, true, true, false, false, false, true, true, false, false, false, false, false, false, false, false, false, false, false, false, false, false, false, false, false, false, false, false, false, false, false, false, false, false] rfl rfl (take_ofW HT_.out HW_.out (by kernel_rfl)) (fun _ _ _ h => h) (Or.inl ⟨by rfl, ?_⟩) hHeld ?_ ?_
    rotate_left
    ·
     rintro w' ⟨s0, s1, s2, s3, sB⟩
     go_simp
     with_reducible rfl
    rotate_left
    ·
     simp only [Act.put, List.setIfInBounds_toArray, List.set_cons_zero, List.set_cons_succ, i64_w, i32_w]
     rfl
    refine take_ (i := 8) (N := some 48) (v := ?_) (a' := ?_) #[true, true, true, true, true, true, true, true, true, false, false, true, true, false, false, false, false, false, false, false, false, false, false, false, false, false, false, false, false, false, false, false, false, false, false, false, false, false, false] rfl rfl (take_ofW HT_.out HW_.out (by kernel_rfl)) (fun _ _ _ h => h) (Or.inl ⟨by rfl, ?_⟩) hHeld ?_ ?_
    rotate_left
    ·
     rintro w' ⟨s0, s1, s2, s3, sB⟩
     go_simp
     with_reducible rfl
    rotate_left
    ·
     simp only [Act.put, List.setIfInBounds_toArray, List.set_cons_zero, List.set_cons_succ, i64_w, i32_w]
     rfl
    refine pv 9 49 HT_.out ?_
    refine pv 10 50 HT_.out ?_
    refine pv 13 53 HT_.out ?_
    refine pv 14 54 HT_.out ?_
    refine pv 15 55 HT_.out ?_
    refine pv 16 56 HT_.out ?_
    refine pv 17 57 HT_.out ?_
    refine pv 19 59 HT_.out ?_
    refine pv 21 61 HT_.out ?_
    refine pv 27 67 HT_.out ?_
    refine take_ (i := 18) (N := some 58) (v := ?_) (a' := ?_) #[true, true, true, true, true, true, true, true, true, true, true, true, true, true, true, true, true, true, true, true, false, true, false, false, false, false, false, true, false, false, false, false, false, false, false, false, false, false, false] rfl rfl (take_ofW HT_.out HW_.out (by kernel_rfl)) (fun _ _ _ h => h) (Or.inl ⟨by rfl, ?_⟩) hHeld ?_ ?_
    rotate_left
    ·
     rintro w' ⟨s0, s1, s2, s3, sB⟩
     go_simp
     with_reducible rfl
    rotate_left
    ·
     simp only [Act.put, List.setIfInBounds_toArray, List.set_cons_zero, List.set_cons_succ, i64_w, i32_w]
     rfl
    refine take_ (i := 20) (N := some 60) (v := ?_) (a' := ?_) #[true, true, true, true, true, true, true, true, true, true, true, true, true, true, true, true, true, true, true, true, true, true, false, false, false, false, false, true, false, false, false, false, false, false, false, false, false, false, false] rfl rfl (take_ofW HT_.out HW_.out (by kernel_rfl)) (fun _ _ _ h => h) (Or.inl ⟨by rfl, ?_⟩) hHeld ?_ ?_
    rotate_left
    ·
     rintro w' ⟨s0, s1, s2, s3, sB⟩
     go_simp
     with_reducible rfl
    rotate_left
    ·
     simp only [Act.put, List.setIfInBounds_toArray, List.set_cons_zero, List.set_cons_succ, i64_w, i32_w]
     rfl
    refine take_ (i := 22) (N := some 62) (v := ?_) (a' := ?_) #[true, true, true, true, true, true, true, true, true, true, true, true, true, true, true, true, true, true, true, true, true, true, true, false, false, false, false, true, false, false, false, false, false, false, false, false, false, false, false] rfl rfl (take_ofW HT_.out HW_.out (by kernel_rfl)) (fun _ _ _ h => h) (Or.inl ⟨by rfl, ?_⟩) hHeld ?_ ?_
    rotate_left
    ·
     rintro w' ⟨s0, s1, s2, s3, sB⟩
     go_simp
     with_reducible rfl
    rotate_left
    ·
     simp only [Act.put, List.setIfInBounds_toArray, List.set_cons_zero, List.set_cons_succ, i64_w, i32_w]
     rfl
    refine pv 23 63 HT_.out ?_
    refine pv 24 64 HT_.out ?_
    refine pv 25 65 HT_.out ?_
    refine take_ (i := 26) (N := some 66) (v := ?_) (a' := ?_) #[true, true, true, true, true, true, true, true, true, true, true, true, true, true, true, true, true, true, true, true, true, true, true, true, true, true, true, true, false, false, false, false, false, false, false, false, false, false, false] rfl rfl (take_ofW HT_.out HW_.out (by kernel_rfl)) (fun _ _ _ h => h) (Or.inl ⟨by rfl, ?_⟩) hHeld ?_ ?_
    rotate_left
    ·
     rintro w' ⟨s0, s1, s2, s3, sB⟩
     have hcx := Kd.C_string (P := Try.prog) (A := A53) (c := (c0 - ((rd_T29 t174 x8_1).f1).toNat)) Try.underlying22 Try.underlying5 Try.underlying9 (Kd.C_below HR185.out sB)
     (try rw [List.length_drop, List.length_take, Nat.min_eq_left (Int.toNat_le.mpr (od))] at hcx)
     go_simp
     with_reducible rfl
    rotate_left
    ·
     simp only [Act.put, List.setIfInBounds_toArray, List.set_cons_zero, List.set_cons_succ, i64_w, i32_w]
     rfl
    refine take_ (i := 28) (N := some 68) (v := ?_) (a' := ?_) #[true, true, true, true, true, true, true, true, true, true, true, true, true, true, true, true, true, true, true, true, true, true, true, true, true, true, true, true, true, false, false, false, false, false, false, false, false, false, false] rfl rfl (take_ofW HT_.out HW_.out (by kernel_rfl)) (fun _ _ _ h => h) (Or.inl ⟨by rfl, ?_⟩) hHeld ?_ ?_
    rotate_left
    ·
     rintro w' ⟨s0, s1, s2, s3, sB⟩
     go_simp
     with_reducible rfl
    rotate_left
    ·
     simp only [Act.put, List.setIfInBounds_toArray, List.set_cons_zero, List.set_cons_succ, i64_w, i32_w]
     rfl
    refine pv 29 69 HT_.out ?_
    refine pv 30 70 HT_.out ?_
    refine pv 31 71 HT_.out ?_
    refine pv 32 72 HT_.out ?_
    refine pv 33 73 HT_.out ?_
    refine pv 35 75 HT_.out ?_
    refine take_ (i := 36) (N := some 76) (v := ?_) (a' := ?_) #[true, true, true, true, true, true, true, true, true, true, true, true, true, true, true, true, true, true, true, true, true, true, true, true, true, true, true, true, true, true, true, true, true, true, false, true, true, false, false] rfl rfl (take_ofW HT_.out HW_.out (by kernel_rfl)) (fun _ _ _ h => h) (Or.inl ⟨by rfl, ?_⟩) hHeld ?_ ?_
    rotate_left
    ·
     rintro w' ⟨s0, s1, s2, s3, sB⟩
     go_simp
     with_reducible rfl
    rotate_left
    ·
     simp only [Act.put, List.setIfInBounds_toArray, List.set_cons_zero, List.set_cons_succ, i64_w, i32_w]
     rfl
    refine one_ (i := 34) (N := some 74) #[true, true, true, true, true, true, true, true, true, true, true, true, true, true, true, true, true, true, true, true, true, true, true, true, true, true, true, true, true, true, true, true, true, true, true, true, true, false, false] rfl rfl (one_of HT_.out (by kernel_rfl)) (by decide) (fun K hK => ?_)
    refine goes_ Try.func7 (by kernel_rfl) rfl #[.slice A0 l0.length c0, .int .i64 x6_1] (by rfl) rfl rfl mr ?_
    with_reducible refine (fathomref20_Start.calls k1 _ _ l0 x6_1 t186 _ ?side1 ?side2 A33.out).mono ?_
    (case side1 => exact cw HR0 HB)
    (case side2 => exact HC0.out)
    rintro e w' ⟨rfl, ⟨nd, rfl⟩⟩
    refine ⟨_, rfl, ?_⟩
    refine hK.out _ _ ⟨(blk_cell BK184.out 0).trans rfl, (blk_cell BK184.out 1).trans rfl, (blk_cell BK184.out 2).trans rfl, (blk_cell BK184.out 3).trans rfl, bb⟩ (fun hHeld => ?_)
    clear hK K
    refine norm_ (a' := ?_) ?_ ?_
    rotate_left
    ·
     show Act.put _ (some 74) _ = _
     simp only [Act.put, List.setIfInBounds_toArray, List.set_cons_zero, List.set_cons_succ, i64_w, i32_w]
     rfl
    refine pv 37 77 HT_.out ?_
    refine pv 38 78 HT_.out ?_
    refine done_ (done_of HT_.out (by kernel_rfl)) ?_
    try go_wp2
    go_ret
    exact ⟨ew, bb⟩
   rw [if_pos c34] at H
   have c34b0 : (t186 == ((rd_T29 t174 x8_1).f1)) = true := beq_iff_eq.mpr c34
   have c34b1 : (t186 != ((rd_T29 t174 x8_1).f1)) = false := bne_eq_false_iff_eq.mpr c34
   clear c34
   by_cases c35 : x7_1.length < 140737488355328
   rotate_left
   ·
    rw [if_neg c35] at H
    exact absurd H (by simp)
   rw [if_pos c35] at H
   have LMc35 := Aside0.mk c35
   clear c35
   obtain ⟨y187, hy187⟩ : ∃ y_ : List Int, y_ = (x7_1 ++ [32]) := ⟨_, rfl⟩
   replace H : (if y187.length + ((rd_T29 t174 x8_1).f2).size < 140737488355328 then (fathomlaw20_LexCovers.l0 k1 l0 t174 (wrap64 (((rd_T29 t174 x8_1).f1) + (((rd_T29 t174 x8_1).f2).size : Int))) (y187 ++ bytesOf ((rd_T29 t174 x8_1).f2)) (wrap64 (x8_1 + 1))) else (none)) = some r := by first | (rw [hy187]; with_reducible exact H) | (have H2_ := (Option.bind_some _ _).symm.trans H; rw [hy187]; with_reducible exact H2_) | (have H2_ := (Option.bind_some _ _).symm.trans H; with_reducible exact H2_) | with_reducible exact H | (rw [hy187]; exact H) | exact H
   have Ny187 := Aside0.mk hy187
   clear hy187
   by_cases c36 : y187.length + ((rd_T29 t174 x8_1).f2).size < 140737488355328
   rotate_left
   ·
    rw [if_neg c36] at H
    exact absurd H (by simp)
   rw [if_pos c36] at H
   have LMc36 := Aside0.mk c36
   clear c36
   obtain ⟨y190, hy190⟩ : ∃ y_ : List Int, y_ = (y187 ++ bytesOf ((rd_T29 t174 x8_1).f2)) := ⟨_, rfl⟩
   replace H : (fathomlaw20_LexCovers.l0 k1 l0 t174 (wrap64 (((rd_T29 t174 x8_1).f1) + (((rd_T29 t174 x8_1).f2).size : Int))) y190 (wrap64 (x8_1 + 1))) = some r := by first | (rw [hy190]; with_reducible exact H) | (have H2_ := (Option.bind_some _ _).symm.trans H; rw [hy190]; with_reducible exact H2_) | (have H2_ := (Option.bind_some _ _).symm.trans H; with_reducible exact H2_) | with_reducible exact H | (rw [hy190]; exact H) | exact H
   have Ny190 := Aside0.mk hy190
   clear hy190
   have H' := Aside0.mk H
   clear H
   obtain ⟨Ao37, co37, eo37⟩ := Kd.R_slice HO_3.out
   subst eo37
   have p183 : 0 ≤ (x8_1 : Int) := od
   have q183 : x8_1 < (t174.length : Int) := od
   obtain ⟨ad183, e183, hx183_0, hx183_1, hx183_2, hx183_3⟩ := at_T29 (Kd.R_reads' HO_3.out).2.2 x8_1 p183 q183
   cases e183
   replace p183 := eq_true p183
   replace q183 := eq_true q183
   try go_wp2_with (first | ((with_reducible refine gate_dst (N := 9) rfl ?_); (try (refine gate_guard (by rfl) ?_; dsimp only)); refine bx 9 #[.int .i64 0, .int .i64 0, .string (⟨#[]⟩ : ByteArray), .int .i64 0] 29 ?_; intro gb184 hg w38 hbox hb; replace HO_3 := Aside0.mk (Kd.R_below (Kd.R_elderB (rk HO_3) gb184 (Nat.le_of_eq hg.symm)) hb); replace HO_7 := Aside0.mk (Kd.R_below (rk HO_7) hb); have BK184 := Aside0.mk (hbox); have GW184 := Aside0.mk ((bz hg : w.heap.size ≤ gb184)); have GE184 := Aside0.mk ((bz hg : w.heap.size ≤ gb184)); replace HB := Aside0.mk (below_step bb hb); clear hb hbox hg; obtain ⟨hcz39_0, hcz39_1, hcz39_2, hcz39_3, hfz39_0, hfz39_1, hfz39_2, hfz39_3⟩ := bo4 BK184))
   have n0_ : Aside0 (Kd.R k29 29 ((((w38.setCell ⟨gb184, 0, none⟩ (.int .i64 ((rd_T29 t174 x8_1).f0))).setCell ⟨gb184, 1, none⟩ (.int .i64 ((rd_T29 t174 x8_1).f1))).setCell ⟨gb184, 2, none⟩ (.string ((rd_T29 t174 x8_1).f2))).setCell ⟨gb184, 3, none⟩ (.int .i64 ((rd_T29 t174 x8_1).f3))) w.heap.size (fun k_ => k_ ≠ gb184) (.slice (some ad183) t174.length co37) t174) := ⟨by refine rm ?_; exact Kd.R_mono (Kd.R_far (p := ⟨gb184, 3, none⟩) (Kd.R_far (p := ⟨gb184, 2, none⟩) (Kd.R_far (p := ⟨gb184, 1, none⟩) (Kd.R_far (p := ⟨gb184, 0, none⟩) (Kd.R_mono HO_3.out (fun k_ hk => (⟨hk, hk.2⟩ : _ ∧ k_ ≠ gb184))) (fun _ hk => hk.2) (.int .i64 ((rd_T29 t174 x8_1).f0))) (fun _ hk => hk.2) (.int .i64 ((rd_T29 t174 x8_1).f1))) (fun _ hk => hk.2) (.string ((rd_T29 t174 x8_1).f2))) (fun _ hk => hk.2) (.int .i64 ((rd_T29 t174 x8_1).f3))) (fun _ hk => hk.1.2)⟩
   have n1_ : Aside0 (Kd.R (Kd.int .u8) 5 ((((w38.setCell ⟨gb184, 0, none⟩ (.int .i64 ((rd_T29 t174 x8_1).f0))).setCell ⟨gb184, 1, none⟩ (.int .i64 ((rd_T29 t174 x8_1).f1))).setCell ⟨gb184, 2, none⟩ (.string ((rd_T29 t174 x8_1).f2))).setCell ⟨gb184, 3, none⟩ (.int .i64 ((rd_T29 t174 x8_1).f3))) w.heap.size (fun _ => True) u7 x7_1) := ⟨by refine rm ?_; exact Kd.R_mono (Kd.R_far (p := ⟨gb184, 3, none⟩) (Kd.R_far (p := ⟨gb184, 2, none⟩) (Kd.R_far (p := ⟨gb184, 1, none⟩) (Kd.R_far (p := ⟨gb184, 0, none⟩) (Kd.R_types HO_7.out BK184.out (by decide)) (fun _ hk => hk.2) (.int .i64 ((rd_T29 t174 x8_1).f0))) (fun _ hk => hk.2) (.int .i64 ((rd_T29 t174 x8_1).f1))) (fun _ hk => hk.2) (.string ((rd_T29 t174 x8_1).f2))) (fun _ hk => hk.2) (.int .i64 ((rd_T29 t174 x8_1).f3))) (fun _ hk => trivial)⟩
   have n2_ : Aside0 (((((w38.setCell ⟨gb184, 0, none⟩ (.int .i64 ((rd_T29 t174 x8_1).f0))).setCell ⟨gb184, 1, none⟩ (.int .i64 ((rd_T29 t174 x8_1).f1))).setCell ⟨gb184, 2, none⟩ (.string ((rd_T29 t174 x8_1).f2))).setCell ⟨gb184, 3, none⟩ (.int .i64 ((rd_T29 t174 x8_1).f3))).heap[gb184]? = some (.cells #[.int .i64 ((rd_T29 t174 x8_1).f0), .int .i64 ((rd_T29 t174 x8_1).f1), .string ((rd_T29 t174 x8_1).f2), .int .i64 ((rd_T29 t174 x8_1).f3)] 29 (0, 0))) := ⟨by refine bm ?_; refine blk_put (cs := #[.int .i64 ((rd_T29 t174 x8_1).f0), .int .i64 ((rd_T29 t174 x8_1).f1), .string ((rd_T29 t174 x8_1).f2), .int .i64 0]) ?_ 3 _ rfl; refine bm ?_; refine blk_put (cs := #[.int .i64 ((rd_T29 t174 x8_1).f0), .int .i64 ((rd_T29 t174 x8_1).f1), .string (⟨#[]⟩ : ByteArray), .int .i64 0]) ?_ 2 _ rfl; refine bm ?_; refine blk_put (cs := #[.int .i64 ((rd_T29 t174 x8_1).f0), .int .i64 0, .string (⟨#[]⟩ : ByteArray), .int .i64 0]) ?_ 1 _ rfl; refine bm ?_; refine blk_put (cs := #[.int .i64 0, .int .i64 0, .string (⟨#[]⟩ : ByteArray), .int .i64 0]) ?_ 0 _ rfl; refine bm ?_; exact BK184.out⟩
   have n3_ : Aside0 (Below w.heap.size w ((((w38.setCell ⟨gb184, 0, none⟩ (.int .i64 ((rd_T29 t174 x8_1).f0))).setCell ⟨gb184, 1, none⟩ (.int .i64 ((rd_T29 t174 x8_1).f1))).setCell ⟨gb184, 2, none⟩ (.string ((rd_T29 t174 x8_1).f2))).setCell ⟨gb184, 3, none⟩ (.int .i64 ((rd_T29 t174 x8_1).f3)))) := ⟨bb⟩
   (try clear HO_3)
   (try clear HO_7)
   (try clear BK184)
   (try clear HB)
   generalize ((((w38.setCell ⟨gb184, 0, none⟩ (.int .i64 ((rd_T29 t174 x8_1).f0))).setCell ⟨gb184, 1, none⟩ (.int .i64 ((rd_T29 t174 x8_1).f1))).setCell ⟨gb184, 2, none⟩ (.string ((rd_T29 t174 x8_1).f2))).setCell ⟨gb184, 3, none⟩ (.int .i64 ((rd_T29 t174 x8_1).f3))) = w40 at n0_ n1_ n2_ n3_ ⊢
   have HO_3 := n0_
   have HO_7 := n1_
   have BK184 := n2_
   have HB := n3_
   clear n0_ n1_ n2_ n3_
   have n0_ := Aside0.mk (Kd.R_drew HO_3.out)
   have n1_ := Aside0.mk (Kd.R_drew HO_7.out)
   have n2_ := Aside0.mk (blk_drew BK184.out)
   have n3_ := Aside0.mk (below_drew1 HB.out)
   clear HO_3
   clear HO_7
   clear BK184
   clear HB
   have HO_3 := n0_
   have HO_7 := n1_
   have BK184 := n2_
   have HB := n3_
   clear n0_ n1_ n2_ n3_
   obtain ⟨i042, hi042, _, hsz42, _⟩ := info_parts info5
   obtain ⟨A42, hcut42, hA42, hC42⟩ := print_mid_of (P := Try.prog) (Value.int .u8) 0 22 5 .i64 .i64 Try.underlying22 hi042 hsz42 A0 c0 l0 ((rd_T29 t174 x8_1).f1) (wrap64 (((rd_T29 t174 x8_1).f1) + (((rd_T29 t174 x8_1).f2).size : Int))) (od) (by first | omega | exact od) (od) HC0.out
   have HR185 := Aside0.mk (Kd.C_of_reads (h1 := fun _ => rfl) (hA42 _ (Kd.reads_of_C HR0.out)))
   have HC185 := Aside0.mk hC42
   clear hA42 hC42 hi042 hsz42
   have hcv43 := Kd.C_string (P := Try.prog) (A := A42) (c := (c0 - ((rd_T29 t174 x8_1).f1).toNat)) Try.underlying22 Try.underlying5 Try.underlying9 (Kd.C_below HR185.out HB.out)
   have hcv43b := hcv43
   (try rw [List.length_drop, List.length_take, Nat.min_eq_left (Int.toNat_le.mpr (od))] at hcv43b)
   refine start_ (n := 39) (S := fun w' => w'.cell? ⟨gb184, 0, none⟩ = some (.int .i64 ((rd_T29 t174 x8_1).f0)) ∧ w'.cell? ⟨gb184, 1, none⟩ = some (.int .i64 ((rd_T29 t174 x8_1).f1)) ∧ w'.cell? ⟨gb184, 2, none⟩ = some (.string ((rd_T29 t174 x8_1).f2)) ∧ w'.cell? ⟨gb184, 3, none⟩ = some (.int .i64 ((rd_T29 t174 x8_1).f3)) ∧ Below w.heap.size w w') (ds := []) #[false, false, false, false, false, false, false, false, false, false, false, false, false, false, false, false, false, false, false, false, false, false, false, false, false, false, false, false, false, false, false, false, false, false, false, false, false, false, false] (by kernel_rfl) rfl rfl ⟨(blk_cell BK184.out 0).trans rfl, (blk_cell BK184.out 1).trans rfl, (blk_cell BK184.out 2).trans rfl, (blk_cell BK184.out 3).trans rfl, bb⟩ (fun hHeld => ?_); refine with_tabW fathomlaw20_LexCovers.tab12 fathomlaw20_LexCovers.bits12 (fun HT_ HW_ => ?_)
   generalize w40.drew = w41 at HO_3 HO_7 BK184 HB HR185 hHeld ⊢
   refine pv 0 40 HT_.out ?_
   refine pv 2 42 HT_.out ?_
   refine take_ (i := 1) (N := some 41) (v := ?_) (a' := ?_) #[true, true, true, false, false, false, false, false, false, false, false, false, false, false, false, false, false, false, false, false, false, false, false, false, false, false, false, false, false, false, false, false, false, false, false, false, false, false, false] rfl rfl (take_ofW HT_.out HW_.out (by kernel_rfl)) (fun _ _ _ h => h) (Or.inl ⟨by rfl, ?_⟩) hHeld ?_ ?_
   rotate_left
   ·
    rintro w' ⟨s0, s1, s2, s3, sB⟩
    go_simp
    with_reducible rfl
   rotate_left
   ·
    simp only [Act.put, List.setIfInBounds_toArray, List.set_cons_zero, List.set_cons_succ, i64_w, i32_w]
    rfl
   refine pv 3 43 HT_.out ?_
   refine pv 4 44 HT_.out ?_
   refine pv 5 45 HT_.out ?_
   refine pv 7 47 HT_.out ?_
   refine pv 11 51 HT_.out ?_
   refine pv 12 52 HT_.out ?_
   refine take_ (i := 6) (N := some 46) (v := ?_) (a' := ?_) #[true, true, true, true, true, true, true, true, false, false, false, true, true, false, false, false, false, false, false, false, false, false, false, false, false, false, false, false, false, false, false, false, false, false, false, false, false, false, false] rfl rfl (take_ofW HT_.out HW_.out (by kernel_rfl)) (fun _ _ _ h => h) (Or.inl ⟨by rfl, ?_⟩) hHeld ?_ ?_
   rotate_left
   ·
    rintro w' ⟨s0, s1, s2, s3, sB⟩
    go_simp
    with_reducible rfl
   rotate_left
   ·
    simp only [Act.put, List.setIfInBounds_toArray, List.set_cons_zero, List.set_cons_succ, i64_w, i32_w]
    rfl
   refine take_ (i := 8) (N := some 48) (v := ?_) (a' := ?_) #[true, true, true, true, true, true, true, true, true, false, false, true, true, false, false, false, false, false, false, false, false, false, false, false, false, false, false, false, false, false, false, false, false, false, false, false, false, false, false] rfl rfl (take_ofW HT_.out HW_.out (by kernel_rfl)) (fun _ _ _ h => h) (Or.inl ⟨by rfl, ?_⟩) hHeld ?_ ?_
   rotate_left
   ·
    rintro w' ⟨s0, s1, s2, s3, sB⟩
    go_simp
    with_reducible rfl
   rotate_left
   ·
    simp only [Act.put, List.setIfInBounds_toArray, List.set_cons_zero, List.set_cons_succ, i64_w, i32_w]
    rfl
   refine pv 9 49 HT_.out ?_
   refine pv 10 50 HT_.out ?_
   refine pv 13 53 HT_.out ?_
   refine pv 14 54 HT_.out ?_
   refine pv 15 55 HT_.out ?_
   refine pv 16 56 HT_.out ?_
   refine pv 17 57 HT_.out ?_
   refine pv 19 59 HT_.out ?_
   refine pv 21 61 HT_.out ?_
   refine pv 27 67 HT_.out ?_
   refine take_ (i := 18) (N := some 58) (v := ?_) (a' := ?_) #[true, true, true, true, true, true, true, true, true, true, true, true, true, true, true, true, true, true, true, true, false, true, false, false, false, false, false, true, false, false, false, false, false, false, false, false, false, false, false] rfl rfl (take_ofW HT_.out HW_.out (by kernel_rfl)) (fun _ _ _ h => h) (Or.inl ⟨by rfl, ?_⟩) hHeld ?_ ?_
   rotate_left
   ·
    rintro w' ⟨s0, s1, s2, s3, sB⟩
    go_simp
    with_reducible rfl
   rotate_left
   ·
    simp only [Act.put, List.setIfInBounds_toArray, List.set_cons_zero, List.set_cons_succ, i64_w, i32_w]
    rfl
   refine take_ (i := 20) (N := some 60) (v := ?_) (a' := ?_) #[true, true, true, true, true, true, true, true, true, true, true, true, true, true, true, true, true, true, true, true, true, true, false, false, false, false, false, true, false, false, false, false, false, false, false, false, false, false, false] rfl rfl (take_ofW HT_.out HW_.out (by kernel_rfl)) (fun _ _ _ h => h) (Or.inl ⟨by rfl, ?_⟩) hHeld ?_ ?_
   rotate_left
   ·
    rintro w' ⟨s0, s1, s2, s3, sB⟩
    go_simp
    with_reducible rfl
   rotate_left
   ·
    simp only [Act.put, List.setIfInBounds_toArray, List.set_cons_zero, List.set_cons_succ, i64_w, i32_w]
    rfl
   refine take_ (i := 22) (N := some 62) (v := ?_) (a' := ?_) #[true, true, true, true, true, true, true, true, true, true, true, true, true, true, true, true, true, true, true, true, true, true, true, false, false, false, false, true, false, false, false, false, false, false, false, false, false, false, false] rfl rfl (take_ofW HT_.out HW_.out (by kernel_rfl)) (fun _ _ _ h => h) (Or.inl ⟨by rfl, ?_⟩) hHeld ?_ ?_
   rotate_left
   ·
    rintro w' ⟨s0, s1, s2, s3, sB⟩
    go_simp
    with_reducible rfl
   rotate_left
   ·
    simp only [Act.put, List.setIfInBounds_toArray, List.set_cons_zero, List.set_cons_succ, i64_w, i32_w]
    rfl
   refine pv 23 63 HT_.out ?_
   refine pv 24 64 HT_.out ?_
   refine pv 25 65 HT_.out ?_
   refine take_ (i := 26) (N := some 66) (v := ?_) (a' := ?_) #[true, true, true, true, true, true, true, true, true, true, true, true, true, true, true, true, true, true, true, true, true, true, true, true, true, true, true, true, false, false, false, false, false, false, false, false, false, false, false] rfl rfl (take_ofW HT_.out HW_.out (by kernel_rfl)) (fun _ _ _ h => h) (Or.inl ⟨by rfl, ?_⟩) hHeld ?_ ?_
   rotate_left
   ·
    rintro w' ⟨s0, s1, s2, s3, sB⟩
    have hcx := Kd.C_string (P := Try.prog) (A := A42) (c := (c0 - ((rd_T29 t174 x8_1).f1).toNat)) Try.underlying22 Try.underlying5 Try.underlying9 (Kd.C_below HR185.out sB)
    (try rw [List.length_drop, List.length_take, Nat.min_eq_left (Int.toNat_le.mpr (od))] at hcx)
    go_simp
    with_reducible rfl
   rotate_left
   ·
    simp only [Act.put, List.setIfInBounds_toArray, List.set_cons_zero, List.set_cons_succ, i64_w, i32_w]
    rfl
   refine take_ (i := 28) (N := some 68) (v := ?_) (a' := ?_) #[true, true, true, true, true, true, true, true, true, true, true, true, true, true, true, true, true, true, true, true, true, true, true, true, true, true, true, true, true, false, false, false, false, false, false, false, false, false, false] rfl rfl (take_ofW HT_.out HW_.out (by kernel_rfl)) (fun _ _ _ h => h) (Or.inl ⟨by rfl, ?_⟩) hHeld ?_ ?_
   rotate_left
   ·
    rintro w' ⟨s0, s1, s2, s3, sB⟩
    go_simp
    with_reducible rfl
   rotate_left
   ·
    simp only [Act.put, List.setIfInBounds_toArray, List.set_cons_zero, List.set_cons_succ, i64_w, i32_w]
    rfl
   refine pv 29 69 HT_.out ?_
   refine pv 30 70 HT_.out ?_
   refine pv 31 71 HT_.out ?_
   refine pv 32 72 HT_.out ?_
   refine pv 33 73 HT_.out ?_
   refine pv 35 75 HT_.out ?_
   refine take_ (i := 36) (N := some 76) (v := ?_) (a' := ?_) #[true, true, true, true, true, true, true, true, true, true, true, true, true, true, true, true, true, true, true, true, true, true, true, true, true, true, true, true, true, true, true, true, true, true, false, true, true, false, false] rfl rfl (take_ofW HT_.out HW_.out (by kernel_rfl)) (fun _ _ _ h => h) (Or.inl ⟨by rfl, ?_⟩) hHeld ?_ ?_
   rotate_left
   ·
    rintro w' ⟨s0, s1, s2, s3, sB⟩
    go_simp
    with_reducible rfl
   rotate_left
   ·
    simp only [Act.put, List.setIfInBounds_toArray, List.set_cons_zero, List.set_cons_succ, i64_w, i32_w]
    rfl
   refine one_ (i := 34) (N := some 74) #[true, true, true, true, true, true, true, true, true, true, true, true, true, true, true, true, true, true, true, true, true, true, true, true, true, true, true, true, true, true, true, true, true, true, true, true, true, false, false] rfl rfl (one_of HT_.out (by kernel_rfl)) (by decide) (fun K hK => ?_)
   refine goes_ Try.func7 (by kernel_rfl) rfl #[.slice A0 l0.length c0, .int .i64 x6_1] (by rfl) rfl rfl mr ?_
   with_reducible refine (fathomref20_Start.calls k1 _ _ l0 x6_1 t186 _ ?side1 ?side2 A33.out).mono ?_
   (case side1 => exact cw HR0 HB)
   (case side2 => exact HC0.out)
   rintro e w' ⟨rfl, ⟨nd, rfl⟩⟩
   refine ⟨_, rfl, ?_⟩
   refine hK.out _ _ ⟨(blk_cell BK184.out 0).trans rfl, (blk_cell BK184.out 1).trans rfl, (blk_cell BK184.out 2).trans rfl, (blk_cell BK184.out 3).trans rfl, bb⟩ (fun hHeld => ?_)
   clear hK K
   refine norm_ (a' := ?_) ?_ ?_
   rotate_left
   ·
    show Act.put _ (some 74) _ = _
    simp only [Act.put, List.setIfInBounds_toArray, List.set_cons_zero, List.set_cons_succ, i64_w, i32_w]
    rfl
   refine pv 37 77 HT_.out ?_
   refine pv 38 78 HT_.out ?_
   refine done_ (done_of HT_.out (by kernel_rfl)) ?_
   obtain ⟨hcz44_0, hcz44_1, hcz44_2, hcz44_3, hfz44_0, hfz44_1, hfz44_2, hfz44_3⟩ := bo4 BK184
   try go_wp2
   (try (rw [drewN_self w41]; generalize hq_ : World.drewN w41 _ = w41; have n0_ : Aside0 (Kd.R k29 29 w41 w.heap.size (fun k_ => k_ ≠ gb184) (.slice (some ad183) t174.length co37) t174) := ⟨by rw [← hq_]; exact (rk HO_3)⟩; have n1_ : Aside0 (Kd.R (Kd.int .u8) 5 w41 w.heap.size (fun _ => True) u7 x7_1) := ⟨by rw [← hq_]; exact (rk HO_7)⟩; have n2_ : Aside0 (w41.heap[gb184]? = some (.cells #[.int .i64 ((rd_T29 t174 x8_1).f0), .int .i64 ((rd_T29 t174 x8_1).f1), .string ((rd_T29 t174 x8_1).f2), .int .i64 ((rd_T29 t174 x8_1).f3)] 29 (0, 0))) := ⟨by rw [← hq_]; exact (bk BK184)⟩; have n3_ : Aside0 (Below w.heap.size w w41) := ⟨by rw [← hq_]; exact bb⟩; clear HO_3 HO_7 BK184 HB hq_; have HO_3 := n0_; have HO_7 := n1_; have BK184 := n2_; have HB := n3_; clear n0_ n1_ n2_ n3_))
   have n0_ := Aside0.mk (Kd.R_drew HO_3.out)
   have n1_ := Aside0.mk (Kd.R_drew HO_7.out)
   have n2_ := Aside0.mk (blk_drew BK184.out)
   have n3_ := Aside0.mk (below_drew1 HB.out)
   clear HO_3
   clear HO_7
   clear BK184
   clear HB
   have HO_3 := n0_
   have HO_7 := n1_
   have BK184 := n2_
   have HB := n3_
   clear n0_ n1_ n2_ n3_
   refine start_ (n := 7) (S := fun w' => w'.cell? ⟨gb184, 0, none⟩ = some (.int .i64 ((rd_T29 t174 x8_1).f0)) ∧ w'.cell? ⟨gb184, 1, none⟩ = some (.int .i64 ((rd_T29 t174 x8_1).f1)) ∧ w'.cell? ⟨gb184, 2, none⟩ = some (.string ((rd_T29 t174 x8_1).f2)) ∧ w'.cell? ⟨gb184, 3, none⟩ = some (.int .i64 ((rd_T29 t174 x8_1).f3))) (ds := []) #[false, false, false, false, false, false, false] (by kernel_rfl) rfl rfl ⟨(blk_cell BK184.out 0).trans rfl, (blk_cell BK184.out 1).trans rfl, (blk_cell BK184.out 2).trans rfl, (blk_cell BK184.out 3).trans rfl⟩ (fun hHeld => ?_)
   generalize w41.drew = w45 at HO_3 HO_7 BK184 HB hHeld ⊢
   refine pure_ (i := 0) (N := some 85) (v := ?_) (a' := ?_) #[true, false, false, false, false, false, false] rfl rfl (by kernel_rfl) (fun _ _ _ h => h) (Or.inl ⟨by rfl, ?_⟩) ?_ ?_
   rotate_left
   ·
    intro w'
    go_simp
    with_reducible rfl
   rotate_left
   ·
    simp only [Act.put, List.setIfInBounds_toArray, List.set_cons_zero, List.set_cons_succ, i64_w, i32_w]
    rfl
   refine pure_ (i := 3) (N := some 88) (v := ?_) (a' := ?_) #[true, false, false, true, false, false, false] rfl rfl (by kernel_rfl) (fun _ _ _ h => h) (Or.inl ⟨by rfl, ?_⟩) ?_ ?_
   rotate_left
   ·
    intro w'
    go_simp
    with_reducible rfl
   rotate_left
   ·
    simp only [Act.put, List.setIfInBounds_toArray, List.set_cons_zero, List.set_cons_succ, i64_w, i32_w]
    rfl
   refine take_ (i := 4) (N := some 89) (v := ?_) (a' := ?_) #[true, false, false, true, true, false, false] rfl rfl (by kernel_rfl) (fun _ _ _ h => h) (Or.inl ⟨by rfl, ?_⟩) hHeld ?_ ?_
   rotate_left
   ·
    rintro w' ⟨s0, s1, s2, s3⟩
    go_simp
    with_reducible rfl
   rotate_left
   ·
    simp only [Act.put, List.setIfInBounds_toArray, List.set_cons_zero, List.set_cons_succ, i64_w, i32_w]
    rfl
   refine one_ (i := 1) (N := some 86) #[true, true, false, true, true, false, false] rfl rfl (by kernel_rfl) (by decide) (fun K hK => ?_)
   refine value_ (w1 := ?_) (v := ?_) (by rfl) rfl ?_ ?_
   rotate_left 2
   ·
    go_simp
    constructor
    · rfl
    rfl
   refine hK.out _ _ ⟨(blk_cell (blk_alloc BK184.out _) 0).trans rfl, (blk_cell (blk_alloc BK184.out _) 1).trans rfl, (blk_cell (blk_alloc BK184.out _) 2).trans rfl, (blk_cell (blk_alloc BK184.out _) 3).trans rfl⟩ (fun hHeld => ?_)
   clear hK K
   refine norm_ (a' := ?_) ?_ ?_
   rotate_left
   ·
    show Act.put _ (some 86) _ = _
    simp only [Act.put, List.setIfInBounds_toArray, List.set_cons_zero, List.set_cons_succ, i64_w, i32_w]
    rfl
   refine one_ (i := 2) (N := some 87) #[true, true, true, true, true, false, false] rfl rfl (by kernel_rfl) (by decide) (fun K hK => ?_)
   refine Kd.R_append_step (Kd.int .u8) (w0 := w) w.heap.size (by rfl) (.tmp 85) (.tmp 86) 22 5 (.int .u8 0) 1 rfl Try.underlying22 info5 rfl (by decide) (by omega) u7 x7_1 32 [.int .u8 32] (fun _ => True) (fun _ => False) rfl rfl ?aP (fun _ hk => hk.elim) ?aF ?aO ?aB ?aS ?aL ?_
   (case aP => exact rfl)
   (case aB => exact bb)
   (case aF => exact (fun _ _ => trivial))
   (case aO => exact (rk HO_7))
   (case aS => exact (below_size bb))
   (case aL => have := LMc35.out; omega)
   intro v188 w46 ho hb hg hat
   rw [← Ny187.out] at ho
   have n0_ := Aside0.mk (Kd.R_over' (rk HO_3) (Kd.R_typed (rk HO_7)) (by decide) hg)
   have n1_ := Aside0.mk (blk_grown (g := gb184) (o := .cells #[.int .i64 ((rd_T29 t174 x8_1).f0), .int .i64 ((rd_T29 t174 x8_1).f1), .string ((rd_T29 t174 x8_1).f2), .int .i64 ((rd_T29 t174 x8_1).f3)] 29 (0, 0)) (bk BK184) hg (Kd.R_ne HO_7.out BK184.out (by decide)))
   have n2_ := Aside0.mk (hb)
   have n3_ := Aside0.mk (ho)
   clear HO_3
   clear BK184
   clear HB
   clear HO_7
   have HO_3 := n0_
   have BK184 := n1_
   have HB := n2_
   have HO189 := n3_
   clear n0_ n1_ n2_ n3_
   clear ho hb hg hat
   refine hK.out _ _ ⟨(blk_cell BK184.out 0).trans rfl, (blk_cell BK184.out 1).trans rfl, (blk_cell BK184.out 2).trans rfl, (blk_cell BK184.out 3).trans rfl⟩ (fun hHeld => ?_)
   clear hK K
   refine norm_ (a' := ?_) ?_ ?_
   rotate_left
   ·
    show Act.put _ (some 87) _ = _
    simp only [Act.put, List.setIfInBounds_toArray, List.set_cons_zero, List.set_cons_succ, i64_w, i32_w]
    rfl
   refine one_ (i := 5) (N := some 90) #[true, true, true, true, true, true, false] rfl rfl (by kernel_rfl) (by decide) (fun K hK => ?_)
   refine print_append_str_step (w0 := w) w.heap.size (by rfl) (.tmp 87) _ 22 9 5 rfl Try.underlying22 Try.underlying9 info5 v188 y187 ((rd_T29 t174 x8_1).f2) rfl rfl ?aO ?aB ?aS ?aL ?_
   (case aB => exact bb)
   (case aO => exact (Kd.own_of_R (rk HO189)))
   (case aS => exact (below_size bb))
   (case aL => have := LMc36.out; omega)
   intro v191 w47 ho0 hb hg
   have ho := Kd.R_of_own (h1 := fun _ => rfl) (ok := fun _ => True) ho0 (fun _ _ => trivial)
   clear ho0
   have hat := True.intro
   rw [← Ny190.out] at ho
   change Kd.R (Kd.int .u8) 5 w47 w.heap.size (fun _ => True) v191 y190 at ho
   have n0_ := Aside0.mk (Kd.R_over' (rk HO_3) (Kd.R_typed (rk HO189)) (by decide) hg)
   have n1_ := Aside0.mk (blk_grown (g := gb184) (o := .cells #[.int .i64 ((rd_T29 t174 x8_1).f0), .int .i64 ((rd_T29 t174 x8_1).f1), .string ((rd_T29 t174 x8_1).f2), .int .i64 ((rd_T29 t174 x8_1).f3)] 29 (0, 0)) (bk BK184) hg (Kd.R_ne HO189.out BK184.out (by decide)))
   have n2_ := Aside0.mk (hb)
   have n3_ := Aside0.mk (ho)
   clear HO_3
   clear BK184
   clear HB
   clear HO189
   have HO_3 := n0_
   have BK184 := n1_
   have HB := n2_
   have HO192 := n3_
   clear n0_ n1_ n2_ n3_
   clear ho hb hg hat
   refine hK.out _ _ ⟨(blk_cell BK184.out 0).trans rfl, (blk_cell BK184.out 1).trans rfl, (blk_cell BK184.out 2).trans rfl, (blk_cell BK184.out 3).trans rfl⟩ (fun hHeld => ?_)
   clear hK K
   refine norm_ (a' := ?_) ?_ ?_
   rotate_left
   ·
    show Act.put _ (some 90) _ = _
    simp only [Act.put, List.setIfInBounds_toArray, List.set_cons_zero, List.set_cons_succ, i64_w, i32_w]
    rfl
   refine pure_ (i := 6) (N := some 7) (v := ?_) (a' := ?_) #[true, true, true, true, true, true, true] rfl rfl (by kernel_rfl) (fun _ _ _ h => h) (Or.inl ⟨by rfl, ?_⟩) ?_ ?_
   rotate_left
   ·
    intro w'
    go_simp
    with_reducible rfl
   rotate_left
   ·
    simp only [Act.put, List.setIfInBounds_toArray, List.set_cons_zero, List.set_cons_succ, i64_w, i32_w]
    rfl
   refine done_ (by kernel_rfl) ?_
   try go_wp2
   go_roundg k1
   case measure => have := HK1.out; omega
   case rel => exact ⟨(wrap64 (((rd_T29 t174 x8_1).f1) + (((rd_T29 t174 x8_1).f2).size : Int))), (y190), (wrap64 (x8_1 + 1)), rs, rs, H', ⟨by have := HK1.out; omega⟩, ⟨by refine rm ?_; exact Kd.R_mono HO_3.out (fun _ hk => trivial)⟩, ⟨by refine rm ?_; exact HO192.out⟩, ⟨bb⟩⟩

/-- THE ONE PURE STATEMENT of fathomlaw20_LexCovers: yours. -/
def fathomlaw20_LexCovers.Pure : Prop := ∀ (l0 : List Int), l0.length ≤ maxLen → l0.length * 1 ≤ 140737488351232 → (∀ x ∈ l0, (Lit.int .u8 x).wf = true) → ∃ k, fathomlaw20_LexCovers.f k l0 = some true
theorem fathomlaw20_LexCovers.walk (P : fathomlaw20_LexCovers.Pure) (a0 : Option Addr) (len0 cap0 : Nat) (z0 : List Int) (w : World) (w0 : (a0 = none ∧ len0 = 0 ∧ cap0 = 0 ∧ z0 = []) ∨ ∃ x, a0 = some x ∧ len0 ≤ cap0 ∧ cap0 ≤ maxLen ∧ z0.length = cap0 ∧ (∀ i, i < z0.length → w.cell? (x.add i) = some (.int .u8 (z0.getD i 0))) ∧ ∀ n ∈ z0, (Lit.int .u8 n).wf = true) (y0 : len0 * 1 ≤ 140737488351232) (hG : GlobOK w) :
    Calls Try.prog 3 #[.slice a0 len0 cap0] w fun e w' => e = .returned (.bool true) ∧ Below w.heap.size w w' := by
  obtain ⟨l0, rfl, hr0, hm0, hw0, hc0⟩ := ReadsInt.ofRowC w0
  obtain ⟨k, h⟩ := P l0 hm0 y0 hw0
  refine (fathomlaw20_LexCovers.calls k _ _ l0 true w (Kd.C_of_reads (d := (0 : Int)) (h1 := fun _ => rfl) hr0) hc0 h hG).mono ?_
  rintro e w' ⟨rfl, hd⟩
  exact ⟨rfl, hd⟩

end Go.Proofs.Ytgjehnjonleibaa.Q
