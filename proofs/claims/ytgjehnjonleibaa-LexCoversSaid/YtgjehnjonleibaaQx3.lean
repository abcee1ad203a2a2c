-- Laid by drive.py (a program of the session's) out of the translation. Lean checks it.
import Derived.Test.YtgjehnjonleibaaQx0
import Derived.Test.YtgjehnjonleibaaQx1
import Derived.Test.YtgjehnjonleibaaQx2
namespace Go.Proofs.Ytgjehnjonleibaa.Q
open Go.RowKit Go.Proofs.YtgjehnjonleibaaW.PrintWords Go.Proofs.YtgjehnjonleibaaW.PrintLast Go.Proofs.YtgjehnjonleibaaW.PrintMore
attribute [local go_sem] max2_int min2_int max_two min_two max_three min_three max_four min_four   -- for this text's walks alone
set_option linter.unusedVariables false
set_option linter.unusedSimpArgs false

/-! ### lex_sign: function 23 -/
def lex_sign.j0 : Nat → List Int → Int → ByteArray → Bool → Option (Int × Int × ByteArray × Int × Int)
  | 0, _, _, _, _ => none
  | k + 1, x0, x1, x6, x31 => if x31 = true then (some (3, x1, x6, 0, 0)) else (if 0 ≤ x1 then (if x1 < (x0.length : Int) then ((strings_IndexByte.f (⟨#[123, 125, 40, 41, 44, 43, 45, 42, 47, 37, 38, 124, 94, 126, 33, 60, 62]⟩ : ByteArray) (rd x0 x1)).bind fun t123 => (if t123 < 0 then (some (0, x1, (⟨#[]⟩ : ByteArray), 0, 2)) else (if x1 ≤ (wrap64 (x1 + 1)) then (if (wrap64 (x1 + 1)) ≤ (x0.length : Int) then (some (3, x1, strOfNums ((x0.take ((wrap64 (x1 + 1)) : Int).toNat).drop (x1 : Int).toNat), 0, 0)) else (none)) else (none)))) else (none)) else (none))
def lex_sign.f (k : Nat) (l0 : List Int) (a1 : Int) : Option (Int × Int × ByteArray × Int × Int) := if (wrap64 (a1 + 2)) ≤ (l0.length : Int) then (if 0 ≤ a1 then (if a1 ≤ (wrap64 (a1 + 2)) then (if 0 < ((strOfNums ((l0.take ((wrap64 (a1 + 2)) : Int).toNat).drop (a1 : Int).toNat)).size : Int) then (if (bt (strOfNums ((l0.take ((wrap64 (a1 + 2)) : Int).toNat).drop (a1 : Int).toNat)) 0) = 32 then (lex_sign.j0 k l0 a1 (strOfNums ((l0.take ((wrap64 (a1 + 2)) : Int).toNat).drop (a1 : Int).toNat)) false) else (if 1 < ((strOfNums ((l0.take ((wrap64 (a1 + 2)) : Int).toNat).drop (a1 : Int).toNat)).size : Int) then (if (bt (strOfNums ((l0.take ((wrap64 (a1 + 2)) : Int).toNat).drop (a1 : Int).toNat)) 1) = 32 then (lex_sign.j0 k l0 a1 (strOfNums ((l0.take ((wrap64 (a1 + 2)) : Int).toNat).drop (a1 : Int).toNat)) false) else (if 1 + (strOfNums ((l0.take ((wrap64 (a1 + 2)) : Int).toNat).drop (a1 : Int).toNat)).size ≤ 9223372036854775807 then (if ((⟨#[32]⟩ : ByteArray) ++ (strOfNums ((l0.take ((wrap64 (a1 + 2)) : Int).toNat).drop (a1 : Int).toNat))).size + 1 ≤ 9223372036854775807 then ((strings_Contains.f (⟨#[32, 60, 61, 32, 62, 61, 32, 61, 61, 32, 33, 61, 32, 60, 60, 32, 62, 62, 32, 38, 38, 32, 124, 124, 32]⟩ : ByteArray) (((⟨#[32]⟩ : ByteArray) ++ (strOfNums ((l0.take ((wrap64 (a1 + 2)) : Int).toNat).drop (a1 : Int).toNat))) ++ (⟨#[32]⟩ : ByteArray))).bind fun t121 => (lex_sign.j0 k l0 a1 (strOfNums ((l0.take ((wrap64 (a1 + 2)) : Int).toNat).drop (a1 : Int).toNat)) t121)) else (none)) else (none))) else (none))) else (none)) else (none)) else (none)) else (if 0 ≤ a1 then (if a1 < (l0.length : Int) then ((strings_IndexByte.f (⟨#[123, 125, 40, 41, 44, 43, 45, 42, 47, 37, 38, 124, 94, 126, 33, 60, 62]⟩ : ByteArray) (rd l0 a1)).bind fun t126 => (if t126 < 0 then (some (0, a1, (⟨#[]⟩ : ByteArray), 0, 2)) else (if a1 ≤ (wrap64 (a1 + 1)) then (if (wrap64 (a1 + 1)) ≤ (l0.length : Int) then (some (3, a1, strOfNums ((l0.take ((wrap64 (a1 + 1)) : Int).toNat).drop (a1 : Int).toNat), 0, 0)) else (none)) else (none)))) else (none)) else (none))
theorem lex_sign.mono_l : ∀ k, (∀ y0 y1 y2 y3, LeO (lex_sign.j0 k y0 y1 y2 y3) (lex_sign.j0 (k + 1) y0 y1 y2 y3))
  | 0 => fun _ _ _ _ r h => by simp [lex_sign.j0] at h
  | k + 1 => by
    have ih0 := lex_sign.mono_l k
    · intro y0 y1 y2 y3
      unfold lex_sign.j0
      repeat' first
      | (with_reducible exact ih0 _ _ _ _)
      | (with_reducible exact LeO.refl _)
      | (with_reducible exact LeO.none _)
      | (with_reducible refine LeO.ite ?_ ?_)
      | (with_reducible refine LeO.bind ?_ (fun _ => ?_))
      | exact ih0 _ _ _ _
      | exact LeO.none _
      | refine LeO.ite ?_ ?_
      | refine LeO.bind ?_ (fun _ => ?_)
theorem lex_sign.mono : ∀ a0 a1 k, LeO (lex_sign.f k a0 a1) (lex_sign.f (k + 1) a0 a1) := by
  intro a0 a1 k
  have ih0 := lex_sign.mono_l k
  unfold lex_sign.f
  repeat' first
      | (with_reducible exact ih0 _ _ _ _)
      | (with_reducible exact LeO.refl _)
      | (with_reducible exact LeO.none _)
      | (with_reducible refine LeO.ite ?_ ?_)
      | (with_reducible refine LeO.bind ?_ (fun _ => ?_))
      | exact ih0 _ _ _ _
      | exact LeO.none _
      | refine LeO.ite ?_ ?_
      | refine LeO.bind ?_ (fun _ => ?_)
set_option maxHeartbeats 8000000 in
set_option maxRecDepth 100000 in
theorem lex_sign.calls (k : Nat) (A0 : Option Addr) (c0 : Nat) (l0 : List Int) (a1 : Int) (r1 : Int) (r2 : Int) (r3 : ByteArray) (r4 : Int) (r5 : Int) (w : World) (hr0 : Kd.C (Kd.int .u8) w A0 l0.length l0) (hc0 : l0.length ≤ c0) (h : lex_sign.f k l0 a1 = some (r1, r2, r3, r4, r5)) (hG : GlobOK w) :
    Calls Try.prog 23 #[.slice A0 l0.length c0, .int .i64 a1] w fun e w' => e = .returned (.tuple #[.agg #[.int .i64 r1, .int .i64 r2, .string r3, .int .i64 r4], .int .i64 r5]) ∧ Below w.heap.size w w' := by
 have HG := Aside0.mk hG
 clear hG
 have hu29 := Try.underlying29
 have HR0 := Aside0.mk hr0
 have HC0 := Aside0.mk hc0
 clear hr0 hc0
 have HB := Aside0.mk (Below.refl w.heap.size w)
 have H : (if (wrap64 (a1 + 2)) ≤ (l0.length : Int) then (if 0 ≤ a1 then (if a1 ≤ (wrap64 (a1 + 2)) then (if 0 < ((strOfNums ((l0.take ((wrap64 (a1 + 2)) : Int).toNat).drop (a1 : Int).toNat)).size : Int) then (if (bt (strOfNums ((l0.take ((wrap64 (a1 + 2)) : Int).toNat).drop (a1 : Int).toNat)) 0) = 32 then (lex_sign.j0 k l0 a1 (strOfNums ((l0.take ((wrap64 (a1 + 2)) : Int).toNat).drop (a1 : Int).toNat)) false) else (if 1 < ((strOfNums ((l0.take ((wrap64 (a1 + 2)) : Int).toNat).drop (a1 : Int).toNat)).size : Int) then (if (bt (strOfNums ((l0.take ((wrap64 (a1 + 2)) : Int).toNat).drop (a1 : Int).toNat)) 1) = 32 then (lex_sign.j0 k l0 a1 (strOfNums ((l0.take ((wrap64 (a1 + 2)) : Int).toNat).drop (a1 : Int).toNat)) false) else (if 1 + (strOfNums ((l0.take ((wrap64 (a1 + 2)) : Int).toNat).drop (a1 : Int).toNat)).size ≤ 9223372036854775807 then (if ((⟨#[32]⟩ : ByteArray) ++ (strOfNums ((l0.take ((wrap64 (a1 + 2)) : Int).toNat).drop (a1 : Int).toNat))).size + 1 ≤ 9223372036854775807 then ((strings_Contains.f (⟨#[32, 60, 61, 32, 62, 61, 32, 61, 61, 32, 33, 61, 32, 60, 60, 32, 62, 62, 32, 38, 38, 32, 124, 124, 32]⟩ : ByteArray) (((⟨#[32]⟩ : ByteArray) ++ (strOfNums ((l0.take ((wrap64 (a1 + 2)) : Int).toNat).drop (a1 : Int).toNat))) ++ (⟨#[32]⟩ : ByteArray))).bind fun t121 => (lex_sign.j0 k l0 a1 (strOfNums ((l0.take ((wrap64 (a1 + 2)) : Int).toNat).drop (a1 : Int).toNat)) t121)) else (none)) else (none))) else (none))) else (none)) else (none)) else (none)) else (if 0 ≤ a1 then (if a1 < (l0.length : Int) then ((strings_IndexByte.f (⟨#[123, 125, 40, 41, 44, 43, 45, 42, 47, 37, 38, 124, 94, 126, 33, 60, 62]⟩ : ByteArray) (rd l0 a1)).bind fun t126 => (if t126 < 0 then (some (0, a1, (⟨#[]⟩ : ByteArray), 0, 2)) else (if a1 ≤ (wrap64 (a1 + 1)) then (if (wrap64 (a1 + 1)) ≤ (l0.length : Int) then (some (3, a1, strOfNums ((l0.take ((wrap64 (a1 + 1)) : Int).toNat).drop (a1 : Int).toNat), 0, 0)) else (none)) else (none)))) else (none)) else (none))) = some (r1, r2, r3, r4, r5) := h
 clear h
 by_cases c3 : (wrap64 (a1 + 2)) ≤ (l0.length : Int)
 rotate_left
 ·
  rw [if_neg c3] at H
  have c3b0 : decide ((wrap64 (a1 + 2)) ≤ (l0.length : Int)) = false := decide_eq_false c3
  clear c3
  by_cases c34 : 0 ≤ a1
  rotate_left
  ·
   rw [if_neg c34] at H
   exact absurd H (by simp)
  rw [if_pos c34] at H
  have c34b0 : decide (0 ≤ a1) = true := decide_eq_true c34
  clear c34
  by_cases c35 : a1 < (l0.length : Int)
  rotate_left
  ·
   rw [if_neg c35] at H
   exact absurd H (by simp)
  rw [if_pos c35] at H
  have c35b0 : decide (a1 < (l0.length : Int)) = true := decide_eq_true c35
  clear c35
  replace H := Option.bind_eq_some_iff.mp H
  obtain ⟨t126, A360, H⟩ := H
  replace H : (if t126 < 0 then (some (0, a1, (⟨#[]⟩ : ByteArray), 0, 2)) else (if a1 ≤ (wrap64 (a1 + 1)) then (if (wrap64 (a1 + 1)) ≤ (l0.length : Int) then (some (3, a1, strOfNums ((l0.take ((wrap64 (a1 + 1)) : Int).toNat).drop (a1 : Int).toNat), 0, 0)) else (none)) else (none))) = some (r1, r2, r3, r4, r5) := H
  have A36 := Aside0.mk A360
  clear A360
  by_cases c37 : t126 < 0
  ·
   rw [if_pos c37] at H
   have c37b0 : decide (t126 < 0) = true := decide_eq_true c37
   clear c37
   simp only [Option.some.injEq, Prod.mk.injEq] at H
   obtain ⟨rfl, rfl, rfl, rfl, rfl⟩ := H
   go_enter Try.func23, Try.ntmps23
   go_wp2_with (first | ((with_reducible refine gate_dst (N := 4) rfl ?_); refine bx 4 #[.int .i64 0, .int .i64 0, .string (⟨#[]⟩ : ByteArray), .int .i64 0] 29 ?_; intro gb119 hg w38 hbox hb; have BK119 := Aside0.mk (hbox); have GW119 := Aside0.mk ((bz hg : w.heap.size ≤ gb119)); have GE119 := Aside0.mk ((bz hg : w.heap.size ≤ gb119)); replace HB := Aside0.mk (below_step bb hb); clear hb hbox hg; have p125 : 0 ≤ (a1 : Int) := od; have q125 : a1 < (l0.length : Int) := od; obtain ⟨ad125, e125, hx125_0⟩ := Kd.at_int HR0.out a1 p125 q125; cases e125; replace hx125_0 := bl HB hx125_0; replace p125 := eq_true p125; replace q125 := eq_true q125) | ((with_reducible refine gate_callee (f := 13) rfl ?_); refine gl (some 39) Try.func13 #[.string (⟨#[123, 125, 40, 41, 44, 43, 45, 42, 47, 37, 38, 124, 94, 126, 33, 60, 62]⟩ : ByteArray), .int .u8 (rd l0 a1)] ?_; (with_reducible refine (strings_IndexByte.calls (⟨#[123, 125, 40, 41, 44, 43, 45, 42, 47, 37, 38, 124, 94, 126, 33, 60, 62]⟩ : ByteArray) (rd l0 a1) t126 _ A36.out).mono ?_); rintro e w' ⟨rfl, ⟨nd, rfl⟩⟩; refine ⟨_, rfl, ?_⟩; (try (rw [drewN_self w38]; generalize hq_ : World.drewN w38 _ = w38; have n0_ : Aside0 (w38.heap[gb119]? = some (.cells #[.int .i64 0, .int .i64 0, .string (⟨#[]⟩ : ByteArray), .int .i64 0] 29 (0, 0))) := ⟨by rw [← hq_]; exact (bk BK119)⟩; have n1_ : Aside0 (Below w.heap.size w w38) := ⟨by rw [← hq_]; exact bb⟩; clear BK119 HB hq_; have BK119 := n0_; have HB := n1_; clear n0_ n1_)); obtain ⟨hcz39_0, hcz39_1, hcz39_2, hcz39_3, hfz39_0, hfz39_1, hfz39_2, hfz39_3⟩ := bo4 BK119))
   refine bodyPost_ret (results_ct rfl _ _ gb119 29 #[.int .i64 0, .int .i64 a1, .string (⟨#[]⟩ : ByteArray), .int .i64 0] (0, 0) _ rfl (by refine bm ?_; refine blk_put (cs := #[.int .i64 0, .int .i64 a1, .string (⟨#[]⟩ : ByteArray), .int .i64 0]) ?_ 3 _ rfl; refine bm ?_; refine blk_put (cs := #[.int .i64 0, .int .i64 a1, .string (⟨#[]⟩ : ByteArray), .int .i64 0]) ?_ 2 _ rfl; refine bm ?_; refine blk_put (cs := #[.int .i64 0, .int .i64 0, .string (⟨#[]⟩ : ByteArray), .int .i64 0]) ?_ 1 _ rfl; refine bm ?_; refine blk_put (cs := #[.int .i64 0, .int .i64 0, .string (⟨#[]⟩ : ByteArray), .int .i64 0]) ?_ 0 _ rfl; refine bm ?_; exact BK119.out) Try.underlying29 rfl (by kernel_rfl)) rfl ?_
   exact ⟨ew, bb⟩
  rw [if_neg c37] at H
  have c37b0 : decide (t126 < 0) = false := decide_eq_false c37
  clear c37
  have c40b0 := eq_true (od : 0 ≤ a1)
  by_cases c41 : a1 ≤ (wrap64 (a1 + 1))
  rotate_left
  ·
   rw [if_neg c41] at H
   exact absurd H (by simp)
  rw [if_pos c41] at H
  have c41b0 := eq_true c41
  have c41b1 : decide (a1 ≤ (wrap64 (a1 + 1))) = true := decide_eq_true c41
  by_cases c42 : (wrap64 (a1 + 1)) ≤ (l0.length : Int)
  rotate_left
  ·
   rw [if_neg c42] at H
   exact absurd H (by simp)
  rw [if_pos c42] at H
  have c42b0 := eq_true c42
  have c42b1 : decide ((wrap64 (a1 + 1)) ≤ (l0.length : Int)) = true := decide_eq_true c42
  simp only [Option.some.injEq, Prod.mk.injEq] at H
  obtain ⟨rfl, rfl, rfl, rfl, rfl⟩ := H
  go_enter Try.func23, Try.ntmps23
  go_wp2_with (first | ((with_reducible refine gate_dst (N := 4) rfl ?_); refine bx 4 #[.int .i64 0, .int .i64 0, .string (⟨#[]⟩ : ByteArray), .int .i64 0] 29 ?_; intro gb119 hg w43 hbox hb; have BK119 := Aside0.mk (hbox); have GW119 := Aside0.mk ((bz hg : w.heap.size ≤ gb119)); have GE119 := Aside0.mk ((bz hg : w.heap.size ≤ gb119)); replace HB := Aside0.mk (below_step bb hb); clear hb hbox hg; have p125 : 0 ≤ (a1 : Int) := od; have q125 : a1 < (l0.length : Int) := od; obtain ⟨ad125, e125, hx125_0⟩ := Kd.at_int HR0.out a1 p125 q125; cases e125; replace hx125_0 := bl HB hx125_0; replace p125 := eq_true p125; replace q125 := eq_true q125) | ((with_reducible refine gate_callee (f := 13) rfl ?_); refine gl (some 39) Try.func13 #[.string (⟨#[123, 125, 40, 41, 44, 43, 45, 42, 47, 37, 38, 124, 94, 126, 33, 60, 62]⟩ : ByteArray), .int .u8 (rd l0 a1)] ?_; (with_reducible refine (strings_IndexByte.calls (⟨#[123, 125, 40, 41, 44, 43, 45, 42, 47, 37, 38, 124, 94, 126, 33, 60, 62]⟩ : ByteArray) (rd l0 a1) t126 _ A36.out).mono ?_); rintro e w' ⟨rfl, ⟨nd, rfl⟩⟩; refine ⟨_, rfl, ?_⟩; (try (rw [drewN_self w43]; generalize hq_ : World.drewN w43 _ = w43; have n0_ : Aside0 (w43.heap[gb119]? = some (.cells #[.int .i64 0, .int .i64 0, .string (⟨#[]⟩ : ByteArray), .int .i64 0] 29 (0, 0))) := ⟨by rw [← hq_]; exact (bk BK119)⟩; have n1_ : Aside0 (Below w.heap.size w w43) := ⟨by rw [← hq_]; exact bb⟩; clear BK119 HB hq_; have BK119 := n0_; have HB := n1_; clear n0_ n1_)); obtain ⟨i044, hi044, _, hsz44, _⟩ := info_parts info5; obtain ⟨A44, hcut44, hA44, hC44⟩ := print_mid_of (P := Try.prog) (Value.int .u8) 0 22 5 .i64 .i64 Try.underlying22 hi044 hsz44 (some ad125) c0 l0 a1 (wrap64 (a1 + 1)) (od) (by first | omega | exact od) (od) HC0.out; have HR127 := Aside0.mk (Kd.C_of_reads (h1 := fun _ => rfl) (hA44 _ (Kd.reads_of_C HR0.out))); have HC127 := Aside0.mk hC44; clear hA44 hC44 hi044 hsz44; have hcv45 := Kd.C_string (P := Try.prog) (A := A44) (c := (c0 - a1.toNat)) Try.underlying22 Try.underlying5 Try.underlying9 (Kd.C_below HR127.out HB.out); have hcv45b := hcv45; (try rw [List.length_drop, List.length_take, Nat.min_eq_left (Int.toNat_le.mpr (od))] at hcv45b); obtain ⟨hcz46_0, hcz46_1, hcz46_2, hcz46_3, hfz46_0, hfz46_1, hfz46_2, hfz46_3⟩ := bo4 BK119))
  refine bodyPost_ret (results_ct rfl _ _ gb119 29 #[.int .i64 3, .int .i64 a1, .string (strOfNums ((l0.take ((wrap64 (a1 + 1)) : Int).toNat).drop (a1 : Int).toNat)), .int .i64 0] (0, 0) _ rfl (by refine bm ?_; refine blk_put (cs := #[.int .i64 3, .int .i64 a1, .string (strOfNums ((l0.take ((wrap64 (a1 + 1)) : Int).toNat).drop (a1 : Int).toNat)), .int .i64 0]) ?_ 3 _ rfl; refine bm ?_; refine blk_put (cs := #[.int .i64 3, .int .i64 a1, .string (⟨#[]⟩ : ByteArray), .int .i64 0]) ?_ 2 _ rfl; refine bm ?_; refine blk_put (cs := #[.int .i64 3, .int .i64 0, .string (⟨#[]⟩ : ByteArray), .int .i64 0]) ?_ 1 _ rfl; refine bm ?_; refine blk_put (cs := #[.int .i64 0, .int .i64 0, .string (⟨#[]⟩ : ByteArray), .int .i64 0]) ?_ 0 _ rfl; refine bm ?_; exact BK119.out) Try.underlying29 rfl (by kernel_rfl)) rfl ?_
  exact ⟨ew, bb⟩
 rw [if_pos c3] at H
 have c3b0 : decide ((wrap64 (a1 + 2)) ≤ (l0.length : Int)) = true := decide_eq_true c3
 clear c3
 by_cases c4 : 0 ≤ a1
 rotate_left
 ·
  rw [if_neg c4] at H
  exact absurd H (by simp)
 rw [if_pos c4] at H
 have c4b0 := eq_true c4
 have c4b1 : decide (0 ≤ a1) = true := decide_eq_true c4
 clear c4
 by_cases c5 : a1 ≤ (wrap64 (a1 + 2))
 rotate_left
 ·
  rw [if_neg c5] at H
  exact absurd H (by simp)
 rw [if_pos c5] at H
 have c5b0 := eq_true c5
 have c5b1 : decide (a1 ≤ (wrap64 (a1 + 2))) = true := decide_eq_true c5
 have c6b0 := eq_true (od : (wrap64 (a1 + 2)) ≤ (l0.length : Int))
 have HC7 := Aside0.mk H
 clear H
 go_enter Try.func23, Try.ntmps23
 go_upto_region 3 with (first | ((with_reducible refine gate_dst (N := 4) rfl ?_); refine bx 4 #[.int .i64 0, .int .i64 0, .string (⟨#[]⟩ : ByteArray), .int .i64 0] 29 ?_; intro gb119 hg w8 hbox hb; have BK119 := Aside0.mk (hbox); have GW119 := Aside0.mk ((bz hg : w.heap.size ≤ gb119)); have GE119 := Aside0.mk ((bz hg : w.heap.size ≤ gb119)); replace HB := Aside0.mk (below_step bb hb); clear hb hbox hg; obtain ⟨i09, hi09, _, hsz9, _⟩ := info_parts info5; obtain ⟨A9, hcut9, hA9, hC9⟩ := print_mid_of (P := Try.prog) (Value.int .u8) 0 22 5 .i64 .i64 Try.underlying22 hi09 hsz9 A0 c0 l0 a1 (wrap64 (a1 + 2)) (od) (by first | omega | exact od) (od) HC0.out; have HR120 := Aside0.mk (Kd.C_of_reads (h1 := fun _ => rfl) (hA9 _ (Kd.reads_of_C HR0.out))); have HC120 := Aside0.mk hC9; clear hA9 hC9 hi09 hsz9; have hcv10 := Kd.C_string (P := Try.prog) (A := A9) (c := (c0 - a1.toNat)) Try.underlying22 Try.underlying5 Try.underlying9 (Kd.C_below HR120.out HB.out))); have hcv10b := hcv10; (try rw [List.length_drop, List.length_take, Nat.min_eq_left (Int.toNat_le.mpr (od))] at hcv10b)
 repeat ((with_reducible refine upon_gate ?_); go_simp; go_upto_region 3 with (first | ((with_reducible refine gate_dst (N := 4) rfl ?_); refine bx 4 #[.int .i64 0, .int .i64 0, .string (⟨#[]⟩ : ByteArray), .int .i64 0] 29 ?_; intro gb119 hg w8 hbox hb; have BK119 := Aside0.mk (hbox); have GW119 := Aside0.mk ((bz hg : w.heap.size ≤ gb119)); have GE119 := Aside0.mk ((bz hg : w.heap.size ≤ gb119)); replace HB := Aside0.mk (below_step bb hb); clear hb hbox hg; obtain ⟨i09, hi09, _, hsz9, _⟩ := info_parts info5; obtain ⟨A9, hcut9, hA9, hC9⟩ := print_mid_of (P := Try.prog) (Value.int .u8) 0 22 5 .i64 .i64 Try.underlying22 hi09 hsz9 A0 c0 l0 a1 (wrap64 (a1 + 2)) (od) (by first | omega | exact od) (od) HC0.out; have HR120 := Aside0.mk (Kd.C_of_reads (h1 := fun _ => rfl) (hA9 _ (Kd.reads_of_C HR0.out))); have HC120 := Aside0.mk hC9; clear hA9 hC9 hi09 hsz9; have hcv10 := Kd.C_string (P := Try.prog) (A := A9) (c := (c0 - a1.toNat)) Try.underlying22 Try.underlying5 Try.underlying9 (Kd.C_below HR120.out HB.out))); have hcv10b := hcv10; (try rw [List.length_drop, List.length_take, Nat.min_eq_left (Int.toNat_le.mpr (od))] at hcv10b))
 (try simp only [Act.put, List.setIfInBounds_toArray, List.set_cons_zero, List.set_cons_succ])
 go_cut [31] (fun v31 wc => ∃ (kq : Nat) (x31_6 : Bool), v31 = .bool x31_6 ∧ Aside0 (lex_sign.j0 kq l0 a1 (strOfNums ((l0.take ((wrap64 (a1 + 2)) : Int).toNat).drop (a1 : Int).toNat)) x31_6 = some (r1, r2, r3, r4, r5)) ∧ Aside0 (kq ≤ k) ∧ Aside0 (wc.heap[gb119]? = some (.cells #[.int .i64 0, .int .i64 0, .string (⟨#[]⟩ : ByteArray), .int .i64 0] 29 (0, 0))) ∧ Aside0 (Below w.heap.size w wc))
 case first =>
  have H := HC7.out
  clear HC7
  by_cases c11 : 0 < ((strOfNums ((l0.take ((wrap64 (a1 + 2)) : Int).toNat).drop (a1 : Int).toNat)).size : Int)
  rotate_left
  ·
   rw [if_neg c11] at H
   exact absurd H (by simp)
  rw [if_pos c11] at H
  have c11b0 : decide (0 < ((strOfNums ((l0.take ((wrap64 (a1 + 2)) : Int).toNat).drop (a1 : Int).toNat)).size : Int)) = true := decide_eq_true c11
  have c11b1 : decide (0 < (strOfNums ((l0.take ((wrap64 (a1 + 2)) : Int).toNat).drop (a1 : Int).toNat)).size) = true := decide_eq_true (by omega)
  clear c11
  (first | rw [c11b0] | (simp only [i64_w, i32_w]; rw [c11b0]) | skip)
  by_cases c13 : (bt (strOfNums ((l0.take ((wrap64 (a1 + 2)) : Int).toNat).drop (a1 : Int).toNat)) 0) = 32
  ·
   rw [if_pos c13] at H
   have c13b0 : ((bt (strOfNums ((l0.take ((wrap64 (a1 + 2)) : Int).toNat).drop (a1 : Int).toNat)) 0) == 32) = true := beq_iff_eq.mpr c13
   have c13b1 : ((bt (strOfNums ((l0.take ((wrap64 (a1 + 2)) : Int).toNat).drop (a1 : Int).toNat)) 0) != 32) = false := bne_eq_false_iff_eq.mpr c13
   clear c13
   have H' := Aside0.mk H
   clear H
   have p12 : 0 ≤ (0 : Int) := (by omega)
   have q12 : 0 < (strOfNums ((l0.take ((wrap64 (a1 + 2)) : Int).toNat).drop (a1 : Int).toNat)).size := (by have : (0 : Int) < ((strOfNums ((l0.take ((wrap64 (a1 + 2)) : Int).toNat).drop (a1 : Int).toNat)).size : Int) := od; omega)
   have hx12 : ∀ h : 0 < (strOfNums ((l0.take ((wrap64 (a1 + 2)) : Int).toNat).drop (a1 : Int).toNat)).size, (((strOfNums ((l0.take ((wrap64 (a1 + 2)) : Int).toNat).drop (a1 : Int).toNat))[0]'h).toNat : Int) = bt (strOfNums ((l0.take ((wrap64 (a1 + 2)) : Int).toNat).drop (a1 : Int).toNat)) 0 := bt_at (strOfNums ((l0.take ((wrap64 (a1 + 2)) : Int).toNat).drop (a1 : Int).toNat)) 0
   clear p12
   have qi12 : (0 < ((strOfNums ((l0.take ((wrap64 (a1 + 2)) : Int).toNat).drop (a1 : Int).toNat)).size : Int)) = True := eq_true (od)
   replace q12 := eq_true q12
   go_wp2
   go_meet
   case rel => exact ⟨_, (false), rs, H', ⟨by first | omega | exact Nat.le_refl _⟩, ⟨bk BK119⟩, ⟨bb⟩⟩
  rw [if_neg c13] at H
  have c13b0 : ((bt (strOfNums ((l0.take ((wrap64 (a1 + 2)) : Int).toNat).drop (a1 : Int).toNat)) 0) == 32) = false := beq_eq_false_iff_ne.mpr c13
  have c13b1 : ((bt (strOfNums ((l0.take ((wrap64 (a1 + 2)) : Int).toNat).drop (a1 : Int).toNat)) 0) != 32) = true := bne_iff_ne.mpr c13
  by_cases c14 : 1 < ((strOfNums ((l0.take ((wrap64 (a1 + 2)) : Int).toNat).drop (a1 : Int).toNat)).size : Int)
  rotate_left
  ·
   rw [if_neg c14] at H
   exact absurd H (by simp)
  rw [if_pos c14] at H
  have c14b0 : decide (1 < ((strOfNums ((l0.take ((wrap64 (a1 + 2)) : Int).toNat).drop (a1 : Int).toNat)).size : Int)) = true := decide_eq_true c14
  have c14b1 : decide (1 < (strOfNums ((l0.take ((wrap64 (a1 + 2)) : Int).toNat).drop (a1 : Int).toNat)).size) = true := decide_eq_true (by omega)
  clear c14
  by_cases c16 : (bt (strOfNums ((l0.take ((wrap64 (a1 + 2)) : Int).toNat).drop (a1 : Int).toNat)) 1) = 32
  ·
   rw [if_pos c16] at H
   have c16b0 : ((bt (strOfNums ((l0.take ((wrap64 (a1 + 2)) : Int).toNat).drop (a1 : Int).toNat)) 1) == 32) = true := beq_iff_eq.mpr c16
   have c16b1 : ((bt (strOfNums ((l0.take ((wrap64 (a1 + 2)) : Int).toNat).drop (a1 : Int).toNat)) 1) != 32) = false := bne_eq_false_iff_eq.mpr c16
   clear c16
   have H' := Aside0.mk H
   clear H
   have p12 : 0 ≤ (0 : Int) := (by omega)
   have q12 : 0 < (strOfNums ((l0.take ((wrap64 (a1 + 2)) : Int).toNat).drop (a1 : Int).toNat)).size := (by have : (0 : Int) < ((strOfNums ((l0.take ((wrap64 (a1 + 2)) : Int).toNat).drop (a1 : Int).toNat)).size : Int) := od; omega)
   have hx12 : ∀ h : 0 < (strOfNums ((l0.take ((wrap64 (a1 + 2)) : Int).toNat).drop (a1 : Int).toNat)).size, (((strOfNums ((l0.take ((wrap64 (a1 + 2)) : Int).toNat).drop (a1 : Int).toNat))[0]'h).toNat : Int) = bt (strOfNums ((l0.take ((wrap64 (a1 + 2)) : Int).toNat).drop (a1 : Int).toNat)) 0 := bt_at (strOfNums ((l0.take ((wrap64 (a1 + 2)) : Int).toNat).drop (a1 : Int).toNat)) 0
   clear p12
   have qi12 : (0 < ((strOfNums ((l0.take ((wrap64 (a1 + 2)) : Int).toNat).drop (a1 : Int).toNat)).size : Int)) = True := eq_true (od)
   replace q12 := eq_true q12
   have p15 : 0 ≤ (1 : Int) := (by omega)
   have q15 : 1 < (strOfNums ((l0.take ((wrap64 (a1 + 2)) : Int).toNat).drop (a1 : Int).toNat)).size := (by have : (1 : Int) < ((strOfNums ((l0.take ((wrap64 (a1 + 2)) : Int).toNat).drop (a1 : Int).toNat)).size : Int) := od; omega)
   have hx15 : ∀ h : 1 < (strOfNums ((l0.take ((wrap64 (a1 + 2)) : Int).toNat).drop (a1 : Int).toNat)).size, (((strOfNums ((l0.take ((wrap64 (a1 + 2)) : Int).toNat).drop (a1 : Int).toNat))[1]'h).toNat : Int) = bt (strOfNums ((l0.take ((wrap64 (a1 + 2)) : Int).toNat).drop (a1 : Int).toNat)) 1 := bt_at (strOfNums ((l0.take ((wrap64 (a1 + 2)) : Int).toNat).drop (a1 : Int).toNat)) 1
   clear p15
   have qi15 : (1 < ((strOfNums ((l0.take ((wrap64 (a1 + 2)) : Int).toNat).drop (a1 : Int).toNat)).size : Int)) = True := eq_true (od)
   replace q15 := eq_true q15
   go_wp2
   go_meet
   case rel => exact ⟨_, (false), rs, H', ⟨by first | omega | exact Nat.le_refl _⟩, ⟨bk BK119⟩, ⟨bb⟩⟩
  rw [if_neg c16] at H
  have c16b0 : ((bt (strOfNums ((l0.take ((wrap64 (a1 + 2)) : Int).toNat).drop (a1 : Int).toNat)) 1) == 32) = false := beq_eq_false_iff_ne.mpr c16
  have c16b1 : ((bt (strOfNums ((l0.take ((wrap64 (a1 + 2)) : Int).toNat).drop (a1 : Int).toNat)) 1) != 32) = true := bne_iff_ne.mpr c16
  by_cases c17 : 1 + (strOfNums ((l0.take ((wrap64 (a1 + 2)) : Int).toNat).drop (a1 : Int).toNat)).size ≤ 9223372036854775807
  rotate_left
  ·
   rw [if_neg c17] at H
   exact absurd H (by simp)
  rw [if_pos c17] at H
  have c17b0 := eq_true c17
  have c17b1 : decide (1 + (strOfNums ((l0.take ((wrap64 (a1 + 2)) : Int).toNat).drop (a1 : Int).toNat)).size ≤ 9223372036854775807) = true := decide_eq_true c17
  try have c17b2 : (9223372036854775807 < 1 + (strOfNums ((l0.take ((wrap64 (a1 + 2)) : Int).toNat).drop (a1 : Int).toNat)).size) = False := eq_false (Nat.not_lt.2 c17)
  by_cases c18 : ((⟨#[32]⟩ : ByteArray) ++ (strOfNums ((l0.take ((wrap64 (a1 + 2)) : Int).toNat).drop (a1 : Int).toNat))).size + 1 ≤ 9223372036854775807
  rotate_left
  ·
   rw [if_neg c18] at H
   exact absurd H (by simp)
  rw [if_pos c18] at H
  have c18b0 := eq_true c18
  have c18b1 : decide (((⟨#[32]⟩ : ByteArray) ++ (strOfNums ((l0.take ((wrap64 (a1 + 2)) : Int).toNat).drop (a1 : Int).toNat))).size + 1 ≤ 9223372036854775807) = true := decide_eq_true c18
  try have c18b2 : (9223372036854775807 < ((⟨#[32]⟩ : ByteArray) ++ (strOfNums ((l0.take ((wrap64 (a1 + 2)) : Int).toNat).drop (a1 : Int).toNat))).size + 1) = False := eq_false (Nat.not_lt.2 c18)
  have c18b7 := c18b0
  try simp only [ByteArray.size_append, size_one] at c18b7
  try have c18b8 := c18b2
  try simp only [ByteArray.size_append, size_one] at c18b8
  replace H := Option.bind_eq_some_iff.mp H
  obtain ⟨t121, A190, H⟩ := H
  replace H : (lex_sign.j0 k l0 a1 (strOfNums ((l0.take ((wrap64 (a1 + 2)) : Int).toNat).drop (a1 : Int).toNat)) t121) = some (r1, r2, r3, r4, r5) := H
  have A19 := Aside0.mk A190
  clear A190
  have H' := Aside0.mk H
  clear H
  have p12 : 0 ≤ (0 : Int) := (by omega)
  have q12 : 0 < (strOfNums ((l0.take ((wrap64 (a1 + 2)) : Int).toNat).drop (a1 : Int).toNat)).size := (by have : (0 : Int) < ((strOfNums ((l0.take ((wrap64 (a1 + 2)) : Int).toNat).drop (a1 : Int).toNat)).size : Int) := od; omega)
  have hx12 : ∀ h : 0 < (strOfNums ((l0.take ((wrap64 (a1 + 2)) : Int).toNat).drop (a1 : Int).toNat)).size, (((strOfNums ((l0.take ((wrap64 (a1 + 2)) : Int).toNat).drop (a1 : Int).toNat))[0]'h).toNat : Int) = bt (strOfNums ((l0.take ((wrap64 (a1 + 2)) : Int).toNat).drop (a1 : Int).toNat)) 0 := bt_at (strOfNums ((l0.take ((wrap64 (a1 + 2)) : Int).toNat).drop (a1 : Int).toNat)) 0
  clear p12
  have qi12 : (0 < ((strOfNums ((l0.take ((wrap64 (a1 + 2)) : Int).toNat).drop (a1 : Int).toNat)).size : Int)) = True := eq_true (od)
  replace q12 := eq_true q12
  have p15 : 0 ≤ (1 : Int) := (by omega)
  have q15 : 1 < (strOfNums ((l0.take ((wrap64 (a1 + 2)) : Int).toNat).drop (a1 : Int).toNat)).size := (by have : (1 : Int) < ((strOfNums ((l0.take ((wrap64 (a1 + 2)) : Int).toNat).drop (a1 : Int).toNat)).size : Int) := od; omega)
  have hx15 : ∀ h : 1 < (strOfNums ((l0.take ((wrap64 (a1 + 2)) : Int).toNat).drop (a1 : Int).toNat)).size, (((strOfNums ((l0.take ((wrap64 (a1 + 2)) : Int).toNat).drop (a1 : Int).toNat))[1]'h).toNat : Int) = bt (strOfNums ((l0.take ((wrap64 (a1 + 2)) : Int).toNat).drop (a1 : Int).toNat)) 1 := bt_at (strOfNums ((l0.take ((wrap64 (a1 + 2)) : Int).toNat).drop (a1 : Int).toNat)) 1
  clear p15
  have qi15 : (1 < ((strOfNums ((l0.take ((wrap64 (a1 + 2)) : Int).toNat).drop (a1 : Int).toNat)).size : Int)) = True := eq_true (od)
  replace q15 := eq_true q15
  go_wp2_with (first | (go_at_call 14; (with_reducible refine (strings_Contains.calls (⟨#[32, 60, 61, 32, 62, 61, 32, 61, 61, 32, 33, 61, 32, 60, 60, 32, 62, 62, 32, 38, 38, 32, 124, 124, 32]⟩ : ByteArray) (((⟨#[32]⟩ : ByteArray) ++ (strOfNums ((l0.take ((wrap64 (a1 + 2)) : Int).toNat).drop (a1 : Int).toNat))) ++ (⟨#[32]⟩ : ByteArray)) t121 _ A19.out ?gside).mono ?_); (case gside => repeat (first | exact (GlobOK.below HG.out HB.out) | (with_reducible refine GlobOK.alloc HG.out ?_ _) | (with_reducible refine GlobOK.drewN ?_ _) | (with_reducible refine GlobOK.drew ?_) | (refine GlobOK.set HG.out (by with_reducible assumption) ?_))); rintro e w20 ⟨rfl, hb⟩; replace BK119 := Aside0.mk (blk_below (g := gb119) (o := .cells #[.int .i64 0, .int .i64 0, .string (⟨#[]⟩ : ByteArray), .int .i64 0] 29 (0, 0)) (bk BK119) hb); replace HB := Aside0.mk (below_step bb hb); (try clear hb); (try clear hb2); (try clear hk); (try clear hi)))
  go_meet
  case rel => exact ⟨_, (t121), rs, H', ⟨by first | omega | exact Nat.le_refl _⟩, ⟨bk BK119⟩, ⟨bb⟩⟩
 case rest =>
  clear HC7
  try clear c1
  try clear p1
  try clear q1
  try clear hx1
  try clear hcv1
  try clear qi1
  try clear c2
  try clear p2
  try clear c3
  try clear c3b0
  try clear c4
  try clear c4b0
  try clear c4b1
  try clear c5
  try clear c5b0
  try clear c5b1
  try clear c6
  try clear c6b0
  try clear p6
  try clear hcv10
  try clear c11
  try clear c11b0
  try clear c11b1
  try clear p12
  try clear q12
  try clear hx12
  try clear qi12
  try clear c13
  try clear c13b0
  try clear c13b1
  try clear c14
  try clear c14b0
  try clear c14b1
  try clear p15
  try clear q15
  try clear hx15
  try clear qi15
  try clear c16
  try clear c16b0
  try clear c16b1
  try clear c17
  try clear c17b0
  try clear c17b1
  try clear c17b2
  try clear c18
  try clear c18b0
  try clear c18b1
  try clear c18b2
  obtain ⟨kq, x31_6, rfl, HA, HJ6, BK119, HB⟩ := hcut
  cases kq with
  | zero => exact absurd HA.out (by simp [lex_sign.j0])
  | succ kj6 =>
   have H := HA.out
   clear HA
   simp only [lex_sign.j0] at H
   by_cases c21 : x31_6 = true
   ·
    subst c21
    have H1 : (some (3, a1, (strOfNums ((l0.take ((wrap64 (a1 + 2)) : Int).toNat).drop (a1 : Int).toNat)), 0, 0)) = some (r1, r2, r3, r4, r5) := by rw [if_pos rfl] at H; exact H
    clear H
    have H := H1
    clear H1
    simp only [Option.some.injEq, Prod.mk.injEq] at H
    obtain ⟨rfl, rfl, rfl, rfl, rfl⟩ := H
    obtain ⟨hcz22_0, hcz22_1, hcz22_2, hcz22_3, hfz22_0, hfz22_1, hfz22_2, hfz22_3⟩ := bo4 BK119
    go_wp2
    refine bodyPost_ret (results_ct rfl _ _ gb119 29 #[.int .i64 3, .int .i64 a1, .string (strOfNums ((l0.take ((wrap64 (a1 + 2)) : Int).toNat).drop (a1 : Int).toNat)), .int .i64 0] (0, 0) _ rfl (by refine bm ?_; refine blk_put (cs := #[.int .i64 3, .int .i64 a1, .string (strOfNums ((l0.take ((wrap64 (a1 + 2)) : Int).toNat).drop (a1 : Int).toNat)), .int .i64 0]) ?_ 3 _ rfl; refine bm ?_; refine blk_put (cs := #[.int .i64 3, .int .i64 a1, .string (⟨#[]⟩ : ByteArray), .int .i64 0]) ?_ 2 _ rfl; refine bm ?_; refine blk_put (cs := #[.int .i64 3, .int .i64 0, .string (⟨#[]⟩ : ByteArray), .int .i64 0]) ?_ 1 _ rfl; refine bm ?_; refine blk_put (cs := #[.int .i64 0, .int .i64 0, .string (⟨#[]⟩ : ByteArray), .int .i64 0]) ?_ 0 _ rfl; refine bm ?_; exact BK119.out) Try.underlying29 rfl (by kernel_rfl)) rfl ?_
    exact ⟨ew, bb⟩
   replace c21 := Bool.eq_false_iff.mpr c21
   subst c21
   have H1 : (if 0 ≤ a1 then (if a1 < (l0.length : Int) then ((strings_IndexByte.f (⟨#[123, 125, 40, 41, 44, 43, 45, 42, 47, 37, 38, 124, 94, 126, 33, 60, 62]⟩ : ByteArray) (rd l0 a1)).bind fun t123 => (if t123 < 0 then (some (0, a1, (⟨#[]⟩ : ByteArray), 0, 2)) else (if a1 ≤ (wrap64 (a1 + 1)) then (if (wrap64 (a1 + 1)) ≤ (l0.length : Int) then (some (3, a1, strOfNums ((l0.take ((wrap64 (a1 + 1)) : Int).toNat).drop (a1 : Int).toNat), 0, 0)) else (none)) else (none)))) else (none)) else (none)) = some (r1, r2, r3, r4, r5) := by rw [if_neg (show ¬ (false = true) by decide)] at H; exact H
   clear H
   have H := H1
   clear H1
   by_cases c23 : 0 ≤ a1
   rotate_left
   ·
    rw [if_neg c23] at H
    exact absurd H (by simp)
   rw [if_pos c23] at H
   have c23b0 : decide (0 ≤ a1) = true := decide_eq_true c23
   clear c23
   by_cases c24 : a1 < (l0.length : Int)
   rotate_left
   ·
    rw [if_neg c24] at H
    exact absurd H (by simp)
   rw [if_pos c24] at H
   have c24b0 : decide (a1 < (l0.length : Int)) = true := decide_eq_true c24
   clear c24
   replace H := Option.bind_eq_some_iff.mp H
   obtain ⟨t123, A250, H⟩ := H
   replace H : (if t123 < 0 then (some (0, a1, (⟨#[]⟩ : ByteArray), 0, 2)) else (if a1 ≤ (wrap64 (a1 + 1)) then (if (wrap64 (a1 + 1)) ≤ (l0.length : Int) then (some (3, a1, strOfNums ((l0.take ((wrap64 (a1 + 1)) : Int).toNat).drop (a1 : Int).toNat), 0, 0)) else (none)) else (none))) = some (r1, r2, r3, r4, r5) := H
   have A25 := Aside0.mk A250
   clear A250
   by_cases c26 : t123 < 0
   ·
    rw [if_pos c26] at H
    have c26b0 : decide (t123 < 0) = true := decide_eq_true c26
    clear c26
    simp only [Option.some.injEq, Prod.mk.injEq] at H
    obtain ⟨rfl, rfl, rfl, rfl, rfl⟩ := H
    have p122 : 0 ≤ (a1 : Int) := od
    have q122 : a1 < (l0.length : Int) := od
    obtain ⟨ad122, e122, hx122_0⟩ := Kd.at_int HR0.out a1 p122 q122
    cases e122
    replace hx122_0 := bl HB hx122_0
    replace p122 := eq_true p122
    replace q122 := eq_true q122
    go_wp2_with (first | ((with_reducible refine gate_callee (f := 13) rfl ?_); refine gl (some 39) Try.func13 #[.string (⟨#[123, 125, 40, 41, 44, 43, 45, 42, 47, 37, 38, 124, 94, 126, 33, 60, 62]⟩ : ByteArray), .int .u8 (rd l0 a1)] ?_; (with_reducible refine (strings_IndexByte.calls (⟨#[123, 125, 40, 41, 44, 43, 45, 42, 47, 37, 38, 124, 94, 126, 33, 60, 62]⟩ : ByteArray) (rd l0 a1) t123 _ A25.out).mono ?_); rintro e w' ⟨rfl, ⟨nd, rfl⟩⟩; refine ⟨_, rfl, ?_⟩; (try (rw [drewN_self wc]; generalize hq_ : World.drewN wc _ = wc; have n0_ : Aside0 (wc.heap[gb119]? = some (.cells #[.int .i64 0, .int .i64 0, .string (⟨#[]⟩ : ByteArray), .int .i64 0] 29 (0, 0))) := ⟨by rw [← hq_]; exact (bk BK119)⟩; have n1_ : Aside0 (Below w.heap.size w wc) := ⟨by rw [← hq_]; exact bb⟩; clear BK119 HB hq_; have BK119 := n0_; have HB := n1_; clear n0_ n1_)); obtain ⟨hcz27_0, hcz27_1, hcz27_2, hcz27_3, hfz27_0, hfz27_1, hfz27_2, hfz27_3⟩ := bo4 BK119))
    refine bodyPost_ret (results_ct rfl _ _ gb119 29 #[.int .i64 0, .int .i64 a1, .string (⟨#[]⟩ : ByteArray), .int .i64 0] (0, 0) _ rfl (by refine bm ?_; refine blk_put (cs := #[.int .i64 0, .int .i64 a1, .string (⟨#[]⟩ : ByteArray), .int .i64 0]) ?_ 3 _ rfl; refine bm ?_; refine blk_put (cs := #[.int .i64 0, .int .i64 a1, .string (⟨#[]⟩ : ByteArray), .int .i64 0]) ?_ 2 _ rfl; refine bm ?_; refine blk_put (cs := #[.int .i64 0, .int .i64 0, .string (⟨#[]⟩ : ByteArray), .int .i64 0]) ?_ 1 _ rfl; refine bm ?_; refine blk_put (cs := #[.int .i64 0, .int .i64 0, .string (⟨#[]⟩ : ByteArray), .int .i64 0]) ?_ 0 _ rfl; refine bm ?_; exact BK119.out) Try.underlying29 rfl (by kernel_rfl)) rfl ?_
    exact ⟨ew, bb⟩
   rw [if_neg c26] at H
   have c26b0 : decide (t123 < 0) = false := decide_eq_false c26
   clear c26
   have c28b0 := eq_true (od : 0 ≤ a1)
   by_cases c29 : a1 ≤ (wrap64 (a1 + 1))
   rotate_left
   ·
    rw [if_neg c29] at H
    exact absurd H (by simp)
   rw [if_pos c29] at H
   have c29b0 := eq_true c29
   have c29b1 : decide (a1 ≤ (wrap64 (a1 + 1))) = true := decide_eq_true c29
   by_cases c30 : (wrap64 (a1 + 1)) ≤ (l0.length : Int)
   rotate_left
   ·
    rw [if_neg c30] at H
    exact absurd H (by simp)
   rw [if_pos c30] at H
   have c30b0 := eq_true c30
   have c30b1 : decide ((wrap64 (a1 + 1)) ≤ (l0.length : Int)) = true := decide_eq_true c30
   simp only [Option.some.injEq, Prod.mk.injEq] at H
   obtain ⟨rfl, rfl, rfl, rfl, rfl⟩ := H
   have p122 : 0 ≤ (a1 : Int) := od
   have q122 : a1 < (l0.length : Int) := od
   obtain ⟨ad122, e122, hx122_0⟩ := Kd.at_int HR0.out a1 p122 q122
   cases e122
   replace hx122_0 := bl HB hx122_0
   replace p122 := eq_true p122
   replace q122 := eq_true q122
   go_wp2_with (first | ((with_reducible refine gate_callee (f := 13) rfl ?_); refine gl (some 39) Try.func13 #[.string (⟨#[123, 125, 40, 41, 44, 43, 45, 42, 47, 37, 38, 124, 94, 126, 33, 60, 62]⟩ : ByteArray), .int .u8 (rd l0 a1)] ?_; (with_reducible refine (strings_IndexByte.calls (⟨#[123, 125, 40, 41, 44, 43, 45, 42, 47, 37, 38, 124, 94, 126, 33, 60, 62]⟩ : ByteArray) (rd l0 a1) t123 _ A25.out).mono ?_); rintro e w' ⟨rfl, ⟨nd, rfl⟩⟩; refine ⟨_, rfl, ?_⟩; (try (rw [drewN_self wc]; generalize hq_ : World.drewN wc _ = wc; have n0_ : Aside0 (wc.heap[gb119]? = some (.cells #[.int .i64 0, .int .i64 0, .string (⟨#[]⟩ : ByteArray), .int .i64 0] 29 (0, 0))) := ⟨by rw [← hq_]; exact (bk BK119)⟩; have n1_ : Aside0 (Below w.heap.size w wc) := ⟨by rw [← hq_]; exact bb⟩; clear BK119 HB hq_; have BK119 := n0_; have HB := n1_; clear n0_ n1_)); obtain ⟨i031, hi031, _, hsz31, _⟩ := info_parts info5; obtain ⟨A31, hcut31, hA31, hC31⟩ := print_mid_of (P := Try.prog) (Value.int .u8) 0 22 5 .i64 .i64 Try.underlying22 hi031 hsz31 (some ad122) c0 l0 a1 (wrap64 (a1 + 1)) (od) (by first | omega | exact od) (od) HC0.out; have HR124 := Aside0.mk (Kd.C_of_reads (h1 := fun _ => rfl) (hA31 _ (Kd.reads_of_C HR0.out))); have HC124 := Aside0.mk hC31; clear hA31 hC31 hi031 hsz31; have hcv32 := Kd.C_string (P := Try.prog) (A := A31) (c := (c0 - a1.toNat)) Try.underlying22 Try.underlying5 Try.underlying9 (Kd.C_below HR124.out HB.out); have hcv32b := hcv32; (try rw [List.length_drop, List.length_take, Nat.min_eq_left (Int.toNat_le.mpr (od))] at hcv32b); obtain ⟨hcz33_0, hcz33_1, hcz33_2, hcz33_3, hfz33_0, hfz33_1, hfz33_2, hfz33_3⟩ := bo4 BK119))
   refine bodyPost_ret (results_ct rfl _ _ gb119 29 #[.int .i64 3, .int .i64 a1, .string (strOfNums ((l0.take ((wrap64 (a1 + 1)) : Int).toNat).drop (a1 : Int).toNat)), .int .i64 0] (0, 0) _ rfl (by refine bm ?_; refine blk_put (cs := #[.int .i64 3, .int .i64 a1, .string (strOfNums ((l0.take ((wrap64 (a1 + 1)) : Int).toNat).drop (a1 : Int).toNat)), .int .i64 0]) ?_ 3 _ rfl; refine bm ?_; refine blk_put (cs := #[.int .i64 3, .int .i64 a1, .string (⟨#[]⟩ : ByteArray), .int .i64 0]) ?_ 2 _ rfl; refine bm ?_; refine blk_put (cs := #[.int .i64 3, .int .i64 0, .string (⟨#[]⟩ : ByteArray), .int .i64 0]) ?_ 1 _ rfl; refine bm ?_; refine blk_put (cs := #[.int .i64 0, .int .i64 0, .string (⟨#[]⟩ : ByteArray), .int .i64 0]) ?_ 0 _ rfl; refine bm ?_; exact BK119.out) Try.underlying29 rfl (by kernel_rfl)) rfl ?_
   exact ⟨ew, bb⟩

/-! ### lex_Next: function 12 -/
def lex_Next.j0 : Nat → List Int → Int → Bool → Option (Int × Int × ByteArray × Int × Int)
  | 0, _, _, _ => none
  | k + 1, x0, x1, x14 => if x14 = true then (some (0, 0, (⟨#[]⟩ : ByteArray), 0, 1)) else ((lex_skip.f k x0 x1).bind fun t129 => (if t129 = (x0.length : Int) then (some (4, t129, (⟨#[]⟩ : ByteArray), 0, 0)) else (if 0 ≤ t129 then (if t129 < (x0.length : Int) then ((lex_digit.f (rd x0 t129)).bind fun t131 => (if t131 = true then ((lex_number.f k x0 t129).bind fun bt132 => (some (bt132.1, bt132.2.1, bt132.2.2.1, bt132.2.2.2.1, bt132.2.2.2.2))) else ((lex_letter.f (rd x0 t129)).bind fun t138 => (if t138 = true then ((lex_run.f k x0 t129).bind fun t139 => (if (wrap64 (t139 - t129)) > 12 then (some (0, t129, (⟨#[]⟩ : ByteArray), 0, 3)) else (if t129 ≤ t139 then (if t139 ≤ (x0.length : Int) then (some (1, t129, strOfNums ((x0.take (t139 : Int).toNat).drop (t129 : Int).toNat), 0, 0)) else (none)) else (none)))) else ((lex_sign.f k x0 t129).bind fun bt141 => (some (bt141.1, bt141.2.1, bt141.2.2.1, bt141.2.2.2.1, bt141.2.2.2.2))))))) else (none)) else (none))))
def lex_Next.f (k : Nat) (l0 : List Int) (a1 : Int) : Option (Int × Int × ByteArray × Int × Int) := if a1 < 0 then (lex_Next.j0 k l0 a1 true) else (lex_Next.j0 k l0 a1 (decide (a1 > (l0.length : Int))))
theorem lex_Next.mono_l : ∀ k, (∀ y0 y1 y2, LeO (lex_Next.j0 k y0 y1 y2) (lex_Next.j0 (k + 1) y0 y1 y2))
  | 0 => fun _ _ _ r h => by simp [lex_Next.j0] at h
  | k + 1 => by
    have ih0 := lex_Next.mono_l k
    · intro y0 y1 y2
      unfold lex_Next.j0
      repeat' first
      | (with_reducible exact ih0 _ _ _)
      | (with_reducible exact lex_number.mono _ _ _)
      | (with_reducible exact lex_run.mono _ _ _)
      | (with_reducible exact lex_sign.mono _ _ _)
      | (with_reducible exact lex_skip.mono _ _ _)
      | (with_reducible exact LeO.refl _)
      | (with_reducible exact LeO.none _)
      | (with_reducible refine LeO.ite ?_ ?_)
      | (with_reducible refine LeO.bind ?_ (fun _ => ?_))
      | exact ih0 _ _ _
      | exact lex_number.mono _ _ _
      | exact lex_run.mono _ _ _
      | exact lex_sign.mono _ _ _
      | exact lex_skip.mono _ _ _
      | exact LeO.none _
      | refine LeO.ite ?_ ?_
      | refine LeO.bind ?_ (fun _ => ?_)
theorem lex_Next.mono : ∀ a0 a1 k, LeO (lex_Next.f k a0 a1) (lex_Next.f (k + 1) a0 a1) := by
  intro a0 a1 k
  have ih0 := lex_Next.mono_l k
  unfold lex_Next.f
  repeat' first
      | (with_reducible exact ih0 _ _ _)
      | (with_reducible exact lex_number.mono _ _ _)
      | (with_reducible exact lex_run.mono _ _ _)
      | (with_reducible exact lex_sign.mono _ _ _)
      | (with_reducible exact lex_skip.mono _ _ _)
      | (with_reducible exact LeO.refl _)
      | (with_reducible exact LeO.none _)
      | (with_reducible refine LeO.ite ?_ ?_)
      | (with_reducible refine LeO.bind ?_ (fun _ => ?_))
      | exact ih0 _ _ _
      | exact lex_number.mono _ _ _
      | exact lex_run.mono _ _ _
      | exact lex_sign.mono _ _ _
      | exact lex_skip.mono _ _ _
      | exact LeO.none _
      | refine LeO.ite ?_ ?_
      | refine LeO.bind ?_ (fun _ => ?_)
set_option maxHeartbeats 8000000 in
set_option maxRecDepth 100000 in
theorem lex_Next.calls (k : Nat) (A0 : Option Addr) (c0 : Nat) (l0 : List Int) (a1 : Int) (r1 : Int) (r2 : Int) (r3 : ByteArray) (r4 : Int) (r5 : Int) (w : World) (hr0 : Kd.C (Kd.int .u8) w A0 l0.length l0) (hc0 : l0.length ≤ c0) (h : lex_Next.f k l0 a1 = some (r1, r2, r3, r4, r5)) (hG : GlobOK w) :
    Calls Try.prog 12 #[.slice A0 l0.length c0, .int .i64 a1] w fun e w' => e = .returned (.tuple #[.agg #[.int .i64 r1, .int .i64 r2, .string r3, .int .i64 r4], .int .i64 r5]) ∧ Below w.heap.size w w' := by
 have HG := Aside0.mk hG
 clear hG
 have hu29 := Try.underlying29
 have HR0 := Aside0.mk hr0
 have HC0 := Aside0.mk hc0
 clear hr0 hc0
 have HB := Aside0.mk (Below.refl w.heap.size w)
 have H : (if a1 < 0 then (lex_Next.j0 k l0 a1 true) else (lex_Next.j0 k l0 a1 (decide (a1 > (l0.length : Int))))) = some (r1, r2, r3, r4, r5) := h
 clear h
 have HC3 := Aside0.mk H
 clear H
 go_enter Try.func12, Try.ntmps12
 go_upto_region 1 with (first | ((with_reducible refine gate_dst (N := 4) rfl ?_); (try (refine gate_guard (by rfl) ?_; dsimp only)); refine bx 4 #[.int .i64 0, .int .i64 0, .string (⟨#[]⟩ : ByteArray), .int .i64 0] 29 ?_; intro gb128 hg w4 hbox hb; have BK128 := Aside0.mk (hbox); have GW128 := Aside0.mk ((bz hg : w.heap.size ≤ gb128)); have GE128 := Aside0.mk ((bz hg : w.heap.size ≤ gb128)); replace HB := Aside0.mk (below_step bb hb); clear hb hbox hg))
 repeat ((with_reducible refine upon_gate ?_); go_simp; go_upto_region 1 with (first | ((with_reducible refine gate_dst (N := 4) rfl ?_); (try (refine gate_guard (by rfl) ?_; dsimp only)); refine bx 4 #[.int .i64 0, .int .i64 0, .string (⟨#[]⟩ : ByteArray), .int .i64 0] 29 ?_; intro gb128 hg w4 hbox hb; have BK128 := Aside0.mk (hbox); have GW128 := Aside0.mk ((bz hg : w.heap.size ≤ gb128)); have GE128 := Aside0.mk ((bz hg : w.heap.size ≤ gb128)); replace HB := Aside0.mk (below_step bb hb); clear hb hbox hg)))
 (try simp only [Act.put, List.setIfInBounds_toArray, List.set_cons_zero, List.set_cons_succ])
 go_cut [14] (fun v14 wc => ∃ (kq : Nat) (x14_2 : Bool), v14 = .bool x14_2 ∧ Aside0 (lex_Next.j0 kq l0 a1 x14_2 = some (r1, r2, r3, r4, r5)) ∧ Aside0 (kq ≤ k) ∧ Aside0 (wc.heap[gb128]? = some (.cells #[.int .i64 0, .int .i64 0, .string (⟨#[]⟩ : ByteArray), .int .i64 0] 29 (0, 0))) ∧ Aside0 (Below w.heap.size w wc))
 case first =>
  have H := HC3.out
  clear HC3
  by_cases c5 : a1 < 0
  ·
   rw [if_pos c5] at H
   have c5b0 : decide (a1 < 0) = true := decide_eq_true c5
   clear c5
   (first | rw [c5b0] | (simp only [i64_w, i32_w]; rw [c5b0]) | skip)
   have H' := Aside0.mk H
   clear H
   go_wp2
   go_meet
   case rel => exact ⟨_, (true), rs, H', ⟨by first | omega | exact Nat.le_refl _⟩, ⟨bk BK128⟩, ⟨bb⟩⟩
  rw [if_neg c5] at H
  have c5b0 : decide (a1 < 0) = false := decide_eq_false c5
  clear c5
  (first | rw [c5b0] | (simp only [i64_w, i32_w]; rw [c5b0]) | skip)
  have H' := Aside0.mk H
  clear H
  go_wp2
  go_meet
  case rel => exact ⟨_, (decide (a1 > (l0.length : Int))), rs, H', ⟨by first | omega | exact Nat.le_refl _⟩, ⟨bk BK128⟩, ⟨bb⟩⟩
 case rest =>
  clear HC3
  try clear c1
  try clear p2
  try clear c5
  try clear c5b0
  obtain ⟨kq, x14_2, rfl, HA, HJ2, BK128, HB⟩ := hcut
  cases kq with
  | zero => exact absurd HA.out (by simp [lex_Next.j0])
  | succ kj2 =>
   have H := HA.out
   clear HA
   simp only [lex_Next.j0] at H
   by_cases c6 : x14_2 = true
   ·
    subst c6
    have H1 : (some (0, 0, (⟨#[]⟩ : ByteArray), 0, 1)) = some (r1, r2, r3, r4, r5) := by rw [if_pos rfl] at H; exact H
    clear H
    have H := H1
    clear H1
    simp only [Option.some.injEq, Prod.mk.injEq] at H
    obtain ⟨rfl, rfl, rfl, rfl, rfl⟩ := H
    obtain ⟨hcz7_0, hcz7_1, hcz7_2, hcz7_3, hfz7_0, hfz7_1, hfz7_2, hfz7_3⟩ := bo4 BK128
    go_wp2
    refine bodyPost_ret (results_ct rfl _ _ gb128 29 #[.int .i64 0, .int .i64 0, .string (⟨#[]⟩ : ByteArray), .int .i64 0] (0, 0) _ rfl (by refine bm ?_; refine blk_put (cs := #[.int .i64 0, .int .i64 0, .string (⟨#[]⟩ : ByteArray), .int .i64 0]) ?_ 3 _ rfl; refine bm ?_; refine blk_put (cs := #[.int .i64 0, .int .i64 0, .string (⟨#[]⟩ : ByteArray), .int .i64 0]) ?_ 2 _ rfl; refine bm ?_; refine blk_put (cs := #[.int .i64 0, .int .i64 0, .string (⟨#[]⟩ : ByteArray), .int .i64 0]) ?_ 1 _ rfl; refine bm ?_; refine blk_put (cs := #[.int .i64 0, .int .i64 0, .string (⟨#[]⟩ : ByteArray), .int .i64 0]) ?_ 0 _ rfl; refine bm ?_; exact BK128.out) Try.underlying29 rfl (by kernel_rfl)) rfl ?_
    exact ⟨ew, bb⟩
   replace c6 := Bool.eq_false_iff.mpr c6
   subst c6
   have H1 : ((lex_skip.f kj2 l0 a1).bind fun t129 => (if t129 = (l0.length : Int) then (some (4, t129, (⟨#[]⟩ : ByteArray), 0, 0)) else (if 0 ≤ t129 then (if t129 < (l0.length : Int) then ((lex_digit.f (rd l0 t129)).bind fun t131 => (if t131 = true then ((lex_number.f kj2 l0 t129).bind fun bt132 => (some (bt132.1, bt132.2.1, bt132.2.2.1, bt132.2.2.2.1, bt132.2.2.2.2))) else ((lex_letter.f (rd l0 t129)).bind fun t138 => (if t138 = true then ((lex_run.f kj2 l0 t129).bind fun t139 => (if (wrap64 (t139 - t129)) > 12 then (some (0, t129, (⟨#[]⟩ : ByteArray), 0, 3)) else (if t129 ≤ t139 then (if t139 ≤ (l0.length : Int) then (some (1, t129, strOfNums ((l0.take (t139 : Int).toNat).drop (t129 : Int).toNat), 0, 0)) else (none)) else (none)))) else ((lex_sign.f kj2 l0 t129).bind fun bt141 => (some (bt141.1, bt141.2.1, bt141.2.2.1, bt141.2.2.2.1, bt141.2.2.2.2))))))) else (none)) else (none)))) = some (r1, r2, r3, r4, r5) := by rw [if_neg (show ¬ (false = true) by decide)] at H; exact H
   clear H
   have H := H1
   clear H1
   replace H := Option.bind_eq_some_iff.mp H
   obtain ⟨t129, A80, H⟩ := H
   replace H : (if t129 = (l0.length : Int) then (some (4, t129, (⟨#[]⟩ : ByteArray), 0, 0)) else (if 0 ≤ t129 then (if t129 < (l0.length : Int) then ((lex_digit.f (rd l0 t129)).bind fun t131 => (if t131 = true then ((lex_number.f kj2 l0 t129).bind fun bt132 => (some (bt132.1, bt132.2.1, bt132.2.2.1, bt132.2.2.2.1, bt132.2.2.2.2))) else ((lex_letter.f (rd l0 t129)).bind fun t138 => (if t138 = true then ((lex_run.f kj2 l0 t129).bind fun t139 => (if (wrap64 (t139 - t129)) > 12 then (some (0, t129, (⟨#[]⟩ : ByteArray), 0, 3)) else (if t129 ≤ t139 then (if t139 ≤ (l0.length : Int) then (some (1, t129, strOfNums ((l0.take (t139 : Int).toNat).drop (t129 : Int).toNat), 0, 0)) else (none)) else (none)))) else ((lex_sign.f kj2 l0 t129).bind fun bt141 => (some (bt141.1, bt141.2.1, bt141.2.2.1, bt141.2.2.2.1, bt141.2.2.2.2))))))) else (none)) else (none))) = some (r1, r2, r3, r4, r5) := H
   have A8 := Aside0.mk A80
   clear A80
   by_cases c9 : t129 = (l0.length : Int)
   ·
    rw [if_pos c9] at H
    have c9b0 : (t129 == (l0.length : Int)) = true := beq_iff_eq.mpr c9
    have c9b1 : (t129 != (l0.length : Int)) = false := bne_eq_false_iff_eq.mpr c9
    clear c9
    simp only [Option.some.injEq, Prod.mk.injEq] at H
    obtain ⟨rfl, rfl, rfl, rfl, rfl⟩ := H
    go_wp2_with (first | ((with_reducible refine gate_callee (f := 20) rfl ?_); refine gl (some 18) Try.func20 #[.slice A0 l0.length c0, .int .i64 a1] ?_; (with_reducible refine (lex_skip.calls kj2 _ _ l0 a1 t129 _ ?side1 ?side2 A8.out).mono ?_); (case side1 => exact cw HR0 HB); (case side2 => exact HC0.out); rintro e w' ⟨rfl, ⟨nd, rfl⟩⟩; refine ⟨_, rfl, ?_⟩; (try (rw [drewN_self wc]; generalize hq_ : World.drewN wc _ = wc; have n0_ : Aside0 (wc.heap[gb128]? = some (.cells #[.int .i64 0, .int .i64 0, .string (⟨#[]⟩ : ByteArray), .int .i64 0] 29 (0, 0))) := ⟨by rw [← hq_]; exact (bk BK128)⟩; have n1_ : Aside0 (Below w.heap.size w wc) := ⟨by rw [← hq_]; exact bb⟩; clear BK128 HB hq_; have BK128 := n0_; have HB := n1_; clear n0_ n1_)); obtain ⟨hcz10_0, hcz10_1, hcz10_2, hcz10_3, hfz10_0, hfz10_1, hfz10_2, hfz10_3⟩ := bo4 BK128))
    refine bodyPost_ret (results_ct rfl _ _ gb128 29 #[.int .i64 4, .int .i64 t129, .string (⟨#[]⟩ : ByteArray), .int .i64 0] (0, 0) _ rfl (by refine bm ?_; refine blk_put (cs := #[.int .i64 4, .int .i64 t129, .string (⟨#[]⟩ : ByteArray), .int .i64 0]) ?_ 3 _ rfl; refine bm ?_; refine blk_put (cs := #[.int .i64 4, .int .i64 t129, .string (⟨#[]⟩ : ByteArray), .int .i64 0]) ?_ 2 _ rfl; refine bm ?_; refine blk_put (cs := #[.int .i64 4, .int .i64 0, .string (⟨#[]⟩ : ByteArray), .int .i64 0]) ?_ 1 _ rfl; refine bm ?_; refine blk_put (cs := #[.int .i64 0, .int .i64 0, .string (⟨#[]⟩ : ByteArray), .int .i64 0]) ?_ 0 _ rfl; refine bm ?_; exact BK128.out) Try.underlying29 rfl (by kernel_rfl)) rfl ?_
    exact ⟨ew, bb⟩
   rw [if_neg c9] at H
   have c9b0 : (t129 == (l0.length : Int)) = false := beq_eq_false_iff_ne.mpr c9
   have c9b1 : (t129 != (l0.length : Int)) = true := bne_iff_ne.mpr c9
   by_cases c11 : 0 ≤ t129
   rotate_left
   ·
    rw [if_neg c11] at H
    exact absurd H (by simp)
   rw [if_pos c11] at H
   have c11b0 : decide (0 ≤ t129) = true := decide_eq_true c11
   clear c11
   by_cases c12 : t129 < (l0.length : Int)
   rotate_left
   ·
    rw [if_neg c12] at H
    exact absurd H (by simp)
   rw [if_pos c12] at H
   have c12b0 : decide (t129 < (l0.length : Int)) = true := decide_eq_true c12
   clear c12
   replace H := Option.bind_eq_some_iff.mp H
   obtain ⟨t131, A130, H⟩ := H
   replace H : (if t131 = true then ((lex_number.f kj2 l0 t129).bind fun bt132 => (some (bt132.1, bt132.2.1, bt132.2.2.1, bt132.2.2.2.1, bt132.2.2.2.2))) else ((lex_letter.f (rd l0 t129)).bind fun t138 => (if t138 = true then ((lex_run.f kj2 l0 t129).bind fun t139 => (if (wrap64 (t139 - t129)) > 12 then (some (0, t129, (⟨#[]⟩ : ByteArray), 0, 3)) else (if t129 ≤ t139 then (if t139 ≤ (l0.length : Int) then (some (1, t129, strOfNums ((l0.take (t139 : Int).toNat).drop (t129 : Int).toNat), 0, 0)) else (none)) else (none)))) else ((lex_sign.f kj2 l0 t129).bind fun bt141 => (some (bt141.1, bt141.2.1, bt141.2.2.1, bt141.2.2.2.1, bt141.2.2.2.2)))))) = some (r1, r2, r3, r4, r5) := H
   have A13 := Aside0.mk A130
   clear A130
   by_cases c14 : t131 = true
   ·
    subst c14
    have H1 : ((lex_number.f kj2 l0 t129).bind fun bt132 => (some (bt132.1, bt132.2.1, bt132.2.2.1, bt132.2.2.2.1, bt132.2.2.2.2))) = some (r1, r2, r3, r4, r5) := by rw [if_pos rfl] at H; exact H
    clear H
    have H := H1
    clear H1
    replace H := Option.bind_eq_some_iff.mp H
    obtain ⟨⟨t132, t133, t134, t135, t136⟩, A150, H⟩ := H
    replace H : (some (t132, t133, t134, t135, t136)) = some (r1, r2, r3, r4, r5) := H
    have A15 := Aside0.mk A150
    clear A150
    simp only [Option.some.injEq, Prod.mk.injEq] at H
    obtain ⟨rfl, rfl, rfl, rfl, rfl⟩ := H
    go_wp2_with (first | ((with_reducible refine gate_callee (f := 20) rfl ?_); refine gl (some 18) Try.func20 #[.slice A0 l0.length c0, .int .i64 a1] ?_; (with_reducible refine (lex_skip.calls kj2 _ _ l0 a1 t129 _ ?side1 ?side2 A8.out).mono ?_); (case side1 => exact cw HR0 HB); (case side2 => exact HC0.out); rintro e w' ⟨rfl, ⟨nd, rfl⟩⟩; refine ⟨_, rfl, ?_⟩; (try (rw [drewN_self wc]; generalize hq_ : World.drewN wc _ = wc; have n0_ : Aside0 (wc.heap[gb128]? = some (.cells #[.int .i64 0, .int .i64 0, .string (⟨#[]⟩ : ByteArray), .int .i64 0] 29 (0, 0))) := ⟨by rw [← hq_]; exact (bk BK128)⟩; have n1_ : Aside0 (Below w.heap.size w wc) := ⟨by rw [← hq_]; exact bb⟩; clear BK128 HB hq_; have BK128 := n0_; have HB := n1_; clear n0_ n1_)); have p130 : 0 ≤ (t129 : Int) := od; have q130 : t129 < (l0.length : Int) := od; obtain ⟨ad130, e130, hx130_0⟩ := Kd.at_int HR0.out t129 p130 q130; cases e130; replace hx130_0 := bl HB hx130_0; replace p130 := eq_true p130; replace q130 := eq_true q130) | ((with_reducible refine gate_callee (f := 21) rfl ?_); refine gl (some 31) Try.func21 #[.int .u8 (rd l0 t129)] ?_; (with_reducible refine (lex_digit.calls (rd l0 t129) true _ A13.out).mono ?_); rintro e w' ⟨rfl, ⟨nd, rfl⟩⟩; refine ⟨_, rfl, ?_⟩; (try (rw [drewN_self wc]; generalize hq_ : World.drewN wc _ = wc; have n0_ : Aside0 (wc.heap[gb128]? = some (.cells #[.int .i64 0, .int .i64 0, .string (⟨#[]⟩ : ByteArray), .int .i64 0] 29 (0, 0))) := ⟨by rw [← hq_]; exact (bk BK128)⟩; have n1_ : Aside0 (Below w.heap.size w wc) := ⟨by rw [← hq_]; exact bb⟩; clear BK128 HB hq_; have BK128 := n0_; have HB := n1_; clear n0_ n1_))) | ((with_reducible refine gate_callee (f := 22) rfl ?_); refine gl (some 34) Try.func22 #[.slice (some ad130) l0.length c0, .int .i64 t129] ?_; (with_reducible refine (lex_number.calls kj2 _ _ l0 t129 t132 t133 t134 t135 t136 _ ?side1 ?side2 A15.out).mono ?_); (case side1 => exact cw HR0 HB); (case side2 => exact HC0.out); rintro e w16 ⟨rfl, hb⟩; refine ⟨_, rfl, ?_⟩; replace BK128 := Aside0.mk (blk_below (g := gb128) (o := .cells #[.int .i64 0, .int .i64 0, .string (⟨#[]⟩ : ByteArray), .int .i64 0] 29 (0, 0)) (bk BK128) hb); replace HB := Aside0.mk (below_step bb hb); (try clear hb); (try clear hb2); (try clear hk); (try clear hi); obtain ⟨hcz17_0, hcz17_1, hcz17_2, hcz17_3, hfz17_0, hfz17_1, hfz17_2, hfz17_3⟩ := bo4 BK128))
    refine bodyPost_ret (results_ct rfl _ _ gb128 29 #[.int .i64 t132, .int .i64 t133, .string t134, .int .i64 t135] (0, 0) _ rfl (by refine bm ?_; refine blk_put (cs := #[.int .i64 t132, .int .i64 t133, .string t134, .int .i64 0]) ?_ 3 _ rfl; refine bm ?_; refine blk_put (cs := #[.int .i64 t132, .int .i64 t133, .string (⟨#[]⟩ : ByteArray), .int .i64 0]) ?_ 2 _ rfl; refine bm ?_; refine blk_put (cs := #[.int .i64 t132, .int .i64 0, .string (⟨#[]⟩ : ByteArray), .int .i64 0]) ?_ 1 _ rfl; refine bm ?_; refine blk_put (cs := #[.int .i64 0, .int .i64 0, .string (⟨#[]⟩ : ByteArray), .int .i64 0]) ?_ 0 _ rfl; refine bm ?_; exact BK128.out) Try.underlying29 rfl (by kernel_rfl)) rfl ?_
    exact ⟨ew, bb⟩
   replace c14 := Bool.eq_false_iff.mpr c14
   subst c14
   have H1 : ((lex_letter.f (rd l0 t129)).bind fun t138 => (if t138 = true then ((lex_run.f kj2 l0 t129).bind fun t139 => (if (wrap64 (t139 - t129)) > 12 then (some (0, t129, (⟨#[]⟩ : ByteArray), 0, 3)) else (if t129 ≤ t139 then (if t139 ≤ (l0.length : Int) then (some (1, t129, strOfNums ((l0.take (t139 : Int).toNat).drop (t129 : Int).toNat), 0, 0)) else (none)) else (none)))) else ((lex_sign.f kj2 l0 t129).bind fun bt141 => (some (bt141.1, bt141.2.1, bt141.2.2.1, bt141.2.2.2.1, bt141.2.2.2.2))))) = some (r1, r2, r3, r4, r5) := by rw [if_neg (show ¬ (false = true) by decide)] at H; exact H
   clear H
   have H := H1
   clear H1
   replace H := Option.bind_eq_some_iff.mp H
   obtain ⟨t138, A180, H⟩ := H
   replace H : (if t138 = true then ((lex_run.f kj2 l0 t129).bind fun t139 => (if (wrap64 (t139 - t129)) > 12 then (some (0, t129, (⟨#[]⟩ : ByteArray), 0, 3)) else (if t129 ≤ t139 then (if t139 ≤ (l0.length : Int) then (some (1, t129, strOfNums ((l0.take (t139 : Int).toNat).drop (t129 : Int).toNat), 0, 0)) else (none)) else (none)))) else ((lex_sign.f kj2 l0 t129).bind fun bt141 => (some (bt141.1, bt141.2.1, bt141.2.2.1, bt141.2.2.2.1, bt141.2.2.2.2)))) = some (r1, r2, r3, r4, r5) := H
   have A18 := Aside0.mk A180
   clear A180
   by_cases c19 : t138 = true
   rotate_left
   ·
    replace c19 := Bool.eq_false_iff.mpr c19
    subst c19
    have H1 : ((lex_sign.f kj2 l0 t129).bind fun bt141 => (some (bt141.1, bt141.2.1, bt141.2.2.1, bt141.2.2.2.1, bt141.2.2.2.2))) = some (r1, r2, r3, r4, r5) := by rw [if_neg (show ¬ (false = true) by decide)] at H; exact H
    clear H
    have H := H1
    clear H1
    replace H := Option.bind_eq_some_iff.mp H
    obtain ⟨⟨t141, t142, t143, t144, t145⟩, A290, H⟩ := H
    replace H : (some (t141, t142, t143, t144, t145)) = some (r1, r2, r3, r4, r5) := H
    have A29 := Aside0.mk A290
    clear A290
    simp only [Option.some.injEq, Prod.mk.injEq] at H
    obtain ⟨rfl, rfl, rfl, rfl, rfl⟩ := H
    go_wp2_with (first | ((with_reducible refine gate_callee (f := 20) rfl ?_); refine gl (some 18) Try.func20 #[.slice A0 l0.length c0, .int .i64 a1] ?_; (with_reducible refine (lex_skip.calls kj2 _ _ l0 a1 t129 _ ?side1 ?side2 A8.out).mono ?_); (case side1 => exact cw HR0 HB); (case side2 => exact HC0.out); rintro e w' ⟨rfl, ⟨nd, rfl⟩⟩; refine ⟨_, rfl, ?_⟩; (try (rw [drewN_self wc]; generalize hq_ : World.drewN wc _ = wc; have n0_ : Aside0 (wc.heap[gb128]? = some (.cells #[.int .i64 0, .int .i64 0, .string (⟨#[]⟩ : ByteArray), .int .i64 0] 29 (0, 0))) := ⟨by rw [← hq_]; exact (bk BK128)⟩; have n1_ : Aside0 (Below w.heap.size w wc) := ⟨by rw [← hq_]; exact bb⟩; clear BK128 HB hq_; have BK128 := n0_; have HB := n1_; clear n0_ n1_)); have p130 : 0 ≤ (t129 : Int) := od; have q130 : t129 < (l0.length : Int) := od; obtain ⟨ad130, e130, hx130_0⟩ := Kd.at_int HR0.out t129 p130 q130; cases e130; replace hx130_0 := bl HB hx130_0; replace p130 := eq_true p130; replace q130 := eq_true q130) | ((with_reducible refine gate_callee (f := 21) rfl ?_); refine gl (some 31) Try.func21 #[.int .u8 (rd l0 t129)] ?_; (with_reducible refine (lex_digit.calls (rd l0 t129) false _ A13.out).mono ?_); rintro e w' ⟨rfl, ⟨nd, rfl⟩⟩; refine ⟨_, rfl, ?_⟩; (try (rw [drewN_self wc]; generalize hq_ : World.drewN wc _ = wc; have n0_ : Aside0 (wc.heap[gb128]? = some (.cells #[.int .i64 0, .int .i64 0, .string (⟨#[]⟩ : ByteArray), .int .i64 0] 29 (0, 0))) := ⟨by rw [← hq_]; exact (bk BK128)⟩; have n1_ : Aside0 (Below w.heap.size w wc) := ⟨by rw [← hq_]; exact bb⟩; clear BK128 HB hq_; have BK128 := n0_; have HB := n1_; clear n0_ n1_)); have p137 : 0 ≤ (t129 : Int) := od; have q137 : t129 < (l0.length : Int) := od; obtain ⟨ad137, e137, hx137_0⟩ := Kd.at_int HR0.out t129 p137 q137; obtain rfl : ad130 = ad137 := (by injection e137); replace hx137_0 := bl HB hx137_0; replace p137 := eq_true p137; replace q137 := eq_true q137) | ((with_reducible refine gate_callee (f := 16) rfl ?_); refine gl (some 42) Try.func16 #[.int .u8 (rd l0 t129)] ?_; (with_reducible refine (lex_letter.calls (rd l0 t129) false _ A18.out).mono ?_); rintro e w' ⟨rfl, ⟨nd, rfl⟩⟩; refine ⟨_, rfl, ?_⟩; (try (rw [drewN_self wc]; generalize hq_ : World.drewN wc _ = wc; have n0_ : Aside0 (wc.heap[gb128]? = some (.cells #[.int .i64 0, .int .i64 0, .string (⟨#[]⟩ : ByteArray), .int .i64 0] 29 (0, 0))) := ⟨by rw [← hq_]; exact (bk BK128)⟩; have n1_ : Aside0 (Below w.heap.size w wc) := ⟨by rw [← hq_]; exact bb⟩; clear BK128 HB hq_; have BK128 := n0_; have HB := n1_; clear n0_ n1_))) | ((with_reducible refine gate_callee (f := 23) rfl ?_); refine gl (some 46) Try.func23 #[.slice (some ad130) l0.length c0, .int .i64 t129] ?_; (with_reducible refine (lex_sign.calls kj2 _ _ l0 t129 t141 t142 t143 t144 t145 _ ?side1 ?side2 A29.out ?gside).mono ?_); (case gside => repeat (first | exact (GlobOK.below HG.out HB.out) | (with_reducible refine GlobOK.alloc HG.out ?_ _) | (with_reducible refine GlobOK.drewN ?_ _) | (with_reducible refine GlobOK.drew ?_) | (refine GlobOK.set HG.out (by with_reducible assumption) ?_))); (case side1 => exact cw HR0 HB); (case side2 => exact HC0.out); rintro e w30 ⟨rfl, hb⟩; refine ⟨_, rfl, ?_⟩; replace BK128 := Aside0.mk (blk_below (g := gb128) (o := .cells #[.int .i64 0, .int .i64 0, .string (⟨#[]⟩ : ByteArray), .int .i64 0] 29 (0, 0)) (bk BK128) hb); replace HB := Aside0.mk (below_step bb hb); (try clear hb); (try clear hb2); (try clear hk); (try clear hi); obtain ⟨hcz31_0, hcz31_1, hcz31_2, hcz31_3, hfz31_0, hfz31_1, hfz31_2, hfz31_3⟩ := bo4 BK128))
    refine bodyPost_ret (results_ct rfl _ _ gb128 29 #[.int .i64 t141, .int .i64 t142, .string t143, .int .i64 t144] (0, 0) _ rfl (by refine bm ?_; refine blk_put (cs := #[.int .i64 t141, .int .i64 t142, .string t143, .int .i64 0]) ?_ 3 _ rfl; refine bm ?_; refine blk_put (cs := #[.int .i64 t141, .int .i64 t142, .string (⟨#[]⟩ : ByteArray), .int .i64 0]) ?_ 2 _ rfl; refine bm ?_; refine blk_put (cs := #[.int .i64 t141, .int .i64 0, .string (⟨#[]⟩ : ByteArray), .int .i64 0]) ?_ 1 _ rfl; refine bm ?_; refine blk_put (cs := #[.int .i64 0, .int .i64 0, .string (⟨#[]⟩ : ByteArray), .int .i64 0]) ?_ 0 _ rfl; refine bm ?_; exact BK128.out) Try.underlying29 rfl (by kernel_rfl)) rfl ?_
    exact ⟨ew, bb⟩
   subst c19
   have H1 : ((lex_run.f kj2 l0 t129).bind fun t139 => (if (wrap64 (t139 - t129)) > 12 then (some (0, t129, (⟨#[]⟩ : ByteArray), 0, 3)) else (if t129 ≤ t139 then (if t139 ≤ (l0.length : Int) then (some (1, t129, strOfNums ((l0.take (t139 : Int).toNat).drop (t129 : Int).toNat), 0, 0)) else (none)) else (none)))) = some (r1, r2, r3, r4, r5) := by rw [if_pos rfl] at H; exact H
   clear H
   have H := H1
   clear H1
   replace H := Option.bind_eq_some_iff.mp H
   obtain ⟨t139, A200, H⟩ := H
   replace H : (if (wrap64 (t139 - t129)) > 12 then (some (0, t129, (⟨#[]⟩ : ByteArray), 0, 3)) else (if t129 ≤ t139 then (if t139 ≤ (l0.length : Int) then (some (1, t129, strOfNums ((l0.take (t139 : Int).toNat).drop (t129 : Int).toNat), 0, 0)) else (none)) else (none))) = some (r1, r2, r3, r4, r5) := H
   have A20 := Aside0.mk A200
   clear A200
   by_cases c21 : (wrap64 (t139 - t129)) > 12
   ·
    rw [if_pos c21] at H
    have c21b0 : decide (12 < (wrap64 (t139 - t129))) = true := decide_eq_true c21
    clear c21
    simp only [Option.some.injEq, Prod.mk.injEq] at H
    obtain ⟨rfl, rfl, rfl, rfl, rfl⟩ := H
    go_wp2_with (first | ((with_reducible refine gate_callee (f := 20) rfl ?_); refine gl (some 18) Try.func20 #[.slice A0 l0.length c0, .int .i64 a1] ?_; (with_reducible refine (lex_skip.calls kj2 _ _ l0 a1 t129 _ ?side1 ?side2 A8.out).mono ?_); (case side1 => exact cw HR0 HB); (case side2 => exact HC0.out); rintro e w' ⟨rfl, ⟨nd, rfl⟩⟩; refine ⟨_, rfl, ?_⟩; (try (rw [drewN_self wc]; generalize hq_ : World.drewN wc _ = wc; have n0_ : Aside0 (wc.heap[gb128]? = some (.cells #[.int .i64 0, .int .i64 0, .string (⟨#[]⟩ : ByteArray), .int .i64 0] 29 (0, 0))) := ⟨by rw [← hq_]; exact (bk BK128)⟩; have n1_ : Aside0 (Below w.heap.size w wc) := ⟨by rw [← hq_]; exact bb⟩; clear BK128 HB hq_; have BK128 := n0_; have HB := n1_; clear n0_ n1_)); have p130 : 0 ≤ (t129 : Int) := od; have q130 : t129 < (l0.length : Int) := od; obtain ⟨ad130, e130, hx130_0⟩ := Kd.at_int HR0.out t129 p130 q130; cases e130; replace hx130_0 := bl HB hx130_0; replace p130 := eq_true p130; replace q130 := eq_true q130) | ((with_reducible refine gate_callee (f := 21) rfl ?_); refine gl (some 31) Try.func21 #[.int .u8 (rd l0 t129)] ?_; (with_reducible refine (lex_digit.calls (rd l0 t129) false _ A13.out).mono ?_); rintro e w' ⟨rfl, ⟨nd, rfl⟩⟩; refine ⟨_, rfl, ?_⟩; (try (rw [drewN_self wc]; generalize hq_ : World.drewN wc _ = wc; have n0_ : Aside0 (wc.heap[gb128]? = some (.cells #[.int .i64 0, .int .i64 0, .string (⟨#[]⟩ : ByteArray), .int .i64 0] 29 (0, 0))) := ⟨by rw [← hq_]; exact (bk BK128)⟩; have n1_ : Aside0 (Below w.heap.size w wc) := ⟨by rw [← hq_]; exact bb⟩; clear BK128 HB hq_; have BK128 := n0_; have HB := n1_; clear n0_ n1_)); have p137 : 0 ≤ (t129 : Int) := od; have q137 : t129 < (l0.length : Int) := od; obtain ⟨ad137, e137, hx137_0⟩ := Kd.at_int HR0.out t129 p137 q137; obtain rfl : ad130 = ad137 := (by injection e137); replace hx137_0 := bl HB hx137_0; replace p137 := eq_true p137; replace q137 := eq_true q137) | ((with_reducible refine gate_callee (f := 16) rfl ?_); refine gl (some 42) Try.func16 #[.int .u8 (rd l0 t129)] ?_; (with_reducible refine (lex_letter.calls (rd l0 t129) true _ A18.out).mono ?_); rintro e w' ⟨rfl, ⟨nd, rfl⟩⟩; refine ⟨_, rfl, ?_⟩; (try (rw [drewN_self wc]; generalize hq_ : World.drewN wc _ = wc; have n0_ : Aside0 (wc.heap[gb128]? = some (.cells #[.int .i64 0, .int .i64 0, .string (⟨#[]⟩ : ByteArray), .int .i64 0] 29 (0, 0))) := ⟨by rw [← hq_]; exact (bk BK128)⟩; have n1_ : Aside0 (Below w.heap.size w wc) := ⟨by rw [← hq_]; exact bb⟩; clear BK128 HB hq_; have BK128 := n0_; have HB := n1_; clear n0_ n1_))) | ((with_reducible refine gate_callee (f := 17) rfl ?_); refine gl (some 51) Try.func17 #[.slice (some ad130) l0.length c0, .int .i64 t129] ?_; (with_reducible refine (lex_run.calls kj2 _ _ l0 t129 t139 _ ?side1 ?side2 A20.out).mono ?_); (case side1 => exact cw HR0 HB); (case side2 => exact HC0.out); rintro e w' ⟨rfl, ⟨nd, rfl⟩⟩; refine ⟨_, rfl, ?_⟩; (try (rw [drewN_self wc]; generalize hq_ : World.drewN wc _ = wc; have n0_ : Aside0 (wc.heap[gb128]? = some (.cells #[.int .i64 0, .int .i64 0, .string (⟨#[]⟩ : ByteArray), .int .i64 0] 29 (0, 0))) := ⟨by rw [← hq_]; exact (bk BK128)⟩; have n1_ : Aside0 (Below w.heap.size w wc) := ⟨by rw [← hq_]; exact bb⟩; clear BK128 HB hq_; have BK128 := n0_; have HB := n1_; clear n0_ n1_)); obtain ⟨hcz22_0, hcz22_1, hcz22_2, hcz22_3, hfz22_0, hfz22_1, hfz22_2, hfz22_3⟩ := bo4 BK128))
    refine bodyPost_ret (results_ct rfl _ _ gb128 29 #[.int .i64 0, .int .i64 t129, .string (⟨#[]⟩ : ByteArray), .int .i64 0] (0, 0) _ rfl (by refine bm ?_; refine blk_put (cs := #[.int .i64 0, .int .i64 t129, .string (⟨#[]⟩ : ByteArray), .int .i64 0]) ?_ 3 _ rfl; refine bm ?_; refine blk_put (cs := #[.int .i64 0, .int .i64 t129, .string (⟨#[]⟩ : ByteArray), .int .i64 0]) ?_ 2 _ rfl; refine bm ?_; refine blk_put (cs := #[.int .i64 0, .int .i64 0, .string (⟨#[]⟩ : ByteArray), .int .i64 0]) ?_ 1 _ rfl; refine bm ?_; refine blk_put (cs := #[.int .i64 0, .int .i64 0, .string (⟨#[]⟩ : ByteArray), .int .i64 0]) ?_ 0 _ rfl; refine bm ?_; exact BK128.out) Try.underlying29 rfl (by kernel_rfl)) rfl ?_
    exact ⟨ew, bb⟩
   rw [if_neg c21] at H
   have c21b0 : decide (12 < (wrap64 (t139 - t129))) = false := decide_eq_false c21
   clear c21
   have c23b0 := eq_true (od : 0 ≤ t129)
   by_cases c24 : t129 ≤ t139
   rotate_left
   ·
    rw [if_neg c24] at H
    exact absurd H (by simp)
   rw [if_pos c24] at H
   have c24b0 := eq_true c24
   have c24b1 : decide (t129 ≤ t139) = true := decide_eq_true c24
   clear c24
   by_cases c25 : t139 ≤ (l0.length : Int)
   rotate_left
   ·
    rw [if_neg c25] at H
    exact absurd H (by simp)
   rw [if_pos c25] at H
   have c25b0 := eq_true c25
   have c25b1 : decide (t139 ≤ (l0.length : Int)) = true := decide_eq_true c25
   clear c25
   simp only [Option.some.injEq, Prod.mk.injEq] at H
   obtain ⟨rfl, rfl, rfl, rfl, rfl⟩ := H
   go_wp2_with (first | ((with_reducible refine gate_callee (f := 20) rfl ?_); refine gl (some 18) Try.func20 #[.slice A0 l0.length c0, .int .i64 a1] ?_; (with_reducible refine (lex_skip.calls kj2 _ _ l0 a1 t129 _ ?side1 ?side2 A8.out).mono ?_); (case side1 => exact cw HR0 HB); (case side2 => exact HC0.out); rintro e w' ⟨rfl, ⟨nd, rfl⟩⟩; refine ⟨_, rfl, ?_⟩; (try (rw [drewN_self wc]; generalize hq_ : World.drewN wc _ = wc; have n0_ : Aside0 (wc.heap[gb128]? = some (.cells #[.int .i64 0, .int .i64 0, .string (⟨#[]⟩ : ByteArray), .int .i64 0] 29 (0, 0))) := ⟨by rw [← hq_]; exact (bk BK128)⟩; have n1_ : Aside0 (Below w.heap.size w wc) := ⟨by rw [← hq_]; exact bb⟩; clear BK128 HB hq_; have BK128 := n0_; have HB := n1_; clear n0_ n1_)); have p130 : 0 ≤ (t129 : Int) := od; have q130 : t129 < (l0.length : Int) := od; obtain ⟨ad130, e130, hx130_0⟩ := Kd.at_int HR0.out t129 p130 q130; cases e130; replace hx130_0 := bl HB hx130_0; replace p130 := eq_true p130; replace q130 := eq_true q130) | ((with_reducible refine gate_callee (f := 21) rfl ?_); refine gl (some 31) Try.func21 #[.int .u8 (rd l0 t129)] ?_; (with_reducible refine (lex_digit.calls (rd l0 t129) false _ A13.out).mono ?_); rintro e w' ⟨rfl, ⟨nd, rfl⟩⟩; refine ⟨_, rfl, ?_⟩; (try (rw [drewN_self wc]; generalize hq_ : World.drewN wc _ = wc; have n0_ : Aside0 (wc.heap[gb128]? = some (.cells #[.int .i64 0, .int .i64 0, .string (⟨#[]⟩ : ByteArray), .int .i64 0] 29 (0, 0))) := ⟨by rw [← hq_]; exact (bk BK128)⟩; have n1_ : Aside0 (Below w.heap.size w wc) := ⟨by rw [← hq_]; exact bb⟩; clear BK128 HB hq_; have BK128 := n0_; have HB := n1_; clear n0_ n1_)); have p137 : 0 ≤ (t129 : Int) := od; have q137 : t129 < (l0.length : Int) := od; obtain ⟨ad137, e137, hx137_0⟩ := Kd.at_int HR0.out t129 p137 q137; obtain rfl : ad130 = ad137 := (by injection e137); replace hx137_0 := bl HB hx137_0; replace p137 := eq_true p137; replace q137 := eq_true q137) | ((with_reducible refine gate_callee (f := 16) rfl ?_); refine gl (some 42) Try.func16 #[.int .u8 (rd l0 t129)] ?_; (with_reducible refine (lex_letter.calls (rd l0 t129) true _ A18.out).mono ?_); rintro e w' ⟨rfl, ⟨nd, rfl⟩⟩; refine ⟨_, rfl, ?_⟩; (try (rw [drewN_self wc]; generalize hq_ : World.drewN wc _ = wc; have n0_ : Aside0 (wc.heap[gb128]? = some (.cells #[.int .i64 0, .int .i64 0, .string (⟨#[]⟩ : ByteArray), .int .i64 0] 29 (0, 0))) := ⟨by rw [← hq_]; exact (bk BK128)⟩; have n1_ : Aside0 (Below w.heap.size w wc) := ⟨by rw [← hq_]; exact bb⟩; clear BK128 HB hq_; have BK128 := n0_; have HB := n1_; clear n0_ n1_))) | ((with_reducible refine gate_callee (f := 17) rfl ?_); refine gl (some 51) Try.func17 #[.slice (some ad130) l0.length c0, .int .i64 t129] ?_; (with_reducible refine (lex_run.calls kj2 _ _ l0 t129 t139 _ ?side1 ?side2 A20.out).mono ?_); (case side1 => exact cw HR0 HB); (case side2 => exact HC0.out); rintro e w' ⟨rfl, ⟨nd, rfl⟩⟩; refine ⟨_, rfl, ?_⟩; (try (rw [drewN_self wc]; generalize hq_ : World.drewN wc _ = wc; have n0_ : Aside0 (wc.heap[gb128]? = some (.cells #[.int .i64 0, .int .i64 0, .string (⟨#[]⟩ : ByteArray), .int .i64 0] 29 (0, 0))) := ⟨by rw [← hq_]; exact (bk BK128)⟩; have n1_ : Aside0 (Below w.heap.size w wc) := ⟨by rw [← hq_]; exact bb⟩; clear BK128 HB hq_; have BK128 := n0_; have HB := n1_; clear n0_ n1_)); obtain ⟨i026, hi026, _, hsz26, _⟩ := info_parts info5; obtain ⟨A26, hcut26, hA26, hC26⟩ := print_mid_of (P := Try.prog) (Value.int .u8) 0 22 5 .i64 .i64 Try.underlying22 hi026 hsz26 (some ad130) c0 l0 t129 t139 (od) (by first | omega | exact od) (od) HC0.out; have HR140 := Aside0.mk (Kd.C_of_reads (h1 := fun _ => rfl) (hA26 _ (Kd.reads_of_C HR0.out))); have HC140 := Aside0.mk hC26; clear hA26 hC26 hi026 hsz26; have hcv27 := Kd.C_string (P := Try.prog) (A := A26) (c := (c0 - t129.toNat)) Try.underlying22 Try.underlying5 Try.underlying9 (Kd.C_below HR140.out HB.out); have hcv27b := hcv27; (try rw [List.length_drop, List.length_take, Nat.min_eq_left (Int.toNat_le.mpr (od))] at hcv27b); obtain ⟨hcz28_0, hcz28_1, hcz28_2, hcz28_3, hfz28_0, hfz28_1, hfz28_2, hfz28_3⟩ := bo4 BK128))
   refine bodyPost_ret (results_ct rfl _ _ gb128 29 #[.int .i64 1, .int .i64 t129, .string (strOfNums ((l0.take (t139 : Int).toNat).drop (t129 : Int).toNat)), .int .i64 0] (0, 0) _ rfl (by refine bm ?_; refine blk_put (cs := #[.int .i64 1, .int .i64 t129, .string (strOfNums ((l0.take (t139 : Int).toNat).drop (t129 : Int).toNat)), .int .i64 0]) ?_ 3 _ rfl; refine bm ?_; refine blk_put (cs := #[.int .i64 1, .int .i64 t129, .string (⟨#[]⟩ : ByteArray), .int .i64 0]) ?_ 2 _ rfl; refine bm ?_; refine blk_put (cs := #[.int .i64 1, .int .i64 0, .string (⟨#[]⟩ : ByteArray), .int .i64 0]) ?_ 1 _ rfl; refine bm ?_; refine blk_put (cs := #[.int .i64 0, .int .i64 0, .string (⟨#[]⟩ : ByteArray), .int .i64 0]) ?_ 0 _ rfl; refine bm ?_; exact BK128.out) Try.underlying29 rfl (by kernel_rfl)) rfl ?_
   exact ⟨ew, bb⟩

/-! ### lex_All: function 6 -/
def lex_All.l0 : Nat → List Int → List (S29) → Int → Option ((List (S29)) × Int × Int)
  | 0, _, _, _ => none
  | k + 1, x0, x5, x6 => (lex_Next.f k x0 x6).bind fun bt146 => (if bt146.2.2.2.2 = 0 then (if (x5.length : Int) = 8192 then (some (([] : List (S29)), bt146.2.1, 3)) else (if x5.length < 3518437208883 then ((some (x5 ++ [(⟨bt146.1, bt146.2.1, bt146.2.2.1, bt146.2.2.2.1⟩ : S29)] : List (S29))).bind fun y152 => (if bt146.1 = 4 then (some (y152, 0, 0)) else (lex_All.l0 k x0 y152 (wrap64 (bt146.2.1 + (bt146.2.2.1.size : Int)))))) else (none))) else (some (([] : List (S29)), bt146.2.1, bt146.2.2.2.2)))
def lex_All.f (k : Nat) (l0 : List Int) : Option ((List (S29)) × Int × Int) := if (l0.length : Int) > 32768 then (some (([] : List (S29)), 0, 3)) else (lex_All.l0 k l0 ([] : List (S29)) 0)
theorem lex_All.mono_l : ∀ k, (∀ y0 y1 y2, LeO (lex_All.l0 k y0 y1 y2) (lex_All.l0 (k + 1) y0 y1 y2))
  | 0 => fun _ _ _ r h => by simp [lex_All.l0] at h
  | k + 1 => by
    have ih0 := lex_All.mono_l k
    · intro y0 y1 y2
      unfold lex_All.l0
      repeat' first
      | (with_reducible exact ih0 _ _ _)
      | (with_reducible exact lex_Next.mono _ _ _)
      | (with_reducible exact LeO.refl _)
      | (with_reducible exact LeO.none _)
      | (with_reducible refine LeO.ite ?_ ?_)
      | (with_reducible refine LeO.bind ?_ (fun _ => ?_))
      | exact ih0 _ _ _
      | exact lex_Next.mono _ _ _
      | exact LeO.none _
      | refine LeO.ite ?_ ?_
      | refine LeO.bind ?_ (fun _ => ?_)
theorem lex_All.mono : ∀ a0 k, LeO (lex_All.f k a0) (lex_All.f (k + 1) a0) := by
  intro a0 k
  have ih0 := lex_All.mono_l k
  unfold lex_All.f
  repeat' first
      | (with_reducible exact ih0 _ _ _)
      | (with_reducible exact lex_Next.mono _ _ _)
      | (with_reducible exact LeO.refl _)
      | (with_reducible exact LeO.none _)
      | (with_reducible refine LeO.ite ?_ ?_)
      | (with_reducible refine LeO.bind ?_ (fun _ => ?_))
      | exact ih0 _ _ _
      | exact lex_Next.mono _ _ _
      | exact LeO.none _
      | refine LeO.ite ?_ ?_
      | refine LeO.bind ?_ (fun _ => ?_)
set_option maxHeartbeats 8000000 in
set_option maxRecDepth 100000 in
theorem lex_All.calls (k : Nat) (A0 : Option Addr) (c0 : Nat) (l0 : List Int) (r1 : List (S29)) (r2 : Int) (r3 : Int) (w : World) (hr0 : Kd.C (Kd.int .u8) w A0 l0.length l0) (hc0 : l0.length ≤ c0) (h : lex_All.f k l0 = some (r1, r2, r3)) (hG : GlobOK w) :
    Calls Try.prog 6 #[.slice A0 l0.length c0] w fun e w' => ∃ v0_ : Value, e = .returned (.tuple #[v0_, .int .i64 r2, .int .i64 r3]) ∧ Kd.R k29 29 w' w.heap.size (fun _ => True) v0_ r1 ∧ Below w.heap.size w w' := by
 have HG := Aside0.mk hG
 clear hG
 have hu29 := Try.underlying29
 have HR0 := Aside0.mk hr0
 have HC0 := Aside0.mk hc0
 clear hr0 hc0
 have HB := Aside0.mk (Below.refl w.heap.size w)
 have H : (if (l0.length : Int) > 32768 then (some (([] : List (S29)), 0, 3)) else (lex_All.l0 k l0 ([] : List (S29)) 0)) = some (r1, r2, r3) := h
 clear h
 by_cases c2 : (l0.length : Int) > 32768
 ·
  rw [if_pos c2] at H
  have c2b0 : decide (32768 < (l0.length : Int)) = true := decide_eq_true c2
  have c2b1 : decide (32768 < l0.length) = true := decide_eq_true (by omega)
  clear c2
  simp only [Option.some.injEq, Prod.mk.injEq] at H
  obtain ⟨rfl, rfl, rfl⟩ := H
  go_enter Try.func6, Try.ntmps6
  go_wp2
  repeat (go_quiet (fail); try go_wp2)
  go_ret3
  exact ⟨_, ew, by first | exact Kd.R_nil _ _ _ _ _ | exact Kd.N_nil _ _ _ _ _ | exact Kd.V_nil _ _ _ _ _ | exact Kd.Q_nil _ _ _ _ _ | exact Kd.S_nil _ _ _ _ _, bb⟩
 rw [if_neg c2] at H
 have c2b0 : decide (32768 < (l0.length : Int)) = false := decide_eq_false c2
 have c2b1 : decide (32768 < l0.length) = false := decide_eq_false (by omega)
 clear c2
 have H' := Aside0.mk H
 clear H
 go_enter Try.func6, Try.ntmps6
 go_wp2
 repeat (go_quiet (fail); try go_wp2)
 go_loopg [5, 6] k (fun kq v5 v6 w' => ∃ (x5_1 : List (S29)) (x6_1 : Int), v6 = .int .i64 x6_1 ∧ Aside0 (lex_All.l0 kq l0 x5_1 x6_1 = some (r1, r2, r3)) ∧ Aside0 (kq ≤ k) ∧ Aside0 (Kd.R k29 29 w' w.heap.size (fun _ => True) v5 x5_1) ∧ Aside0 (Below w.heap.size w w'))
 case atStart => exact ⟨(([] : List (S29))), (0), rs, H', ⟨Nat.le_refl _⟩, ⟨by first | exact Kd.R_nil _ _ _ _ _ | exact Kd.N_nil _ _ _ _ _ | exact Kd.V_nil _ _ _ _ _ | exact Kd.Q_nil _ _ _ _ _ | exact Kd.S_nil _ _ _ _ _⟩, ⟨bb⟩⟩
 case round =>
  clear H'
  try clear c2
  try clear c2b0
  try clear c2b1
  try clear p2
  obtain ⟨x5_1, x6_1, rfl, HA, HK1, HO_5, HB⟩ := hrel
  cases gk with
  | zero => exact absurd HA.out (by simp [lex_All.l0])
  | succ k1 =>
   have H := HA.out
   clear HA
   simp only [lex_All.l0] at H
   replace H := Option.bind_eq_some_iff.mp H
   obtain ⟨⟨t146, t147, t148, t149, t150⟩, A30, H⟩ := H
   replace H : (if t150 = 0 then (if (x5_1.length : Int) = 8192 then (some (([] : List (S29)), t147, 3)) else (if x5_1.length < 3518437208883 then ((some (x5_1 ++ [(⟨t146, t147, t148, t149⟩ : S29)] : List (S29))).bind fun y152 => (if t146 = 4 then (some (y152, 0, 0)) else (lex_All.l0 k1 l0 y152 (wrap64 (t147 + (t148.size : Int)))))) else (none))) else (some (([] : List (S29)), t147, t150))) = some (r1, r2, r3) := H
   have A3 := Aside0.mk A30
   clear A30
   by_cases c4 : t150 = 0
   rotate_left
   ·
    rw [if_neg c4] at H
    have c4b0 : (t150 == 0) = false := beq_eq_false_iff_ne.mpr c4
    have c4b1 : (t150 != 0) = true := bne_iff_ne.mpr c4
    simp only [Option.some.injEq, Prod.mk.injEq] at H
    obtain ⟨rfl, rfl, rfl⟩ := H
    go_wp2_with (first | (go_at_call 12; (with_reducible refine (lex_Next.calls k1 _ _ l0 x6_1 t146 t147 t148 t149 t150 _ ?side1 ?side2 A3.out ?gside).mono ?_); (case gside => repeat (first | exact (GlobOK.below HG.out HB.out) | (with_reducible refine GlobOK.alloc HG.out ?_ _) | (with_reducible refine GlobOK.drewN ?_ _) | (with_reducible refine GlobOK.drew ?_) | (refine GlobOK.set HG.out (by with_reducible assumption) ?_))); (case side1 => exact cw HR0 HB); (case side2 => exact HC0.out); rintro e w24 ⟨rfl, hb⟩; replace HO_5 := Aside0.mk (Kd.R_below (rk HO_5) hb); replace HB := Aside0.mk (below_step bb hb); (try clear hb); (try clear hb2); (try clear hk); (try clear hi)) | ((with_reducible refine gate_dst (N := 7) rfl ?_); refine bx 7 #[.int .i64 0, .int .i64 0, .string (⟨#[]⟩ : ByteArray), .int .i64 0] 29 ?_; intro gb151 hg w25 hbox hb; replace HO_5 := Aside0.mk (Kd.R_below (Kd.R_elderB (rk HO_5) gb151 (Nat.le_of_eq hg.symm)) hb); have BK151 := Aside0.mk (hbox); have GW151 := Aside0.mk ((bz hg : w.heap.size ≤ gb151)); have GE151 := Aside0.mk ((bz hg : w.heap.size ≤ gb151)); replace HB := Aside0.mk (below_step bb hb); clear hb hbox hg; obtain ⟨hcz26_0, hcz26_1, hcz26_2, hcz26_3, hfz26_0, hfz26_1, hfz26_2, hfz26_3⟩ := bo4 BK151))
    repeat (go_quiet (first | (go_at_call 12; (with_reducible refine (lex_Next.calls k1 _ _ l0 x6_1 t146 t147 t148 t149 t150 _ ?side1 ?side2 A3.out ?gside).mono ?_); (case gside => repeat (first | exact (GlobOK.below HG.out HB.out) | (with_reducible refine GlobOK.alloc HG.out ?_ _) | (with_reducible refine GlobOK.drewN ?_ _) | (with_reducible refine GlobOK.drew ?_) | (refine GlobOK.set HG.out (by with_reducible assumption) ?_))); (case side1 => exact cw HR0 HB); (case side2 => exact HC0.out); rintro e w24 ⟨rfl, hb⟩; replace HO_5 := Aside0.mk (Kd.R_below (rk HO_5) hb); replace HB := Aside0.mk (below_step bb hb); (try clear hb); (try clear hb2); (try clear hk); (try clear hi)) | ((with_reducible refine gate_dst (N := 7) rfl ?_); refine bx 7 #[.int .i64 0, .int .i64 0, .string (⟨#[]⟩ : ByteArray), .int .i64 0] 29 ?_; intro gb151 hg w25 hbox hb; replace HO_5 := Aside0.mk (Kd.R_below (Kd.R_elderB (rk HO_5) gb151 (Nat.le_of_eq hg.symm)) hb); have BK151 := Aside0.mk (hbox); have GW151 := Aside0.mk ((bz hg : w.heap.size ≤ gb151)); have GE151 := Aside0.mk ((bz hg : w.heap.size ≤ gb151)); replace HB := Aside0.mk (below_step bb hb); clear hb hbox hg; obtain ⟨hcz26_0, hcz26_1, hcz26_2, hcz26_3, hfz26_0, hfz26_1, hfz26_2, hfz26_3⟩ := bo4 BK151)); try go_wp2_with (first | (go_at_call 12; (with_reducible refine (lex_Next.calls k1 _ _ l0 x6_1 t146 t147 t148 t149 t150 _ ?side1 ?side2 A3.out ?gside).mono ?_); (case gside => repeat (first | exact (GlobOK.below HG.out HB.out) | (with_reducible refine GlobOK.alloc HG.out ?_ _) | (with_reducible refine GlobOK.drewN ?_ _) | (with_reducible refine GlobOK.drew ?_) | (refine GlobOK.set HG.out (by with_reducible assumption) ?_))); (case side1 => exact cw HR0 HB); (case side2 => exact HC0.out); rintro e w24 ⟨rfl, hb⟩; replace HO_5 := Aside0.mk (Kd.R_below (rk HO_5) hb); replace HB := Aside0.mk (below_step bb hb); (try clear hb); (try clear hb2); (try clear hk); (try clear hi)) | ((with_reducible refine gate_dst (N := 7) rfl ?_); refine bx 7 #[.int .i64 0, .int .i64 0, .string (⟨#[]⟩ : ByteArray), .int .i64 0] 29 ?_; intro gb151 hg w25 hbox hb; replace HO_5 := Aside0.mk (Kd.R_below (Kd.R_elderB (rk HO_5) gb151 (Nat.le_of_eq hg.symm)) hb); have BK151 := Aside0.mk (hbox); have GW151 := Aside0.mk ((bz hg : w.heap.size ≤ gb151)); have GE151 := Aside0.mk ((bz hg : w.heap.size ≤ gb151)); replace HB := Aside0.mk (below_step bb hb); clear hb hbox hg; obtain ⟨hcz26_0, hcz26_1, hcz26_2, hcz26_3, hfz26_0, hfz26_1, hfz26_2, hfz26_3⟩ := bo4 BK151)))
    go_ret3
    exact ⟨_, ew, by first | exact Kd.R_nil _ _ _ _ _ | exact Kd.N_nil _ _ _ _ _ | exact Kd.V_nil _ _ _ _ _ | exact Kd.Q_nil _ _ _ _ _ | exact Kd.S_nil _ _ _ _ _, bb⟩
   rw [if_pos c4] at H
   have c4b0 : (t150 == 0) = true := beq_iff_eq.mpr c4
   have c4b1 : (t150 != 0) = false := bne_eq_false_iff_eq.mpr c4
   clear c4
   by_cases c5 : (x5_1.length : Int) = 8192
   ·
    rw [if_pos c5] at H
    have c5b0 : ((x5_1.length : Int) == 8192) = true := beq_iff_eq.mpr c5
    have c5b1 : ((x5_1.length : Int) != 8192) = false := bne_eq_false_iff_eq.mpr c5
    clear c5
    simp only [Option.some.injEq, Prod.mk.injEq] at H
    obtain ⟨rfl, rfl, rfl⟩ := H
    go_wp2_with (first | (go_at_call 12; (with_reducible refine (lex_Next.calls k1 _ _ l0 x6_1 t146 t147 t148 t149 t150 _ ?side1 ?side2 A3.out ?gside).mono ?_); (case gside => repeat (first | exact (GlobOK.below HG.out HB.out) | (with_reducible refine GlobOK.alloc HG.out ?_ _) | (with_reducible refine GlobOK.drewN ?_ _) | (with_reducible refine GlobOK.drew ?_) | (refine GlobOK.set HG.out (by with_reducible assumption) ?_))); (case side1 => exact cw HR0 HB); (case side2 => exact HC0.out); rintro e w6 ⟨rfl, hb⟩; replace HO_5 := Aside0.mk (Kd.R_below (rk HO_5) hb); replace HB := Aside0.mk (below_step bb hb); (try clear hb); (try clear hb2); (try clear hk); (try clear hi)) | ((with_reducible refine gate_dst (N := 7) rfl ?_); refine bx 7 #[.int .i64 0, .int .i64 0, .string (⟨#[]⟩ : ByteArray), .int .i64 0] 29 ?_; intro gb151 hg w7 hbox hb; replace HO_5 := Aside0.mk (Kd.R_below (Kd.R_elderB (rk HO_5) gb151 (Nat.le_of_eq hg.symm)) hb); have BK151 := Aside0.mk (hbox); have GW151 := Aside0.mk ((bz hg : w.heap.size ≤ gb151)); have GE151 := Aside0.mk ((bz hg : w.heap.size ≤ gb151)); replace HB := Aside0.mk (below_step bb hb); clear hb hbox hg; obtain ⟨hcz8_0, hcz8_1, hcz8_2, hcz8_3, hfz8_0, hfz8_1, hfz8_2, hfz8_3⟩ := bo4 BK151; obtain ⟨Ao9, co9, eo9⟩ := Kd.R_slice HO_5.out; subst eo9))
    repeat (go_quiet (first | (go_at_call 12; (with_reducible refine (lex_Next.calls k1 _ _ l0 x6_1 t146 t147 t148 t149 t150 _ ?side1 ?side2 A3.out ?gside).mono ?_); (case gside => repeat (first | exact (GlobOK.below HG.out HB.out) | (with_reducible refine GlobOK.alloc HG.out ?_ _) | (with_reducible refine GlobOK.drewN ?_ _) | (with_reducible refine GlobOK.drew ?_) | (refine GlobOK.set HG.out (by with_reducible assumption) ?_))); (case side1 => exact cw HR0 HB); (case side2 => exact HC0.out); rintro e w6 ⟨rfl, hb⟩; replace HO_5 := Aside0.mk (Kd.R_below (rk HO_5) hb); replace HB := Aside0.mk (below_step bb hb); (try clear hb); (try clear hb2); (try clear hk); (try clear hi)) | ((with_reducible refine gate_dst (N := 7) rfl ?_); refine bx 7 #[.int .i64 0, .int .i64 0, .string (⟨#[]⟩ : ByteArray), .int .i64 0] 29 ?_; intro gb151 hg w7 hbox hb; replace HO_5 := Aside0.mk (Kd.R_below (Kd.R_elderB (rk HO_5) gb151 (Nat.le_of_eq hg.symm)) hb); have BK151 := Aside0.mk (hbox); have GW151 := Aside0.mk ((bz hg : w.heap.size ≤ gb151)); have GE151 := Aside0.mk ((bz hg : w.heap.size ≤ gb151)); replace HB := Aside0.mk (below_step bb hb); clear hb hbox hg; obtain ⟨hcz8_0, hcz8_1, hcz8_2, hcz8_3, hfz8_0, hfz8_1, hfz8_2, hfz8_3⟩ := bo4 BK151; obtain ⟨Ao9, co9, eo9⟩ := Kd.R_slice HO_5.out; subst eo9)); try go_wp2_with (first | (go_at_call 12; (with_reducible refine (lex_Next.calls k1 _ _ l0 x6_1 t146 t147 t148 t149 t150 _ ?side1 ?side2 A3.out ?gside).mono ?_); (case gside => repeat (first | exact (GlobOK.below HG.out HB.out) | (with_reducible refine GlobOK.alloc HG.out ?_ _) | (with_reducible refine GlobOK.drewN ?_ _) | (with_reducible refine GlobOK.drew ?_) | (refine GlobOK.set HG.out (by with_reducible assumption) ?_))); (case side1 => exact cw HR0 HB); (case side2 => exact HC0.out); rintro e w6 ⟨rfl, hb⟩; replace HO_5 := Aside0.mk (Kd.R_below (rk HO_5) hb); replace HB := Aside0.mk (below_step bb hb); (try clear hb); (try clear hb2); (try clear hk); (try clear hi)) | ((with_reducible refine gate_dst (N := 7) rfl ?_); refine bx 7 #[.int .i64 0, .int .i64 0, .string (⟨#[]⟩ : ByteArray), .int .i64 0] 29 ?_; intro gb151 hg w7 hbox hb; replace HO_5 := Aside0.mk (Kd.R_below (Kd.R_elderB (rk HO_5) gb151 (Nat.le_of_eq hg.symm)) hb); have BK151 := Aside0.mk (hbox); have GW151 := Aside0.mk ((bz hg : w.heap.size ≤ gb151)); have GE151 := Aside0.mk ((bz hg : w.heap.size ≤ gb151)); replace HB := Aside0.mk (below_step bb hb); clear hb hbox hg; obtain ⟨hcz8_0, hcz8_1, hcz8_2, hcz8_3, hfz8_0, hfz8_1, hfz8_2, hfz8_3⟩ := bo4 BK151; obtain ⟨Ao9, co9, eo9⟩ := Kd.R_slice HO_5.out; subst eo9)))
    go_ret3
    exact ⟨_, ew, by first | exact Kd.R_nil _ _ _ _ _ | exact Kd.N_nil _ _ _ _ _ | exact Kd.V_nil _ _ _ _ _ | exact Kd.Q_nil _ _ _ _ _ | exact Kd.S_nil _ _ _ _ _, bb⟩
   rw [if_neg c5] at H
   have c5b0 : ((x5_1.length : Int) == 8192) = false := beq_eq_false_iff_ne.mpr c5
   have c5b1 : ((x5_1.length : Int) != 8192) = true := bne_iff_ne.mpr c5
   by_cases c10 : x5_1.length < 3518437208883
   rotate_left
   ·
    rw [if_neg c10] at H
    exact absurd H (by simp)
   rw [if_pos c10] at H
   have LMc10 := Aside0.mk c10
   clear c10
   obtain ⟨y152, hy152⟩ : ∃ y_ : List (S29), y_ = (x5_1 ++ [(⟨t146, t147, t148, t149⟩ : S29)]) := ⟨_, rfl⟩
   replace H : (if t146 = 4 then (some (y152, 0, 0)) else (lex_All.l0 k1 l0 y152 (wrap64 (t147 + (t148.size : Int))))) = some (r1, r2, r3) := by first | (rw [hy152]; with_reducible exact H) | (have H2_ := (Option.bind_some _ _).symm.trans H; rw [hy152]; with_reducible exact H2_) | (have H2_ := (Option.bind_some _ _).symm.trans H; with_reducible exact H2_) | with_reducible exact H | (rw [hy152]; exact H) | exact H
   have Ny152 := Aside0.mk hy152
   clear hy152
   by_cases c11 : t146 = 4
   ·
    rw [if_pos c11] at H
    have c11b0 : (t146 == 4) = true := beq_iff_eq.mpr c11
    have c11b1 : (t146 != 4) = false := bne_eq_false_iff_eq.mpr c11
    clear c11
    simp only [Option.some.injEq, Prod.mk.injEq] at H
    obtain ⟨rfl, rfl, rfl⟩ := H
    go_wp2_with (first | (go_at_call 12; (with_reducible refine (lex_Next.calls k1 _ _ l0 x6_1 t146 t147 t148 t149 t150 _ ?side1 ?side2 A3.out ?gside).mono ?_); (case gside => repeat (first | exact (GlobOK.below HG.out HB.out) | (with_reducible refine GlobOK.alloc HG.out ?_ _) | (with_reducible refine GlobOK.drewN ?_ _) | (with_reducible refine GlobOK.drew ?_) | (refine GlobOK.set HG.out (by with_reducible assumption) ?_))); (case side1 => exact cw HR0 HB); (case side2 => exact HC0.out); rintro e w12 ⟨rfl, hb⟩; replace HO_5 := Aside0.mk (Kd.R_below (rk HO_5) hb); replace HB := Aside0.mk (below_step bb hb); (try clear hb); (try clear hb2); (try clear hk); (try clear hi)) | ((with_reducible refine gate_dst (N := 7) rfl ?_); refine bx 7 #[.int .i64 0, .int .i64 0, .string (⟨#[]⟩ : ByteArray), .int .i64 0] 29 ?_; intro gb151 hg w13 hbox hb; replace HO_5 := Aside0.mk (Kd.R_below (Kd.R_elderB (rk HO_5) gb151 (Nat.le_of_eq hg.symm)) hb); have BK151 := Aside0.mk (hbox); have GW151 := Aside0.mk ((bz hg : w.heap.size ≤ gb151)); have GE151 := Aside0.mk ((bz hg : w.heap.size ≤ gb151)); replace HB := Aside0.mk (below_step bb hb); clear hb hbox hg; obtain ⟨hcz14_0, hcz14_1, hcz14_2, hcz14_3, hfz14_0, hfz14_1, hfz14_2, hfz14_3⟩ := bo4 BK151; obtain ⟨Ao15, co15, eo15⟩ := Kd.R_slice HO_5.out; subst eo15) | ((with_reducible refine gate_builtin (b := .append) (xs := #[.tmp 30, .tmp 32]) rfl ?_); at_builtin; refine Kd.R_append k29 (w0 := w) w.heap.size rfl (.tmp 30) (.tmp 32) 24 29 (.agg #[(.int .i64 0), (.int .i64 0), (.string ⟨#[]⟩), (.int .i64 0)]) 40 rfl Try.underlying24 info29 rfl (by decide) (by omega) (.slice Ao15 x5_1.length co15) x5_1 (⟨t146, t147, t148, t149⟩ : S29) [.int .i64 t146, .int .i64 t147, .string t148, .int .i64 t149] (fun k_ => k_ ≠ gb151) (fun _ => False) rfl (by first | (go_simp; done) | (go_simp; rfl)) ?aP (fun _ hk => hk.elim) ?aF ?aO ?aB ?aS ?aL ?_; (case aP => exact k29_mkM _ _ _ (⟨t146, t147, t148, t149⟩ : S29)); (case aB => exact bb); (case aF => exact (fun k_ hk => Kd.freshB (g := gb151) (o := .cells #[.int .i64 t146, .int .i64 t147, .string t148, .int .i64 t149] 29 (0, 0)) (by refine bm ?_; refine blk_put (cs := #[.int .i64 t146, .int .i64 t147, .string t148, .int .i64 0]) ?_ 3 _ rfl; refine bm ?_; refine blk_put (cs := #[.int .i64 t146, .int .i64 t147, .string (⟨#[]⟩ : ByteArray), .int .i64 0]) ?_ 2 _ rfl; refine bm ?_; refine blk_put (cs := #[.int .i64 t146, .int .i64 0, .string (⟨#[]⟩ : ByteArray), .int .i64 0]) ?_ 1 _ rfl; refine bm ?_; refine blk_put (cs := #[.int .i64 0, .int .i64 0, .string (⟨#[]⟩ : ByteArray), .int .i64 0]) ?_ 0 _ rfl; refine bm ?_; exact BK151.out) k_ hk)); (case aO => exact (rm (Kd.R_mono (Kd.R_far (p := ⟨gb151, 3, none⟩) (Kd.R_far (p := ⟨gb151, 2, none⟩) (Kd.R_far (p := ⟨gb151, 1, none⟩) (Kd.R_far (p := ⟨gb151, 0, none⟩) (Kd.R_mono HO_5.out (fun k_ hk => (⟨hk, hk.2⟩ : _ ∧ k_ ≠ gb151))) (fun _ hk => hk.2) (.int .i64 t146)) (fun _ hk => hk.2) (.int .i64 t147)) (fun _ hk => hk.2) (.string t148)) (fun _ hk => hk.2) (.int .i64 t149)) (fun _ hk => hk.1.2)))); (case aS => exact (below_size bb)); (case aL => have := LMc10.out; omega); intro v153 w16 ho hb hg hat; rw [← Ny152.out] at ho; replace BK151 := Aside0.mk (blk_grown (g := gb151) (o := .cells #[.int .i64 t146, .int .i64 t147, .string t148, .int .i64 t149] 29 (0, 0)) (by refine bm ?_; refine blk_put (cs := #[.int .i64 t146, .int .i64 t147, .string t148, .int .i64 0]) ?_ 3 _ rfl; refine bm ?_; refine blk_put (cs := #[.int .i64 t146, .int .i64 t147, .string (⟨#[]⟩ : ByteArray), .int .i64 0]) ?_ 2 _ rfl; refine bm ?_; refine blk_put (cs := #[.int .i64 t146, .int .i64 0, .string (⟨#[]⟩ : ByteArray), .int .i64 0]) ?_ 1 _ rfl; refine bm ?_; refine blk_put (cs := #[.int .i64 0, .int .i64 0, .string (⟨#[]⟩ : ByteArray), .int .i64 0]) ?_ 0 _ rfl; refine bm ?_; exact BK151.out) hg (Kd.R_away HO_5.out (fun _ hk => hk.2))); replace HB := Aside0.mk (hb); have HO154 := Aside0.mk (ho); clear HO_5; clear ho hb hg hat; obtain ⟨hcz17_0, hcz17_1, hcz17_2, hcz17_3, hfz17_0, hfz17_1, hfz17_2, hfz17_3⟩ := bo4 BK151))
    repeat (go_quiet (first | (go_at_call 12; (with_reducible refine (lex_Next.calls k1 _ _ l0 x6_1 t146 t147 t148 t149 t150 _ ?side1 ?side2 A3.out ?gside).mono ?_); (case gside => repeat (first | exact (GlobOK.below HG.out HB.out) | (with_reducible refine GlobOK.alloc HG.out ?_ _) | (with_reducible refine GlobOK.drewN ?_ _) | (with_reducible refine GlobOK.drew ?_) | (refine GlobOK.set HG.out (by with_reducible assumption) ?_))); (case side1 => exact cw HR0 HB); (case side2 => exact HC0.out); rintro e w12 ⟨rfl, hb⟩; replace HO_5 := Aside0.mk (Kd.R_below (rk HO_5) hb); replace HB := Aside0.mk (below_step bb hb); (try clear hb); (try clear hb2); (try clear hk); (try clear hi)) | ((with_reducible refine gate_dst (N := 7) rfl ?_); refine bx 7 #[.int .i64 0, .int .i64 0, .string (⟨#[]⟩ : ByteArray), .int .i64 0] 29 ?_; intro gb151 hg w13 hbox hb; replace HO_5 := Aside0.mk (Kd.R_below (Kd.R_elderB (rk HO_5) gb151 (Nat.le_of_eq hg.symm)) hb); have BK151 := Aside0.mk (hbox); have GW151 := Aside0.mk ((bz hg : w.heap.size ≤ gb151)); have GE151 := Aside0.mk ((bz hg : w.heap.size ≤ gb151)); replace HB := Aside0.mk (below_step bb hb); clear hb hbox hg; obtain ⟨hcz14_0, hcz14_1, hcz14_2, hcz14_3, hfz14_0, hfz14_1, hfz14_2, hfz14_3⟩ := bo4 BK151; obtain ⟨Ao15, co15, eo15⟩ := Kd.R_slice HO_5.out; subst eo15) | ((with_reducible refine gate_builtin (b := .append) (xs := #[.tmp 30, .tmp 32]) rfl ?_); at_builtin; refine Kd.R_append k29 (w0 := w) w.heap.size rfl (.tmp 30) (.tmp 32) 24 29 (.agg #[(.int .i64 0), (.int .i64 0), (.string ⟨#[]⟩), (.int .i64 0)]) 40 rfl Try.underlying24 info29 rfl (by decide) (by omega) (.slice Ao15 x5_1.length co15) x5_1 (⟨t146, t147, t148, t149⟩ : S29) [.int .i64 t146, .int .i64 t147, .string t148, .int .i64 t149] (fun k_ => k_ ≠ gb151) (fun _ => False) rfl (by first | (go_simp; done) | (go_simp; rfl)) ?aP (fun _ hk => hk.elim) ?aF ?aO ?aB ?aS ?aL ?_; (case aP => exact k29_mkM _ _ _ (⟨t146, t147, t148, t149⟩ : S29)); (case aB => exact bb); (case aF => exact (fun k_ hk => Kd.freshB (g := gb151) (o := .cells #[.int .i64 t146, .int .i64 t147, .string t148, .int .i64 t149] 29 (0, 0)) (by refine bm ?_; refine blk_put (cs := #[.int .i64 t146, .int .i64 t147, .string t148, .int .i64 0]) ?_ 3 _ rfl; refine bm ?_; refine blk_put (cs := #[.int .i64 t146, .int .i64 t147, .string (⟨#[]⟩ : ByteArray), .int .i64 0]) ?_ 2 _ rfl; refine bm ?_; refine blk_put (cs := #[.int .i64 t146, .int .i64 0, .string (⟨#[]⟩ : ByteArray), .int .i64 0]) ?_ 1 _ rfl; refine bm ?_; refine blk_put (cs := #[.int .i64 0, .int .i64 0, .string (⟨#[]⟩ : ByteArray), .int .i64 0]) ?_ 0 _ rfl; refine bm ?_; exact BK151.out) k_ hk)); (case aO => exact (rm (Kd.R_mono (Kd.R_far (p := ⟨gb151, 3, none⟩) (Kd.R_far (p := ⟨gb151, 2, none⟩) (Kd.R_far (p := ⟨gb151, 1, none⟩) (Kd.R_far (p := ⟨gb151, 0, none⟩) (Kd.R_mono HO_5.out (fun k_ hk => (⟨hk, hk.2⟩ : _ ∧ k_ ≠ gb151))) (fun _ hk => hk.2) (.int .i64 t146)) (fun _ hk => hk.2) (.int .i64 t147)) (fun _ hk => hk.2) (.string t148)) (fun _ hk => hk.2) (.int .i64 t149)) (fun _ hk => hk.1.2)))); (case aS => exact (below_size bb)); (case aL => have := LMc10.out; omega); intro v153 w16 ho hb hg hat; rw [← Ny152.out] at ho; replace BK151 := Aside0.mk (blk_grown (g := gb151) (o := .cells #[.int .i64 t146, .int .i64 t147, .string t148, .int .i64 t149] 29 (0, 0)) (by refine bm ?_; refine blk_put (cs := #[.int .i64 t146, .int .i64 t147, .string t148, .int .i64 0]) ?_ 3 _ rfl; refine bm ?_; refine blk_put (cs := #[.int .i64 t146, .int .i64 t147, .string (⟨#[]⟩ : ByteArray), .int .i64 0]) ?_ 2 _ rfl; refine bm ?_; refine blk_put (cs := #[.int .i64 t146, .int .i64 0, .string (⟨#[]⟩ : ByteArray), .int .i64 0]) ?_ 1 _ rfl; refine bm ?_; refine blk_put (cs := #[.int .i64 0, .int .i64 0, .string (⟨#[]⟩ : ByteArray), .int .i64 0]) ?_ 0 _ rfl; refine bm ?_; exact BK151.out) hg (Kd.R_away HO_5.out (fun _ hk => hk.2))); replace HB := Aside0.mk (hb); have HO154 := Aside0.mk (ho); clear HO_5; clear ho hb hg hat; obtain ⟨hcz17_0, hcz17_1, hcz17_2, hcz17_3, hfz17_0, hfz17_1, hfz17_2, hfz17_3⟩ := bo4 BK151)); try go_wp2_with (first | (go_at_call 12; (with_reducible refine (lex_Next.calls k1 _ _ l0 x6_1 t146 t147 t148 t149 t150 _ ?side1 ?side2 A3.out ?gside).mono ?_); (case gside => repeat (first | exact (GlobOK.below HG.out HB.out) | (with_reducible refine GlobOK.alloc HG.out ?_ _) | (with_reducible refine GlobOK.drewN ?_ _) | (with_reducible refine GlobOK.drew ?_) | (refine GlobOK.set HG.out (by with_reducible assumption) ?_))); (case side1 => exact cw HR0 HB); (case side2 => exact HC0.out); rintro e w12 ⟨rfl, hb⟩; replace HO_5 := Aside0.mk (Kd.R_below (rk HO_5) hb); replace HB := Aside0.mk (below_step bb hb); (try clear hb); (try clear hb2); (try clear hk); (try clear hi)) | ((with_reducible refine gate_dst (N := 7) rfl ?_); refine bx 7 #[.int .i64 0, .int .i64 0, .string (⟨#[]⟩ : ByteArray), .int .i64 0] 29 ?_; intro gb151 hg w13 hbox hb; replace HO_5 := Aside0.mk (Kd.R_below (Kd.R_elderB (rk HO_5) gb151 (Nat.le_of_eq hg.symm)) hb); have BK151 := Aside0.mk (hbox); have GW151 := Aside0.mk ((bz hg : w.heap.size ≤ gb151)); have GE151 := Aside0.mk ((bz hg : w.heap.size ≤ gb151)); replace HB := Aside0.mk (below_step bb hb); clear hb hbox hg; obtain ⟨hcz14_0, hcz14_1, hcz14_2, hcz14_3, hfz14_0, hfz14_1, hfz14_2, hfz14_3⟩ := bo4 BK151; obtain ⟨Ao15, co15, eo15⟩ := Kd.R_slice HO_5.out; subst eo15) | ((with_reducible refine gate_builtin (b := .append) (xs := #[.tmp 30, .tmp 32]) rfl ?_); at_builtin; refine Kd.R_append k29 (w0 := w) w.heap.size rfl (.tmp 30) (.tmp 32) 24 29 (.agg #[(.int .i64 0), (.int .i64 0), (.string ⟨#[]⟩), (.int .i64 0)]) 40 rfl Try.underlying24 info29 rfl (by decide) (by omega) (.slice Ao15 x5_1.length co15) x5_1 (⟨t146, t147, t148, t149⟩ : S29) [.int .i64 t146, .int .i64 t147, .string t148, .int .i64 t149] (fun k_ => k_ ≠ gb151) (fun _ => False) rfl (by first | (go_simp; done) | (go_simp; rfl)) ?aP (fun _ hk => hk.elim) ?aF ?aO ?aB ?aS ?aL ?_; (case aP => exact k29_mkM _ _ _ (⟨t146, t147, t148, t149⟩ : S29)); (case aB => exact bb); (case aF => exact (fun k_ hk => Kd.freshB (g := gb151) (o := .cells #[.int .i64 t146, .int .i64 t147, .string t148, .int .i64 t149] 29 (0, 0)) (by refine bm ?_; refine blk_put (cs := #[.int .i64 t146, .int .i64 t147, .string t148, .int .i64 0]) ?_ 3 _ rfl; refine bm ?_; refine blk_put (cs := #[.int .i64 t146, .int .i64 t147, .string (⟨#[]⟩ : ByteArray), .int .i64 0]) ?_ 2 _ rfl; refine bm ?_; refine blk_put (cs := #[.int .i64 t146, .int .i64 0, .string (⟨#[]⟩ : ByteArray), .int .i64 0]) ?_ 1 _ rfl; refine bm ?_; refine blk_put (cs := #[.int .i64 0, .int .i64 0, .string (⟨#[]⟩ : ByteArray), .int .i64 0]) ?_ 0 _ rfl; refine bm ?_; exact BK151.out) k_ hk)); (case aO => exact (rm (Kd.R_mono (Kd.R_far (p := ⟨gb151, 3, none⟩) (Kd.R_far (p := ⟨gb151, 2, none⟩) (Kd.R_far (p := ⟨gb151, 1, none⟩) (Kd.R_far (p := ⟨gb151, 0, none⟩) (Kd.R_mono HO_5.out (fun k_ hk => (⟨hk, hk.2⟩ : _ ∧ k_ ≠ gb151))) (fun _ hk => hk.2) (.int .i64 t146)) (fun _ hk => hk.2) (.int .i64 t147)) (fun _ hk => hk.2) (.string t148)) (fun _ hk => hk.2) (.int .i64 t149)) (fun _ hk => hk.1.2)))); (case aS => exact (below_size bb)); (case aL => have := LMc10.out; omega); intro v153 w16 ho hb hg hat; rw [← Ny152.out] at ho; replace BK151 := Aside0.mk (blk_grown (g := gb151) (o := .cells #[.int .i64 t146, .int .i64 t147, .string t148, .int .i64 t149] 29 (0, 0)) (by refine bm ?_; refine blk_put (cs := #[.int .i64 t146, .int .i64 t147, .string t148, .int .i64 0]) ?_ 3 _ rfl; refine bm ?_; refine blk_put (cs := #[.int .i64 t146, .int .i64 t147, .string (⟨#[]⟩ : ByteArray), .int .i64 0]) ?_ 2 _ rfl; refine bm ?_; refine blk_put (cs := #[.int .i64 t146, .int .i64 0, .string (⟨#[]⟩ : ByteArray), .int .i64 0]) ?_ 1 _ rfl; refine bm ?_; refine blk_put (cs := #[.int .i64 0, .int .i64 0, .string (⟨#[]⟩ : ByteArray), .int .i64 0]) ?_ 0 _ rfl; refine bm ?_; exact BK151.out) hg (Kd.R_away HO_5.out (fun _ hk => hk.2))); replace HB := Aside0.mk (hb); have HO154 := Aside0.mk (ho); clear HO_5; clear ho hb hg hat; obtain ⟨hcz17_0, hcz17_1, hcz17_2, hcz17_3, hfz17_0, hfz17_1, hfz17_2, hfz17_3⟩ := bo4 BK151)))
    go_ret3
    exact ⟨_, ew, by refine rm ?_; exact Kd.R_mono HO154.out (fun _ hk => trivial), bb⟩
   rw [if_neg c11] at H
   have c11b0 : (t146 == 4) = false := beq_eq_false_iff_ne.mpr c11
   have c11b1 : (t146 != 4) = true := bne_iff_ne.mpr c11
   have H' := Aside0.mk H
   clear H
   go_wp2_with (first | (go_at_call 12; (with_reducible refine (lex_Next.calls k1 _ _ l0 x6_1 t146 t147 t148 t149 t150 _ ?side1 ?side2 A3.out ?gside).mono ?_); (case gside => repeat (first | exact (GlobOK.below HG.out HB.out) | (with_reducible refine GlobOK.alloc HG.out ?_ _) | (with_reducible refine GlobOK.drewN ?_ _) | (with_reducible refine GlobOK.drew ?_) | (refine GlobOK.set HG.out (by with_reducible assumption) ?_))); (case side1 => exact cw HR0 HB); (case side2 => exact HC0.out); rintro e w18 ⟨rfl, hb⟩; replace HO_5 := Aside0.mk (Kd.R_below (rk HO_5) hb); replace HB := Aside0.mk (below_step bb hb); (try clear hb); (try clear hb2); (try clear hk); (try clear hi)) | ((with_reducible refine gate_dst (N := 7) rfl ?_); refine bx 7 #[.int .i64 0, .int .i64 0, .string (⟨#[]⟩ : ByteArray), .int .i64 0] 29 ?_; intro gb151 hg w19 hbox hb; replace HO_5 := Aside0.mk (Kd.R_below (Kd.R_elderB (rk HO_5) gb151 (Nat.le_of_eq hg.symm)) hb); have BK151 := Aside0.mk (hbox); have GW151 := Aside0.mk ((bz hg : w.heap.size ≤ gb151)); have GE151 := Aside0.mk ((bz hg : w.heap.size ≤ gb151)); replace HB := Aside0.mk (below_step bb hb); clear hb hbox hg; obtain ⟨hcz20_0, hcz20_1, hcz20_2, hcz20_3, hfz20_0, hfz20_1, hfz20_2, hfz20_3⟩ := bo4 BK151; obtain ⟨Ao21, co21, eo21⟩ := Kd.R_slice HO_5.out; subst eo21) | ((with_reducible refine gate_builtin (b := .append) (xs := #[.tmp 30, .tmp 32]) rfl ?_); at_builtin; refine Kd.R_append k29 (w0 := w) w.heap.size rfl (.tmp 30) (.tmp 32) 24 29 (.agg #[(.int .i64 0), (.int .i64 0), (.string ⟨#[]⟩), (.int .i64 0)]) 40 rfl Try.underlying24 info29 rfl (by decide) (by omega) (.slice Ao21 x5_1.length co21) x5_1 (⟨t146, t147, t148, t149⟩ : S29) [.int .i64 t146, .int .i64 t147, .string t148, .int .i64 t149] (fun k_ => k_ ≠ gb151) (fun _ => False) rfl (by first | (go_simp; done) | (go_simp; rfl)) ?aP (fun _ hk => hk.elim) ?aF ?aO ?aB ?aS ?aL ?_; (case aP => exact k29_mkM _ _ _ (⟨t146, t147, t148, t149⟩ : S29)); (case aB => exact bb); (case aF => exact (fun k_ hk => Kd.freshB (g := gb151) (o := .cells #[.int .i64 t146, .int .i64 t147, .string t148, .int .i64 t149] 29 (0, 0)) (by refine bm ?_; refine blk_put (cs := #[.int .i64 t146, .int .i64 t147, .string t148, .int .i64 0]) ?_ 3 _ rfl; refine bm ?_; refine blk_put (cs := #[.int .i64 t146, .int .i64 t147, .string (⟨#[]⟩ : ByteArray), .int .i64 0]) ?_ 2 _ rfl; refine bm ?_; refine blk_put (cs := #[.int .i64 t146, .int .i64 0, .string (⟨#[]⟩ : ByteArray), .int .i64 0]) ?_ 1 _ rfl; refine bm ?_; refine blk_put (cs := #[.int .i64 0, .int .i64 0, .string (⟨#[]⟩ : ByteArray), .int .i64 0]) ?_ 0 _ rfl; refine bm ?_; exact BK151.out) k_ hk)); (case aO => exact (rm (Kd.R_mono (Kd.R_far (p := ⟨gb151, 3, none⟩) (Kd.R_far (p := ⟨gb151, 2, none⟩) (Kd.R_far (p := ⟨gb151, 1, none⟩) (Kd.R_far (p := ⟨gb151, 0, none⟩) (Kd.R_mono HO_5.out (fun k_ hk => (⟨hk, hk.2⟩ : _ ∧ k_ ≠ gb151))) (fun _ hk => hk.2) (.int .i64 t146)) (fun _ hk => hk.2) (.int .i64 t147)) (fun _ hk => hk.2) (.string t148)) (fun _ hk => hk.2) (.int .i64 t149)) (fun _ hk => hk.1.2)))); (case aS => exact (below_size bb)); (case aL => have := LMc10.out; omega); intro v153 w22 ho hb hg hat; rw [← Ny152.out] at ho; replace BK151 := Aside0.mk (blk_grown (g := gb151) (o := .cells #[.int .i64 t146, .int .i64 t147, .string t148, .int .i64 t149] 29 (0, 0)) (by refine bm ?_; refine blk_put (cs := #[.int .i64 t146, .int .i64 t147, .string t148, .int .i64 0]) ?_ 3 _ rfl; refine bm ?_; refine blk_put (cs := #[.int .i64 t146, .int .i64 t147, .string (⟨#[]⟩ : ByteArray), .int .i64 0]) ?_ 2 _ rfl; refine bm ?_; refine blk_put (cs := #[.int .i64 t146, .int .i64 0, .string (⟨#[]⟩ : ByteArray), .int .i64 0]) ?_ 1 _ rfl; refine bm ?_; refine blk_put (cs := #[.int .i64 0, .int .i64 0, .string (⟨#[]⟩ : ByteArray), .int .i64 0]) ?_ 0 _ rfl; refine bm ?_; exact BK151.out) hg (Kd.R_away HO_5.out (fun _ hk => hk.2))); replace HB := Aside0.mk (hb); have HO154 := Aside0.mk (ho); clear HO_5; clear ho hb hg hat; obtain ⟨hcz23_0, hcz23_1, hcz23_2, hcz23_3, hfz23_0, hfz23_1, hfz23_2, hfz23_3⟩ := bo4 BK151))
   repeat (go_quiet (first | (go_at_call 12; (with_reducible refine (lex_Next.calls k1 _ _ l0 x6_1 t146 t147 t148 t149 t150 _ ?side1 ?side2 A3.out ?gside).mono ?_); (case gside => repeat (first | exact (GlobOK.below HG.out HB.out) | (with_reducible refine GlobOK.alloc HG.out ?_ _) | (with_reducible refine GlobOK.drewN ?_ _) | (with_reducible refine GlobOK.drew ?_) | (refine GlobOK.set HG.out (by with_reducible assumption) ?_))); (case side1 => exact cw HR0 HB); (case side2 => exact HC0.out); rintro e w18 ⟨rfl, hb⟩; replace HO_5 := Aside0.mk (Kd.R_below (rk HO_5) hb); replace HB := Aside0.mk (below_step bb hb); (try clear hb); (try clear hb2); (try clear hk); (try clear hi)) | ((with_reducible refine gate_dst (N := 7) rfl ?_); refine bx 7 #[.int .i64 0, .int .i64 0, .string (⟨#[]⟩ : ByteArray), .int .i64 0] 29 ?_; intro gb151 hg w19 hbox hb; replace HO_5 := Aside0.mk (Kd.R_below (Kd.R_elderB (rk HO_5) gb151 (Nat.le_of_eq hg.symm)) hb); have BK151 := Aside0.mk (hbox); have GW151 := Aside0.mk ((bz hg : w.heap.size ≤ gb151)); have GE151 := Aside0.mk ((bz hg : w.heap.size ≤ gb151)); replace HB := Aside0.mk (below_step bb hb); clear hb hbox hg; obtain ⟨hcz20_0, hcz20_1, hcz20_2, hcz20_3, hfz20_0, hfz20_1, hfz20_2, hfz20_3⟩ := bo4 BK151; obtain ⟨Ao21, co21, eo21⟩ := Kd.R_slice HO_5.out; subst eo21) | ((with_reducible refine gate_builtin (b := .append) (xs := #[.tmp 30, .tmp 32]) rfl ?_); at_builtin; refine Kd.R_append k29 (w0 := w) w.heap.size rfl (.tmp 30) (.tmp 32) 24 29 (.agg #[(.int .i64 0), (.int .i64 0), (.string ⟨#[]⟩), (.int .i64 0)]) 40 rfl Try.underlying24 info29 rfl (by decide) (by omega) (.slice Ao21 x5_1.length co21) x5_1 (⟨t146, t147, t148, t149⟩ : S29) [.int .i64 t146, .int .i64 t147, .string t148, .int .i64 t149] (fun k_ => k_ ≠ gb151) (fun _ => False) rfl (by first | (go_simp; done) | (go_simp; rfl)) ?aP (fun _ hk => hk.elim) ?aF ?aO ?aB ?aS ?aL ?_; (case aP => exact k29_mkM _ _ _ (⟨t146, t147, t148, t149⟩ : S29)); (case aB => exact bb); (case aF => exact (fun k_ hk => Kd.freshB (g := gb151) (o := .cells #[.int .i64 t146, .int .i64 t147, .string t148, .int .i64 t149] 29 (0, 0)) (by refine bm ?_; refine blk_put (cs := #[.int .i64 t146, .int .i64 t147, .string t148, .int .i64 0]) ?_ 3 _ rfl; refine bm ?_; refine blk_put (cs := #[.int .i64 t146, .int .i64 t147, .string (⟨#[]⟩ : ByteArray), .int .i64 0]) ?_ 2 _ rfl; refine bm ?_; refine blk_put (cs := #[.int .i64 t146, .int .i64 0, .string (⟨#[]⟩ : ByteArray), .int .i64 0]) ?_ 1 _ rfl; refine bm ?_; refine blk_put (cs := #[.int .i64 0, .int .i64 0, .string (⟨#[]⟩ : ByteArray), .int .i64 0]) ?_ 0 _ rfl; refine bm ?_; exact BK151.out) k_ hk)); (case aO => exact (rm (Kd.R_mono (Kd.R_far (p := ⟨gb151, 3, none⟩) (Kd.R_far (p := ⟨gb151, 2, none⟩) (Kd.R_far (p := ⟨gb151, 1, none⟩) (Kd.R_far (p := ⟨gb151, 0, none⟩) (Kd.R_mono HO_5.out (fun k_ hk => (⟨hk, hk.2⟩ : _ ∧ k_ ≠ gb151))) (fun _ hk => hk.2) (.int .i64 t146)) (fun _ hk => hk.2) (.int .i64 t147)) (fun _ hk => hk.2) (.string t148)) (fun _ hk => hk.2) (.int .i64 t149)) (fun _ hk => hk.1.2)))); (case aS => exact (below_size bb)); (case aL => have := LMc10.out; omega); intro v153 w22 ho hb hg hat; rw [← Ny152.out] at ho; replace BK151 := Aside0.mk (blk_grown (g := gb151) (o := .cells #[.int .i64 t146, .int .i64 t147, .string t148, .int .i64 t149] 29 (0, 0)) (by refine bm ?_; refine blk_put (cs := #[.int .i64 t146, .int .i64 t147, .string t148, .int .i64 0]) ?_ 3 _ rfl; refine bm ?_; refine blk_put (cs := #[.int .i64 t146, .int .i64 t147, .string (⟨#[]⟩ : ByteArray), .int .i64 0]) ?_ 2 _ rfl; refine bm ?_; refine blk_put (cs := #[.int .i64 t146, .int .i64 0, .string (⟨#[]⟩ : ByteArray), .int .i64 0]) ?_ 1 _ rfl; refine bm ?_; refine blk_put (cs := #[.int .i64 0, .int .i64 0, .string (⟨#[]⟩ : ByteArray), .int .i64 0]) ?_ 0 _ rfl; refine bm ?_; exact BK151.out) hg (Kd.R_away HO_5.out (fun _ hk => hk.2))); replace HB := Aside0.mk (hb); have HO154 := Aside0.mk (ho); clear HO_5; clear ho hb hg hat; obtain ⟨hcz23_0, hcz23_1, hcz23_2, hcz23_3, hfz23_0, hfz23_1, hfz23_2, hfz23_3⟩ := bo4 BK151)); try go_wp2_with (first | (go_at_call 12; (with_reducible refine (lex_Next.calls k1 _ _ l0 x6_1 t146 t147 t148 t149 t150 _ ?side1 ?side2 A3.out ?gside).mono ?_); (case gside => repeat (first | exact (GlobOK.below HG.out HB.out) | (with_reducible refine GlobOK.alloc HG.out ?_ _) | (with_reducible refine GlobOK.drewN ?_ _) | (with_reducible refine GlobOK.drew ?_) | (refine GlobOK.set HG.out (by with_reducible assumption) ?_))); (case side1 => exact cw HR0 HB); (case side2 => exact HC0.out); rintro e w18 ⟨rfl, hb⟩; replace HO_5 := Aside0.mk (Kd.R_below (rk HO_5) hb); replace HB := Aside0.mk (below_step bb hb); (try clear hb); (try clear hb2); (try clear hk); (try clear hi)) | ((with_reducible refine gate_dst (N := 7) rfl ?_); refine bx 7 #[.int .i64 0, .int .i64 0, .string (⟨#[]⟩ : ByteArray), .int .i64 0] 29 ?_; intro gb151 hg w19 hbox hb; replace HO_5 := Aside0.mk (Kd.R_below (Kd.R_elderB (rk HO_5) gb151 (Nat.le_of_eq hg.symm)) hb); have BK151 := Aside0.mk (hbox); have GW151 := Aside0.mk ((bz hg : w.heap.size ≤ gb151)); have GE151 := Aside0.mk ((bz hg : w.heap.size ≤ gb151)); replace HB := Aside0.mk (below_step bb hb); clear hb hbox hg; obtain ⟨hcz20_0, hcz20_1, hcz20_2, hcz20_3, hfz20_0, hfz20_1, hfz20_2, hfz20_3⟩ := bo4 BK151; obtain ⟨Ao21, co21, eo21⟩ := Kd.R_slice HO_5.out; subst eo21) | ((with_reducible refine gate_builtin (b := .append) (xs := #[.tmp 30, .tmp 32]) rfl ?_); at_builtin; refine Kd.R_append k29 (w0 := w) w.heap.size rfl (.tmp 30) (.tmp 32) 24 29 (.agg #[(.int .i64 0), (.int .i64 0), (.string ⟨#[]⟩), (.int .i64 0)]) 40 rfl Try.underlying24 info29 rfl (by decide) (by omega) (.slice Ao21 x5_1.length co21) x5_1 (⟨t146, t147, t148, t149⟩ : S29) [.int .i64 t146, .int .i64 t147, .string t148, .int .i64 t149] (fun k_ => k_ ≠ gb151) (fun _ => False) rfl (by first | (go_simp; done) | (go_simp; rfl)) ?aP (fun _ hk => hk.elim) ?aF ?aO ?aB ?aS ?aL ?_; (case aP => exact k29_mkM _ _ _ (⟨t146, t147, t148, t149⟩ : S29)); (case aB => exact bb); (case aF => exact (fun k_ hk => Kd.freshB (g := gb151) (o := .cells #[.int .i64 t146, .int .i64 t147, .string t148, .int .i64 t149] 29 (0, 0)) (by refine bm ?_; refine blk_put (cs := #[.int .i64 t146, .int .i64 t147, .string t148, .int .i64 0]) ?_ 3 _ rfl; refine bm ?_; refine blk_put (cs := #[.int .i64 t146, .int .i64 t147, .string (⟨#[]⟩ : ByteArray), .int .i64 0]) ?_ 2 _ rfl; refine bm ?_; refine blk_put (cs := #[.int .i64 t146, .int .i64 0, .string (⟨#[]⟩ : ByteArray), .int .i64 0]) ?_ 1 _ rfl; refine bm ?_; refine blk_put (cs := #[.int .i64 0, .int .i64 0, .string (⟨#[]⟩ : ByteArray), .int .i64 0]) ?_ 0 _ rfl; refine bm ?_; exact BK151.out) k_ hk)); (case aO => exact (rm (Kd.R_mono (Kd.R_far (p := ⟨gb151, 3, none⟩) (Kd.R_far (p := ⟨gb151, 2, none⟩) (Kd.R_far (p := ⟨gb151, 1, none⟩) (Kd.R_far (p := ⟨gb151, 0, none⟩) (Kd.R_mono HO_5.out (fun k_ hk => (⟨hk, hk.2⟩ : _ ∧ k_ ≠ gb151))) (fun _ hk => hk.2) (.int .i64 t146)) (fun _ hk => hk.2) (.int .i64 t147)) (fun _ hk => hk.2) (.string t148)) (fun _ hk => hk.2) (.int .i64 t149)) (fun _ hk => hk.1.2)))); (case aS => exact (below_size bb)); (case aL => have := LMc10.out; omega); intro v153 w22 ho hb hg hat; rw [← Ny152.out] at ho; replace BK151 := Aside0.mk (blk_grown (g := gb151) (o := .cells #[.int .i64 t146, .int .i64 t147, .string t148, .int .i64 t149] 29 (0, 0)) (by refine bm ?_; refine blk_put (cs := #[.int .i64 t146, .int .i64 t147, .string t148, .int .i64 0]) ?_ 3 _ rfl; refine bm ?_; refine blk_put (cs := #[.int .i64 t146, .int .i64 t147, .string (⟨#[]⟩ : ByteArray), .int .i64 0]) ?_ 2 _ rfl; refine bm ?_; refine blk_put (cs := #[.int .i64 t146, .int .i64 0, .string (⟨#[]⟩ : ByteArray), .int .i64 0]) ?_ 1 _ rfl; refine bm ?_; refine blk_put (cs := #[.int .i64 0, .int .i64 0, .string (⟨#[]⟩ : ByteArray), .int .i64 0]) ?_ 0 _ rfl; refine bm ?_; exact BK151.out) hg (Kd.R_away HO_5.out (fun _ hk => hk.2))); replace HB := Aside0.mk (hb); have HO154 := Aside0.mk (ho); clear HO_5; clear ho hb hg hat; obtain ⟨hcz23_0, hcz23_1, hcz23_2, hcz23_3, hfz23_0, hfz23_1, hfz23_2, hfz23_3⟩ := bo4 BK151)))
   go_roundg k1
   case measure => have := HK1.out; omega
   case rel => exact ⟨(y152), (wrap64 (t147 + (t148.size : Int))), rs, H', ⟨by have := HK1.out; omega⟩, ⟨by refine rm ?_; exact Kd.R_mono HO154.out (fun _ hk => trivial)⟩, ⟨bb⟩⟩

end Go.Proofs.Ytgjehnjonleibaa.Q
