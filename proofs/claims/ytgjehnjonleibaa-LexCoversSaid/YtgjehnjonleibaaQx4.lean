-- Laid by drive.py (a program of the session's) out of the translation. Lean checks it.
import Derived.Test.YtgjehnjonleibaaQx0
import Derived.Test.YtgjehnjonleibaaQx3
namespace Go.Proofs.Ytgjehnjonleibaa.Q
open Go.RowKit Go.Proofs.YtgjehnjonleibaaW.PrintWords Go.Proofs.YtgjehnjonleibaaW.PrintLast Go.Proofs.YtgjehnjonleibaaW.PrintMore
attribute [local go_sem] max2_int min2_int max_two min_two max_three min_three max_four min_four   -- for this text's walks alone
set_option linter.unusedVariables false
set_option linter.unusedSimpArgs false

/-! ### fathomlaw20_awake: function 5 -/
def fathomlaw20_awake.f (k : Nat)  : Option (Bool) := (lex_All.f k (([97, 60, 61, 49, 50] : List Int))).bind fun bt158 => (if bt158.2.2 = 0 then (if bt158.2.1 = 0 then (if (bt158.1.length : Int) = 4 then (if 1 < (bt158.1.length : Int) then (if ((rd_T29 bt158.1 1).f2).toList = ([60, 61] : List UInt8) then (if 2 < (bt158.1.length : Int) then (if ((rd_T29 bt158.1 2).f3) = 12 then (if 3 < (bt158.1.length : Int) then (some (((rd_T29 bt158.1 3).f0) == 4)) else (none)) else (some false)) else (none)) else (some false)) else (none)) else (some false)) else (some false)) else (some false))
theorem fathomlaw20_awake.mono : ∀ k, LeO (fathomlaw20_awake.f k ) (fathomlaw20_awake.f (k + 1) ) := by
  intro  k
  unfold fathomlaw20_awake.f
  repeat' first
      | (with_reducible exact lex_All.mono _ _)
      | (with_reducible exact LeO.refl _)
      | (with_reducible exact LeO.none _)
      | (with_reducible refine LeO.ite ?_ ?_)
      | (with_reducible refine LeO.bind ?_ (fun _ => ?_))
      | exact lex_All.mono _ _
      | exact LeO.none _
      | refine LeO.ite ?_ ?_
      | refine LeO.bind ?_ (fun _ => ?_)
set_option maxHeartbeats 8000000 in
set_option maxRecDepth 100000 in
theorem fathomlaw20_awake.calls (k : Nat)  (r : Bool) (w : World) (h : fathomlaw20_awake.f k  = some r) (hG : GlobOK w) :
    Calls Try.prog 5 #[] w fun e w' => e = .returned (.bool r) ∧ Below w.heap.size w w' := by
 have HG := Aside0.mk hG
 clear hG
 have HB := Aside0.mk (Below.refl w.heap.size w)
 have H : ((lex_All.f k (([97, 60, 61, 49, 50] : List Int))).bind fun bt158 => (if bt158.2.2 = 0 then (if bt158.2.1 = 0 then (if (bt158.1.length : Int) = 4 then (if 1 < (bt158.1.length : Int) then (if ((rd_T29 bt158.1 1).f2).toList = ([60, 61] : List UInt8) then (if 2 < (bt158.1.length : Int) then (if ((rd_T29 bt158.1 2).f3) = 12 then (if 3 < (bt158.1.length : Int) then (some (((rd_T29 bt158.1 3).f0) == 4)) else (none)) else (some false)) else (none)) else (some false)) else (none)) else (some false)) else (some false)) else (some false))) = some r := h
 clear h
 obtain ⟨y155, hy155⟩ : ∃ y_ : List Int, y_ = (([97, 60, 61, 49, 50] : List Int)) := ⟨_, rfl⟩
 replace H : ((lex_All.f k y155).bind fun bt158 => (if bt158.2.2 = 0 then (if bt158.2.1 = 0 then (if (bt158.1.length : Int) = 4 then (if 1 < (bt158.1.length : Int) then (if ((rd_T29 bt158.1 1).f2).toList = ([60, 61] : List UInt8) then (if 2 < (bt158.1.length : Int) then (if ((rd_T29 bt158.1 2).f3) = 12 then (if 3 < (bt158.1.length : Int) then (some (((rd_T29 bt158.1 3).f0) == 4)) else (none)) else (some false)) else (none)) else (some false)) else (none)) else (some false)) else (some false)) else (some false))) = some r := by first | (rw [hy155]; with_reducible exact H) | (have H2_ := (Option.bind_some _ _).symm.trans H; rw [hy155]; with_reducible exact H2_) | (have H2_ := (Option.bind_some _ _).symm.trans H; with_reducible exact H2_) | with_reducible exact H | (rw [hy155]; exact H) | exact H
 have Ny155 := Aside0.mk hy155
 clear hy155
 replace H := Option.bind_eq_some_iff.mp H
 obtain ⟨⟨t158, t159, t160⟩, A10, H⟩ := H
 replace H : (if t160 = 0 then (if t159 = 0 then (if (t158.length : Int) = 4 then (if 1 < (t158.length : Int) then (if ((rd_T29 t158 1).f2).toList = ([60, 61] : List UInt8) then (if 2 < (t158.length : Int) then (if ((rd_T29 t158 2).f3) = 12 then (if 3 < (t158.length : Int) then (some (((rd_T29 t158 3).f0) == 4)) else (none)) else (some false)) else (none)) else (some false)) else (none)) else (some false)) else (some false)) else (some false)) = some r := H
 have A1 := Aside0.mk A10
 clear A10
 by_cases c2 : t160 = 0
 rotate_left
 ·
  rw [if_neg c2] at H
  have c2b0 : (t160 == 0) = false := beq_eq_false_iff_ne.mpr c2
  have c2b1 : (t160 != 0) = true := bne_iff_ne.mpr c2
  obtain rfl := Option.some.inj H
  go_enter Try.func5, Try.ntmps5
  go_wp2_with (first | ((with_reducible refine gate_dst (N := 5) rfl ?_); (try (refine gate_guard (by rfl) ?_; dsimp only)); refine lit_event 22 5 ?hg (N := 5) ?hd (xs := ([97, 60, 61, 49, 50] : List Int)) (inner := [.int .u8 97, .int .u8 60, .int .u8 61, .int .u8 49, .int .u8 50]) rfl ?hr Try.underlying22 Try.underlying5 (by simp) ?_; (case hd => rfl); (case hg => rfl); (case hr => first | (go_simp; done) | (go_simp; rfl)); intro v156 wq_ w34 hcvq_ ho35 hb; (first | rw [← Ny155.out] at ho35 | (simp only [Int.reduceToNat] at ho35; rw [← Ny155.out] at ho35)); have HO157 := Aside0.mk ho35; replace HB := Aside0.mk (below_step bb hb); clear hb ho35; obtain ⟨Ao36, co36, eo36⟩ := ReadL.slice HO157.out; subst eo36) | ((with_reducible refine gate_callee (f := 6) rfl ?_); refine gl (some 7) Try.func6 #[.slice Ao36 y155.length co36] ?_; (with_reducible refine (lex_All.calls k _ _ y155 t158 t159 t160 _ ?side1 ?side2 A1.out ?gside).mono ?_); (case gside => repeat (first | exact (GlobOK.below HG.out HB.out) | (with_reducible refine GlobOK.alloc HG.out ?_ _) | (with_reducible refine GlobOK.drewN ?_ _) | (with_reducible refine GlobOK.drew ?_) | (refine GlobOK.set HG.out (by with_reducible assumption) ?_))); (case side1 => repeat (first | exact (ReadL.reads HO157.out).2.2 | (with_reducible refine Kd.C_alloc ?_ _) | (with_reducible refine Kd.C_drewN ?_ _) | (with_reducible refine Kd.C_drew ?_))); (case side2 => exact (ReadL.reads HO157.out).2.1); rintro e w37 ⟨v161, rfl, ho0, hb⟩; refine ⟨_, rfl, ?_⟩; replace HO157 := Aside0.mk (ReadL.below (by (repeat (first | (with_reducible refine ReadL.alloc ?_ _) | (with_reducible refine ReadL.drewN ?_ _) | (with_reducible refine ReadL.drew ?_))); exact HO157.out) hb); have HO162 := Aside0.mk (Kd.R_lower ho0 (below_size bb)); replace HB := Aside0.mk (below_step bb hb); (try clear hb); (try clear hb2); (try clear hk); (try clear hi); (try clear ho0)))
  go_ret
  exact ⟨ew, bb⟩
 rw [if_pos c2] at H
 have c2b0 : (t160 == 0) = true := beq_iff_eq.mpr c2
 have c2b1 : (t160 != 0) = false := bne_eq_false_iff_eq.mpr c2
 clear c2
 by_cases c3 : t159 = 0
 rotate_left
 ·
  rw [if_neg c3] at H
  have c3b0 : (t159 == 0) = false := beq_eq_false_iff_ne.mpr c3
  have c3b1 : (t159 != 0) = true := bne_iff_ne.mpr c3
  obtain rfl := Option.some.inj H
  go_enter Try.func5, Try.ntmps5
  go_wp2_with (first | ((with_reducible refine gate_dst (N := 5) rfl ?_); (try (refine gate_guard (by rfl) ?_; dsimp only)); refine lit_event 22 5 ?hg (N := 5) ?hd (xs := ([97, 60, 61, 49, 50] : List Int)) (inner := [.int .u8 97, .int .u8 60, .int .u8 61, .int .u8 49, .int .u8 50]) rfl ?hr Try.underlying22 Try.underlying5 (by simp) ?_; (case hd => rfl); (case hg => rfl); (case hr => first | (go_simp; done) | (go_simp; rfl)); intro v156 wq_ w30 hcvq_ ho31 hb; (first | rw [← Ny155.out] at ho31 | (simp only [Int.reduceToNat] at ho31; rw [← Ny155.out] at ho31)); have HO157 := Aside0.mk ho31; replace HB := Aside0.mk (below_step bb hb); clear hb ho31; obtain ⟨Ao32, co32, eo32⟩ := ReadL.slice HO157.out; subst eo32) | ((with_reducible refine gate_callee (f := 6) rfl ?_); refine gl (some 7) Try.func6 #[.slice Ao32 y155.length co32] ?_; (with_reducible refine (lex_All.calls k _ _ y155 t158 t159 t160 _ ?side1 ?side2 A1.out ?gside).mono ?_); (case gside => repeat (first | exact (GlobOK.below HG.out HB.out) | (with_reducible refine GlobOK.alloc HG.out ?_ _) | (with_reducible refine GlobOK.drewN ?_ _) | (with_reducible refine GlobOK.drew ?_) | (refine GlobOK.set HG.out (by with_reducible assumption) ?_))); (case side1 => repeat (first | exact (ReadL.reads HO157.out).2.2 | (with_reducible refine Kd.C_alloc ?_ _) | (with_reducible refine Kd.C_drewN ?_ _) | (with_reducible refine Kd.C_drew ?_))); (case side2 => exact (ReadL.reads HO157.out).2.1); rintro e w33 ⟨v161, rfl, ho0, hb⟩; refine ⟨_, rfl, ?_⟩; replace HO157 := Aside0.mk (ReadL.below (by (repeat (first | (with_reducible refine ReadL.alloc ?_ _) | (with_reducible refine ReadL.drewN ?_ _) | (with_reducible refine ReadL.drew ?_))); exact HO157.out) hb); have HO162 := Aside0.mk (Kd.R_lower ho0 (below_size bb)); replace HB := Aside0.mk (below_step bb hb); (try clear hb); (try clear hb2); (try clear hk); (try clear hi); (try clear ho0)))
  go_ret
  exact ⟨ew, bb⟩
 rw [if_pos c3] at H
 have c3b0 : (t159 == 0) = true := beq_iff_eq.mpr c3
 have c3b1 : (t159 != 0) = false := bne_eq_false_iff_eq.mpr c3
 clear c3
 by_cases c4 : (t158.length : Int) = 4
 rotate_left
 ·
  rw [if_neg c4] at H
  have c4b0 : ((t158.length : Int) == 4) = false := beq_eq_false_iff_ne.mpr c4
  have c4b1 : ((t158.length : Int) != 4) = true := bne_iff_ne.mpr c4
  obtain rfl := Option.some.inj H
  go_enter Try.func5, Try.ntmps5
  go_wp2_with (first | ((with_reducible refine gate_dst (N := 5) rfl ?_); (try (refine gate_guard (by rfl) ?_; dsimp only)); refine lit_event 22 5 ?hg (N := 5) ?hd (xs := ([97, 60, 61, 49, 50] : List Int)) (inner := [.int .u8 97, .int .u8 60, .int .u8 61, .int .u8 49, .int .u8 50]) rfl ?hr Try.underlying22 Try.underlying5 (by simp) ?_; (case hd => rfl); (case hg => rfl); (case hr => first | (go_simp; done) | (go_simp; rfl)); intro v156 wq_ w25 hcvq_ ho26 hb; (first | rw [← Ny155.out] at ho26 | (simp only [Int.reduceToNat] at ho26; rw [← Ny155.out] at ho26)); have HO157 := Aside0.mk ho26; replace HB := Aside0.mk (below_step bb hb); clear hb ho26; obtain ⟨Ao27, co27, eo27⟩ := ReadL.slice HO157.out; subst eo27) | ((with_reducible refine gate_callee (f := 6) rfl ?_); refine gl (some 7) Try.func6 #[.slice Ao27 y155.length co27] ?_; (with_reducible refine (lex_All.calls k _ _ y155 t158 t159 t160 _ ?side1 ?side2 A1.out ?gside).mono ?_); (case gside => repeat (first | exact (GlobOK.below HG.out HB.out) | (with_reducible refine GlobOK.alloc HG.out ?_ _) | (with_reducible refine GlobOK.drewN ?_ _) | (with_reducible refine GlobOK.drew ?_) | (refine GlobOK.set HG.out (by with_reducible assumption) ?_))); (case side1 => repeat (first | exact (ReadL.reads HO157.out).2.2 | (with_reducible refine Kd.C_alloc ?_ _) | (with_reducible refine Kd.C_drewN ?_ _) | (with_reducible refine Kd.C_drew ?_))); (case side2 => exact (ReadL.reads HO157.out).2.1); rintro e w28 ⟨v161, rfl, ho0, hb⟩; refine ⟨_, rfl, ?_⟩; replace HO157 := Aside0.mk (ReadL.below (by (repeat (first | (with_reducible refine ReadL.alloc ?_ _) | (with_reducible refine ReadL.drewN ?_ _) | (with_reducible refine ReadL.drew ?_))); exact HO157.out) hb); have HO162 := Aside0.mk (Kd.R_lower ho0 (below_size bb)); replace HB := Aside0.mk (below_step bb hb); (try clear hb); (try clear hb2); (try clear hk); (try clear hi); (try clear ho0); obtain ⟨Ao29, co29, eo29⟩ := Kd.R_slice HO162.out; subst eo29))
  go_ret
  exact ⟨ew, bb⟩
 rw [if_pos c4] at H
 have c4b0 : ((t158.length : Int) == 4) = true := beq_iff_eq.mpr c4
 have c4b1 : ((t158.length : Int) != 4) = false := bne_eq_false_iff_eq.mpr c4
 clear c4
 by_cases c5 : 1 < (t158.length : Int)
 rotate_left
 ·
  rw [if_neg c5] at H
  exact absurd H (by simp)
 rw [if_pos c5] at H
 have c5b0 : decide (1 < (t158.length : Int)) = true := decide_eq_true c5
 have c5b1 : decide (1 < t158.length) = true := decide_eq_true (by omega)
 clear c5
 by_cases c6 : ((rd_T29 t158 1).f2).toList = ([60, 61] : List UInt8)
 rotate_left
 ·
  rw [if_neg c6] at H
  have c6b0 : (((rd_T29 t158 1).f2).toList == ([60, 61] : List UInt8)) = false := beq_eq_false_iff_ne.mpr c6
  have c6b1 : (((rd_T29 t158 1).f2).toList != ([60, 61] : List UInt8)) = true := bne_iff_ne.mpr c6
  obtain rfl := Option.some.inj H
  go_enter Try.func5, Try.ntmps5
  go_wp2_with (first | ((with_reducible refine gate_dst (N := 5) rfl ?_); (try (refine gate_guard (by rfl) ?_; dsimp only)); refine lit_event 22 5 ?hg (N := 5) ?hd (xs := ([97, 60, 61, 49, 50] : List Int)) (inner := [.int .u8 97, .int .u8 60, .int .u8 61, .int .u8 49, .int .u8 50]) rfl ?hr Try.underlying22 Try.underlying5 (by simp) ?_; (case hd => rfl); (case hg => rfl); (case hr => first | (go_simp; done) | (go_simp; rfl)); intro v156 wq_ w20 hcvq_ ho21 hb; (first | rw [← Ny155.out] at ho21 | (simp only [Int.reduceToNat] at ho21; rw [← Ny155.out] at ho21)); have HO157 := Aside0.mk ho21; replace HB := Aside0.mk (below_step bb hb); clear hb ho21; obtain ⟨Ao22, co22, eo22⟩ := ReadL.slice HO157.out; subst eo22) | ((with_reducible refine gate_callee (f := 6) rfl ?_); refine gl (some 7) Try.func6 #[.slice Ao22 y155.length co22] ?_; (with_reducible refine (lex_All.calls k _ _ y155 t158 t159 t160 _ ?side1 ?side2 A1.out ?gside).mono ?_); (case gside => repeat (first | exact (GlobOK.below HG.out HB.out) | (with_reducible refine GlobOK.alloc HG.out ?_ _) | (with_reducible refine GlobOK.drewN ?_ _) | (with_reducible refine GlobOK.drew ?_) | (refine GlobOK.set HG.out (by with_reducible assumption) ?_))); (case side1 => repeat (first | exact (ReadL.reads HO157.out).2.2 | (with_reducible refine Kd.C_alloc ?_ _) | (with_reducible refine Kd.C_drewN ?_ _) | (with_reducible refine Kd.C_drew ?_))); (case side2 => exact (ReadL.reads HO157.out).2.1); rintro e w23 ⟨v161, rfl, ho0, hb⟩; refine ⟨_, rfl, ?_⟩; replace HO157 := Aside0.mk (ReadL.below (by (repeat (first | (with_reducible refine ReadL.alloc ?_ _) | (with_reducible refine ReadL.drewN ?_ _) | (with_reducible refine ReadL.drew ?_))); exact HO157.out) hb); have HO162 := Aside0.mk (Kd.R_lower ho0 (below_size bb)); replace HB := Aside0.mk (below_step bb hb); (try clear hb); (try clear hb2); (try clear hk); (try clear hi); (try clear ho0); obtain ⟨Ao24, co24, eo24⟩ := Kd.R_slice HO162.out; subst eo24; have p163 : 0 ≤ (1 : Int) := (by omega); have q163 : 1 < (t158.length : Int) := od; obtain ⟨ad163, e163, hx163_0, hx163_1, hx163_2, hx163_3⟩ := at_T29 (Kd.R_reads' HO162.out).2.2 1 p163 q163; cases e163; (try simp only [show (1 : Int).toNat = 1 from rfl, Nat.reduceMul, Nat.reduceEqDiff, Go.Addr.add, ↓reduceIte] at hx163_0); (try simp only [show (1 : Int).toNat = 1 from rfl, Nat.reduceMul, Nat.reduceEqDiff, Go.Addr.add, ↓reduceIte] at hx163_1); (try simp only [show (1 : Int).toNat = 1 from rfl, Nat.reduceMul, Nat.reduceEqDiff, Go.Addr.add, ↓reduceIte] at hx163_2); (try simp only [show (1 : Int).toNat = 1 from rfl, Nat.reduceMul, Nat.reduceEqDiff, Go.Addr.add, ↓reduceIte] at hx163_3); have qi163 : (1 < t158.length) = True := eq_true (by omega); (try rw [show ((1 : Int)).toNat = 1 from rfl] at hx163_0); (try rw [show 1 * 4 = 4 from rfl] at hx163_0); (try rw [show ((1 : Int)).toNat = 1 from rfl] at hx163_1); (try rw [show 1 * 4 = 4 from rfl] at hx163_1); (try rw [show ((1 : Int)).toNat = 1 from rfl] at hx163_2); (try rw [show 1 * 4 = 4 from rfl] at hx163_2); (try rw [show ((1 : Int)).toNat = 1 from rfl] at hx163_3); (try rw [show 1 * 4 = 4 from rfl] at hx163_3); replace p163 := eq_true p163; replace q163 := eq_true q163))
  go_ret
  exact ⟨ew, bb⟩
 rw [if_pos c6] at H
 have c6b0 : (((rd_T29 t158 1).f2).toList == ([60, 61] : List UInt8)) = true := beq_iff_eq.mpr c6
 have c6b1 : (((rd_T29 t158 1).f2).toList != ([60, 61] : List UInt8)) = false := bne_eq_false_iff_eq.mpr c6
 clear c6
 by_cases c7 : 2 < (t158.length : Int)
 rotate_left
 ·
  rw [if_neg c7] at H
  exact absurd H (by simp)
 rw [if_pos c7] at H
 have c7b0 : decide (2 < (t158.length : Int)) = true := decide_eq_true c7
 have c7b1 : decide (2 < t158.length) = true := decide_eq_true (by omega)
 clear c7
 by_cases c8 : ((rd_T29 t158 2).f3) = 12
 rotate_left
 ·
  rw [if_neg c8] at H
  have c8b0 : (((rd_T29 t158 2).f3) == 12) = false := beq_eq_false_iff_ne.mpr c8
  have c8b1 : (((rd_T29 t158 2).f3) != 12) = true := bne_iff_ne.mpr c8
  obtain rfl := Option.some.inj H
  go_enter Try.func5, Try.ntmps5
  go_wp2_with (first | ((with_reducible refine gate_dst (N := 5) rfl ?_); (try (refine gate_guard (by rfl) ?_; dsimp only)); refine lit_event 22 5 ?hg (N := 5) ?hd (xs := ([97, 60, 61, 49, 50] : List Int)) (inner := [.int .u8 97, .int .u8 60, .int .u8 61, .int .u8 49, .int .u8 50]) rfl ?hr Try.underlying22 Try.underlying5 (by simp) ?_; (case hd => rfl); (case hg => rfl); (case hr => first | (go_simp; done) | (go_simp; rfl)); intro v156 wq_ w15 hcvq_ ho16 hb; (first | rw [← Ny155.out] at ho16 | (simp only [Int.reduceToNat] at ho16; rw [← Ny155.out] at ho16)); have HO157 := Aside0.mk ho16; replace HB := Aside0.mk (below_step bb hb); clear hb ho16; obtain ⟨Ao17, co17, eo17⟩ := ReadL.slice HO157.out; subst eo17) | ((with_reducible refine gate_callee (f := 6) rfl ?_); refine gl (some 7) Try.func6 #[.slice Ao17 y155.length co17] ?_; (with_reducible refine (lex_All.calls k _ _ y155 t158 t159 t160 _ ?side1 ?side2 A1.out ?gside).mono ?_); (case gside => repeat (first | exact (GlobOK.below HG.out HB.out) | (with_reducible refine GlobOK.alloc HG.out ?_ _) | (with_reducible refine GlobOK.drewN ?_ _) | (with_reducible refine GlobOK.drew ?_) | (refine GlobOK.set HG.out (by with_reducible assumption) ?_))); (case side1 => repeat (first | exact (ReadL.reads HO157.out).2.2 | (with_reducible refine Kd.C_alloc ?_ _) | (with_reducible refine Kd.C_drewN ?_ _) | (with_reducible refine Kd.C_drew ?_))); (case side2 => exact (ReadL.reads HO157.out).2.1); rintro e w18 ⟨v161, rfl, ho0, hb⟩; refine ⟨_, rfl, ?_⟩; replace HO157 := Aside0.mk (ReadL.below (by (repeat (first | (with_reducible refine ReadL.alloc ?_ _) | (with_reducible refine ReadL.drewN ?_ _) | (with_reducible refine ReadL.drew ?_))); exact HO157.out) hb); have HO162 := Aside0.mk (Kd.R_lower ho0 (below_size bb)); replace HB := Aside0.mk (below_step bb hb); (try clear hb); (try clear hb2); (try clear hk); (try clear hi); (try clear ho0); obtain ⟨Ao19, co19, eo19⟩ := Kd.R_slice HO162.out; subst eo19; have p163 : 0 ≤ (1 : Int) := (by omega); have q163 : 1 < (t158.length : Int) := od; obtain ⟨ad163, e163, hx163_0, hx163_1, hx163_2, hx163_3⟩ := at_T29 (Kd.R_reads' HO162.out).2.2 1 p163 q163; cases e163; (try simp only [show (1 : Int).toNat = 1 from rfl, Nat.reduceMul, Nat.reduceEqDiff, Go.Addr.add, ↓reduceIte] at hx163_0); (try simp only [show (1 : Int).toNat = 1 from rfl, Nat.reduceMul, Nat.reduceEqDiff, Go.Addr.add, ↓reduceIte] at hx163_1); (try simp only [show (1 : Int).toNat = 1 from rfl, Nat.reduceMul, Nat.reduceEqDiff, Go.Addr.add, ↓reduceIte] at hx163_2); (try simp only [show (1 : Int).toNat = 1 from rfl, Nat.reduceMul, Nat.reduceEqDiff, Go.Addr.add, ↓reduceIte] at hx163_3); have qi163 : (1 < t158.length) = True := eq_true (by omega); (try rw [show ((1 : Int)).toNat = 1 from rfl] at hx163_0); (try rw [show 1 * 4 = 4 from rfl] at hx163_0); (try rw [show ((1 : Int)).toNat = 1 from rfl] at hx163_1); (try rw [show 1 * 4 = 4 from rfl] at hx163_1); (try rw [show ((1 : Int)).toNat = 1 from rfl] at hx163_2); (try rw [show 1 * 4 = 4 from rfl] at hx163_2); (try rw [show ((1 : Int)).toNat = 1 from rfl] at hx163_3); (try rw [show 1 * 4 = 4 from rfl] at hx163_3); replace p163 := eq_true p163; replace q163 := eq_true q163; have p164 : 0 ≤ (2 : Int) := (by omega); have q164 : 2 < (t158.length : Int) := od; obtain ⟨ad164, e164, hx164_0, hx164_1, hx164_2, hx164_3⟩ := at_T29 (Kd.R_reads' HO162.out).2.2 2 p164 q164; obtain rfl : ad163 = ad164 := (by injection e164); (try simp only [show (2 : Int).toNat = 2 from rfl, Nat.reduceMul, Nat.reduceEqDiff, Go.Addr.add, ↓reduceIte] at hx164_0); (try simp only [show (2 : Int).toNat = 2 from rfl, Nat.reduceMul, Nat.reduceEqDiff, Go.Addr.add, ↓reduceIte] at hx164_1); (try simp only [show (2 : Int).toNat = 2 from rfl, Nat.reduceMul, Nat.reduceEqDiff, Go.Addr.add, ↓reduceIte] at hx164_2); (try simp only [show (2 : Int).toNat = 2 from rfl, Nat.reduceMul, Nat.reduceEqDiff, Go.Addr.add, ↓reduceIte] at hx164_3); have qi164 : (2 < t158.length) = True := eq_true (by omega); (try rw [show ((2 : Int)).toNat = 2 from rfl] at hx164_0); (try rw [show 2 * 4 = 8 from rfl] at hx164_0); (try rw [show ((2 : Int)).toNat = 2 from rfl] at hx164_1); (try rw [show 2 * 4 = 8 from rfl] at hx164_1); (try rw [show ((2 : Int)).toNat = 2 from rfl] at hx164_2); (try rw [show 2 * 4 = 8 from rfl] at hx164_2); (try rw [show ((2 : Int)).toNat = 2 from rfl] at hx164_3); (try rw [show 2 * 4 = 8 from rfl] at hx164_3); replace p164 := eq_true p164; replace q164 := eq_true q164))
  go_ret
  exact ⟨ew, bb⟩
 rw [if_pos c8] at H
 have c8b0 : (((rd_T29 t158 2).f3) == 12) = true := beq_iff_eq.mpr c8
 have c8b1 : (((rd_T29 t158 2).f3) != 12) = false := bne_eq_false_iff_eq.mpr c8
 clear c8
 by_cases c9 : 3 < (t158.length : Int)
 rotate_left
 ·
  rw [if_neg c9] at H
  exact absurd H (by simp)
 rw [if_pos c9] at H
 have c9b0 : decide (3 < (t158.length : Int)) = true := decide_eq_true c9
 have c9b1 : decide (3 < t158.length) = true := decide_eq_true (by omega)
 clear c9
 obtain rfl := Option.some.inj H
 go_enter Try.func5, Try.ntmps5
 go_wp2_with (first | ((with_reducible refine gate_dst (N := 5) rfl ?_); (try (refine gate_guard (by rfl) ?_; dsimp only)); refine lit_event 22 5 ?hg (N := 5) ?hd (xs := ([97, 60, 61, 49, 50] : List Int)) (inner := [.int .u8 97, .int .u8 60, .int .u8 61, .int .u8 49, .int .u8 50]) rfl ?hr Try.underlying22 Try.underlying5 (by simp) ?_; (case hd => rfl); (case hg => rfl); (case hr => first | (go_simp; done) | (go_simp; rfl)); intro v156 wq_ w10 hcvq_ ho11 hb; (first | rw [← Ny155.out] at ho11 | (simp only [Int.reduceToNat] at ho11; rw [← Ny155.out] at ho11)); have HO157 := Aside0.mk ho11; replace HB := Aside0.mk (below_step bb hb); clear hb ho11; obtain ⟨Ao12, co12, eo12⟩ := ReadL.slice HO157.out; subst eo12) | ((with_reducible refine gate_callee (f := 6) rfl ?_); refine gl (some 7) Try.func6 #[.slice Ao12 y155.length co12] ?_; (with_reducible refine (lex_All.calls k _ _ y155 t158 t159 t160 _ ?side1 ?side2 A1.out ?gside).mono ?_); (case gside => repeat (first | exact (GlobOK.below HG.out HB.out) | (with_reducible refine GlobOK.alloc HG.out ?_ _) | (with_reducible refine GlobOK.drewN ?_ _) | (with_reducible refine GlobOK.drew ?_) | (refine GlobOK.set HG.out (by with_reducible assumption) ?_))); (case side1 => repeat (first | exact (ReadL.reads HO157.out).2.2 | (with_reducible refine Kd.C_alloc ?_ _) | (with_reducible refine Kd.C_drewN ?_ _) | (with_reducible refine Kd.C_drew ?_))); (case side2 => exact (ReadL.reads HO157.out).2.1); rintro e w13 ⟨v161, rfl, ho0, hb⟩; refine ⟨_, rfl, ?_⟩; replace HO157 := Aside0.mk (ReadL.below (by (repeat (first | (with_reducible refine ReadL.alloc ?_ _) | (with_reducible refine ReadL.drewN ?_ _) | (with_reducible refine ReadL.drew ?_))); exact HO157.out) hb); have HO162 := Aside0.mk (Kd.R_lower ho0 (below_size bb)); replace HB := Aside0.mk (below_step bb hb); (try clear hb); (try clear hb2); (try clear hk); (try clear hi); (try clear ho0); obtain ⟨Ao14, co14, eo14⟩ := Kd.R_slice HO162.out; subst eo14; have p163 : 0 ≤ (1 : Int) := (by omega); have q163 : 1 < (t158.length : Int) := od; obtain ⟨ad163, e163, hx163_0, hx163_1, hx163_2, hx163_3⟩ := at_T29 (Kd.R_reads' HO162.out).2.2 1 p163 q163; cases e163; (try simp only [show (1 : Int).toNat = 1 from rfl, Nat.reduceMul, Nat.reduceEqDiff, Go.Addr.add, ↓reduceIte] at hx163_0); (try simp only [show (1 : Int).toNat = 1 from rfl, Nat.reduceMul, Nat.reduceEqDiff, Go.Addr.add, ↓reduceIte] at hx163_1); (try simp only [show (1 : Int).toNat = 1 from rfl, Nat.reduceMul, Nat.reduceEqDiff, Go.Addr.add, ↓reduceIte] at hx163_2); (try simp only [show (1 : Int).toNat = 1 from rfl, Nat.reduceMul, Nat.reduceEqDiff, Go.Addr.add, ↓reduceIte] at hx163_3); have qi163 : (1 < t158.length) = True := eq_true (by omega); (try rw [show ((1 : Int)).toNat = 1 from rfl] at hx163_0); (try rw [show 1 * 4 = 4 from rfl] at hx163_0); (try rw [show ((1 : Int)).toNat = 1 from rfl] at hx163_1); (try rw [show 1 * 4 = 4 from rfl] at hx163_1); (try rw [show ((1 : Int)).toNat = 1 from rfl] at hx163_2); (try rw [show 1 * 4 = 4 from rfl] at hx163_2); (try rw [show ((1 : Int)).toNat = 1 from rfl] at hx163_3); (try rw [show 1 * 4 = 4 from rfl] at hx163_3); replace p163 := eq_true p163; replace q163 := eq_true q163; have p164 : 0 ≤ (2 : Int) := (by omega); have q164 : 2 < (t158.length : Int) := od; obtain ⟨ad164, e164, hx164_0, hx164_1, hx164_2, hx164_3⟩ := at_T29 (Kd.R_reads' HO162.out).2.2 2 p164 q164; obtain rfl : ad163 = ad164 := (by injection e164); (try simp only [show (2 : Int).toNat = 2 from rfl, Nat.reduceMul, Nat.reduceEqDiff, Go.Addr.add, ↓reduceIte] at hx164_0); (try simp only [show (2 : Int).toNat = 2 from rfl, Nat.reduceMul, Nat.reduceEqDiff, Go.Addr.add, ↓reduceIte] at hx164_1); (try simp only [show (2 : Int).toNat = 2 from rfl, Nat.reduceMul, Nat.reduceEqDiff, Go.Addr.add, ↓reduceIte] at hx164_2); (try simp only [show (2 : Int).toNat = 2 from rfl, Nat.reduceMul, Nat.reduceEqDiff, Go.Addr.add, ↓reduceIte] at hx164_3); have qi164 : (2 < t158.length) = True := eq_true (by omega); (try rw [show ((2 : Int)).toNat = 2 from rfl] at hx164_0); (try rw [show 2 * 4 = 8 from rfl] at hx164_0); (try rw [show ((2 : Int)).toNat = 2 from rfl] at hx164_1); (try rw [show 2 * 4 = 8 from rfl] at hx164_1); (try rw [show ((2 : Int)).toNat = 2 from rfl] at hx164_2); (try rw [show 2 * 4 = 8 from rfl] at hx164_2); (try rw [show ((2 : Int)).toNat = 2 from rfl] at hx164_3); (try rw [show 2 * 4 = 8 from rfl] at hx164_3); replace p164 := eq_true p164; replace q164 := eq_true q164; have p165 : 0 ≤ (3 : Int) := (by omega); have q165 : 3 < (t158.length : Int) := od; obtain ⟨ad165, e165, hx165_0, hx165_1, hx165_2, hx165_3⟩ := at_T29 (Kd.R_reads' HO162.out).2.2 3 p165 q165; obtain rfl : ad163 = ad165 := (by injection e165); (try simp only [show (3 : Int).toNat = 3 from rfl, Nat.reduceMul, Nat.reduceEqDiff, Go.Addr.add, ↓reduceIte] at hx165_0); (try simp only [show (3 : Int).toNat = 3 from rfl, Nat.reduceMul, Nat.reduceEqDiff, Go.Addr.add, ↓reduceIte] at hx165_1); (try simp only [show (3 : Int).toNat = 3 from rfl, Nat.reduceMul, Nat.reduceEqDiff, Go.Addr.add, ↓reduceIte] at hx165_2); (try simp only [show (3 : Int).toNat = 3 from rfl, Nat.reduceMul, Nat.reduceEqDiff, Go.Addr.add, ↓reduceIte] at hx165_3); have qi165 : (3 < t158.length) = True := eq_true (by omega); (try rw [show ((3 : Int)).toNat = 3 from rfl] at hx165_0); (try rw [show 3 * 4 = 12 from rfl] at hx165_0); (try rw [show ((3 : Int)).toNat = 3 from rfl] at hx165_1); (try rw [show 3 * 4 = 12 from rfl] at hx165_1); (try rw [show ((3 : Int)).toNat = 3 from rfl] at hx165_2); (try rw [show 3 * 4 = 12 from rfl] at hx165_2); (try rw [show ((3 : Int)).toNat = 3 from rfl] at hx165_3); (try rw [show 3 * 4 = 12 from rfl] at hx165_3); replace p165 := eq_true p165; replace q165 := eq_true q165))
 go_ret
 exact ⟨ew, bb⟩

/-! ### fathomref20_Start: function 7 -/
mutual
def fathomref20_Start.l0 : Nat → List Int → Int → Bool → Option (Int)
  | 0, _, _, _ => none
  | k + 1, x0, x1, x5 => if x1 < (x0.length : Int) then (if 0 ≤ x1 then (if (rd x0 x1) = 35 then (fathomref20_Start.j1 k x0 x1 true (rd x0 x1)) else (fathomref20_Start.j1 k x0 x1 x5 (rd x0 x1))) else (none)) else (some x1)
def fathomref20_Start.j1 : Nat → List Int → Int → Bool → Int → Option (Int)
  | 0, _, _, _, _ => none
  | k + 1, x0, x1, x5, x6 => if x6 = 10 then (if x6 = 32 then (fathomref20_Start.l0 k x0 (wrap64 (x1 + 1)) false) else (if x6 = 9 then (fathomref20_Start.l0 k x0 (wrap64 (x1 + 1)) false) else (fathomref20_Start.l0 k x0 (wrap64 (x1 + 1)) false))) else (if x5 = true then (fathomref20_Start.l0 k x0 (wrap64 (x1 + 1)) x5) else (if x6 = 32 then (fathomref20_Start.l0 k x0 (wrap64 (x1 + 1)) x5) else (if x6 = 9 then (fathomref20_Start.l0 k x0 (wrap64 (x1 + 1)) x5) else (if x6 = 13 then (fathomref20_Start.l0 k x0 (wrap64 (x1 + 1)) x5) else (some x1)))))
end
def fathomref20_Start.f (k : Nat) (l0 : List Int) (a1 : Int) : Option (Int) := fathomref20_Start.l0 k l0 a1 false
theorem fathomref20_Start.mono_l : ∀ k, (∀ y0 y1 y2, LeO (fathomref20_Start.l0 k y0 y1 y2) (fathomref20_Start.l0 (k + 1) y0 y1 y2)) ∧ (∀ y0 y1 y2 y3, LeO (fathomref20_Start.j1 k y0 y1 y2 y3) (fathomref20_Start.j1 (k + 1) y0 y1 y2 y3))
  | 0 => ⟨fun _ _ _ r h => by simp [fathomref20_Start.l0] at h, fun _ _ _ _ r h => by simp [fathomref20_Start.j1] at h⟩
  | k + 1 => by
    obtain ⟨ih0, ih1⟩ := fathomref20_Start.mono_l k
    refine ⟨?_, ?_⟩
    · intro y0 y1 y2
      unfold fathomref20_Start.l0
      repeat' first
      | (with_reducible exact ih0 _ _ _)
      | (with_reducible exact ih1 _ _ _ _)
      | (with_reducible exact LeO.refl _)
      | (with_reducible exact LeO.none _)
      | (with_reducible refine LeO.ite ?_ ?_)
      | (with_reducible refine LeO.bind ?_ (fun _ => ?_))
      | exact ih0 _ _ _
      | exact ih1 _ _ _ _
      | exact LeO.none _
      | refine LeO.ite ?_ ?_
      | refine LeO.bind ?_ (fun _ => ?_)
    · intro y0 y1 y2 y3
      unfold fathomref20_Start.j1
      repeat' first
      | (with_reducible exact ih0 _ _ _)
      | (with_reducible exact ih1 _ _ _ _)
      | (with_reducible exact LeO.refl _)
      | (with_reducible exact LeO.none _)
      | (with_reducible refine LeO.ite ?_ ?_)
      | (with_reducible refine LeO.bind ?_ (fun _ => ?_))
      | exact ih0 _ _ _
      | exact ih1 _ _ _ _
      | exact LeO.none _
      | refine LeO.ite ?_ ?_
      | refine LeO.bind ?_ (fun _ => ?_)
theorem fathomref20_Start.mono : ∀ a0 a1 k, LeO (fathomref20_Start.f k a0 a1) (fathomref20_Start.f (k + 1) a0 a1) := by
  intro a0 a1 k
  obtain ⟨ih0, ih1⟩ := fathomref20_Start.mono_l k
  unfold fathomref20_Start.f
  repeat' first
      | (with_reducible exact ih0 _ _ _)
      | (with_reducible exact ih1 _ _ _ _)
      | (with_reducible exact LeO.refl _)
      | (with_reducible exact LeO.none _)
      | (with_reducible refine LeO.ite ?_ ?_)
      | (with_reducible refine LeO.bind ?_ (fun _ => ?_))
      | exact ih0 _ _ _
      | exact ih1 _ _ _ _
      | exact LeO.none _
      | refine LeO.ite ?_ ?_
      | refine LeO.bind ?_ (fun _ => ?_)
set_option maxHeartbeats 8000000 in
set_option maxRecDepth 100000 in
theorem fathomref20_Start.calls (k : Nat) (A0 : Option Addr) (c0 : Nat) (l0 : List Int) (a1 : Int) (r : Int) (w : World) (hr0 : Kd.C (Kd.int .u8) w A0 l0.length l0) (hc0 : l0.length ≤ c0) (h : fathomref20_Start.f k l0 a1 = some r) :
    Calls Try.prog 7 #[.slice A0 l0.length c0, .int .i64 a1] w fun e w' => e = .returned (.int .i64 r) ∧ Drawn0 w w' := by
 have HR0 := Aside0.mk hr0
 have HC0 := Aside0.mk hc0
 clear hr0 hc0
 have H : (fathomref20_Start.l0 k l0 a1 false) = some r := h
 clear h
 have H' := Aside0.mk H
 clear H
 go_enter Try.func7, Try.ntmps7
 go_wp2
 go_loopg [1, 5] k (fun kq v1 v5 w' => ∃ (x1_1 : Int) (x5_1 : Bool), v1 = .int .i64 x1_1 ∧ v5 = .bool x5_1 ∧ Aside0 (fathomref20_Start.l0 kq l0 x1_1 x5_1 = some r) ∧ Aside0 (kq ≤ k) ∧ Drawn0 w w')
 case atStart => exact ⟨(a1), (false), rs, rs, H', ⟨Nat.le_refl _⟩, by repeat (first | exact Drawn0.refl _ | apply Drawn0.step)⟩
 case round =>
  clear H'
  try clear p2
  obtain ⟨x1_1, x5_1, rfl, rfl, HA, HK1, ⟨m1, rfl⟩⟩ := hrel
  cases gk with
  | zero => exact absurd HA.out (by simp [fathomref20_Start.l0])
  | succ k1 =>
   have H := HA.out
   clear HA
   simp only [fathomref20_Start.l0] at H
   by_cases c3 : x1_1 < (l0.length : Int)
   rotate_left
   ·
    rw [if_neg c3] at H
    have c3b0 : decide (x1_1 < (l0.length : Int)) = false := decide_eq_false c3
    clear c3
    obtain rfl := Option.some.inj H
    go_wp2
    go_ret
    exact ⟨rs, by repeat (first | exact Drawn0.refl _ | apply Drawn0.step)⟩
   rw [if_pos c3] at H
   have c3b0 : decide (x1_1 < (l0.length : Int)) = true := decide_eq_true c3
   clear c3
   by_cases c4 : 0 ≤ x1_1
   rotate_left
   ·
    rw [if_neg c4] at H
    exact absurd H (by simp)
   rw [if_pos c4] at H
   have c4b0 : decide (0 ≤ x1_1) = true := decide_eq_true c4
   clear c4
   have HC5 := Aside0.mk H
   clear H
   have p166 : 0 ≤ (x1_1 : Int) := od
   have q166 : x1_1 < (l0.length : Int) := od
   obtain ⟨ad166, e166, hx166_0⟩ := Kd.at_int HR0.out x1_1 p166 q166
   cases e166
   replace p166 := eq_true p166
   replace q166 := eq_true q166
   go_upto_if 16 with (fail)
   go_cut [5] (fun v5 wc => ∃ (kq : Nat) (x5_4 : Bool), v5 = .bool x5_4 ∧ Aside0 (fathomref20_Start.j1 kq l0 x1_1 x5_4 (rd l0 x1_1) = some r) ∧ Aside0 (kq ≤ k1) ∧ Drawn0 w wc)
   case first =>
    have H := HC5.out
    clear HC5
    by_cases c6 : (rd l0 x1_1) = 35
    rotate_left
    ·
     rw [if_neg c6] at H
     have c6b0 : ((rd l0 x1_1) == 35) = false := beq_eq_false_iff_ne.mpr c6
     have c6b1 : ((rd l0 x1_1) != 35) = true := bne_iff_ne.mpr c6
     (first | rw [c6b0] | (simp only [i64_w, i32_w]; rw [c6b0]) | skip)
     have H' := Aside0.mk H
     clear H
     go_wp2
     go_meet
     case rel => exact ⟨_, (x5_1), rs, H', ⟨by have := HK1.out; first | omega | exact Nat.le_refl _⟩, by repeat (first | exact Drawn0.refl _ | apply Drawn0.step)⟩
    rw [if_pos c6] at H
    have c6b0 : ((rd l0 x1_1) == 35) = true := beq_iff_eq.mpr c6
    have c6b1 : ((rd l0 x1_1) != 35) = false := bne_eq_false_iff_eq.mpr c6
    clear c6
    (first | rw [c6b0] | (simp only [i64_w, i32_w]; rw [c6b0]) | skip)
    have H' := Aside0.mk H
    clear H
    go_wp2
    go_meet
    case rel => exact ⟨_, (true), rs, H', ⟨by have := HK1.out; first | omega | exact Nat.le_refl _⟩, by repeat (first | exact Drawn0.refl _ | apply Drawn0.step)⟩
   case rest =>
    clear HC5
    try clear p1
    try clear q1
    try clear hx1
    try clear p2
    try clear c3
    try clear c3b0
    try clear c4
    try clear c4b0
    try clear c6
    try clear c6b0
    try clear c6b1
    try clear hx166_0
    try clear p166
    try clear q166
    obtain ⟨kq, x5_4, rfl, HA, HJ4, ⟨mc4, rfl⟩⟩ := hcut
    cases kq with
    | zero => exact absurd HA.out (by simp [fathomref20_Start.j1])
    | succ kj4 =>
     have H := HA.out
     clear HA
     simp only [fathomref20_Start.j1] at H
     by_cases c7 : (rd l0 x1_1) = 10
     ·
      rw [if_pos c7] at H
      have c7b0 : ((rd l0 x1_1) == 10) = true := beq_iff_eq.mpr c7
      have c7b1 : ((rd l0 x1_1) != 10) = false := bne_eq_false_iff_eq.mpr c7
      clear c7
      by_cases c8 : (rd l0 x1_1) = 32
      ·
       rw [if_pos c8] at H
       have c8b0 : ((rd l0 x1_1) == 32) = true := beq_iff_eq.mpr c8
       have c8b1 : ((rd l0 x1_1) != 32) = false := bne_eq_false_iff_eq.mpr c8
       clear c8
       have H' := Aside0.mk H
       clear H
       go_wp2
       go_roundg kj4
       case measure => have := HK1.out; have := HJ4.out; omega
       case rel => exact ⟨(wrap64 (x1_1 + 1)), (false), rs, rs, H', ⟨by have := HK1.out; have := HJ4.out; omega⟩, by repeat (first | exact Drawn0.refl _ | apply Drawn0.step)⟩
      rw [if_neg c8] at H
      have c8b0 : ((rd l0 x1_1) == 32) = false := beq_eq_false_iff_ne.mpr c8
      have c8b1 : ((rd l0 x1_1) != 32) = true := bne_iff_ne.mpr c8
      by_cases c9 : (rd l0 x1_1) = 9
      rotate_left
      ·
       rw [if_neg c9] at H
       have c9b0 : ((rd l0 x1_1) == 9) = false := beq_eq_false_iff_ne.mpr c9
       have c9b1 : ((rd l0 x1_1) != 9) = true := bne_iff_ne.mpr c9
       have H' := Aside0.mk H
       clear H
       go_wp2
       go_roundg kj4
       case measure => have := HK1.out; have := HJ4.out; omega
       case rel => exact ⟨(wrap64 (x1_1 + 1)), (false), rs, rs, H', ⟨by have := HK1.out; have := HJ4.out; omega⟩, by repeat (first | exact Drawn0.refl _ | apply Drawn0.step)⟩
      rw [if_pos c9] at H
      have c9b0 : ((rd l0 x1_1) == 9) = true := beq_iff_eq.mpr c9
      have c9b1 : ((rd l0 x1_1) != 9) = false := bne_eq_false_iff_eq.mpr c9
      clear c9
      have H' := Aside0.mk H
      clear H
      go_wp2
      go_roundg kj4
      case measure => have := HK1.out; have := HJ4.out; omega
      case rel => exact ⟨(wrap64 (x1_1 + 1)), (false), rs, rs, H', ⟨by have := HK1.out; have := HJ4.out; omega⟩, by repeat (first | exact Drawn0.refl _ | apply Drawn0.step)⟩
     rw [if_neg c7] at H
     have c7b0 : ((rd l0 x1_1) == 10) = false := beq_eq_false_iff_ne.mpr c7
     have c7b1 : ((rd l0 x1_1) != 10) = true := bne_iff_ne.mpr c7
     by_cases c10 : x5_4 = true
     ·
      subst c10
      have H1 : (fathomref20_Start.l0 kj4 l0 (wrap64 (x1_1 + 1)) true) = some r := by rw [if_pos rfl] at H; exact H
      clear H
      have H := H1
      clear H1
      have H' := Aside0.mk H
      clear H
      go_wp2
      go_roundg kj4
      case measure => have := HK1.out; have := HJ4.out; omega
      case rel => exact ⟨(wrap64 (x1_1 + 1)), (true), rs, rs, H', ⟨by have := HK1.out; have := HJ4.out; omega⟩, by repeat (first | exact Drawn0.refl _ | apply Drawn0.step)⟩
     replace c10 := Bool.eq_false_iff.mpr c10
     subst c10
     have H1 : (if (rd l0 x1_1) = 32 then (fathomref20_Start.l0 kj4 l0 (wrap64 (x1_1 + 1)) false) else (if (rd l0 x1_1) = 9 then (fathomref20_Start.l0 kj4 l0 (wrap64 (x1_1 + 1)) false) else (if (rd l0 x1_1) = 13 then (fathomref20_Start.l0 kj4 l0 (wrap64 (x1_1 + 1)) false) else (some x1_1)))) = some r := by rw [if_neg (show ¬ (false = true) by decide)] at H; exact H
     clear H
     have H := H1
     clear H1
     by_cases c11 : (rd l0 x1_1) = 32
     ·
      rw [if_pos c11] at H
      have c11b0 : ((rd l0 x1_1) == 32) = true := beq_iff_eq.mpr c11
      have c11b1 : ((rd l0 x1_1) != 32) = false := bne_eq_false_iff_eq.mpr c11
      clear c11
      have H' := Aside0.mk H
      clear H
      go_wp2
      go_roundg kj4
      case measure => have := HK1.out; have := HJ4.out; omega
      case rel => exact ⟨(wrap64 (x1_1 + 1)), (false), rs, rs, H', ⟨by have := HK1.out; have := HJ4.out; omega⟩, by repeat (first | exact Drawn0.refl _ | apply Drawn0.step)⟩
     rw [if_neg c11] at H
     have c11b0 : ((rd l0 x1_1) == 32) = false := beq_eq_false_iff_ne.mpr c11
     have c11b1 : ((rd l0 x1_1) != 32) = true := bne_iff_ne.mpr c11
     by_cases c12 : (rd l0 x1_1) = 9
     ·
      rw [if_pos c12] at H
      have c12b0 : ((rd l0 x1_1) == 9) = true := beq_iff_eq.mpr c12
      have c12b1 : ((rd l0 x1_1) != 9) = false := bne_eq_false_iff_eq.mpr c12
      clear c12
      have H' := Aside0.mk H
      clear H
      go_wp2
      go_roundg kj4
      case measure => have := HK1.out; have := HJ4.out; omega
      case rel => exact ⟨(wrap64 (x1_1 + 1)), (false), rs, rs, H', ⟨by have := HK1.out; have := HJ4.out; omega⟩, by repeat (first | exact Drawn0.refl _ | apply Drawn0.step)⟩
     rw [if_neg c12] at H
     have c12b0 : ((rd l0 x1_1) == 9) = false := beq_eq_false_iff_ne.mpr c12
     have c12b1 : ((rd l0 x1_1) != 9) = true := bne_iff_ne.mpr c12
     by_cases c13 : (rd l0 x1_1) = 13
     rotate_left
     ·
      rw [if_neg c13] at H
      have c13b0 : ((rd l0 x1_1) == 13) = false := beq_eq_false_iff_ne.mpr c13
      have c13b1 : ((rd l0 x1_1) != 13) = true := bne_iff_ne.mpr c13
      obtain rfl := Option.some.inj H
      go_wp2
      go_ret
      exact ⟨rs, by repeat (first | exact Drawn0.refl _ | apply Drawn0.step)⟩
     rw [if_pos c13] at H
     have c13b0 : ((rd l0 x1_1) == 13) = true := beq_iff_eq.mpr c13
     have c13b1 : ((rd l0 x1_1) != 13) = false := bne_eq_false_iff_eq.mpr c13
     clear c13
     have H' := Aside0.mk H
     clear H
     go_wp2
     go_roundg kj4
     case measure => have := HK1.out; have := HJ4.out; omega
     case rel => exact ⟨(wrap64 (x1_1 + 1)), (false), rs, rs, H', ⟨by have := HK1.out; have := HJ4.out; omega⟩, by repeat (first | exact Drawn0.refl _ | apply Drawn0.step)⟩

end Go.Proofs.Ytgjehnjonleibaa.Q
