/- dimacs.reader.end; dimacs.Read. -/
import Derived.Test.YthnnekaimkppfaaDe
namespace Go.Proofs.Ythnnekaimkppfaa.D
open Go.RowKit Go.Proofs.YthnnekaimkppfaaW.PrintWords Go.Proofs.YthnnekaimkppfaaW.PrintLast
set_option linter.unusedVariables false
set_option linter.unusedSimpArgs false
set_option maxHeartbeats 2000000 in
set_option maxRecDepth 100000 in
theorem read_calls (hN : NumOK) (w : World) (A : Option Addr) (c : Nat) (b : List Int) (hr : (Kd.int .u8).C w A b.length b) (hc : b.length ≤ c) :
    Calls Try.prog 11 #[.slice A b.length c] w fun e w' => ∃ v, e = .returned (.tuple #[.agg #[.int .i64 (readF b).1.1, v], .int .i64 (readF b).2.1, .int .i64 (readF b).2.2]) ∧ kR.R 32 w' w.heap.size (fun _ => True) v (readF b).1.2 ∧ Below w.heap.size w w' := by
  obtain ⟨R, hR⟩ : ∃ R, readF b = R := ⟨_, rfl⟩
  rw [hR]
  have HU := Aside0.mk (show R = readF b from hR.symm)
  clear hR
  unfold readF at HU
  have HN := Aside0.mk hN
  have HR := Aside0.mk hr
  clear hr hN
  by_cases hlong : 4194304 < b.length
  · have HE := Aside0.mk (HU.out.trans (if_pos hlong))
    have q : decide ((4194304 : Int) < (b.length : Int)) = true := decide_eq_true (by omega)
    have q' : decide (4194304 < b.length) = true := decide_eq_true hlong
    clear HU hlong
    go_enter Try.func11, Try.ntmps11
    go_wp2
    refine bodyPost_ret (v := .tuple #[.agg #[.int .i64 0, .slice none 0 0], .int .i64 0, .int .i64 3]) (by simp [results, Try.results11, go_sem]) rfl ?_
    rw [HE.out]
    exact ⟨_, rfl, Kd.R_nil _ _ _ _ _, by repeat (first | (with_reducible exact Below.refl _ _) | apply below_alloc | refine below_set ?_ (Nat.le_refl _))⟩
  · replace HU := Aside0.mk (HU.out.trans (if_neg hlong))
    have q : decide ((4194304 : Int) < (b.length : Int)) = false := decide_eq_false (by omega)
    have q' : decide (4194304 < b.length) = false := decide_eq_false hlong
    go_enter Try.func11, Try.ntmps11
    go_wp2
    have s1 : ∀ (w : World) (o : Obj), (w.alloc o).heap.size = w.heap.size + 1 := fun w o => by simp
    have HB1 := Aside0.mk (below_alloc (below_alloc (Below.refl w.heap.size w) (.cells #[.int .i64 0, .slice none 0 0] 29)) (.cells (cellsS s0 (.slice none 0 0) (.slice none 0 0)) 43))
    have HX1 := Aside0.mk (blk_alloc (blk_new w (.cells #[.int .i64 0, .slice none 0 0] 29)) (.cells (cellsS s0 (.slice none 0 0) (.slice none 0 0)) 43))
    have HG1 := Aside0.mk (show ((w.alloc (.cells #[.int .i64 0, .slice none 0 0] 29)).alloc (.cells (cellsS s0 (.slice none 0 0) (.slice none 0 0)) 43)).heap[w.heap.size + 1]? = some (.cells (cellsS s0 (.slice none 0 0) (.slice none 0 0)) 43 (0, 0)) by rw [← s1 w (.cells #[.int .i64 0, .slice none 0 0] 29)]; exact blk_new _ _)
    have HS1 := Aside0.mk (show RS w _ (w.heap.size + 1) s0 from ⟨HB1.out, by omega, _, _, HG1.out, Kd.R_nil _ _ _ _ _, Kd.R_nil _ _ _ _ _⟩)
    clear HB1 HG1 s1
    obtain ⟨RL, hRL⟩ : ∃ RL, loopF b (b.length + 1) 0 0 s0 = RL := ⟨_, rfl⟩
    rw [hRL] at HU
    have HL := Aside0.mk hRL.symm
    clear hRL
    change Code.wp _ _ _ _ ((w.alloc (.cells #[.int .i64 0, .slice none 0 0] 29)).alloc (.cells (cellsS s0 (.slice none 0 0) (.slice none 0 0)) 43))
    generalize (w.alloc (.cells #[.int .i64 0, .slice none 0 0] 29)).alloc (.cells (cellsS s0 (.slice none 0 0) (.slice none 0 0)) 43) = w1 at HX1 HS1 ⊢
    go_loopw [6, 7] (fun f i wr => ∃ (k fr d : Nat) (sk : St), d + k = b.length + 1 ∧ fr ≤ k ∧ f = .int .i64 fr ∧ i = .int .i64 k ∧ Aside0 (RL = loopF b d k fr sk) ∧ Aside0 (RS w wr (w.heap.size + 1) sk) ∧ Aside0 (wr.heap[w.heap.size]? = some (.cells #[.int .i64 0, .slice none 0 0] 29 (0, 0))) ∧ sk.op.length ≤ 4096 ∧ sk.cl.length ≤ 2 * fr) (fun _ i _ => b.length + 1 - (intOf i).toNat)
    case atStart => exact ⟨0, 0, b.length + 1, s0, by omega, by omega, rfl, rfl, HL, HS1, HX1, by simp [s0], by simp [s0]⟩
    case round =>
      clear HL HS1 HX1
      obtain ⟨k, fr, d, sk, hd, hfr, rfl, rfl, HL, HS, HX, ho, hcl⟩ := hrel
      by_cases hk : k ≤ b.length
      · obtain ⟨d, rfl⟩ : ∃ m, d = m + 1 := ⟨d - 1, by omega⟩
        have qk : decide ((k : Int) ≤ (b.length : Int)) = true := decide_eq_true (by omega)
        have qk' : decide (k ≤ b.length) = true := decide_eq_true hk
        unfold loopF at HL
        have hsub : IntKind.i64.wrap ((k : Int) - 1) = (k : Int) - 1 := IntWalk.i64_in _ (by omega)
        by_cases hnl : k < b.length ∧ rd b k ≠ 10
        · replace HL := Aside0.mk (HL.out.trans (if_pos hnl))
          obtain ⟨hkl, hne⟩ := hnl
          obtain ⟨ad, e1, x0⟩ := Kd.at_int (Kd.C_below HR.out HS.out.below) (k : Int) (by omega) (by omega)
          subst e1
          rw [Int.toNat_natCast] at x0
          have q1 : (rd b k != 10) = true := bne_iff_ne.mpr hne
          have q2 : (rd b k == 10) = false := beq_eq_false_iff_ne.mpr hne
          clear hne
          go_wp2
          go_roundw
          case rel => exact ⟨k + 1, fr, d, sk, by omega, by omega, rfl, by go_num, HL, HS, HX, ho, hcl⟩
          case measure => simp [intOf]; omega
        · replace HL := Aside0.mk (HL.out.trans (if_neg hnl))
          by_cases hT : k < b.length ∧ fr < k ∧ rd b ((k : Int) - 1) = 13
          · obtain ⟨t1, t2, t3⟩ := id hT
            obtain ⟨ad, e1, x0⟩ := Kd.at_int (Kd.C_below HR.out HS.out.below) (k : Int) (by omega) (by omega)
            subst e1
            rw [Int.toNat_natCast] at x0
            have qlt : decide ((k : Int) < (b.length : Int)) = true := decide_eq_true (by omega)
            have qlt' : decide (k < b.length) = true := decide_eq_true (by omega)
            have hten : rd b k = 10 := by
              rcases Classical.em (rd b k = 10) with h | h
              · exact h
              · exact absurd ⟨by omega, h⟩ hnl
            have q1 : (rd b k != 10) = false := bne_eq_false_iff_eq.mpr hten
            have q2 : (rd b k == 10) = true := beq_iff_eq.mpr hten
            clear hten
            obtain ⟨ad', e2, x1⟩ := Kd.at_int (Kd.C_below HR.out HS.out.below) ((k : Int) - 1) (by omega) (by omega)
            injection e2 with e2
            subst e2
            rw [show ((k : Int) - 1).toNat = k - 1 by omega] at x1
            have qgt : decide ((fr : Int) < (k : Int)) = true := decide_eq_true (by omega)
            have qgt' : decide (fr < k) = true := decide_eq_true (by omega)
            have q13 : (rd b ((k : Int) - 1) == 13) = true := beq_iff_eq.mpr t3
            clear t3
            have HT := Aside0.mk (show endOf b k fr = k - 1 from if_pos hT)
            rw [HT.out] at HL
            obtain ⟨i0, hi0, _, hsz, _⟩ := info_parts info5
            obtain ⟨A', hcut, hA, hC⟩ := print_mid_of (P := Try.prog) (Value.int .u8) 0 30 5 .i64 .i64 Try.underlying30 hi0 hsz (some ad) c b (fr : Int) ((k : Int) - 1) (by omega) (by omega) (by omega) hc
            have hC1 : (Kd.int .u8).C wr A' ((b.take (k - 1)).drop fr).length ((b.take (k - 1)).drop fr) := by
              have hx := Kd.C_below (Kd.C_of_reads (h1 := fun _ => rfl) (hA _ (Kd.reads_of_C HR.out))) HS.out.below
              rw [Int.toNat_natCast, show (((k : Int) - 1) : Int).toNat = k - 1 by omega] at hx
              exact hx
            rw [Int.toNat_natCast, show (((k : Int) - 1) : Int).toNat = k - 1 by omega] at hcut
            have hll : ((b.take (k - 1)).drop fr).length = (k - 1) - fr := by rw [List.length_drop, List.length_take]; omega
            rw [hll] at hcut
            have HLC := Aside0.mk (fun (W : World) (hW : RS w W (w.heap.size + 1) sk) (hCW : (Kd.int .u8).C W A' ((b.take (k - 1)).drop fr).length ((b.take (k - 1)).drop fr)) (n c' : Nat) (hn : ((b.take (k - 1)).drop fr).length = n) (hcc : n ≤ c') => line_calls HN.out w W (w.heap.size + 1) sk A' n c' ((b.take (k - 1)).drop fr) (fr : Int) hW hn hCW hcc (by omega) (by omega) (by omega) (by omega) ho)
            obtain ⟨hi1, hi2⟩ := lineF_in sk ((b.take (k - 1)).drop fr) fr ho
            have HC1 := Aside0.mk hC1
            have HLL := Aside0.mk hll
            clear hA hC hi0 hsz hC1
            rw [hll] at hi2
            clear hll
            generalize lineF sk ((b.take (k - 1)).drop fr) fr = lr at HL HLC hi1 hi2
            obtain ⟨s2, ok⟩ := lr
            simp only at hi1 hi2
            cases ok with
            | true =>
              replace HL := Aside0.mk (HL.out.trans (if_pos rfl))
              clear HT
              go_wp2_with (go_at_call 15; (refine (HLC.out _ HS.out HC1.out _ _ HLL.out (by omega)).mono ?_); rintro e w3 ⟨rfl, hr3, hk3⟩; have HS3 := Aside0.mk hr3; have HX3 := Aside0.mk (hk3.2 _ _ _ HX.out (by decide) (by decide) (by decide)); clear hr3 hk3)
              go_roundw
              case rel => exact ⟨k + 1, k + 1, d, s2, by omega, by omega, by go_num, by go_num, HL, HS3, HX3, hi1, by omega⟩
              case measure => simp [intOf]; omega
            | false =>
              replace HL := Aside0.mk (HL.out.trans (if_neg (by simp)))
              clear HT
              have HE := Aside0.mk (HU.out.trans (show readG b.length RL = ((0, []), s2.wrong, s2.e) by rw [HL.out]; rfl))
              clear HL HU
              go_upto_region 13 with (go_at_call 15; (refine (HLC.out _ HS.out HC1.out _ _ HLL.out (by omega)).mono ?_); rintro e w3 ⟨rfl, hr3, hk3⟩; have HS3 := Aside0.mk hr3; have HX3 := Aside0.mk (hk3.2 _ _ _ HX.out (by decide) (by decide) (by decide)); obtain ⟨vC3, vO3, hg3, _, _⟩ := HS3.out.st; have HG3 := Aside0.mk hg3; clear hg3; clear hr3 hk3)
              have HG4 := Aside0.mk (blk_drew HG3.out)
              have HX4 := Aside0.mk (blk_drew HX3.out)
              have HB4 := Aside0.mk HS3.out.below.drew
              clear HG3 HX3 HS3
              obtain ⟨-, -, -, -, -, -, a5, a6⟩ := cells_S HG4
              refine start_ (n := 12) (S := fun w' => w'.cell? ⟨w.heap.size + 1, 6, none⟩ = some (.int .i64 s2.wrong) ∧ w'.cell? ⟨w.heap.size + 1, 7, none⟩ = some (.int .i64 s2.e)) (ds := []) #[false, false, false, false, false, false, false, false, false, false, false, false] (by kernel_rfl) rfl rfl ⟨a5, a6⟩ (fun hHeld => ?_)
              clear a5 a6
              generalize w3.drew = w4 at HX4 HB4 HG4 hHeld ⊢
              refine sv 0 60 ?_
              refine sv 1 61 ?_
              refine sv 2 62 ?_
              refine sv 3 63 ?_
              refine sr 4 64 hHeld ?_
              refine sv 5 65 ?_
              refine sv 6 66 ?_
              refine sv 7 67 ?_
              refine sr 8 68 hHeld ?_
              have HX5 := Aside0.mk (blk_put (cs' := #[.int .i64 0, .slice none 0 0]) HX4.out 0 (.int .i64 0) rfl)
              have HX6 := Aside0.mk (blk_put (cs' := #[.int .i64 0, .slice none 0 0]) HX5.out 1 (.slice none 0 0) rfl)
              have HG6 := Aside0.mk ((Below.heap_setCell (w4.setCell ⟨w.heap.size, 0, none⟩ (.int .i64 0)) ⟨w.heap.size, 1, none⟩ (.slice none 0 0) (w.heap.size + 1) (by simp)).trans ((Below.heap_setCell w4 ⟨w.heap.size, 0, none⟩ (.int .i64 0) (w.heap.size + 1) (by simp)).trans HG4.out))
              have HB6 := Aside0.mk ((HB4.out.setCell (p := ⟨w.heap.size, 0, none⟩) (Nat.le_refl _) (.int .i64 0)).setCell (p := ⟨w.heap.size, 1, none⟩) (Nat.le_refl _) (.slice none 0 0))
              have c0 := blk_cell HX4.out 0
              have f0 := blk_frozen HX4.out 0
              have c1 := blk_cell HX5.out 1
              have f1 := blk_frozen HX5.out 1
              refine one_ (i := 9) (N := none) #[true, true, true, true, true, true, true, true, true, true, false, false] rfl rfl (by kernel_rfl) (by decide) (fun K hK => ?_)
              refine skip_ (w1 := (w4.setCell ⟨w.heap.size, 0, none⟩ (.int .i64 0)).setCell ⟨w.heap.size, 1, none⟩ (.slice none 0 0)) (by rfl) rfl (by go_simp) ?_
              obtain ⟨-, -, -, -, -, -, a5, a6⟩ := cells_S HG6
              refine hK.out _ _ ⟨a5, a6⟩ (fun hHeld => ?_)
              clear hK K c0 f0 c1 f1 a5 a6 HX4 HX5 HB4 HG4
              generalize (w4.setCell ⟨w.heap.size, 0, none⟩ (.int .i64 0)).setCell ⟨w.heap.size, 1, none⟩ (.slice none 0 0) = w6 at HX6 HB6 HG6 hHeld ⊢
              refine sv 10 3 ?_
              refine sv 11 4 ?_
              refine done_ (by kernel_rfl) ?_
              go_wp2
              have c0 := (blk_cell HX6.out 0).trans rfl
              have c1 := (blk_cell HX6.out 1).trans rfl
              refine bodyPost_ret (v := .tuple #[.agg #[.int .i64 0, .slice none 0 0], .int .i64 s2.wrong, .int .i64 s2.e]) (by simp [results, Try.results11, go_sem, c0, c1]) rfl ?_
              rw [HE.out]
              exact ⟨_, rfl, Kd.R_nil _ _ _ _ _, HB6.out⟩

          · by_cases hk2 : k < b.length
            · by_cases hk3 : fr < k
              · have h13 : rd b ((k : Int) - 1) ≠ 13 := fun e => hT ⟨hk2, hk3, e⟩
                obtain ⟨ad, e1, x0⟩ := Kd.at_int (Kd.C_below HR.out HS.out.below) (k : Int) (by omega) (by omega)
                subst e1
                rw [Int.toNat_natCast] at x0
                have qlt : decide ((k : Int) < (b.length : Int)) = true := decide_eq_true (by omega)
                have qlt' : decide (k < b.length) = true := decide_eq_true (by omega)
                have hten : rd b k = 10 := by
                  rcases Classical.em (rd b k = 10) with h | h
                  · exact h
                  · exact absurd ⟨by omega, h⟩ hnl
                have q1 : (rd b k != 10) = false := bne_eq_false_iff_eq.mpr hten
                have q2 : (rd b k == 10) = true := beq_iff_eq.mpr hten
                clear hten
                obtain ⟨ad', e2, x1⟩ := Kd.at_int (Kd.C_below HR.out HS.out.below) ((k : Int) - 1) (by omega) (by omega)
                injection e2 with e2
                subst e2
                rw [show ((k : Int) - 1).toNat = k - 1 by omega] at x1
                have qgt : decide ((fr : Int) < (k : Int)) = true := decide_eq_true (by omega)
                have qgt' : decide (fr < k) = true := decide_eq_true (by omega)
                have q13 : (rd b ((k : Int) - 1) == 13) = false := beq_eq_false_iff_ne.mpr h13
                clear h13
                have HT := Aside0.mk (show endOf b k fr = k from if_neg hT)
                rw [HT.out] at HL
                obtain ⟨i0, hi0, _, hsz, _⟩ := info_parts info5
                obtain ⟨A', hcut, hA, hC⟩ := print_mid_of (P := Try.prog) (Value.int .u8) 0 30 5 .i64 .i64 Try.underlying30 hi0 hsz (some ad) c b (fr : Int) (k : Int) (by omega) (by omega) (by omega) hc
                have hC1 : (Kd.int .u8).C wr A' ((b.take (k)).drop fr).length ((b.take (k)).drop fr) := by
                  have hx := Kd.C_below (Kd.C_of_reads (h1 := fun _ => rfl) (hA _ (Kd.reads_of_C HR.out))) HS.out.below
                  rw [Int.toNat_natCast, show ((k : Int) : Int).toNat = k by omega] at hx
                  exact hx
                rw [Int.toNat_natCast, show ((k : Int) : Int).toNat = k by omega] at hcut
                have hll : ((b.take (k)).drop fr).length = (k) - fr := by rw [List.length_drop, List.length_take]; omega
                rw [hll] at hcut
                have HLC := Aside0.mk (fun (W : World) (hW : RS w W (w.heap.size + 1) sk) (hCW : (Kd.int .u8).C W A' ((b.take (k)).drop fr).length ((b.take (k)).drop fr)) (n c' : Nat) (hn : ((b.take (k)).drop fr).length = n) (hcc : n ≤ c') => line_calls HN.out w W (w.heap.size + 1) sk A' n c' ((b.take (k)).drop fr) (fr : Int) hW hn hCW hcc (by omega) (by omega) (by omega) (by omega) ho)
                obtain ⟨hi1, hi2⟩ := lineF_in sk ((b.take (k)).drop fr) fr ho
                have HC1 := Aside0.mk hC1
                have HLL := Aside0.mk hll
                clear hA hC hi0 hsz hC1
                rw [hll] at hi2
                clear hll
                generalize lineF sk ((b.take (k)).drop fr) fr = lr at HL HLC hi1 hi2
                obtain ⟨s2, ok⟩ := lr
                simp only at hi1 hi2
                cases ok with
                | true =>
                  replace HL := Aside0.mk (HL.out.trans (if_pos rfl))
                  clear HT
                  go_wp2_with (go_at_call 15; (refine (HLC.out _ HS.out HC1.out _ _ HLL.out (by omega)).mono ?_); rintro e w3 ⟨rfl, hr3, hk3⟩; have HS3 := Aside0.mk hr3; have HX3 := Aside0.mk (hk3.2 _ _ _ HX.out (by decide) (by decide) (by decide)); clear hr3 hk3)
                  go_roundw
                  case rel => exact ⟨k + 1, k + 1, d, s2, by omega, by omega, by go_num, by go_num, HL, HS3, HX3, hi1, by omega⟩
                  case measure => simp [intOf]; omega
                | false =>
                  replace HL := Aside0.mk (HL.out.trans (if_neg (by simp)))
                  clear HT
                  have HE := Aside0.mk (HU.out.trans (show readG b.length RL = ((0, []), s2.wrong, s2.e) by rw [HL.out]; rfl))
                  clear HL HU
                  go_upto_region 13 with (go_at_call 15; (refine (HLC.out _ HS.out HC1.out _ _ HLL.out (by omega)).mono ?_); rintro e w3 ⟨rfl, hr3, hk3⟩; have HS3 := Aside0.mk hr3; have HX3 := Aside0.mk (hk3.2 _ _ _ HX.out (by decide) (by decide) (by decide)); obtain ⟨vC3, vO3, hg3, _, _⟩ := HS3.out.st; have HG3 := Aside0.mk hg3; clear hg3; clear hr3 hk3)
                  have HG4 := Aside0.mk (blk_drew HG3.out)
                  have HX4 := Aside0.mk (blk_drew HX3.out)
                  have HB4 := Aside0.mk HS3.out.below.drew
                  clear HG3 HX3 HS3
                  obtain ⟨-, -, -, -, -, -, a5, a6⟩ := cells_S HG4
                  refine start_ (n := 12) (S := fun w' => w'.cell? ⟨w.heap.size + 1, 6, none⟩ = some (.int .i64 s2.wrong) ∧ w'.cell? ⟨w.heap.size + 1, 7, none⟩ = some (.int .i64 s2.e)) (ds := []) #[false, false, false, false, false, false, false, false, false, false, false, false] (by kernel_rfl) rfl rfl ⟨a5, a6⟩ (fun hHeld => ?_)
                  clear a5 a6
                  generalize w3.drew = w4 at HX4 HB4 HG4 hHeld ⊢
                  refine sv 0 60 ?_
                  refine sv 1 61 ?_
                  refine sv 2 62 ?_
                  refine sv 3 63 ?_
                  refine sr 4 64 hHeld ?_
                  refine sv 5 65 ?_
                  refine sv 6 66 ?_
                  refine sv 7 67 ?_
                  refine sr 8 68 hHeld ?_
                  have HX5 := Aside0.mk (blk_put (cs' := #[.int .i64 0, .slice none 0 0]) HX4.out 0 (.int .i64 0) rfl)
                  have HX6 := Aside0.mk (blk_put (cs' := #[.int .i64 0, .slice none 0 0]) HX5.out 1 (.slice none 0 0) rfl)
                  have HG6 := Aside0.mk ((Below.heap_setCell (w4.setCell ⟨w.heap.size, 0, none⟩ (.int .i64 0)) ⟨w.heap.size, 1, none⟩ (.slice none 0 0) (w.heap.size + 1) (by simp)).trans ((Below.heap_setCell w4 ⟨w.heap.size, 0, none⟩ (.int .i64 0) (w.heap.size + 1) (by simp)).trans HG4.out))
                  have HB6 := Aside0.mk ((HB4.out.setCell (p := ⟨w.heap.size, 0, none⟩) (Nat.le_refl _) (.int .i64 0)).setCell (p := ⟨w.heap.size, 1, none⟩) (Nat.le_refl _) (.slice none 0 0))
                  have c0 := blk_cell HX4.out 0
                  have f0 := blk_frozen HX4.out 0
                  have c1 := blk_cell HX5.out 1
                  have f1 := blk_frozen HX5.out 1
                  refine one_ (i := 9) (N := none) #[true, true, true, true, true, true, true, true, true, true, false, false] rfl rfl (by kernel_rfl) (by decide) (fun K hK => ?_)
                  refine skip_ (w1 := (w4.setCell ⟨w.heap.size, 0, none⟩ (.int .i64 0)).setCell ⟨w.heap.size, 1, none⟩ (.slice none 0 0)) (by rfl) rfl (by go_simp) ?_
                  obtain ⟨-, -, -, -, -, -, a5, a6⟩ := cells_S HG6
                  refine hK.out _ _ ⟨a5, a6⟩ (fun hHeld => ?_)
                  clear hK K c0 f0 c1 f1 a5 a6 HX4 HX5 HB4 HG4
                  generalize (w4.setCell ⟨w.heap.size, 0, none⟩ (.int .i64 0)).setCell ⟨w.heap.size, 1, none⟩ (.slice none 0 0) = w6 at HX6 HB6 HG6 hHeld ⊢
                  refine sv 10 3 ?_
                  refine sv 11 4 ?_
                  refine done_ (by kernel_rfl) ?_
                  go_wp2
                  have c0 := (blk_cell HX6.out 0).trans rfl
                  have c1 := (blk_cell HX6.out 1).trans rfl
                  refine bodyPost_ret (v := .tuple #[.agg #[.int .i64 0, .slice none 0 0], .int .i64 s2.wrong, .int .i64 s2.e]) (by simp [results, Try.results11, go_sem, c0, c1]) rfl ?_
                  rw [HE.out]
                  exact ⟨_, rfl, Kd.R_nil _ _ _ _ _, HB6.out⟩

              · have qgt : decide ((fr : Int) < (k : Int)) = false := decide_eq_false (by omega)
                have qgt' : decide (fr < k) = false := decide_eq_false (by omega)
                obtain ⟨ad, e1, x0⟩ := Kd.at_int (Kd.C_below HR.out HS.out.below) (k : Int) (by omega) (by omega)
                subst e1
                rw [Int.toNat_natCast] at x0
                have qlt : decide ((k : Int) < (b.length : Int)) = true := decide_eq_true (by omega)
                have qlt' : decide (k < b.length) = true := decide_eq_true (by omega)
                have hten : rd b k = 10 := by
                  rcases Classical.em (rd b k = 10) with h | h
                  · exact h
                  · exact absurd ⟨by omega, h⟩ hnl
                have q1 : (rd b k != 10) = false := bne_eq_false_iff_eq.mpr hten
                have q2 : (rd b k == 10) = true := beq_iff_eq.mpr hten
                clear hten
                have HT := Aside0.mk (show endOf b k fr = k from if_neg hT)
                rw [HT.out] at HL
                obtain ⟨i0, hi0, _, hsz, _⟩ := info_parts info5
                obtain ⟨A', hcut, hA, hC⟩ := print_mid_of (P := Try.prog) (Value.int .u8) 0 30 5 .i64 .i64 Try.underlying30 hi0 hsz (some ad) c b (fr : Int) (k : Int) (by omega) (by omega) (by omega) hc
                have hC1 : (Kd.int .u8).C wr A' ((b.take (k)).drop fr).length ((b.take (k)).drop fr) := by
                  have hx := Kd.C_below (Kd.C_of_reads (h1 := fun _ => rfl) (hA _ (Kd.reads_of_C HR.out))) HS.out.below
                  rw [Int.toNat_natCast, show ((k : Int) : Int).toNat = k by omega] at hx
                  exact hx
                rw [Int.toNat_natCast, show ((k : Int) : Int).toNat = k by omega] at hcut
                have hll : ((b.take (k)).drop fr).length = (k) - fr := by rw [List.length_drop, List.length_take]; omega
                rw [hll] at hcut
                have HLC := Aside0.mk (fun (W : World) (hW : RS w W (w.heap.size + 1) sk) (hCW : (Kd.int .u8).C W A' ((b.take (k)).drop fr).length ((b.take (k)).drop fr)) (n c' : Nat) (hn : ((b.take (k)).drop fr).length = n) (hcc : n ≤ c') => line_calls HN.out w W (w.heap.size + 1) sk A' n c' ((b.take (k)).drop fr) (fr : Int) hW hn hCW hcc (by omega) (by omega) (by omega) (by omega) ho)
                obtain ⟨hi1, hi2⟩ := lineF_in sk ((b.take (k)).drop fr) fr ho
                have HC1 := Aside0.mk hC1
                have HLL := Aside0.mk hll
                clear hA hC hi0 hsz hC1
                rw [hll] at hi2
                clear hll
                generalize lineF sk ((b.take (k)).drop fr) fr = lr at HL HLC hi1 hi2
                obtain ⟨s2, ok⟩ := lr
                simp only at hi1 hi2
                cases ok with
                | true =>
                  replace HL := Aside0.mk (HL.out.trans (if_pos rfl))
                  clear HT
                  go_wp2_with (go_at_call 15; (refine (HLC.out _ HS.out HC1.out _ _ HLL.out (by omega)).mono ?_); rintro e w3 ⟨rfl, hr3, hk3⟩; have HS3 := Aside0.mk hr3; have HX3 := Aside0.mk (hk3.2 _ _ _ HX.out (by decide) (by decide) (by decide)); clear hr3 hk3)
                  go_roundw
                  case rel => exact ⟨k + 1, k + 1, d, s2, by omega, by omega, by go_num, by go_num, HL, HS3, HX3, hi1, by omega⟩
                  case measure => simp [intOf]; omega
                | false =>
                  replace HL := Aside0.mk (HL.out.trans (if_neg (by simp)))
                  clear HT
                  have HE := Aside0.mk (HU.out.trans (show readG b.length RL = ((0, []), s2.wrong, s2.e) by rw [HL.out]; rfl))
                  clear HL HU
                  go_upto_region 13 with (go_at_call 15; (refine (HLC.out _ HS.out HC1.out _ _ HLL.out (by omega)).mono ?_); rintro e w3 ⟨rfl, hr3, hk3⟩; have HS3 := Aside0.mk hr3; have HX3 := Aside0.mk (hk3.2 _ _ _ HX.out (by decide) (by decide) (by decide)); obtain ⟨vC3, vO3, hg3, _, _⟩ := HS3.out.st; have HG3 := Aside0.mk hg3; clear hg3; clear hr3 hk3)
                  have HG4 := Aside0.mk (blk_drew HG3.out)
                  have HX4 := Aside0.mk (blk_drew HX3.out)
                  have HB4 := Aside0.mk HS3.out.below.drew
                  clear HG3 HX3 HS3
                  obtain ⟨-, -, -, -, -, -, a5, a6⟩ := cells_S HG4
                  refine start_ (n := 12) (S := fun w' => w'.cell? ⟨w.heap.size + 1, 6, none⟩ = some (.int .i64 s2.wrong) ∧ w'.cell? ⟨w.heap.size + 1, 7, none⟩ = some (.int .i64 s2.e)) (ds := []) #[false, false, false, false, false, false, false, false, false, false, false, false] (by kernel_rfl) rfl rfl ⟨a5, a6⟩ (fun hHeld => ?_)
                  clear a5 a6
                  generalize w3.drew = w4 at HX4 HB4 HG4 hHeld ⊢
                  refine sv 0 60 ?_
                  refine sv 1 61 ?_
                  refine sv 2 62 ?_
                  refine sv 3 63 ?_
                  refine sr 4 64 hHeld ?_
                  refine sv 5 65 ?_
                  refine sv 6 66 ?_
                  refine sv 7 67 ?_
                  refine sr 8 68 hHeld ?_
                  have HX5 := Aside0.mk (blk_put (cs' := #[.int .i64 0, .slice none 0 0]) HX4.out 0 (.int .i64 0) rfl)
                  have HX6 := Aside0.mk (blk_put (cs' := #[.int .i64 0, .slice none 0 0]) HX5.out 1 (.slice none 0 0) rfl)
                  have HG6 := Aside0.mk ((Below.heap_setCell (w4.setCell ⟨w.heap.size, 0, none⟩ (.int .i64 0)) ⟨w.heap.size, 1, none⟩ (.slice none 0 0) (w.heap.size + 1) (by simp)).trans ((Below.heap_setCell w4 ⟨w.heap.size, 0, none⟩ (.int .i64 0) (w.heap.size + 1) (by simp)).trans HG4.out))
                  have HB6 := Aside0.mk ((HB4.out.setCell (p := ⟨w.heap.size, 0, none⟩) (Nat.le_refl _) (.int .i64 0)).setCell (p := ⟨w.heap.size, 1, none⟩) (Nat.le_refl _) (.slice none 0 0))
                  have c0 := blk_cell HX4.out 0
                  have f0 := blk_frozen HX4.out 0
                  have c1 := blk_cell HX5.out 1
                  have f1 := blk_frozen HX5.out 1
                  refine one_ (i := 9) (N := none) #[true, true, true, true, true, true, true, true, true, true, false, false] rfl rfl (by kernel_rfl) (by decide) (fun K hK => ?_)
                  refine skip_ (w1 := (w4.setCell ⟨w.heap.size, 0, none⟩ (.int .i64 0)).setCell ⟨w.heap.size, 1, none⟩ (.slice none 0 0)) (by rfl) rfl (by go_simp) ?_
                  obtain ⟨-, -, -, -, -, -, a5, a6⟩ := cells_S HG6
                  refine hK.out _ _ ⟨a5, a6⟩ (fun hHeld => ?_)
                  clear hK K c0 f0 c1 f1 a5 a6 HX4 HX5 HB4 HG4
                  generalize (w4.setCell ⟨w.heap.size, 0, none⟩ (.int .i64 0)).setCell ⟨w.heap.size, 1, none⟩ (.slice none 0 0) = w6 at HX6 HB6 HG6 hHeld ⊢
                  refine sv 10 3 ?_
                  refine sv 11 4 ?_
                  refine done_ (by kernel_rfl) ?_
                  go_wp2
                  have c0 := (blk_cell HX6.out 0).trans rfl
                  have c1 := (blk_cell HX6.out 1).trans rfl
                  refine bodyPost_ret (v := .tuple #[.agg #[.int .i64 0, .slice none 0 0], .int .i64 s2.wrong, .int .i64 s2.e]) (by simp [results, Try.results11, go_sem, c0, c1]) rfl ?_
                  rw [HE.out]
                  exact ⟨_, rfl, Kd.R_nil _ _ _ _ _, HB6.out⟩

            · have qlt : decide ((k : Int) < (b.length : Int)) = false := decide_eq_false (by omega)
              have qlt' : decide (k < b.length) = false := decide_eq_false (by omega)
              skip
              have HT := Aside0.mk (show endOf b k fr = k from if_neg hT)
              rw [HT.out] at HL
              obtain ⟨i0, hi0, _, hsz, _⟩ := info_parts info5
              obtain ⟨A', hcut, hA, hC⟩ := print_mid_of (P := Try.prog) (Value.int .u8) 0 30 5 .i64 .i64 Try.underlying30 hi0 hsz A c b (fr : Int) (k : Int) (by omega) (by omega) (by omega) hc
              have hC1 : (Kd.int .u8).C wr A' ((b.take (k)).drop fr).length ((b.take (k)).drop fr) := by
                have hx := Kd.C_below (Kd.C_of_reads (h1 := fun _ => rfl) (hA _ (Kd.reads_of_C HR.out))) HS.out.below
                rw [Int.toNat_natCast, show ((k : Int) : Int).toNat = k by omega] at hx
                exact hx
              rw [Int.toNat_natCast, show ((k : Int) : Int).toNat = k by omega] at hcut
              have hll : ((b.take (k)).drop fr).length = (k) - fr := by rw [List.length_drop, List.length_take]; omega
              rw [hll] at hcut
              have HLC := Aside0.mk (fun (W : World) (hW : RS w W (w.heap.size + 1) sk) (hCW : (Kd.int .u8).C W A' ((b.take (k)).drop fr).length ((b.take (k)).drop fr)) (n c' : Nat) (hn : ((b.take (k)).drop fr).length = n) (hcc : n ≤ c') => line_calls HN.out w W (w.heap.size + 1) sk A' n c' ((b.take (k)).drop fr) (fr : Int) hW hn hCW hcc (by omega) (by omega) (by omega) (by omega) ho)
              obtain ⟨hi1, hi2⟩ := lineF_in sk ((b.take (k)).drop fr) fr ho
              have HC1 := Aside0.mk hC1
              have HLL := Aside0.mk hll
              clear hA hC hi0 hsz hC1
              rw [hll] at hi2
              clear hll
              generalize lineF sk ((b.take (k)).drop fr) fr = lr at HL HLC hi1 hi2
              obtain ⟨s2, ok⟩ := lr
              simp only at hi1 hi2
              cases ok with
              | true =>
                replace HL := Aside0.mk (HL.out.trans (if_pos rfl))
                clear HT
                go_wp2_with (go_at_call 15; (refine (HLC.out _ HS.out HC1.out _ _ HLL.out (by omega)).mono ?_); rintro e w3 ⟨rfl, hr3, hk3⟩; have HS3 := Aside0.mk hr3; have HX3 := Aside0.mk (hk3.2 _ _ _ HX.out (by decide) (by decide) (by decide)); clear hr3 hk3)
                go_roundw
                case rel => exact ⟨k + 1, k + 1, d, s2, by omega, by omega, by go_num, by go_num, HL, HS3, HX3, hi1, by omega⟩
                case measure => simp [intOf]; omega
              | false =>
                replace HL := Aside0.mk (HL.out.trans (if_neg (by simp)))
                clear HT
                have HE := Aside0.mk (HU.out.trans (show readG b.length RL = ((0, []), s2.wrong, s2.e) by rw [HL.out]; rfl))
                clear HL HU
                go_upto_region 13 with (go_at_call 15; (refine (HLC.out _ HS.out HC1.out _ _ HLL.out (by omega)).mono ?_); rintro e w3 ⟨rfl, hr3, hk3⟩; have HS3 := Aside0.mk hr3; have HX3 := Aside0.mk (hk3.2 _ _ _ HX.out (by decide) (by decide) (by decide)); obtain ⟨vC3, vO3, hg3, _, _⟩ := HS3.out.st; have HG3 := Aside0.mk hg3; clear hg3; clear hr3 hk3)
                have HG4 := Aside0.mk (blk_drew HG3.out)
                have HX4 := Aside0.mk (blk_drew HX3.out)
                have HB4 := Aside0.mk HS3.out.below.drew
                clear HG3 HX3 HS3
                obtain ⟨-, -, -, -, -, -, a5, a6⟩ := cells_S HG4
                refine start_ (n := 12) (S := fun w' => w'.cell? ⟨w.heap.size + 1, 6, none⟩ = some (.int .i64 s2.wrong) ∧ w'.cell? ⟨w.heap.size + 1, 7, none⟩ = some (.int .i64 s2.e)) (ds := []) #[false, false, false, false, false, false, false, false, false, false, false, false] (by kernel_rfl) rfl rfl ⟨a5, a6⟩ (fun hHeld => ?_)
                clear a5 a6
                generalize w3.drew = w4 at HX4 HB4 HG4 hHeld ⊢
                refine sv 0 60 ?_
                refine sv 1 61 ?_
                refine sv 2 62 ?_
                refine sv 3 63 ?_
                refine sr 4 64 hHeld ?_
                refine sv 5 65 ?_
                refine sv 6 66 ?_
                refine sv 7 67 ?_
                refine sr 8 68 hHeld ?_
                have HX5 := Aside0.mk (blk_put (cs' := #[.int .i64 0, .slice none 0 0]) HX4.out 0 (.int .i64 0) rfl)
                have HX6 := Aside0.mk (blk_put (cs' := #[.int .i64 0, .slice none 0 0]) HX5.out 1 (.slice none 0 0) rfl)
                have HG6 := Aside0.mk ((Below.heap_setCell (w4.setCell ⟨w.heap.size, 0, none⟩ (.int .i64 0)) ⟨w.heap.size, 1, none⟩ (.slice none 0 0) (w.heap.size + 1) (by simp)).trans ((Below.heap_setCell w4 ⟨w.heap.size, 0, none⟩ (.int .i64 0) (w.heap.size + 1) (by simp)).trans HG4.out))
                have HB6 := Aside0.mk ((HB4.out.setCell (p := ⟨w.heap.size, 0, none⟩) (Nat.le_refl _) (.int .i64 0)).setCell (p := ⟨w.heap.size, 1, none⟩) (Nat.le_refl _) (.slice none 0 0))
                have c0 := blk_cell HX4.out 0
                have f0 := blk_frozen HX4.out 0
                have c1 := blk_cell HX5.out 1
                have f1 := blk_frozen HX5.out 1
                refine one_ (i := 9) (N := none) #[true, true, true, true, true, true, true, true, true, true, false, false] rfl rfl (by kernel_rfl) (by decide) (fun K hK => ?_)
                refine skip_ (w1 := (w4.setCell ⟨w.heap.size, 0, none⟩ (.int .i64 0)).setCell ⟨w.heap.size, 1, none⟩ (.slice none 0 0)) (by rfl) rfl (by go_simp) ?_
                obtain ⟨-, -, -, -, -, -, a5, a6⟩ := cells_S HG6
                refine hK.out _ _ ⟨a5, a6⟩ (fun hHeld => ?_)
                clear hK K c0 f0 c1 f1 a5 a6 HX4 HX5 HB4 HG4
                generalize (w4.setCell ⟨w.heap.size, 0, none⟩ (.int .i64 0)).setCell ⟨w.heap.size, 1, none⟩ (.slice none 0 0) = w6 at HX6 HB6 HG6 hHeld ⊢
                refine sv 10 3 ?_
                refine sv 11 4 ?_
                refine done_ (by kernel_rfl) ?_
                go_wp2
                have c0 := (blk_cell HX6.out 0).trans rfl
                have c1 := (blk_cell HX6.out 1).trans rfl
                refine bodyPost_ret (v := .tuple #[.agg #[.int .i64 0, .slice none 0 0], .int .i64 s2.wrong, .int .i64 s2.e]) (by simp [results, Try.results11, go_sem, c0, c1]) rfl ?_
                rw [HE.out]
                exact ⟨_, rfl, Kd.R_nil _ _ _ _ _, HB6.out⟩

      · obtain rfl : d = 0 := by omega
        have qk : decide ((k : Int) ≤ (b.length : Int)) = false := decide_eq_false (by omega)
        have qk' : decide (k ≤ b.length) = false := decide_eq_false hk
        replace HL := Aside0.mk (show RL = (sk, true) from HL.out)
        have HE0 := Aside0.mk (HU.out.trans (show readG b.length RL = readE (endF sk b.length) by rw [HL.out]; rfl))
        clear HL HU
        have HEC := Aside0.mk (fun W hW => end_calls w W (w.heap.size + 1) sk b.length hW)
        generalize endF sk b.length = s2 at HE0 HEC
        by_cases he : s2.e ≠ 0
        · have HE := Aside0.mk (HE0.out.trans (show readE s2 = ((0, []), s2.wrong, s2.e) from if_pos he))
          have qe : (s2.e != 0) = true := bne_iff_ne.mpr he
          clear HE0 he
          go_upto_region 17 with (go_at_call 16; (refine (HEC.out _ HS.out).mono ?_); rintro e w3 ⟨rfl, hr3, hk3⟩; have HS3 := Aside0.mk hr3; have HX3 := Aside0.mk (hk3.2 _ _ _ HX.out (by decide) (by decide) (by decide)); obtain ⟨vC3, vO3, hg3, _, _⟩ := HS3.out.st; have HG3 := Aside0.mk hg3; have c7 := (cells_S HG3).2.2.2.2.2.2.2; clear hg3; clear hr3 hk3)
          have HG4 := Aside0.mk (blk_drew HG3.out)
          have HX4 := Aside0.mk (blk_drew HX3.out)
          have HB4 := Aside0.mk HS3.out.below.drew
          clear HG3 HX3 HS3
          obtain ⟨-, -, -, -, -, -, a5, a6⟩ := cells_S HG4
          refine start_ (n := 12) (S := fun w' => w'.cell? ⟨w.heap.size + 1, 6, none⟩ = some (.int .i64 s2.wrong) ∧ w'.cell? ⟨w.heap.size + 1, 7, none⟩ = some (.int .i64 s2.e)) (ds := []) #[false, false, false, false, false, false, false, false, false, false, false, false] (by kernel_rfl) rfl rfl ⟨a5, a6⟩ (fun hHeld => ?_)
          clear a5 a6
          generalize w3.drew = w4 at HX4 HB4 HG4 hHeld ⊢
          refine sv 0 80 ?_
          refine sv 1 81 ?_
          refine sv 2 82 ?_
          refine sv 3 83 ?_
          refine sr 4 84 hHeld ?_
          refine sv 5 85 ?_
          refine sv 6 86 ?_
          refine sv 7 87 ?_
          refine sr 8 88 hHeld ?_
          have HX5 := Aside0.mk (blk_put (cs' := #[.int .i64 0, .slice none 0 0]) HX4.out 0 (.int .i64 0) rfl)
          have HX6 := Aside0.mk (blk_put (cs' := #[.int .i64 0, .slice none 0 0]) HX5.out 1 (.slice none 0 0) rfl)
          have HG6 := Aside0.mk ((Below.heap_setCell (w4.setCell ⟨w.heap.size, 0, none⟩ (.int .i64 0)) ⟨w.heap.size, 1, none⟩ (.slice none 0 0) (w.heap.size + 1) (by simp)).trans ((Below.heap_setCell w4 ⟨w.heap.size, 0, none⟩ (.int .i64 0) (w.heap.size + 1) (by simp)).trans HG4.out))
          have HB6 := Aside0.mk ((HB4.out.setCell (p := ⟨w.heap.size, 0, none⟩) (Nat.le_refl _) (.int .i64 0)).setCell (p := ⟨w.heap.size, 1, none⟩) (Nat.le_refl _) (.slice none 0 0))
          have c0 := blk_cell HX4.out 0
          have f0 := blk_frozen HX4.out 0
          have c1 := blk_cell HX5.out 1
          have f1 := blk_frozen HX5.out 1
          refine one_ (i := 9) (N := none) #[true, true, true, true, true, true, true, true, true, true, false, false] rfl rfl (by kernel_rfl) (by decide) (fun K hK => ?_)
          refine skip_ (w1 := (w4.setCell ⟨w.heap.size, 0, none⟩ (.int .i64 0)).setCell ⟨w.heap.size, 1, none⟩ (.slice none 0 0)) (by rfl) rfl (by go_simp) ?_
          obtain ⟨-, -, -, -, -, -, a5, a6⟩ := cells_S HG6
          refine hK.out _ _ ⟨a5, a6⟩ (fun hHeld => ?_)
          clear hK K c0 f0 c1 f1 a5 a6 HX4 HX5 HB4 HG4
          generalize (w4.setCell ⟨w.heap.size, 0, none⟩ (.int .i64 0)).setCell ⟨w.heap.size, 1, none⟩ (.slice none 0 0) = w6 at HX6 HB6 HG6 hHeld ⊢
          refine sv 10 3 ?_
          refine sv 11 4 ?_
          refine done_ (by kernel_rfl) ?_
          go_wp2
          have c0 := (blk_cell HX6.out 0).trans rfl
          have c1 := (blk_cell HX6.out 1).trans rfl
          refine bodyPost_ret (v := .tuple #[.agg #[.int .i64 0, .slice none 0 0], .int .i64 s2.wrong, .int .i64 s2.e]) (by simp [results, Try.results11, go_sem, c0, c1]) rfl ?_
          rw [HE.out]
          exact ⟨_, rfl, Kd.R_nil _ _ _ _ _, HB6.out⟩
        · have HE := Aside0.mk (HE0.out.trans (show readE s2 = ((s2.vars, s2.cl), 0, 0) from if_neg he))
          have qe : (s2.e != 0) = false := bne_eq_false_iff_eq.mpr (Classical.not_not.mp he)
          clear HE0 he
          go_upto_region 18 with (go_at_call 16; (refine (HEC.out _ HS.out).mono ?_); rintro e w3 ⟨rfl, hr3, hk3⟩; have HS3 := Aside0.mk hr3; have HX3 := Aside0.mk (hk3.2 _ _ _ HX.out (by decide) (by decide) (by decide)); obtain ⟨vC3, vO3, hg3, hC3, _⟩ := HS3.out.st; obtain ⟨AC, cC, eC⟩ := Kd.R_slice hC3; subst eC; have HG3 := Aside0.mk hg3; have HC3 := Aside0.mk hC3; have c7 := (cells_S HG3).2.2.2.2.2.2.2; clear hg3; clear hr3 hk3)
          have HGN := Aside0.mk HS3.out.below
          obtain ⟨c0, c1, -, -, -, -, -, -⟩ := cells_S HG3
          have HX5 := Aside0.mk (blk_put (cs' := #[.int .i64 s2.vars, .slice none 0 0]) HX3.out 0 (.int .i64 s2.vars) rfl)
          have HX6 := Aside0.mk (blk_put (cs' := #[.int .i64 s2.vars, .slice AC s2.cl.length cC]) HX5.out 1 (.slice AC s2.cl.length cC) rfl)
          have HB6 := Aside0.mk ((HGN.out.setCell (p := ⟨w.heap.size, 0, none⟩) (Nat.le_refl _) (.int .i64 s2.vars)).setCell (p := ⟨w.heap.size, 1, none⟩) (Nat.le_refl _) (.slice AC s2.cl.length cC))
          have x0 := blk_cell HX3.out 0
          have f0 := blk_frozen HX3.out 0
          have x1 := blk_cell HX5.out 1
          have f1 := blk_frozen HX5.out 1
          clear c7
          go_wp2
          have d0 := (blk_cell HX6.out 0).trans rfl
          have d1 := (blk_cell HX6.out 1).trans rfl
          have HC6 := Aside0.mk (Kd.R_set (Kd.R_set HC3.out HX3.out (by decide) 0 (.int .i64 s2.vars)) HX5.out (by decide) 1 (.slice AC s2.cl.length cC))
          refine bodyPost_ret (v := .tuple #[.agg #[.int .i64 s2.vars, .slice AC s2.cl.length cC], .int .i64 0, .int .i64 0]) (by simp [results, Try.results11, go_sem, d0, d1]) rfl ?_
          rw [HE.out]
          exact ⟨_, rfl, Kd.R_mono HC6.out (fun _ _ => trivial), HB6.out⟩
end Go.Proofs.Ythnnekaimkppfaa.D
