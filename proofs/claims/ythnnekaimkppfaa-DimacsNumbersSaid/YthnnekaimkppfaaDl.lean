/- dimacs.reader.line, end; Read. -/
import Derived.Test.YthnnekaimkppfaaDb
namespace Go.Proofs.Ythnnekaimkppfaa.D
open Go.RowKit Go.Proofs.YthnnekaimkppfaaW.PrintWords Go.Proofs.YthnnekaimkppfaaW.PrintLast
set_option linter.unusedVariables false
set_option linter.unusedSimpArgs false
def numsF : St → List Word → St × Bool
  | s, [] => (s, true)
  | s, w :: r => if (numberF s w).2 = true then numsF (numberF s w).1 r else ((numberF s w).1, false)
def lineF (s : St) (b : List Int) (at_ : Int) : St × Bool :=
  if (wordsF b at_).length = 0 then (s, true) else if (rdW (wordsF b at_) 0).2.toList = [99] then (s, true) else if s.head = false then beginF s (wordsF b at_) at_ else numsF s (wordsF b at_)
theorem wordsF_len (line : List Int) (at_ : Int) : (wordsF line at_).length ≤ line.length + 1 := by
  obtain ⟨h1, h2, h3⟩ := wordsTo_in line at_ line.length
  have := cut_len line at_ (wordsTo line at_ line.length).1 line.length (wordsTo line at_ line.length).2
  unfold wordsF
  omega
theorem numberF_in (s : St) (w : Word) (h : s.op.length ≤ 4096) : (numberF s w).1.op.length ≤ 4096 ∧ (numberF s w).1.cl.length ≤ s.cl.length + 1 := by
  unfold numberF failF
  split
  · exact ⟨h, by simp⟩
  split
  · exact ⟨h, by simp⟩
  split
  · exact ⟨by simp, by simp⟩
  split
  · exact ⟨h, by simp⟩
  split
  · exact ⟨h, by simp⟩
  · exact ⟨by simp; omega, by simp⟩
theorem field_at0 {w : World} {ad : Addr} {v : Value} (h : w.cell? ⟨(ad.add (Int.toNat 0 * 2)).block, (ad.add (Int.toNat 0 * 2)).off + 1, none⟩ = some v) : w.cell? ⟨ad.block, ad.off + 1, none⟩ = some v := by
  have e1 : (ad.add (Int.toNat 0 * 2)).block = ad.block := by simp [Addr.add]
  have e2 : (ad.add (Int.toNat 0 * 2)).off = ad.off := by simp [Addr.add]
  rw [e1, e2] at h
  exact h
set_option maxHeartbeats 2000000 in
set_option maxRecDepth 100000 in
theorem line_calls (hN : NumOK) (w0 w : World) (g : Nat) (s : St) (A : Option Addr) (n c : Nat) (line : List Int) (at_ : Int) (h : RS w0 w g s) (hn : line.length = n) (hr : (Kd.int .u8).C w A line.length line) (hc : n ≤ c)
    (ha : 0 ≤ at_) (ha2 : at_ + n ≤ 4611686018427387904) (hl : n < 1000000000) (hcl : s.cl.length < 1000000000) (hop : s.op.length ≤ 4096) :
    Calls Try.prog 15 #[.pointer (some ⟨g, 0, none⟩), .slice A n c, .int .i64 at_] w fun e w' => e = .returned (.bool (lineF s line at_).2) ∧ RS w0 w' g (lineF s line at_).1 ∧ Keep w w' := by
  subst hn
  obtain ⟨R, hR⟩ : ∃ R, lineF s line at_ = R := ⟨_, rfl⟩
  rw [hR]
  have HU := Aside0.mk (show R = lineF s line at_ from hR.symm)
  clear hR
  have hwl := wordsF_len line at_
  have HW0 := Aside0.mk (words_calls w A c line at_ hr hc ha ha2 (by omega))
  unfold lineF at HU
  generalize wordsF line at_ = ws at HU HW0 hwl
  have HS := Aside0.mk h
  have HN := Aside0.mk hN
  clear h hN hr
  obtain ⟨vC, vO, hg, -, -⟩ := HS.out.st
  obtain ⟨c0, c1, c2, c3, c4, c5, c6, c7⟩ := cells_S (Aside0.mk hg)
  clear c0 c1 c2 c3 c4 c5 c6 c7 hg vC vO
  by_cases h0 : ws.length = 0
  · have HE := Aside0.mk (HU.out.trans (if_pos h0))
    have q1 : ((ws.length : Int) == 0) = true := beq_iff_eq.mpr (by omega)
    have q2 : (ws.length == 0) = true := beq_iff_eq.mpr h0
    have q3 : ws.isEmpty = true := by rw [List.isEmpty_iff]; exact List.length_eq_zero_iff.1 h0
    clear HU h0
    go_enter Try.func15, Try.ntmps15
    go_wp2_with (go_at_call 19; (refine HW0.out.mono ?_); rintro e w1 ⟨v, rfl, hk, hb⟩; obtain ⟨A1, c1, e1⟩ := Kd.R_slice hk; subst e1; have HS1 := Aside0.mk (HS.out.move hb); have HK1 := Aside0.mk ((Keep.refl w).below hb); have HW1 := Aside0.mk hk; clear hk hb)
    go_ret
    rw [HE.out]
    exact ⟨rfl, HS1.out, HK1.out⟩
  · replace HU := Aside0.mk (HU.out.trans (if_neg h0))
    have q1 : ((ws.length : Int) == 0) = false := beq_eq_false_iff_ne.mpr (by omega)
    have q2 : (ws.length == 0) = false := beq_eq_false_iff_ne.mpr h0
    have q0 : 0 < ws.length := by omega
    have q0' : (0 : Int) < (ws.length : Int) := by omega
    clear h0
    by_cases hcc : (rdW ws 0).2.toList = [99]
    · have HE := Aside0.mk (HU.out.trans (if_pos hcc))
      have q3 : ((rdW ws 0).2.toList == [99]) = true := beq_iff_eq.mpr hcc
      clear HU hcc
      go_enter Try.func15, Try.ntmps15
      go_wp2_with (go_at_call 19; (refine HW0.out.mono ?_); rintro e w1 ⟨v, rfl, hk, hb⟩; obtain ⟨A1, c1, e1⟩ := Kd.R_slice hk; subst e1; have HS1 := Aside0.mk (HS.out.move hb); have HK1 := Aside0.mk ((Keep.refl w).below hb); have HW1 := Aside0.mk hk; clear hk hb; obtain ⟨ad, e2, x0, x1⟩ := at_W (Kd.R_reads' HW1.out).2.2 0 (by omega) (by omega); subst e2; have x1' := field_at0 x1)
      go_ret
      rw [HE.out]
      exact ⟨rfl, HS1.out, HK1.out⟩
    · replace HU := Aside0.mk (HU.out.trans (if_neg hcc))
      have q3 : ((rdW ws 0).2.toList == [99]) = false := beq_eq_false_iff_ne.mpr hcc
      clear hcc
      cases hh : s.head with
      | false =>
        have HE := Aside0.mk (HU.out.trans (if_pos hh))
        clear HU
        have HH := Aside0.mk hh
        clear hh
        go_enter Try.func15, Try.ntmps15
        go_wp2_with (first | (go_at_call 19; (refine HW0.out.mono ?_); rintro e w1 ⟨v, rfl, hk, hb⟩; obtain ⟨A1, c1, e1⟩ := Kd.R_slice hk; subst e1; have HS1 := Aside0.mk (HS.out.move hb); have HK1 := Aside0.mk ((Keep.refl w).below hb); have HW1 := Aside0.mk hk; clear hk hb; obtain ⟨ad, e2, x0, x1⟩ := at_W (Kd.R_reads' HW1.out).2.2 0 (by omega) (by omega); subst e2; have x1' := field_at0 x1; obtain ⟨vC1, vO1, hg1, _, _⟩ := HS1.out.st; have g2 := (cells_S (Aside0.mk hg1)).2.2.1; clear hg1 x0 x1; rw [HH.out] at g2) | (go_at_call 20; (refine (begin_calls HN.out w0 _ g s _ _ ws at_ _ HS1.out HW1.out (by omega)).mono ?_); rintro e w2 ⟨rfl, hr, hk⟩; have HR := Aside0.mk hr; have HKK := Aside0.mk hk; clear hr hk))
        go_ret
        rw [HE.out]
        exact ⟨rfl, HR.out, HK1.out.trans HKK.out⟩
      | true =>
        replace HU := Aside0.mk (HU.out.trans (if_neg (by rw [hh]; simp)))
        have HH := Aside0.mk hh
        clear hh
        go_enter Try.func15, Try.ntmps15
        go_wp2_with (go_at_call 19; (refine HW0.out.mono ?_); rintro e w1 ⟨v, rfl, hk, hb⟩; obtain ⟨A1, c1, e1⟩ := Kd.R_slice hk; subst e1; have HS1 := Aside0.mk (HS.out.move hb); have HK1 := Aside0.mk ((Keep.refl w).below hb); have HW1 := Aside0.mk hk; clear hk hb; obtain ⟨ad, e2, x0, x1⟩ := at_W (Kd.R_reads' HW1.out).2.2 0 (by omega) (by omega); subst e2; have x1' := field_at0 x1; obtain ⟨vC1, vO1, hg1, _, _⟩ := HS1.out.st; have g2 := (cells_S (Aside0.mk hg1)).2.2.1; clear hg1 x0 x1; rw [HH.out] at g2)
        clear HS HW0 x1' g2 q1 q2 q3 q0 q0'
        go_loopw [34] (fun i wr => ∃ (k : Nat) (sk : St), k ≤ ws.length ∧ i = .int .i64 k ∧ Aside0 (R = numsF sk (ws.drop k)) ∧ Aside0 (RS w0 wr g sk) ∧ Aside0 (Keep w wr) ∧ Aside0 (k51.R 51 wr w.heap.size (fun _ => True) (.slice (some ad) ws.length c1) ws) ∧ sk.op.length ≤ 4096 ∧ sk.cl.length ≤ s.cl.length + k) (fun i _ => ws.length - (intOf i).toNat)
        case atStart => exact ⟨0, s, Nat.zero_le _, rfl, HU, HS1, HK1, HW1, hop, Nat.le_refl _⟩
        case round =>
          clear HU HS1 HK1 HW1 HH
          obtain ⟨k, sk, hk, rfl, HU, HS, HK, HW, h1, h2⟩ := hrel
          by_cases hlt : k < ws.length
          · obtain ⟨ad', e2, x0, x1⟩ := at_W (Kd.R_reads' HW.out).2.2 (k : Int) (by omega) (by omega)
            injection e2 with e2
            subst e2
            rw [Int.toNat_natCast] at x0 x1
            have hd : ws.drop k = rdW ws k :: ws.drop (k + 1) := by
              rw [List.drop_eq_getElem_cons hlt]
              simp [rdW, List.getD_eq_getElem?_getD, List.getElem?_eq_getElem hlt]
            have HU2 := HU.out
            rw [hd] at HU2
            clear HU hd
            generalize rdW ws k = wd at x0 x1 HU2
            have HNC := Aside0.mk (fun (W : World) (hW : RS w0 W g sk) => number_calls HN.out w0 W g sk wd hW (by omega) (by omega))
            obtain ⟨hi1, hi2⟩ := numberF_in sk wd h1
            unfold numsF at HU2
            generalize numberF sk wd = nr at HU2 HNC hi1 hi2
            obtain ⟨s2, b⟩ := nr
            simp only at HU2 hi1 hi2
            have hlt' : (k : Int) < (ws.length : Int) := by omega
            cases b with
            | true =>
              have HE := Aside0.mk (HU2.trans (if_pos rfl))
              clear HU2
              go_wp2_with (go_at_call 21; (refine (HNC.out _ (HS.out.move (below_alloc (Below.refl _ _) _))).mono ?_); rintro e w2 ⟨rfl, hr, hk2⟩; have HR := Aside0.mk hr; have HK2 := Aside0.mk (((Keep.refl wr).below (below_alloc (Below.refl _ _) _)).trans hk2); clear hr hk2)
              go_roundw
              case rel => exact ⟨k + 1, s2, by omega, by go_num, HE, HR, ⟨HK.out.trans HK2.out⟩, ⟨HK2.out.words HW.out⟩, hi1, by omega⟩
              case measure => simp [intOf]; omega
            | false =>
              have HE := Aside0.mk (HU2.trans (if_neg (by simp)))
              clear HU2
              go_wp2_with (go_at_call 21; (refine (HNC.out _ (HS.out.move (below_alloc (Below.refl _ _) _))).mono ?_); rintro e w2 ⟨rfl, hr, hk2⟩; have HR := Aside0.mk hr; have HK2 := Aside0.mk (((Keep.refl wr).below (below_alloc (Below.refl _ _) _)).trans hk2); clear hr hk2)
              go_ret
              rw [HE.out]
              exact ⟨rfl, HR.out, HK.out.trans HK2.out⟩
          · have HE := Aside0.mk (HU.out.trans (show numsF sk (ws.drop k) = (sk, true) by rw [List.drop_eq_nil_of_le (by omega)]; rfl))
            obtain rfl : k = ws.length := by omega
            clear HU hlt
            go_wp2
            go_ret
            rw [HE.out]
            exact ⟨rfl, HS.out, HK.out⟩
end Go.Proofs.Ythnnekaimkppfaa.D
