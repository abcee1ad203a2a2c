/- dimacs.words: a line's words. -/
import Derived.Test.YthnnekaimkppfaaProg
import Derived.Test.YthnnekaimkppfaaHand
import Derived.Deep.LoopGhost
import Derived.OneCell
namespace Go.Proofs.Ythnnekaimkppfaa.D
open Go.RowKit Go.Proofs.YthnnekaimkppfaaW.PrintWords Go.Proofs.YthnnekaimkppfaaW.PrintLast
set_option linter.unusedVariables false
set_option linter.unusedSimpArgs false
abbrev Word := Int × ByteArray
def z51 : Word := (0, ⟨#[]⟩)
def k51 : Kd Word := Kd.pair (Kd.int .i64) Kd.string
theorem k51_open {w : World} {x : Word} {cs : List Value} (h : k51.K w x cs) : cs = [.int .i64 x.1, .string x.2] := by
  obtain ⟨c0, c1, rfl, h0, h1⟩ := h
  have h0 : c0 = [_] := h0
  have h1 : c1 = [_] := h1
  rw [h0, h1]; rfl
theorem k51_mkM (w : World) (base : Nat) (ok : Nat → Prop) (x : Word) : k51.M w base ok x [.int .i64 x.1, .string x.2] := ⟨[.int .i64 x.1], [.string x.2], rfl, rfl, rfl⟩
def rdW (xs : List Word) (i : Int) : Word := xs.getD i.toNat z51
theorem at_W {w : World} {A : Option Addr} {n : Nat} {xs : List Word} (h : k51.C w A n xs) (i : Int) (h0 : 0 ≤ i) (h1 : i < n) :
    ∃ ad, A = some ad ∧ w.cell? (ad.add (i.toNat * 2)) = some (.int .i64 (rdW xs i).1) ∧ w.cell? ⟨(ad.add (i.toNat * 2)).block, (ad.add (i.toNat * 2)).off + 1, none⟩ = some (.string (rdW xs i).2) := by
  obtain ⟨ad, c, e, hl, hk, hc0⟩ := Kd.C_get h z51 i h0 h1
  have hc : ∀ j u, c[j]? = some u → w.cell? (ad.add (i.toNat * 2 + j)) = some u := hc0
  obtain rfl := k51_open hk
  refine ⟨ad, e, ?_, ?_⟩
  · exact hc 0 _ rfl
  · rw [← add_field _ _ 1 (by omega)]; exact hc 1 _ rfl
theorem info51 : (Try.prog.info? 51).map (fun i => (i.zero, i.size, i.bytes)) = some (some (.agg #[.int .i64 0, .string ⟨#[]⟩]), 2, 24) := by kernel_rfl
theorem info5 : (Try.prog.info? 5).map (fun i => (i.zero, i.size, i.bytes)) = some (some (.int .u8 0), 1, 1) := by kernel_rfl
theorem Rlow {α : Type} {d : Kd α} {e : Nat} {w : World} {base : Nat} {ok : Nat → Prop} {v : Value} {xs : List α} (h : d.R e w base ok v xs) {p : Addr} (hp : p.block < base) (u : Value) : d.R e (w.setCell p u) base ok v xs :=
  Kd.R_mono (Kd.R_far (Kd.R_bound h) (fun k hk => by have := hk.2.1; omega) u) (fun _ hk => hk.1)
/-- The four variables of words: the line, its place, the words so far, where the word at hand begins. -/
structure WI (w0 w : World) (A : Option Addr) (c : Nat) (line : List Int) (at_ b : Int) (ws : List Word) : Prop where
  below : Below w0.heap.size w0 w
  ln : w.heap[w0.heap.size]? = some (.cells #[.slice A line.length c] 30 (0, 0))
  pl : w.heap[w0.heap.size + 1]? = some (.cells #[.int .i64 at_] 3 (0, 0))
  wd : ∃ v, w.heap[w0.heap.size + 2]? = some (.cells #[v] 48 (0, 0)) ∧ k51.R 51 w (w0.heap.size + 4) (fun _ => True) v ws
  bg : w.heap[w0.heap.size + 3]? = some (.cells #[.int .i64 b] 3 (0, 0))
def cutF (line : List Int) (at_ b end_ : Int) (ws : List Word) : List Word := if 0 ≤ b then ws ++ [(at_ + b, strOfNums ((line.take end_.toNat).drop b.toNat))] else ws
set_option maxHeartbeats 4000000 in
set_option maxRecDepth 100000 in
theorem cut_calls (w0 w : World) (A : Option Addr) (c : Nat) (line : List Int) (at_ b end_ : Int) (ws : List Word) (hI : WI w0 w A c line at_ b ws) (hr : (Kd.int .u8).C w0 A line.length line) (hc : line.length ≤ c)
    (h0 : b ≤ end_) (h1 : end_ ≤ line.length) (ha : 0 ≤ at_) (ha2 : at_ + line.length ≤ 4611686018427387904) (hws : ws.length < 1099511627776) :
    Calls Try.prog 24 #[.int .i64 end_, .pointer (some ⟨w0.heap.size + 3, 0, none⟩), .pointer (some ⟨w0.heap.size + 2, 0, none⟩), .pointer (some ⟨w0.heap.size + 1, 0, none⟩), .pointer (some ⟨w0.heap.size, 0, none⟩)] w
      fun e w' => e = .returned (.tuple #[]) ∧ WI w0 w' A c line at_ (-1) (cutF line at_ b end_ ws) := by
  obtain ⟨hB, hln, hpl, ⟨v, hwd, hR⟩, hbg⟩ := hI
  obtain ⟨B, hBB⟩ : ∃ B, B = w0.heap.size := ⟨_, rfl⟩
  rw [← hBB] at hln hpl hwd hR hbg ⊢
  have cB := cell_of_one hbg
  have fB := free_of_one hbg
  have HBB := Aside0.mk hBB
  clear hBB
  by_cases hb : 0 ≤ b
  · have hbd : decide (0 ≤ b) = true := decide_eq_true hb
    have HB := Aside0.mk (below_drew1 hB)
    have HR := Aside0.mk (Kd.R_drew hR)
    have BL := Aside0.mk (blk_drew hln)
    have BP := Aside0.mk (blk_drew hpl)
    have BW := Aside0.mk (blk_drew hwd)
    have BG := Aside0.mk (blk_drew hbg)
    clear hB hR hln hpl hwd hbg
    obtain ⟨i0, hi0, _, hsz, _⟩ := info_parts info5
    obtain ⟨A', hcut, hA, hC⟩ := print_mid_of (P := Try.prog) (Value.int .u8) 0 30 5 .i64 .i64 Try.underlying30 hi0 hsz A c line b end_ hb h0 h1 hc
    have HR1 := Aside0.mk (Kd.C_of_reads (h1 := fun _ => rfl) (hA _ (Kd.reads_of_C hr)))
    clear hA hC hi0 hsz
    have hsum : IntKind.i64.wrap (at_ + b) = at_ + b := IntWalk.i64_in _ (by omega)
    go_enter Try.func24, Try.ntmps24
    go_upto_region 1 with (fail)
    refine start_ (n := 13) (S := fun w' => Below w0.heap.size w0 w' ∧ w'.cell? ⟨B, 0, none⟩ = some (.slice A line.length c) ∧ w'.cell? ⟨B + 1, 0, none⟩ = some (.int .i64 at_) ∧ w'.cell? ⟨B + 2, 0, none⟩ = some v ∧ w'.cell? ⟨B + 3, 0, none⟩ = some (.int .i64 b)) (ds := [12]) #[false, false, false, false, false, false, false, false, false, false, false, false, false] (by kernel_rfl) rfl rfl ⟨HB.out, cell_of_one BL.out, cell_of_one BP.out, cell_of_one BW.out, cell_of_one BG.out⟩ (fun hHeld => ?_)
    generalize w.drew = w1 at HB HR BL BP BW BG hHeld ⊢
    refine sv 6 14 ?_
    refine sr 1 9 hHeld ?_
    refine sr 2 10 hHeld ?_
    refine sv 3 11 ?_
    refine sr 4 12 hHeld ?_
    refine sr 5 13 hHeld ?_
    refine sv 7 15 ?_
    refine sx 8 16 (.string (strOfNums ((line.take end_.toNat).drop b.toNat))) hHeld ?_ ?_
    · intro w' hs
      have hcv := Kd.C_string (P := Try.prog) (A := A') (c := c - b.toNat) Try.underlying30 Try.underlying5 Try.underlying9 (Kd.C_below HR1.out hs.1)
      rw [List.length_drop, List.length_take, Nat.min_eq_left (by omega)] at hcv
      go_simp
      try rfl
    refine sv 9 17 ?_
    refine sr 0 8 hHeld ?_
    refine one_ (i := 10) (N := some 18) #[true, true, true, true, true, true, true, true, true, true, true, false, false] rfl rfl (by kernel_rfl) (by decide) (fun K hK => ?_)
    refine value_ (w1 := w1.alloc (.cells #[.int .i64 (at_ + b), .string (strOfNums ((line.take end_.toNat).drop b.toNat))] 51)) (v := .slice (some ⟨w1.heap.size, 0, none⟩) 1 1) (by rfl) rfl (by go_simp) ?_
    refine hK.out _ _ ⟨below_alloc HB.out _, cell_of_one (blk_alloc BL.out _), cell_of_one (blk_alloc BP.out _), cell_of_one (blk_alloc BW.out _), cell_of_one (blk_alloc BG.out _)⟩ (fun hHeld2 => ?_)
    clear hK K
    refine norm_ (a' := ?_) ?_ ?_
    rotate_left
    · simp only [Act.put, List.setIfInBounds_toArray, List.set_cons_zero, List.set_cons_succ, i64_w, i32_w]
      rfl
    refine one_ (i := 11) (N := some 19) #[true, true, true, true, true, true, true, true, true, true, true, true, false] rfl rfl (by kernel_rfl) (by decide) (fun K hK => ?_)
    refine Kd.R_append_step k51 (w0 := w1) (B + 4) (by rfl) (.tmp 8) (.tmp 18) 48 51 (.agg #[.int .i64 0, .string ⟨#[]⟩]) 24 rfl Try.underlying48 info51 rfl (by decide) (by omega) v ws (at_ + b, strOfNums ((line.take end_.toNat).drop b.toNat)) [.int .i64 (at_ + b), .string (strOfNums ((line.take end_.toNat).drop b.toNat))] (fun _ => True) (fun _ => False) rfl rfl (k51_mkM _ _ _ _) (fun _ hk => hk.elim) (fun _ _ => trivial) HR.out (Below.refl _ _) (by have := blk_lt BG.out; omega) (by omega) ?_
    intro v1 w2 ho hb2 hg hat
    obtain ⟨A1, c1, e1⟩ := Kd.R_slice ho
    subst e1
    have HB2 := Aside0.mk (HB.out.trans (hb2.mono (by have := HBB.out; omega)))
    have BL2 := Aside0.mk ((hb2.block _ (by omega)).trans BL.out)
    have BP2 := Aside0.mk ((hb2.block _ (by omega)).trans BP.out)
    have BW2 := Aside0.mk ((hb2.block _ (by omega)).trans BW.out)
    have BG2 := Aside0.mk ((hb2.block _ (by omega)).trans BG.out)
    have HO := Aside0.mk ho
    clear ho hb2 hg hat
    refine hK.out _ _ ⟨HB2.out, cell_of_one BL2.out, cell_of_one BP2.out, cell_of_one BW2.out, cell_of_one BG2.out⟩ (fun hHeld3 => ?_)
    clear hK K hHeld hHeld2 HB HR BL BP BW BG
    refine norm_ (a' := ?_) ?_ ?_
    rotate_left
    · simp only [Act.put, List.setIfInBounds_toArray, List.set_cons_zero, List.set_cons_succ, i64_w, i32_w]
      rfl
    have cW := cell_of_one BW2.out
    have fW := free_of_one BW2.out
    refine last_ (i := 12) (N := none) #[true, true, true, true, true, true, true, true, true, true, true, true, true] rfl rfl (by kernel_rfl) (by decide) (fun K hK => ?_)
    refine skip_ (w1 := w2.setCell ⟨B + 2, 0, none⟩ (.slice A1 (ws ++ [(at_ + b, strOfNums ((line.take end_.toNat).drop b.toNat))]).length c1)) (by rfl) rfl (by go_simp) ?_
    refine hK.out _ _ ?_
    clear hK K
    refine done_ (by kernel_rfl) ?_
    have HB3 := HB2.out.setCell (p := ⟨B + 2, 0, none⟩) (by have := HBB.out; simp; omega) (.slice A1 (ws ++ [(at_ + b, strOfNums ((line.take end_.toNat).drop b.toNat))]).length c1)
    have BL3 := (Below.heap_setCell w2 ⟨B + 2, 0, none⟩ (.slice A1 (ws ++ [(at_ + b, strOfNums ((line.take end_.toNat).drop b.toNat))]).length c1) _ (by simp)).trans BL2.out
    have BP3 := (Below.heap_setCell w2 ⟨B + 2, 0, none⟩ (.slice A1 (ws ++ [(at_ + b, strOfNums ((line.take end_.toNat).drop b.toNat))]).length c1) _ (by simp)).trans BP2.out
    have BG3 := (Below.heap_setCell w2 ⟨B + 2, 0, none⟩ (.slice A1 (ws ++ [(at_ + b, strOfNums ((line.take end_.toNat).drop b.toNat))]).length c1) _ (by simp)).trans BG2.out
    have BW3 := one_setCell (u := .slice A1 (ws ++ [(at_ + b, strOfNums ((line.take end_.toNat).drop b.toNat))]).length c1) BW2.out
    have HO3 := Rlow HO.out (p := ⟨B + 2, 0, none⟩) (by simp) (.slice A1 (ws ++ [(at_ + b, strOfNums ((line.take end_.toNat).drop b.toNat))]).length c1)
    clear HB2 BL2 BP2 BW2 BG2 HO hHeld3 cW fW
    generalize w2.setCell ⟨B + 2, 0, none⟩ (.slice A1 (ws ++ [(at_ + b, strOfNums ((line.take end_.toNat).drop b.toNat))]).length c1) = w3 at HB3 BL3 BP3 BG3 BW3 HO3 ⊢
    have cG := cell_of_one BG3
    have fG := free_of_one BG3
    have X1 := Aside0.mk HB3
    have X2 := Aside0.mk BL3
    have X3 := Aside0.mk BP3
    have X4 := Aside0.mk BW3
    have X5 := Aside0.mk BG3
    have X6 := Aside0.mk HO3
    clear HB3 BL3 BP3 BW3 BG3 HO3
    go_wp2
    go_end0
    refine ⟨rfl, ?_⟩
    unfold cutF
    rw [if_pos hb]
    have e := HBB.out
    subst e
    exact ⟨X1.out.setCell (by simp) _, (Below.heap_setCell _ _ _ _ (by simp)).trans X2.out, (Below.heap_setCell _ _ _ _ (by simp)).trans X3.out, ⟨_, (Below.heap_setCell _ _ _ _ (by simp)).trans X4.out, Rlow X6.out (by simp) _⟩, one_setCell X5.out⟩
  · have hbd : decide (0 ≤ b) = false := decide_eq_false hb
    go_enter Try.func24, Try.ntmps24
    go_wp2
    go_end0
    refine ⟨rfl, ?_⟩
    unfold cutF
    rw [if_neg (by omega)]
    have e := HBB.out
    subst e
    exact ⟨hB.setCell (by simp) _, (Below.heap_setCell _ _ _ _ (by simp)).trans hln, (Below.heap_setCell _ _ _ _ (by simp)).trans hpl, ⟨_, (Below.heap_setCell _ _ _ _ (by simp)).trans hwd, Rlow hR (by simp) _⟩, one_setCell hbg⟩

def stepW (line : List Int) (at_ : Int) (i : Nat) (st : Int × List Word) : Int × List Word :=
  if rd line i = 32 ∨ rd line i = 9 then (-1, cutF line at_ st.1 i st.2) else if st.1 < 0 then ((i : Int), st.2) else st
def wordsTo (line : List Int) (at_ : Int) : Nat → Int × List Word
  | 0 => (-1, [])
  | i + 1 => stepW line at_ i (wordsTo line at_ i)
def wordsF (line : List Int) (at_ : Int) : List Word := cutF line at_ (wordsTo line at_ line.length).1 line.length (wordsTo line at_ line.length).2
theorem cut_len (line : List Int) (at_ b e : Int) (ws : List Word) : (cutF line at_ b e ws).length ≤ ws.length + 1 := by
  unfold cutF; split <;> simp
theorem wordsTo_in (line : List Int) (at_ : Int) : ∀ k : Nat, -1 ≤ (wordsTo line at_ k).1 ∧ (wordsTo line at_ k).1 ≤ k ∧ (wordsTo line at_ k).2.length ≤ k
  | 0 => by simp [wordsTo]
  | k + 1 => by
    obtain ⟨h1, h2, h3⟩ := wordsTo_in line at_ k
    have hc := cut_len line at_ (wordsTo line at_ k).1 k (wordsTo line at_ k).2
    simp only [wordsTo, stepW]
    split
    · exact ⟨by simp, by simp; try omega, by simp; try omega⟩
    · split
      · exact ⟨by simp; try omega, by simp; try omega, by simp; try omega⟩
      · exact ⟨h1, by omega, by omega⟩
set_option maxHeartbeats 4000000 in
set_option maxRecDepth 100000 in
theorem words_calls (w0 : World) (A : Option Addr) (c : Nat) (line : List Int) (at_ : Int) (hr : (Kd.int .u8).C w0 A line.length line) (hc : line.length ≤ c) (ha : 0 ≤ at_) (ha2 : at_ + line.length ≤ 4611686018427387904) (hn : line.length < 1099511627776) :
    Calls Try.prog 19 #[.slice A line.length c, .int .i64 at_] w0 fun e w' => ∃ v, e = .returned v ∧ k51.R 51 w' w0.heap.size (fun _ => True) v (wordsF line at_) ∧ Below w0.heap.size w0 w' := by
  go_enter Try.func19, Try.ntmps19
  go_wp2
  go_loopw [13] (fun i wr => ∃ k : Nat, k ≤ line.length ∧ i = .int .i64 k ∧ WI w0 wr A c line at_ (wordsTo line at_ k).1 (wordsTo line at_ k).2) (fun i _ => line.length - (intOf i).toNat)
  case atStart =>
    refine ⟨0, Nat.zero_le _, rfl, ?_⟩
    have s1 : ∀ (w : World) (o : Obj), (w.alloc o).heap.size = w.heap.size + 1 := fun w o => by simp
    have n1 := fun (w : World) (o : Obj) (g : Nat) (hg : w.heap.size = g) => (by rw [← hg]; exact blk_new w o : (w.alloc o).heap[g]? = some o)
    refine ⟨?_, ?_, ?_, ⟨_, ?_, Kd.R_nil _ _ _ _ _⟩, ?_⟩
    · exact below_alloc (below_alloc (below_alloc (below_alloc (Below.refl _ _) _) _) _) _
    · exact blk_alloc (blk_alloc (blk_alloc (blk_new _ _) _) _) _
    · exact blk_alloc (blk_alloc (n1 _ _ _ (by rw [s1])) _) _
    · exact blk_alloc (n1 _ _ _ (by rw [s1, s1])) _
    · exact n1 _ _ _ (by rw [s1, s1, s1])
  case round =>
    obtain ⟨k, hk, rfl, hI⟩ := hrel
    obtain ⟨hb1, hb2, hb3⟩ := wordsTo_in line at_ k
    have HS := Aside0.mk (show wordsTo line at_ (k + 1) = stepW line at_ k (wordsTo line at_ k) from rfl)
    obtain ⟨st, hst⟩ : ∃ st, wordsTo line at_ k = st := ⟨_, rfl⟩
    rw [hst] at hI hb1 hb2 hb3 HS
    have HST := Aside0.mk hst
    clear hst
    obtain ⟨b, ws⟩ := st
    simp only at hI hb1 hb2 hb3
    have cL := cell_of_one hI.ln
    have cG := cell_of_one hI.bg
    have fG := free_of_one hI.bg
    have HI := Aside0.mk hI
    clear hI
    by_cases hlt : k < line.length
    · obtain ⟨ad, e1, hx⟩ := Kd.at_int (Kd.C_below hr HI.out.below) (k : Int) (by omega) (by omega)
      subst e1
      rw [Int.toNat_natCast] at hx
      by_cases h32 : rd line k = 32 ∨ rd line k = 9
      · have HE := Aside0.mk (show wordsTo line at_ (k + 1) = (-1, cutF line at_ b k ws) by rw [HS.out]; unfold stepW; rw [if_pos h32])
        by_cases h1 : rd line k = 32
        · have q1 : (rd line k == 32) = true := beq_iff_eq.mpr h1
          clear h1 h32
          go_wp2_with (go_at_call 24; (refine (cut_calls w0 _ _ c line at_ b k ws HI.out hr hc hb2 (by omega) ha ha2 (by omega)).mono ?_); rintro e w1 ⟨rfl, hI1⟩; have HI1 := Aside0.mk hI1; clear hI1)
          go_roundw
          case rel => exact ⟨k + 1, by omega, by go_num, by rw [HE.out]; exact HI1.out⟩
          case measure => simp [intOf]; omega
        · have q1 : (rd line k == 32) = false := beq_eq_false_iff_ne.mpr h1
          have q2 : (rd line k == 9) = true := beq_iff_eq.mpr (h32.resolve_left h1)
          clear h1 h32
          go_wp2_with (go_at_call 24; (refine (cut_calls w0 _ _ c line at_ b k ws HI.out hr hc hb2 (by omega) ha ha2 (by omega)).mono ?_); rintro e w1 ⟨rfl, hI1⟩; have HI1 := Aside0.mk hI1; clear hI1)
          go_roundw
          case rel => exact ⟨k + 1, by omega, by go_num, by rw [HE.out]; exact HI1.out⟩
          case measure => simp [intOf]; omega
      · have q1 : (rd line k == 32) = false := beq_eq_false_iff_ne.mpr (fun e => h32 (.inl e))
        have q2 : (rd line k == 9) = false := beq_eq_false_iff_ne.mpr (fun e => h32 (.inr e))
        by_cases hb : b < 0
        · have hbd : decide (b < 0) = true := decide_eq_true hb
          have HE := Aside0.mk (show wordsTo line at_ (k + 1) = ((k : Int), ws) by rw [HS.out]; unfold stepW; rw [if_neg h32]; simp only; rw [if_pos hb])
          clear h32
          go_wp2
          go_roundw
          case rel =>
            refine ⟨k + 1, by omega, by go_num, ?_⟩
            rw [HE.out]
            obtain ⟨f1, f2, f3, ⟨v, f4, f5⟩, f6⟩ := HI.out
            exact ⟨f1.setCell (by simp; try omega) _, (Below.heap_setCell _ _ _ _ (by simp; try omega)).trans f2, (Below.heap_setCell _ _ _ _ (by simp; try omega)).trans f3, ⟨v, (Below.heap_setCell _ _ _ _ (by simp; try omega)).trans f4, Rlow f5 (by simp; try omega) _⟩, one_setCell f6⟩
          case measure => simp [intOf]; omega
        · have hbd : decide (b < 0) = false := decide_eq_false hb
          have HE := Aside0.mk (show wordsTo line at_ (k + 1) = (b, ws) by rw [HS.out]; unfold stepW; rw [if_neg h32]; simp only; rw [if_neg hb])
          clear h32
          go_wp2
          go_roundw
          case rel => exact ⟨k + 1, by omega, by go_num, by rw [HE.out]; exact HI.out⟩
          case measure => simp [intOf]; omega
    · obtain rfl : k = line.length := by omega
      have HF := Aside0.mk (show wordsF line at_ = cutF line at_ b line.length ws by unfold wordsF; rw [HST.out])
      go_wp2_with (go_at_call 24; (refine (cut_calls w0 _ _ c line at_ b line.length ws HI.out hr hc (by omega) (by omega) ha ha2 (by omega)).mono ?_); rintro e w1 ⟨rfl, hI1⟩; obtain ⟨v, hwd, hR⟩ := hI1.wd; have cW := cell_of_one hwd; have HR := Aside0.mk hR; have HI1 := Aside0.mk hI1; clear hI1 hR)
      go_ret
      exact ⟨_, rfl, by rw [HF.out]; exact Kd.R_lower HR.out (by omega), HI1.out.below⟩
end Go.Proofs.Ythnnekaimkppfaa.D
