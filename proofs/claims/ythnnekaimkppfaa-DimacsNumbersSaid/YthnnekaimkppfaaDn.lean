/- dimacs.reader.number: one word of a clause. -/
import Derived.Test.YthnnekaimkppfaaDr
import Derived.Test.YthnnekaimkppfaaWMore
namespace Go.Proofs.Ythnnekaimkppfaa.D
open Go.RowKit Go.Proofs.YthnnekaimkppfaaW.PrintWords Go.Proofs.YthnnekaimkppfaaW.PrintLast Go.Proofs.YthnnekaimkppfaaW.PrintMore
theorem max2_mx (k k' : IntKind) (x y : Int) : Builtin.max2 (.int k x) (.int k' y) = pure (.int k (mx x y)) := by rw [max2_int]; rfl
attribute [local go_sem] max2_mx max_two
set_option linter.unusedVariables false
set_option linter.unusedSimpArgs false
/-- A word's number; false: it is none. -/
def numL (L : List Int) : Int × Bool :=
  let d := if L.head? = some 45 then L.tail else L
  if d = [] ∨ 10 < d.length ∨ (d.head? = some 48 ∧ L ≠ [48]) ∨ d.all (fun c => decide (48 ≤ c ∧ c ≤ 57)) = false then (0, false)
  else (if L.head? = some 45 then -(d.foldl (fun n c => 10 * n + (c - 48)) 0) else d.foldl (fun n c => 10 * n + (c - 48)) 0, true)
def numF (s : ByteArray) : Int × Bool := numL (bytesOf s)
theorem fold_in : ∀ (d : List Int) (n : Int), (∀ c ∈ d, 48 ≤ c ∧ c ≤ 57) → 0 ≤ n → 0 ≤ d.foldl (fun n c => 10 * n + (c - 48)) n ∧ d.foldl (fun n c => 10 * n + (c - 48)) n < (n + 1) * 10 ^ d.length
  | [], n, _, h => by simp; omega
  | c :: d, n, hd, h => by
    have hc := hd c (by simp)
    obtain ⟨h1, h2⟩ := fold_in d (10 * n + (c - 48)) (fun x hx => hd x (by simp [hx])) (by omega)
    refine ⟨h1, Int.lt_of_lt_of_le h2 ?_⟩
    rw [List.length_cons, Int.pow_succ]
    have : (10 * n + (c - 48) + 1) ≤ (n + 1) * 10 := by omega
    have h5 := Int.mul_le_mul_of_nonneg_right this (Int.le_of_lt (Int.pow_pos (n := 10) (m := d.length) (by decide)))
    rw [Int.mul_assoc (n + 1), Int.mul_comm 10 (10 ^ d.length)] at h5
    exact h5
theorem numF_in (s : ByteArray) : -9999999999 ≤ (numF s).1 ∧ (numF s).1 ≤ 9999999999 := by
  unfold numF numL
  generalize bytesOf s = L
  simp only
  generalize (if L.head? = some 45 then L.tail else L) = d
  by_cases h : d = [] ∨ 10 < d.length ∨ (d.head? = some 48 ∧ L ≠ [48]) ∨ d.all (fun c => decide (48 ≤ c ∧ c ≤ 57)) = false
  · rw [if_pos h]; decide
  · rw [if_neg h]
    have hl : ¬ 10 < d.length := fun e => h (.inr (.inl e))
    have ha : d.all (fun c => decide (48 ≤ c ∧ c ≤ 57)) = true := by
      cases e : d.all (fun c => decide (48 ≤ c ∧ c ≤ 57)) with
      | true => rfl
      | false => exact absurd (.inr (.inr (.inr e))) h
    rw [List.all_eq_true] at ha
    obtain ⟨h1, h2⟩ := fold_in d 0 (fun c hc => of_decide_eq_true (ha c hc)) (by decide)
    have h3 : (0 + 1 : Int) * 10 ^ d.length ≤ 10000000000 := by
      have h4 : (10 : Nat) ^ d.length ≤ 10 ^ 10 := Nat.pow_le_pow_right (by decide) (by omega)
      have h5 : (10 : Int) ^ d.length = (((10 : Nat) ^ d.length : Nat) : Int) := by simp
      rw [h5]
      omega
    show -9999999999 ≤ (if L.head? = some 45 then -(d.foldl (fun n c => 10 * n + (c - 48)) 0) else d.foldl (fun n c => 10 * n + (c - 48)) 0) ∧ (if L.head? = some 45 then -(d.foldl (fun n c => 10 * n + (c - 48)) 0) else d.foldl (fun n c => 10 * n + (c - 48)) 0) ≤ 9999999999
    split <;> omega

def numberF (s : St) (wd : Word) : St × Bool :=
  if (numF wd.2).2 = false then (failF s wd.1 2, false)
  else if s.inn = false ∧ (s.cl.length : Int) = s.want then (failF s wd.1 4, false)
  else if (numF wd.2).1 = 0 then ({ s with cl := s.cl ++ [s.op], op := [], inn := false }, true)
  else if s.vars < mx (numF wd.2).1 (-(numF wd.2).1) then (failF s wd.1 1, false)
  else if (s.op.length : Int) = 4096 then (failF s wd.1 3, false)
  else ({ s with op := s.op ++ [(numF wd.2).1], inn := true }, true)
theorem info32 : (Try.prog.info? 32).map (fun i => (i.zero, i.size, i.bytes)) = some (some (.slice none 0 0), 1, 24) := by kernel_rfl
theorem info3 : (Try.prog.info? 3).map (fun i => (i.zero, i.size, i.bytes)) = some (some (.int .i64 0), 1, 8) := by kernel_rfl
/-- What is asked of the numbers' reader. -/
def NumOK : Prop := ∀ (s : ByteArray) (w : World), Calls Try.prog 6 #[.string s] w fun e w' => e = .returned (.tuple #[.int .i64 (numF s).1, .bool (numF s).2]) ∧ Drawn0 w w'
theorem Keep.drawn {a w w' : World} (h : Keep a w) (hd : Drawn0 w w') : Keep a w' := by
  obtain ⟨n, rfl⟩ := hd
  exact h
theorem RS.drawn {w0 w w' : World} {g : Nat} {s : St} (h : RS w0 w g s) (hd : Drawn0 w w') : RS w0 w' g s := by
  obtain ⟨n, rfl⟩ := hd
  obtain ⟨hb, hg, vC, vO, h1, h2, h3⟩ := h
  exact ⟨pw_below_drewN hb n, hg, vC, vO, h1, h2, h3⟩
theorem cells_S {w : World} {g : Nat} {s : St} {vC vO : Value} (h : Aside0 (w.heap[g]? = some (.cells (cellsS s vC vO) 43 (0, 0)))) :
    w.cell? ⟨g, 0, none⟩ = some (.int .i64 s.vars) ∧ w.cell? ⟨g, 1, none⟩ = some vC ∧ w.cell? ⟨g, 2, none⟩ = some (.bool s.head) ∧ w.cell? ⟨g, 3, none⟩ = some (.int .i64 s.want) ∧ w.cell? ⟨g, 4, none⟩ = some vO ∧ w.cell? ⟨g, 5, none⟩ = some (.bool s.inn) ∧ w.cell? ⟨g, 6, none⟩ = some (.int .i64 s.wrong) ∧ w.cell? ⟨g, 7, none⟩ = some (.int .i64 s.e) :=
  ⟨(blk_cell h.out 0).trans rfl, (blk_cell h.out 1).trans rfl, (blk_cell h.out 2).trans rfl, (blk_cell h.out 3).trans rfl, (blk_cell h.out 4).trans rfl, (blk_cell h.out 5).trans rfl, (blk_cell h.out 6).trans rfl, (blk_cell h.out 7).trans rfl⟩
set_option maxHeartbeats 8000000 in
set_option maxRecDepth 100000 in
theorem number_calls (hN : NumOK) (w0 w : World) (g : Nat) (s : St) (wd : Word) (h : RS w0 w g s) (hcl : s.cl.length < 1099511627776) (hop : s.op.length ≤ 4096) :
    Calls Try.prog 21 #[.pointer (some ⟨g, 0, none⟩), .agg #[.int .i64 wd.1, .string wd.2]] w fun e w' => e = .returned (.bool (numberF s wd).2) ∧ RS w0 w' g (numberF s wd).1 ∧ Keep w w' := by
  obtain ⟨hn1, hn2⟩ := numF_in wd.2
  have HU : Aside0 (numberF s wd = _) := ⟨by unfold numberF; rfl⟩
  obtain ⟨R, hR⟩ : ∃ R, numberF s wd = R := ⟨_, rfl⟩
  rw [hR] at HU ⊢
  clear hR
  generalize hnum : numF wd.2 = nn at hn1 hn2 HU
  have HN := Aside0.mk (fun w => hnum ▸ hN wd.2 w)
  clear hnum hN
  obtain ⟨n, ok⟩ := nn
  simp only at hn1 hn2
  have HS := Aside0.mk h
  clear h
  have hneg : IntKind.i64.wrap (-n) = -n := IntWalk.i64_in _ (by omega)
  cases ok with
  | false =>
    have HE := Aside0.mk (HU.out.trans (if_pos rfl))
    clear HU
    go_enter Try.func21, Try.ntmps21
    go_wp2_with (first | (go_at_call 6; (refine (HN.out _).mono ?_); rintro e w1 ⟨rfl, hd⟩; have HS1 := Aside0.mk ((HS.out.move (below_alloc (Below.refl _ _) _)).drawn hd); have HK1 := Aside0.mk (((Keep.refl w).below (below_alloc (Below.refl _ _) _)).drawn hd); obtain ⟨nd, rfl⟩ := hd.out) | (go_at_call 22; (refine (fail_calls w0 _ g s wd.1 2 HS1.out).mono ?_); rintro e w2 ⟨rfl, hr, hk⟩; have HR := Aside0.mk hr; have HK := Aside0.mk hk; clear hr hk))
    go_ret
    rw [HE.out]
    exact ⟨rfl, HR.out, HK1.out.trans HK.out⟩
  | true =>
    replace HU := Aside0.mk (HU.out.trans (if_neg (by simp)))
    go_enter Try.func21, Try.ntmps21
    go_upto_region 4 with (first | (go_at_call 6; (refine (HN.out _).mono ?_); rintro e w1 ⟨rfl, hd⟩; have HS1 := Aside0.mk ((HS.out.move (below_alloc (Below.refl _ _) _)).drawn hd); have HK1 := Aside0.mk (((Keep.refl w).below (below_alloc (Below.refl _ _) _)).drawn hd); have BX1 := Aside0.mk (show w1.heap[w.heap.size]? = some (.cells #[.int .i64 wd.1, .string wd.2] 51 (0, 0)) by obtain ⟨nd, rfl⟩ := hd; exact blk_new _ _); clear hd))
    obtain ⟨vC, vO, hg1, hC1, hO1⟩ := HS1.out.st
    obtain ⟨AC, cC, eC⟩ := Kd.R_slice hC1
    obtain ⟨AO, cO, eO⟩ := Kd.R_slice hO1
    subst eC eO
    have HG1 := Aside0.mk hg1
    have HC1 := Aside0.mk hC1
    have HO1 := Aside0.mk hO1
    clear hg1 hC1 hO1
    obtain ⟨c0, c1, -, c3, c4, c5, -, -⟩ := cells_S HG1
    obtain ⟨b0, b1, -, -⟩ := bo2 BX1
    by_cases hin : s.inn = false ∧ (s.cl.length : Int) = s.want
    · have HE := Aside0.mk (HU.out.trans (if_pos hin))
      clear HU
      obtain ⟨hi, hw⟩ := hin
      rw [hi] at c5
      have q1 : ((s.cl.length : Int) == s.want) = true := beq_iff_eq.mpr hw
      clear hi hw
      go_quiet (fail)
      go_wp2_with (first | (go_at_call 22; (refine (fail_calls w0 _ g s wd.1 4 (HS1.out.drawn ⟨⟨_, rfl⟩⟩)).mono ?_); rintro e w2 ⟨rfl, hr, hk⟩; have HR := Aside0.mk hr; have HK := Aside0.mk hk; clear hr hk))
      go_ret
      rw [HE.out]
      exact ⟨rfl, HR.out, HK1.out.trans HK.out⟩
    · replace HU := Aside0.mk (HU.out.trans (if_neg hin))
      have hin2 : s.inn = true ∨ (s.inn = false ∧ ¬ (s.cl.length : Int) = s.want) := by
        cases hi : s.inn with
        | true => exact .inl rfl
        | false => exact .inr ⟨rfl, fun e => hin ⟨hi, e⟩⟩
      clear hin
      refine Or.elim hin2 ?gA ?gB
      case' gA => (intro hi; clear hin2; rw [hi] at c5; clear hi; go_quiet (fail))
      case' gB => (rintro ⟨hi, hw⟩; clear hin2; rw [hi] at c5; have q1 : ((s.cl.length : Int) == s.want) = false := beq_eq_false_iff_ne.mpr hw; clear hi hw; go_quiet (fail))
      all_goals
        by_cases hz : n = 0
        · have HE := Aside0.mk (HU.out.trans (if_pos hz))
          have q2 : (n == 0) = true := beq_iff_eq.mpr hz
          clear HU hz
          go_upto_region 7 with (fail)
          generalize hw2 : World.drewN w1 _ = w2
          have HS2 := Aside0.mk (show RS w0 w2 g s by rw [← hw2]; exact HS1.out.drawn ⟨⟨_, rfl⟩⟩)
          have HK2 := Aside0.mk (show Keep w w2 by rw [← hw2]; exact HK1.out)
          have HG2 := Aside0.mk (show w2.drew.heap[g]? = some (.cells (cellsS s (.slice AC s.cl.length cC) (.slice AO s.op.length cO)) 43 (0, 0)) by rw [← hw2]; exact HG1.out)
          have HC2 := Aside0.mk (show kR.R 32 w2.drew w0.heap.size (fun k => some k ≠ (Value.slice AO s.op.length cO).ownBlock) (.slice AC s.cl.length cC) s.cl by rw [← hw2]; exact Kd.R_drew (Kd.R_drewN HC1.out _))
          have HO2 := Aside0.mk (show kI.R 3 w2.drew w0.heap.size (fun _ => True) (.slice AO s.op.length cO) s.op by rw [← hw2]; exact Kd.R_drew (Kd.R_drewN HO1.out _))
          clear HS1 HK1 BX1 HG1 HC1 HO1 c0 c1 c3 c4 c5 b0 b1 hw2
          obtain ⟨-, c1, -, -, c4, -, -, -⟩ := cells_S HG2
          refine start_ (n := 16) (S := fun w' => w'.cell? ⟨g, 1, none⟩ = some (.slice AC s.cl.length cC) ∧ w'.cell? ⟨g, 4, none⟩ = some (.slice AO s.op.length cO)) (ds := [15]) #[false, false, false, false, false, false, false, false, false, false, false, false, false, false, false, false] (by kernel_rfl) rfl rfl ⟨c1, c4⟩ (fun hHeld => ?_)
          clear c1 c4
          have HB2 := Aside0.mk HS2.out.below.drew
          have HGE := Aside0.mk HS2.out.ge
          replace HK2 := Aside0.mk (HK2.out.below (below_drew1 (Below.refl _ _)))
          clear HS2
          generalize w2.drew = w3 at HK2 HG2 HC2 HO2 HB2 hHeld ⊢
          refine sv 0 46 ?_
          refine sv 1 47 ?_
          refine sv 2 48 ?_
          refine sv 3 49 ?_
          refine sv 4 50 ?_
          refine sr 5 51 hHeld ?_
          refine sv 6 52 ?_
          refine sv 7 53 ?_
          refine sv 8 54 ?_
          refine sr 9 55 hHeld ?_
          refine one_ (i := 10) (N := some 56) #[true, true, true, true, true, true, true, true, true, true, true, false, false, false, false, false] rfl rfl (by kernel_rfl) (by decide) (fun K hK => ?_)
          refine value_ (w1 := w3.alloc (.cells #[.slice AO s.op.length cO] 32)) (v := .slice (some ⟨w3.heap.size, 0, none⟩) 1 1) (by rfl) rfl (by go_simp) ?_
          refine hK.out _ _ ⟨(blk_cell (blk_alloc HG2.out _) 1).trans rfl, (blk_cell (blk_alloc HG2.out _) 4).trans rfl⟩ (fun hHeld2 => ?_)
          clear hK K
          refine norm_ (a' := ?_) ?_ ?_
          rotate_left
          · simp only [Act.put, List.setIfInBounds_toArray, List.set_cons_zero, List.set_cons_succ, i64_w, i32_w]
            rfl
          refine one_ (i := 11) (N := some 57) #[true, true, true, true, true, true, true, true, true, true, true, true, false, false, false, false] rfl rfl (by kernel_rfl) (by decide) (fun K hK => ?_)
          refine Kd.R_append_step kR (w0 := w3) w0.heap.size (by rfl) (.tmp 51) (.tmp 56) 27 32 (.slice none 0 0) 24 rfl Try.underlying27 info32 rfl (by decide) (by omega) (.slice AC s.cl.length cC) s.cl s.op [.slice AO s.op.length cO] (fun _ => True) (fun k => True ∧ some k ≠ (Value.slice AC s.cl.length cC).ownBlock) rfl rfl (Kd.M_row (Kd.R_apartR HO2.out HC2.out (by decide))) (fun _ hk => hk) (fun _ _ => trivial) (Kd.R_mono HC2.out (fun _ _ => trivial)) (Below.refl _ _) HB2.out.size (by omega) ?_
          intro v1 w4 ho hb4 hgr hat
          obtain ⟨A1, c1, e1⟩ := Kd.R_slice ho
          subst e1
          have HO4 := Aside0.mk ho
          have HG4 := Aside0.mk (blk_grown HG2.out hgr (Kd.R_ne HC2.out HG2.out (by decide)))
          have HB4 := Aside0.mk (pw_below_grown HB2.out _ HB2.out.size hgr (Kd.R_base HC2.out))
          have HK4 := Aside0.mk (HK2.out.grown hgr (fun k hk => by obtain ⟨cs, hc⟩ := Kd.R_typed HC2.out k hk; exact ⟨cs, 32, hc, .inr (.inl rfl)⟩))
          clear ho hb4 hgr hat HK2 HC2 HO2 HB2
          refine hK.out _ _ ⟨(blk_cell HG4.out 1).trans rfl, (blk_cell HG4.out 4).trans rfl⟩ (fun hHeld3 => ?_)
          clear hK K HG2 hHeld hHeld2
          refine norm_ (a' := ?_) ?_ ?_
          rotate_left
          · simp only [Act.put, List.setIfInBounds_toArray, List.set_cons_zero, List.set_cons_succ, i64_w, i32_w]
            rfl
          refine sv 12 58 ?_
          refine sv 13 59 ?_
          refine sv 14 60 ?_
          have f1 := blk_frozen HG4.out 1
          obtain ⟨-, d1, -, -, -, -, -, -⟩ := cells_S HG4
          refine last_ (i := 15) (N := none) #[true, true, true, true, true, true, true, true, true, true, true, true, true, true, true, true] rfl rfl (by kernel_rfl) (by decide) (fun K hK => ?_)
          refine skip_ (w1 := w4.setCell ⟨g, 1, none⟩ (.slice A1 (s.cl ++ [s.op]).length c1)) (by rfl) rfl (by go_simp) ?_
          refine hK.out _ _ ?_
          clear hK K
          refine done_ (by kernel_rfl) ?_
          have HG5 := Aside0.mk (blk_put (cs' := cellsS { s with cl := s.cl ++ [s.op] } (.slice A1 (s.cl ++ [s.op]).length c1) (.slice AO s.op.length cO)) HG4.out 1 (.slice A1 (s.cl ++ [s.op]).length c1) rfl)
          have HO5 := Aside0.mk (Kd.R_set HO4.out HG4.out (by decide) 1 (.slice A1 (s.cl ++ [s.op]).length c1))
          have HB5 := Aside0.mk (HB4.out.setCell (p := ⟨g, 1, none⟩) HGE.out (.slice A1 (s.cl ++ [s.op]).length c1))
          have HK5 := Aside0.mk (HK4.out.set (j := 1) HG4.out (.inl rfl) (.slice A1 (s.cl ++ [s.op]).length c1))
          clear HG4 HO4 HB4 HK4 hHeld3 f1 d1
          generalize w4.setCell ⟨g, 1, none⟩ (.slice A1 (s.cl ++ [s.op]).length c1) = w5 at HG5 HO5 HB5 HK5 ⊢
          have f4 := blk_frozen HG5.out 4
          have f5 := blk_frozen HG5.out 5
          obtain ⟨-, -, -, -, d4, d5, -, -⟩ := cells_S HG5
          go_wp2
          go_ret
          rw [HE.out]
          have hge := HGE.out
          have hp1 := blk_put (cs' := cellsS { s with cl := s.cl ++ [s.op], op := [] } (.slice A1 (s.cl ++ [s.op]).length c1) (.slice none 0 0)) HG5.out 4 (.slice none 0 0) rfl
          have hp2 := blk_put (cs' := cellsS { s with cl := s.cl ++ [s.op], op := [], inn := false } (.slice A1 (s.cl ++ [s.op]).length c1) (.slice none 0 0)) hp1 5 (.bool false) rfl
          exact ⟨rfl, ⟨(HB5.out.setCell hge _).setCell hge _, hge, _, _, hp2, Kd.R_mono (Kd.R_set (Kd.R_set HO5.out HG5.out (by decide) 4 _) hp1 (by decide) 5 _) (fun _ _ => by simp [Value.ownBlock]), Kd.R_nil _ _ _ _ _⟩, (HK5.out.set HG5.out (.inl rfl) _).set hp1 (.inl rfl) _⟩
        · replace HU := Aside0.mk (HU.out.trans (if_neg hz))
          have q2 : (n == 0) = false := beq_eq_false_iff_ne.mpr hz
          clear hz
          by_cases hv : s.vars < mx n (-n)
          · have HE := Aside0.mk (HU.out.trans (if_pos hv))
            have q3 : decide (s.vars < mx n (-n)) = true := decide_eq_true hv
            clear HU hv
            go_wp2_with (first | (go_at_call 22; (refine (fail_calls w0 _ g s wd.1 1 (HS1.out.drawn ⟨⟨_, rfl⟩⟩)).mono ?_); rintro e w2 ⟨rfl, hr, hk⟩; have HR := Aside0.mk hr; have HK := Aside0.mk hk; clear hr hk))
            go_ret
            rw [HE.out]
            exact ⟨rfl, HR.out, HK1.out.trans HK.out⟩
          · replace HU := Aside0.mk (HU.out.trans (if_neg hv))
            have q3 : decide (s.vars < mx n (-n)) = false := decide_eq_false hv
            clear hv
            by_cases hp : (s.op.length : Int) = 4096
            · have HE := Aside0.mk (HU.out.trans (if_pos hp))
              have q4 : ((s.op.length : Int) == 4096) = true := beq_iff_eq.mpr hp
              clear HU hp
              go_wp2_with (first | (go_at_call 22; (refine (fail_calls w0 _ g s wd.1 3 (HS1.out.drawn ⟨⟨_, rfl⟩⟩)).mono ?_); rintro e w2 ⟨rfl, hr, hk⟩; have HR := Aside0.mk hr; have HK := Aside0.mk hk; clear hr hk))
              go_ret
              rw [HE.out]
              exact ⟨rfl, HR.out, HK1.out.trans HK.out⟩
            · have HE := Aside0.mk (HU.out.trans (if_neg hp))
              have q4 : ((s.op.length : Int) == 4096) = false := beq_eq_false_iff_ne.mpr hp
              clear HU hp
              have hS1 := HS1.out.below.size
              have hL1 : (s.op.length + 1) * 8 ≤ 140737488355328 := by omega
              go_wp2_with (at_builtin; refine Kd.R_append kI (w0 := w1.drewN _) w0.heap.size rfl (.tmp 98) (.tmp 100) 32 3 (.int .i64 0) 8 rfl Try.underlying32 info3 rfl (by decide) (by omega) (.slice AO s.op.length cO) s.op n [.int .i64 n] (fun _ => True) (fun _ => False) rfl rfl rfl (fun _ hk => hk.elim) (fun _ _ => trivial) (Kd.R_drewN HO1.out _) (Below.refl _ _) hS1 hL1 ?_; intro v1 w2 ho hb2 hgr hat; obtain ⟨A1, c1', e1⟩ := Kd.R_slice ho; subst e1; have HG2 := Aside0.mk (show w2.heap[g]? = some (.cells (cellsS s (.slice AC s.cl.length cC) (.slice AO s.op.length cO)) 43 (0, 0)) from blk_grown (w := w1.drewN _) HG1.out hgr (Kd.R_ne HO1.out HG1.out (by decide))); have HX := Aside0.mk (And.intro ho (And.intro hb2 (And.intro hgr hat))); have f4 := blk_frozen HG2.out 4; have f5 := blk_frozen HG2.out 5; obtain ⟨d0, d1, d2, d3, d4, d5, d6, d7⟩ := cells_S HG2; clear ho hb2 hgr hat)
              go_ret
              rw [HE.out]
              obtain ⟨ho, hb2, hgr, hat⟩ := HX.out
              have hC2 := Kd.R_after (ok := fun _ => True) (Kd.R_mono (Kd.R_drewN HC1.out _) (fun _ hk => ⟨trivial, hk⟩)) hgr hat
              have hK2 := (show Keep w (w1.drewN _) from HK1.out).grown hgr (fun k hk => by obtain ⟨cs, hc⟩ := Kd.R_typed (Kd.R_drewN HO1.out _) k hk; exact ⟨cs, 3, hc, .inr (.inr rfl)⟩)
              have hB2 := pw_below_grown (pw_below_drewN HS1.out.below _) _ HS1.out.below.size hgr (Kd.R_base HO1.out)
              have hge := HS1.out.ge
              have hl : (s.op ++ [n]).length = s.op.length + 1 := by simp
              rw [hl] at ho hC2
              have hp1 := blk_put (cs' := cellsS { s with op := s.op ++ [n] } (.slice AC s.cl.length cC) (.slice A1 (s.op.length + 1) c1')) HG2.out 4 (.slice A1 (s.op.length + 1) c1') rfl
              have hp2 := blk_put (cs' := cellsS { s with op := s.op ++ [n], inn := true } (.slice AC s.cl.length cC) (.slice A1 (s.op.length + 1) c1')) hp1 5 (.bool true) rfl
              exact ⟨rfl, ⟨(hB2.setCell hge _).setCell hge _, hge, _, _, hp2, Kd.R_mono (Kd.R_set (Kd.R_set hC2 HG2.out (by decide) 4 _) hp1 (by decide) 5 _) (fun _ hk => hk.2), Kd.R_set (Kd.R_set ho HG2.out (by decide) 4 _) hp1 (by decide) 5 _⟩, (hK2.set HG2.out (.inl rfl) _).set hp1 (.inl rfl) _⟩
end Go.Proofs.Ythnnekaimkppfaa.D
