/- Number answers as the reference; what Digits writes Number reads. -/
import Derived.Test.YthnnekaimkppfaaQx2
namespace Go.Proofs.Ythnnekaimkppfaa.Pure
open Go.RowKit Go.Proofs.Ythnnekaimkppfaa.Q Go.Proofs.YthnnekaimkppfaaW.PrintWords Go.Proofs.YthnnekaimkppfaaW.PrintLast

/-- A number's digits. -/
def dN (v : Nat) : List Int := if v < 10 then [48 + (v : Int)] else dN (v / 10) ++ [48 + ((v % 10 : Nat) : Int)]
termination_by v
decreasing_by omega
theorem dN_small {v : Nat} (h : v < 10) : dN v = [48 + (v : Int)] := by rw [dN, if_pos h]
theorem dN_big {v : Nat} (h : ¬ v < 10) : dN v = dN (v / 10) ++ [48 + ((v % 10 : Nat) : Int)] := by rw [dN, if_neg h]
def dI (n : Int) : List Int := if n < 0 then 45 :: dN n.natAbs else dN n.toNat
theorem fold_dN (v : Nat) : (dN v).foldl numStep 0 = (v : Int) := by
  induction v using Nat.strongRecOn with
  | ind v ih =>
    by_cases h : v < 10
    · rw [dN_small h]
      simp only [List.foldl_cons, List.foldl_nil, numStep]
      omega
    · rw [dN_big h, List.foldl_append, ih _ (by omega)]
      simp only [List.foldl_cons, List.foldl_nil, numStep]
      omega
theorem all_dN (v : Nat) : (dN v).all numDg = true := by
  induction v using Nat.strongRecOn with
  | ind v ih =>
    by_cases h : v < 10
    · rw [dN_small h]
      simp [numDg]; omega
    · rw [dN_big h, List.all_append, ih _ (by omega)]
      simp [numDg]; omega
theorem len_dN : ∀ (k v : Nat), v < 10 ^ (k + 1) → (dN v).length ≤ k + 1
  | k, v, h => by
    by_cases h1 : v < 10
    · rw [dN_small h1]; simp
    · rw [dN_big h1, List.length_append]
      cases k with
      | zero => omega
      | succ k =>
        have h2 := len_dN k (v / 10) (by rw [Nat.pow_succ] at h; omega)
        simp; omega
theorem ne_dN (v : Nat) : dN v ≠ [] := by
  by_cases h : v < 10
  · rw [dN_small h]; simp
  · rw [dN_big h]; simp
theorem head_dN (v : Nat) (h0 : v ≠ 0) : (dN v).head? ≠ some 48 := by
  induction v using Nat.strongRecOn with
  | ind v ih =>
    by_cases h : v < 10
    · rw [dN_small h]
      simp; omega
    · rw [dN_big h, List.head?_append]
      have h1 := ih (v / 10) (by omega) (by omega)
      cases h2 : (dN (v / 10)).head? with
      | none => exact absurd (List.head?_eq_none_iff.1 h2) (ne_dN _)
      | some c =>
        rw [h2] at h1
        simpa using h1
theorem head_dN2 (v : Nat) : (dN v).head? ≠ some 45 := by
  intro h
  have h1 := List.mem_of_mem_head? (Option.mem_def.2 h)
  have h2 := List.all_eq_true.1 (all_dN v) _ h1
  simp [numDg] at h2
theorem dN_zero : dN 0 = [48] := by rw [dN_small (by omega)]; rfl
theorem numL_dI (n : Int) (h1 : -9999999999 ≤ n) (h2 : n ≤ 9999999999) : D.numL (dI n) = (n, true) := by
  unfold D.numL dI
  by_cases h : n < 0
  · simp only [if_pos h, List.head?_cons, if_true, List.tail_cons]
    have hl := len_dN 9 n.natAbs (by omega)
    have hf : (dN n.natAbs).foldl (fun n c => 10 * n + (c - 48)) 0 = (n.natAbs : Int) := fold_dN _
    have ha : (dN n.natAbs).all (fun c => decide (48 ≤ c ∧ c ≤ 57)) = true := all_dN _
    rw [if_neg, hf]
    · simp; omega
    · rintro (e | e | ⟨e, -⟩ | e)
      · exact ne_dN _ e
      · omega
      · exact head_dN _ (by omega) e
      · rw [ha] at e; simp at e
  · simp only [if_neg h, if_neg (head_dN2 _)]
    have hl := len_dN 9 n.toNat (by omega)
    have hf : (dN n.toNat).foldl (fun n c => 10 * n + (c - 48)) 0 = (n.toNat : Int) := fold_dN _
    have ha : (dN n.toNat).all (fun c => decide (48 ≤ c ∧ c ≤ 57)) = true := all_dN _
    rw [if_neg, hf]
    · simp; omega
    · rintro (e | e | ⟨e, e2⟩ | e)
      · exact ne_dN _ e
      · omega
      · by_cases h0 : n.toNat = 0
        · rw [h0, dN_zero] at e2; exact e2 rfl
        · exact head_dN _ h0 e
      · rw [ha] at e; simp at e
theorem dN_push (n c : Int) (hn : 1 ≤ n) (hc : 48 ≤ c ∧ c ≤ 57) : dN (numStep n c).toNat = dN n.toNat ++ [c] := by
  unfold numStep
  rw [dN_big (by omega)]
  rw [show (10 * n + (c - 48)).toNat / 10 = n.toNat by omega, show (48 : Int) + (((10 * n + (c - 48)).toNat % 10 : Nat) : Int) = c by omega]
theorem dN_app : ∀ (d : List Int) (n : Int), 1 ≤ n → d.all numDg = true → dN (d.foldl numStep n).toNat = dN n.toNat ++ d
  | [], n, _, _ => by simp
  | c :: d, n, hn, h => by
    rw [List.all_cons, Bool.and_eq_true] at h
    have hc : 48 ≤ c ∧ c ≤ 57 := of_decide_eq_true h.1
    rw [List.foldl_cons, dN_app d _ (by unfold numStep; omega) h.2, dN_push n c hn hc, List.append_assoc]
    rfl
theorem dN_fold (d : List Int) (h0 : d ≠ []) (ha : d.all numDg = true) (h : d.head? ≠ some 48 ∨ d = [48]) : dN (d.foldl numStep 0).toNat = d := by
  cases d with
  | nil => exact absurd rfl h0
  | cons c t =>
    rcases h with h | h
    · rw [List.all_cons, Bool.and_eq_true] at ha
      have hc : 48 ≤ c ∧ c ≤ 57 := of_decide_eq_true ha.1
      have hc2 : c ≠ 48 := fun e => h (by rw [e]; rfl)
      rw [List.foldl_cons, dN_app t _ (by unfold numStep; omega) ha.2]
      unfold numStep
      rw [dN_small (by omega), show (48 : Int) + ((10 * 0 + (c - 48)).toNat : Int) = c by omega]
      rfl
    · rw [h]
      exact dN_zero
theorem fold_pos : ∀ (d : List Int) (n : Int), 0 ≤ n → d.all numDg = true → n ≤ d.foldl numStep n
  | [], n, _, _ => Int.le_refl _
  | c :: d, n, hn, h => by
    rw [List.all_cons, Bool.and_eq_true] at h
    have hc : 48 ≤ c ∧ c ≤ 57 := of_decide_eq_true h.1
    have := fold_pos d (numStep n c) (by unfold numStep; omega) h.2
    rw [List.foldl_cons]
    unfold numStep at this ⊢
    omega
/-- What the reference tells of a text. -/
def refL (L : List Int) : Int × Bool :=
  let v := (L.filter numDg).foldl numStep 0
  let n := if L.head? = some 45 then -v else v
  if n ≤ 9999999999 ∧ -9999999999 ≤ n ∧ dI n = L then (n, true) else (0, false)
theorem refL_eq (L : List Int) : refL L = D.numL L := by
  by_cases hr : ∃ n, n ≤ 9999999999 ∧ -9999999999 ≤ n ∧ dI n = L
  · obtain ⟨n, h1, h2, rfl⟩ := hr
    rw [numL_dI n h2 h1]
    have hv : (if (dI n).head? = some 45 then -(((dI n).filter numDg).foldl numStep 0) else ((dI n).filter numDg).foldl numStep 0) = n := by
      unfold dI
      by_cases h : n < 0
      · rw [if_pos h]
        rw [List.head?_cons, if_pos rfl, List.filter_cons_of_neg (by decide), List.filter_eq_self.2 (List.all_eq_true.1 (all_dN _)), fold_dN]
        omega
      · rw [if_neg h, if_neg (head_dN2 _), List.filter_eq_self.2 (List.all_eq_true.1 (all_dN _)), fold_dN]
        omega
    unfold refL
    simp only [hv]
    rw [if_pos ⟨h1, h2, trivial⟩]
  · have h1 : refL L = (0, false) := by
      unfold refL
      exact if_neg (fun e => hr ⟨_, e⟩)
    rw [h1]
    by_cases hV : D.numL L = (0, false)
    · exact hV.symm
    · exfalso
      unfold D.numL at hV
      generalize hd : (if L.head? = some 45 then L.tail else L) = d at hV
      simp only at hV
      by_cases hc : d = [] ∨ 10 < d.length ∨ (d.head? = some 48 ∧ L ≠ [48]) ∨ d.all (fun c => decide (48 ≤ c ∧ c ≤ 57)) = false
      · exact hV (if_pos hc)
      · rw [not_or, not_or, not_or] at hc
        obtain ⟨c1, c2, c3, c4⟩ := hc
        have ha : d.all numDg = true := by
          rw [Bool.not_eq_false] at c4
          exact c4
        have hb := D.fold_in d 0 (fun c hc => of_decide_eq_true (List.all_eq_true.1 ha c hc)) (by omega)
        have hp : (10 : Int) ^ d.length ≤ 10000000000 := by
          have : (10 : Nat) ^ d.length ≤ 10 ^ 10 := Nat.pow_le_pow_right (by omega) (by omega)
          have h2 : ((10 ^ d.length : Nat) : Int) ≤ ((10 ^ 10 : Nat) : Int) := Int.ofNat_le.2 this
          simpa using h2
        have hb1 : 0 ≤ d.foldl numStep 0 := hb.1
        have hb2 : d.foldl numStep 0 < (0 + 1) * 10 ^ d.length := hb.2
        by_cases h45 : L.head? = some 45
        · rw [if_pos h45] at hd
          have hL : L = 45 :: d := by
            cases L with
            | nil => simp at h45
            | cons a t =>
              simp only [List.head?_cons, Option.some.injEq] at h45
              rw [List.tail_cons] at hd
              rw [h45, hd]
          have hh : d.head? ≠ some 48 := fun e => c3 ⟨e, by rw [hL]; intro e2; injection e2 with e3 _; simp at e3⟩
          have hdn := dN_fold d c1 ha (.inl hh)
          have hpos : d.foldl numStep 0 ≠ 0 := by
            intro e
            rw [e] at hdn
            exact hh (by rw [← hdn]; rw [show (0 : Int).toNat = 0 from rfl, dN_zero]; rfl)
          refine hr ⟨-(d.foldl numStep 0), by omega, by omega, ?_⟩
          unfold dI
          rw [if_pos (by omega), show (-(d.foldl numStep 0)).natAbs = (d.foldl numStep 0).toNat by omega, hdn, hL]
        · rw [if_neg h45] at hd
          subst hd
          have hdn := dN_fold L c1 ha (by
            by_cases e : L.head? = some 48
            · exact .inr (Classical.not_not.1 (fun e2 => c3 ⟨e, e2⟩))
            · exact .inl e)
          refine hr ⟨L.foldl numStep 0, by omega, by omega, ?_⟩
          unfold dI
          rw [if_neg (by omega), hdn]
theorem lit_digit : ∀ v : Nat, v < 10 → bytesOf ((⟨#[48, 49, 50, 51, 52, 53, 54, 55, 56, 57]⟩ : ByteArray).extract v (v + 1)) = [48 + (v : Int)] := by decide
theorem bytes_append (a b : ByteArray) : bytesOf (a ++ b) = bytesOf a ++ bytesOf b := by
  rw [bytesOf, bytesOf, bytesOf, ← List.map_append]
  congr 1
theorem digits_nat (v : Nat) (hv : v ≤ 9999999999) : ∃ s, Ev (fun k => fathomref03_Digits.f k (v : Int)) s ∧ bytesOf s = dN v := by
  induction v using Nat.strongRecOn with
  | ind v ih =>
    by_cases h : v < 10
    · refine ⟨_, ?_, (lit_digit v h).trans (dN_small h).symm⟩
      refine Ev.step (f := fun _ => some _) (fun k => ?_) (Ev.now _)
      simp only [fathomref03_Digits.f]
      rw [show wrap64 ((v : Int) + 1) = ((v + 1 : Nat) : Int) by unfold wrap64; omega]
      rw [if_neg (by omega), if_pos (by omega), if_pos (by omega), if_pos (by omega), if_pos (by omega)]
      rfl
    · obtain ⟨s1, e1, b1⟩ := ih (v / 10) (by omega) (by omega)
      obtain ⟨s2, e2, b2⟩ := ih (v % 10) (by omega) (by omega)
      have z1 : s1.size ≤ 10 := by rw [← bytesOf_length, b1]; exact len_dN 9 _ (by omega)
      have z2 : s2.size ≤ 10 := by rw [← bytesOf_length, b2]; exact len_dN 9 _ (by omega)
      refine ⟨s1 ++ s2, ?_, by rw [bytes_append, b1, b2, dN_big h, dN_small (show v % 10 < 10 by omega)]⟩
      refine Ev.step (f := fun k => (fathomref03_Digits.f k ((v / 10 : Nat) : Int)).bind fun t102 => (fathomref03_Digits.f k ((v % 10 : Nat) : Int)).bind fun t103 => if t102.size + t103.size ≤ 9223372036854775807 then some (t102 ++ t103) else none) (fun k => ?_) ?_
      · simp only [fathomref03_Digits.f]
        rw [if_neg (by omega), if_neg (by omega)]
        rw [show Int.tdiv (v : Int) 10 = ((v / 10 : Nat) : Int) from rfl, show Int.tmod (v : Int) 10 = ((v % 10 : Nat) : Int) from rfl, show wrap64 ((v / 10 : Nat) : Int) = ((v / 10 : Nat) : Int) by unfold wrap64; omega]
      · refine Ev.bind e1 (Ev.bind e2 ?_)
        rw [if_pos (by omega)]
        exact Ev.now _
theorem digits_ev (n : Int) (h1 : -9999999999 ≤ n) (h2 : n ≤ 9999999999) : ∃ s, Ev (fun k => fathomref03_Digits.f k n) s ∧ bytesOf s = dI n := by
  by_cases h : n < 0
  · obtain ⟨s, e, b⟩ := digits_nat n.natAbs (by omega)
    have z : s.size ≤ 10 := by rw [← bytesOf_length, b]; exact len_dN 9 _ (by omega)
    refine ⟨(⟨#[45]⟩ : ByteArray) ++ s, ?_, by rw [bytes_append, b, dI, if_pos h]; rfl⟩
    refine Ev.step (f := fun k => (fathomref03_Digits.f k (n.natAbs : Int)).bind fun t101 => if 1 + t101.size ≤ 9223372036854775807 then some ((⟨#[45]⟩ : ByteArray) ++ t101) else none) (fun k => ?_) ?_
    · simp only [fathomref03_Digits.f]
      rw [if_pos h, show wrap64 (-n) = (n.natAbs : Int) by unfold wrap64; omega]
    · refine Ev.bind e ?_
      rw [if_pos (by omega)]
      exact Ev.now _
  · obtain ⟨s, e, b⟩ := digits_nat n.toNat (by omega)
    refine ⟨s, ?_, by rw [b, dI, if_neg h]⟩
    rw [show ((n.toNat : Nat) : Int) = n by omega] at e
    exact e
theorem ref_end (s : ByteArray) (n : Int) (h1 : -1000000000000000 ≤ n) (h2 : n ≤ 1000000000000000) (g : Nat → Option (Int × Bool))
    (hg : ∀ k, g (k + 1) = if n > 9999999999 then some (0, false) else (if n < (-9999999999) then some (0, false) else ((fathomref03_Digits.f k n).bind fun t => if t.toList = s.toList then some (n, true) else some (0, false)))) :
    Ev g (if n ≤ 9999999999 ∧ -9999999999 ≤ n ∧ dI n = bytesOf s then (n, true) else (0, false)) := by
  by_cases a : n > 9999999999
  · rw [if_neg (by omega)]
    exact Ev.step (f := fun _ => some (0, false)) (fun k => by rw [hg, if_pos a]) (Ev.now _)
  · by_cases b : n < -9999999999
    · rw [if_neg (by omega)]
      exact Ev.step (f := fun _ => some (0, false)) (fun k => by rw [hg, if_neg a, if_pos b]) (Ev.now _)
    · obtain ⟨t, e, hb⟩ := digits_ev n (by omega) (by omega)
      refine Ev.step (f := fun k => (fathomref03_Digits.f k n).bind fun t => if t.toList = s.toList then some (n, true) else some (0, false)) (fun k => by rw [hg, if_neg a, if_neg b]) (Ev.bind e ?_)
      by_cases c : t.toList = s.toList
      · rw [if_pos c, if_pos ⟨by omega, by omega, by rw [← hb]; exact (num_toList _ _).1 c⟩]
        exact Ev.now _
      · rw [if_neg c, if_neg (fun e => c ((num_toList _ _).2 (by rw [hb]; exact e.2.2)))]
        exact Ev.now _
theorem ref_l0 (s : ByteArray) (hlen : (bytesOf s).length ≤ 11) : ∀ (d i : Nat) (n : Int), i + d = (bytesOf s).length → 0 ≤ n → n < 10 ^ i →
    Ev (fun k => fathomref03_Number.l0 k s n i) (let v := (((bytesOf s).drop i).filter numDg).foldl numStep n
      let m := if (bytesOf s).head? = some 45 then -v else v
      if m ≤ 9999999999 ∧ -9999999999 ≤ m ∧ dI m = bytesOf s then (m, true) else (0, false)) := by
  have hsz := bytesOf_length s
  intro d
  induction d with
  | zero =>
    intro i n hi h0 h1
    have hp : (10 : Int) ^ i ≤ 100000000000 := by
      have : (10 : Nat) ^ i ≤ 10 ^ 11 := Nat.pow_le_pow_right (by omega) (by omega)
      have h2 : ((10 ^ i : Nat) : Int) ≤ ((10 ^ 11 : Nat) : Int) := Int.ofNat_le.2 this
      simpa using h2
    rw [List.drop_eq_nil_of_le (by omega)]
    simp only [List.filter_nil, List.foldl_nil]
    by_cases he : (bytesOf s).head? = some 45
    · have hne : bytesOf s ≠ [] := by intro e; rw [e] at he; simp at he
      have hp2 : 0 < (bytesOf s).length := List.length_pos_iff.2 hne
      simp only [if_pos he]
      refine Ev.step (f := fun k => fathomref03_Number.j1 k s n true) (fun k => ?_) (ref_end s (-n) (by omega) (by omega) _ (fun k => ?_))
      · simp only [fathomref03_Number.l0]
        rw [if_neg (by omega), if_pos (by omega), if_pos (by omega), show (bt s 0 == 45) = true from beq_iff_eq.2 ((num_head s 45 hne).1 he)]
      · simp only [fathomref03_Number.j1]
        rw [if_pos trivial, show wrap64 (-n) = -n by unfold wrap64; omega]
    · simp only [if_neg he]
      refine Ev.step (f := fun k => fathomref03_Number.j1 k s n false) (fun k => ?_) (ref_end s n (by omega) (by omega) _ (fun k => ?_))
      · simp only [fathomref03_Number.l0]
        rw [if_neg (by omega)]
        by_cases hne : bytesOf s = []
        · rw [if_neg (by rw [hne] at hsz; simp at hsz; omega)]
        · have hp2 : 0 < (bytesOf s).length := List.length_pos_iff.2 hne
          rw [if_pos (by omega), if_pos (by omega), show (bt s 0 == 45) = false from beq_eq_false_iff_ne.2 (fun e => he ((num_head s 45 hne).2 e))]
      · simp only [fathomref03_Number.j1]
        rw [if_neg (by simp)]
  | succ d ih =>
    intro i n hi h0 h1
    have hlt : i < (bytesOf s).length := by omega
    have hp : (10 : Int) ^ i ≤ 10000000000 := by
      have : (10 : Nat) ^ i ≤ 10 ^ 10 := Nat.pow_le_pow_right (by omega) (by omega)
      have h2 : ((10 ^ i : Nat) : Int) ≤ ((10 ^ 10 : Nat) : Int) := Int.ofNat_le.2 this
      simpa using h2
    have hps : (10 : Int) ^ (i + 1) = 10 ^ i * 10 := Int.pow_succ _ _
    have hc : (bytesOf s).drop i = bt s i :: (bytesOf s).drop (i + 1) := by
      rw [List.drop_eq_getElem_cons hlt, ← rd_bytesOf]
      simp [rd, List.getD_eq_getElem?_getD, List.getElem?_eq_getElem hlt]
    have hw : wrap64 ((i : Int) + 1) = ((i + 1 : Nat) : Int) := by unfold wrap64; omega
    rw [hc]
    by_cases hd : 48 ≤ bt s i ∧ bt s i ≤ 57
    · rw [List.filter_cons_of_pos (show numDg (bt s i) = true from decide_eq_true hd), List.foldl_cons]
      refine Ev.step (f := fun k => fathomref03_Number.l0 k s (numStep n (bt s i)) ((i + 1 : Nat) : Int)) (fun k => ?_) (ih (i + 1) (numStep n (bt s i)) (by omega) (by unfold numStep; omega) (by unfold numStep; omega))
      simp only [fathomref03_Number.l0]
      rw [if_pos (by omega), if_pos (by omega), if_pos (by omega), if_pos (by omega), hw, show wrap64 (wrap64 (n * 10) + (bt s i - 48) % 256) = numStep n (bt s i) by unfold wrap64 numStep; omega]
    · rw [List.filter_cons_of_neg (by rw [show numDg (bt s i) = false from decide_eq_false hd]; simp)]
      refine Ev.step (f := fun k => fathomref03_Number.l0 k s n ((i + 1 : Nat) : Int)) (fun k => ?_) (ih (i + 1) n (by omega) h0 (by omega))
      simp only [fathomref03_Number.l0]
      rw [if_pos (by omega), if_pos (by omega), hw]
      by_cases a : bt s i ≥ 48
      · rw [if_pos a, if_neg (by omega)]
      · rw [if_neg a]
theorem ref_number (s : ByteArray) : Ev (fun k => fathomref03_Number.f k s) (D.numF s) := by
  have hsz := bytesOf_length s
  unfold D.numF
  by_cases h : (bytesOf s).length > 11
  · have hz : D.numL (bytesOf s) = (0, false) := by
      unfold D.numL
      refine if_pos (.inr (.inl ?_))
      split
      · rw [List.length_tail]; omega
      · omega
    rw [hz]
    refine Ev.congr (f := fun _ => some (0, false)) (fun k => ?_) (Ev.now _)
    simp only [fathomref03_Number.f]
    rw [if_pos (by omega)]
  · rw [← refL_eq]
    refine Ev.congr (f := fun k => fathomref03_Number.l0 k s 0 ((0 : Nat) : Int)) (fun k => ?_) ?_
    · simp only [fathomref03_Number.f]
      rw [if_neg (by omega)]
      rfl
    · have hx := ref_l0 s (by omega) (bytesOf s).length 0 0 (by omega) (by omega) (by decide)
      rw [List.drop_zero] at hx
      exact hx
theorem j1_true (n : Int) : Ev (fun k => fathomlaw03_DimacsNumbers.j1 k n true) true := by
  refine Ev.step (f := fun _ => some true) (fun k => ?_) (Ev.now _)
  simp only [fathomlaw03_DimacsNumbers.j1]
  rw [if_pos trivial]
  rfl
theorem j1_false (n : Int) (h1 : -9999999999 ≤ n) (h2 : n ≤ 9999999999) : Ev (fun k => fathomlaw03_DimacsNumbers.j1 k n false) true := by
  obtain ⟨t, e, hb⟩ := digits_ev n h1 h2
  have hn := number_ev t
  rw [D.numF, hb, numL_dI n h1 h2] at hn
  refine Ev.step (f := fun k => (fathomref03_Digits.f k n).bind fun t112 => (dimacs_Number.f k t112).bind fun bt113 => if bt113.2 = true then (if bt113.1 = n then (fathomlaw03_awake.f).bind fun t115 => some t115 else some false) else some false) (fun k => ?_) (Ev.bind e (Ev.bind hn ?_))
  · simp only [fathomlaw03_DimacsNumbers.j1]
    rw [if_neg (by simp)]
  · rw [if_pos rfl, if_pos rfl]
    exact Ev.now _
theorem DimacsNumbers : fathomlaw03_DimacsNumbers.Pure := by
  intro a0 a1 _ _
  refine Ev.rounds ?_
  by_cases h : (a0.size : Int) > 300
  · refine Ev.congr (f := fun _ => some true) (fun k => ?_) (Ev.now _)
    simp only [fathomlaw03_DimacsNumbers.f]
    rw [if_pos h]
    rfl
  · refine Ev.congr (f := fun k => (dimacs_Number.f k a0).bind fun bt107 => (fathomref03_Number.f k a0).bind fun bt109 => if bt107.1 = bt109.1 then fathomlaw03_DimacsNumbers.j0 k a1 (bt107.2 != bt109.2) else fathomlaw03_DimacsNumbers.j0 k a1 true) (fun k => ?_) ?_
    · simp only [fathomlaw03_DimacsNumbers.f]
      rw [if_neg h]
    · refine Ev.bind (number_ev a0) (Ev.bind (ref_number a0) ?_)
      refine Ev.congr (f := fun k => fathomlaw03_DimacsNumbers.j0 k a1 false) (fun k => ?_) ?_
      · rw [if_pos rfl, bne_self_eq_false]
      · by_cases c1 : a1 < -9999999999
        · refine Ev.step (f := fun k => fathomlaw03_DimacsNumbers.j1 k a1 true) (fun k => ?_) (j1_true a1)
          simp only [fathomlaw03_DimacsNumbers.j0]
          rw [if_neg (by simp), if_pos c1]
        · by_cases c2 : a1 > 9999999999
          · refine Ev.step (f := fun k => fathomlaw03_DimacsNumbers.j1 k a1 true) (fun k => ?_) (j1_true a1)
            simp only [fathomlaw03_DimacsNumbers.j0]
            rw [if_neg (by simp), if_neg c1, decide_eq_true c2]
          · refine Ev.step (f := fun k => fathomlaw03_DimacsNumbers.j1 k a1 false) (fun k => ?_) (j1_false a1 (by omega) (by omega))
            simp only [fathomlaw03_DimacsNumbers.j0]
            rw [if_neg (by simp), if_neg c1, decide_eq_false c2]
end Go.Proofs.Ythnnekaimkppfaa.Pure
