/- The theorem of covering: the tokens of a source stand in it, in order, with blanks alone between; taken out, with one blank between, they are the same again. For sources of at most 3000 bytes. -/
import Derived.Test.YtgjehnjonleibaaQx5
namespace Go.Proofs.Ytgjehnjonleibaa.Pure
open Go.RowKit Go.Proofs.Ytgjehnjonleibaa.Q Go.Proofs.YtgjehnjonleibaaW.PrintWords Go.Proofs.YtgjehnjonleibaaW.PrintLast

theorem cawake_ev : Ev (fun k => fathomlaw20_awake.f k) true := Ev.of (fun k => fathomlaw20_awake.mono k) (k := 30) (by kernel_rfl)

/-! ### Bytes -/
def dg (c : Int) : Bool := decide (48 ≤ c ∧ c ≤ 57)
def lt (c : Int) : Bool := decide (97 ≤ c ∧ c ≤ 122)
def ld (c : Int) : Bool := lt c || dg c
def bl (c : Int) : Bool := decide (c = 32 ∨ c = 9 ∨ c = 10 ∨ c = 13)
theorem cletter (c : Int) : lex_letter.f c = some (lt c) := by
  unfold lex_letter.f lt
  split
  · rename_i h
    simp [show 97 ≤ c from h]
  · rename_i h
    rw [decide_eq_false (by omega)]
theorem cdigit (c : Int) : lex_digit.f c = some (dg c) := by
  unfold lex_digit.f dg
  split
  · rename_i h
    simp [show 48 ≤ c from h]
  · rename_i h
    rw [decide_eq_false (by omega)]
theorem cblank (c : Int) : lex_blank.f c = some (bl c) := by
  unfold lex_blank.f bl
  by_cases h1 : c = 32
  · simp [h1]
  by_cases h2 : c = 9
  · simp [h2]
  by_cases h3 : c = 10
  · simp [h3]
  by_cases h4 : c = 13
  · simp [h4]
  simp [h1, h2, h3, h4]
theorem wnat (n : Nat) (h : n < 9223372036854775807) : wrap64 ((n : Int) + 1) = ((n + 1 : Nat) : Int) := by unfold wrap64; omega
theorem wadd (n m : Nat) (h : n + m < 9223372036854775807) : wrap64 ((n : Int) + (m : Int)) = ((n + m : Nat) : Int) := by unfold wrap64; omega
/-- What stands from a place on. -/
theorem drop_at {l u : List Int} {c : Int} {s : Nat} (h : l.drop s = c :: u) : s < l.length ∧ rd l s = c ∧ l.drop (s + 1) = u := by
  have hs : s < l.length := by
    rcases Nat.lt_or_ge s l.length with x | x
    · exact x
    · rw [List.drop_eq_nil_of_le x] at h; cases h
  rw [List.drop_eq_getElem_cons hs] at h
  injection h with h1 h2
  refine ⟨hs, ?_, h2⟩
  unfold rd
  rw [Int.toNat_natCast, List.getD_eq_getElem?_getD, List.getElem?_eq_getElem hs]
  exact h1
theorem drop_end {l : List Int} {s : Nat} (hs : s ≤ l.length) (h : l.drop s = []) : s = l.length := by
  have := congrArg List.length h
  rw [List.length_drop] at this
  simp at this
  omega

/-! ### What is skipped -/
structure Skip (l : List Int) (p s : Nat) : Prop where
  le : p ≤ s
  end_ : s ≤ l.length
  run : Ev (fun k => lex_skip.l0 k l p) (s : Int)
  ref : Ev (fun k => fathomref20_Start.l0 k l p false) (s : Int)
  stop : s < l.length → bl (rd l s) = false ∧ rd l s ≠ 35
theorem skip_st (l : List Int) (hl : l.length < 1000000) (p : Nat) (hlt : (p : Int) < (l.length : Int)) (k : Nat) : lex_skip.l0 (k + 1) l p = if bl (rd l p) = true then lex_skip.l0 k l ((p + 1 : Nat) : Int) else if rd l p = 35 then lex_skip.l1 k l p else some (p : Int) := by
  simp only [lex_skip.l0]
  rw [if_pos hlt, if_pos (by omega), cblank, wnat p (by omega)]
  rfl
theorem start_st (l : List Int) (hl : l.length < 1000000) (p : Nat) (hlt : (p : Int) < (l.length : Int)) : ∀ k, fathomref20_Start.l0 (k + 2) l p false = if rd l p = 35 then fathomref20_Start.l0 k l ((p + 1 : Nat) : Int) true else if bl (rd l p) = true then fathomref20_Start.l0 k l ((p + 1 : Nat) : Int) false else some (p : Int) := by
  have h0 : (0 : Int) ≤ (p : Int) := by omega
  have hw := wnat p (by omega)
  intro k
  simp only [fathomref20_Start.l0, fathomref20_Start.j1]
  rw [if_pos hlt, if_pos h0, hw]
  unfold bl
  by_cases h35 : rd l p = 35
  · rw [if_pos h35, if_neg (by omega), if_pos True.intro, if_pos h35]
  · rw [if_neg h35, if_neg h35]
    by_cases h10 : rd l p = 10
    · rw [if_pos h10, if_neg (by omega), if_neg (by omega), if_pos (by simp [h10])]
    · rw [if_neg h10, if_neg (by simp)]
      by_cases h32 : rd l p = 32
      · rw [if_pos h32, if_pos (by simp [h32])]
      · rw [if_neg h32]
        by_cases h9 : rd l p = 9
        · rw [if_pos h9, if_pos (by simp [h9])]
        · rw [if_neg h9]
          by_cases h13 : rd l p = 13
          · rw [if_pos h13, if_pos (by simp [h13])]
          · rw [if_neg h13, if_neg (by simp [h32, h9, h10, h13])]
theorem skip_both (l : List Int) (hl : l.length < 1000000) : ∀ d p : Nat, p + d = l.length →
    (∃ s, Skip l p s) ∧ (∃ s : Nat, p ≤ s ∧ s ≤ l.length ∧ Ev (fun k => lex_skip.l1 k l p) (s : Int) ∧ Ev (fun k => fathomref20_Start.l0 k l p true) (s : Int) ∧ (s < l.length → bl (rd l s) = false ∧ rd l s ≠ 35)) := by
  intro d
  induction d with
  | zero =>
    intro p hp
    have he : p = l.length := by omega
    have r0 : Ev (fun k => lex_skip.l0 k l p) (p : Int) := Ev.step (f := fun _ => some (p : Int)) (fun k => by simp only [lex_skip.l0]; rw [if_neg (by omega)]) (Ev.now _)
    have s0 : ∀ b, Ev (fun k => fathomref20_Start.l0 k l p b) (p : Int) := fun b => Ev.step (f := fun _ => some (p : Int)) (fun k => by simp only [fathomref20_Start.l0]; rw [if_neg (by omega)]) (Ev.now _)
    refine ⟨⟨p, Nat.le_refl _, by omega, r0, s0 false, fun h => by omega⟩, p, Nat.le_refl _, by omega, ?_, s0 true, fun h => by omega⟩
    exact Ev.step (f := fun k => lex_skip.l0 k l p) (fun k => by simp only [lex_skip.l1]; rw [if_neg (by omega)]) r0
  | succ d ih =>
    intro p hp
    obtain ⟨⟨s, hs⟩, s2, g1, g2, g3, g4, g5⟩ := ih (p + 1) (by omega)
    have hlt : (p : Int) < (l.length : Int) := by omega
    have h0 : (0 : Int) ≤ (p : Int) := by omega
    have hw := wnat p (by omega)
    have stL := skip_st l hl p hlt
    have stC : ∀ k, lex_skip.l1 (k + 1) l p = if rd l p = 10 then lex_skip.l0 k l p else lex_skip.l1 k l ((p + 1 : Nat) : Int) := by
      intro k
      simp only [lex_skip.l1]
      rw [if_pos hlt, if_pos h0, hw]
    have stF := start_st l hl p hlt
    have stT : ∀ k, fathomref20_Start.l0 (k + 2) l p true = if rd l p = 10 then fathomref20_Start.l0 k l ((p + 1 : Nat) : Int) false else fathomref20_Start.l0 k l ((p + 1 : Nat) : Int) true := by
      intro k
      simp only [fathomref20_Start.l0, fathomref20_Start.j1]
      rw [if_pos hlt, if_pos h0, hw]
      by_cases h35 : rd l p = 35
      · rw [if_pos h35, if_neg (by omega), if_pos True.intro, if_neg (by omega)]
      · rw [if_neg h35]
        by_cases h10 : rd l p = 10
        · rw [if_pos h10, if_neg (by omega), if_neg (by omega), if_pos h10]
        · rw [if_neg h10, if_pos True.intro, if_neg h10]
    have evS : ∀ b (g : Nat → Option Int) (r : Int), (∀ k, fathomref20_Start.l0 (k + 2) l p b = g k) → Ev g r → Ev (fun k => fathomref20_Start.l0 k l p b) r := by
      intro b g r hg h
      exact Ev.step (f := fun k => fathomref20_Start.l0 (k + 1) l p b) (fun k => rfl) (Ev.step hg h)
    have A : ∃ s, Skip l p s := by
      by_cases hb : bl (rd l p) = true
      · have h35 : rd l p ≠ 35 := by intro e; rw [e] at hb; simp [bl] at hb
        refine ⟨s, by have := hs.le; omega, hs.end_, Ev.step stL ?_, evS false _ _ stF ?_, hs.stop⟩
        · simp only [if_pos hb]; exact hs.run
        · simp only [if_neg h35, if_pos hb]; exact hs.ref
      · by_cases h35 : rd l p = 35
        · refine ⟨s2, by omega, g2, Ev.step stL ?_, evS false _ _ stF ?_, g5⟩
          · simp only [if_neg hb, if_pos h35]
            refine Ev.step stC ?_
            simp only [if_neg (show ¬ rd l p = 10 by omega)]
            exact g3
          · simp only [if_pos h35]; exact g4
        · refine ⟨p, Nat.le_refl _, by omega, Ev.step stL ?_, evS false _ _ stF ?_, fun _ => ⟨by simpa using hb, h35⟩⟩
          · simp only [if_neg hb, if_neg h35]; exact Ev.now _
          · simp only [if_neg h35, if_neg hb]; exact Ev.now _
    refine ⟨A, ?_⟩
    by_cases h10 : rd l p = 10
    · have hb : bl (rd l p) = true := by simp [bl, h10]
      refine ⟨s, by have := hs.le; omega, hs.end_, Ev.step stC ?_, evS true _ _ stT ?_, hs.stop⟩
      · simp only [if_pos h10]
        refine Ev.step stL ?_
        simp only [if_pos hb]
        exact hs.run
      · simp only [if_pos h10]
        exact hs.ref
    · refine ⟨s2, by omega, g2, Ev.step stC ?_, evS true _ _ stT ?_, g5⟩
      · simp only [if_neg h10]; exact g3
      · simp only [if_neg h10]; exact g4

/-! ### One token, of what stands from its place on -/
def numF (x : Int) (ds : List Int) : Int := ds.foldl (fun x c => mn 65536 (wrap64 ((wrap64 (10 * x)) + ((c - 48) % 256)))) x
def nextL : List Int → Bool
  | [] => false
  | c :: _ => lt c
def twosB : ByteArray := ⟨#[32, 60, 61, 32, 62, 61, 32, 61, 61, 32, 33, 61, 32, 60, 60, 32, 62, 62, 32, 38, 38, 32, 124, 124, 32]⟩
def onesB : ByteArray := ⟨#[123, 125, 40, 41, 44, 43, 45, 42, 47, 37, 38, 124, 94, 126, 33, 60, 62]⟩
def twoOf (a b : Int) : Bool :=
  if bt (strOfNums [a, b]) 0 = 32 then false else if bt (strOfNums [a, b]) 1 = 32 then false else Lib.contains twosB.data.toList (((⟨#[32]⟩ : ByteArray) ++ strOfNums [a, b]) ++ (⟨#[32]⟩ : ByteArray)).data.toList
def two : List Int → Bool
  | a :: b :: _ => twoOf a b
  | _ => false
def hd (u : List Int) : Int := u.headD 0
def one (c : Int) : Int := Lib.indexByte onesB.data.toList c.toNat.toUInt8
def tok (u : List Int) : Option (Int × Nat × Int) :=
  if dg (hd u) = true then
    if (hd u = 48 ∧ 1 < (u.takeWhile dg).length) ∨ nextL (u.drop (u.takeWhile dg).length) = true then none
    else if numF 0 (u.takeWhile dg) > 65535 then none else some (2, (u.takeWhile dg).length, numF 0 (u.takeWhile dg))
  else if lt (hd u) = true then (if 12 < (u.takeWhile ld).length then none else some (1, (u.takeWhile ld).length, 0))
  else if two u = true then some (3, 2, 0) else if one (hd u) < 0 then none else some (3, 1, 0)
theorem take_while (q : Int → Bool) (u : List Int) : u.take (u.takeWhile q).length = u.takeWhile q := by
  have h := List.takeWhile_append_dropWhile (p := q) (l := u)
  conv => lhs; rw [← h]
  exact List.take_left' (by rw [h])
theorem while_all (q : Int → Bool) : ∀ u : List Int, ∀ x ∈ u.takeWhile q, q x = true
  | [], x, hx => by simp at hx
  | c :: u, x, hx => by
    rw [List.takeWhile_cons] at hx
    split at hx
    · rename_i h
      rcases List.mem_cons.1 hx with e | e
      · rw [e]; exact h
      · exact while_all q u x e
    · simp at hx
theorem while_le (q : Int → Bool) (u : List Int) : (u.takeWhile q).length ≤ u.length := (List.takeWhile_sublist q).length_le
theorem while_pos (q : Int → Bool) (c : Int) (r : List Int) (h : q c = true) : (c :: r).takeWhile q = c :: r.takeWhile q := by rw [List.takeWhile_cons, if_pos h]
theorem while_again (q : Int → Bool) (u v : List Int) (h32 : q 32 = false) : (u.takeWhile q ++ 32 :: v).takeWhile q = u.takeWhile q := by
  rw [List.takeWhile_append_of_pos (while_all q u), List.takeWhile_cons, if_neg (by rw [h32]; simp), List.append_nil]
theorem two_blank (a : Int) (v : List Int) : two (a :: 32 :: v) = false := by
  show twoOf a 32 = false
  unfold twoOf
  have h : bt (strOfNums [a, 32]) 1 = 32 := by
    unfold bt
    rw [dif_pos (show (1 : Int).toNat < (strOfNums [a, 32]).size by rw [strOfNums_size]; exact (by decide : 1 < 2))]
    rfl
  rw [if_pos h]
  split <;> rfl
/-- Taken out, with a blank behind it, it is the same token again. -/
theorem tok_again {u : List Int} {k : Int} {len : Nat} {num : Int} (h : tok u = some (k, len, num)) (hu : u ≠ []) (v : List Int) :
    1 ≤ len ∧ len ≤ u.length ∧ tok (u.take len ++ 32 :: v) = some (k, len, num) := by
  obtain ⟨c, r, rfl⟩ : ∃ c r, u = c :: r := by cases u with | nil => exact absurd rfl hu | cons c r => exact ⟨c, r, rfl⟩
  unfold tok at h
  have hc : hd (c :: r) = c := rfl
  rw [hc] at h
  by_cases hd1 : dg c = true
  · rw [if_pos hd1] at h
    split at h
    · cases h
    rename_i h1
    split at h
    · cases h
    rename_i h2
    injection h with h
    injection h with e1 h
    injection h with e2 e3
    subst e1 e2 e3
    have hw := while_pos dg c r hd1
    refine ⟨by rw [hw]; simp, while_le _ _, ?_⟩
    rw [take_while]
    have hg := while_again dg (c :: r) v rfl
    have hh : hd ((c :: r).takeWhile dg ++ 32 :: v) = c := by rw [hw]; rfl
    unfold tok
    rw [hh, if_pos hd1, hg, List.drop_left, if_neg ?_, if_neg h2]
    rintro (x | x)
    · exact h1 (.inl x)
    · have y : nextL (32 :: v) = false := rfl
      rw [y] at x
      cases x
  · rw [if_neg hd1] at h
    by_cases hl : lt c = true
    · rw [if_pos hl] at h
      split at h
      · cases h
      rename_i h1
      injection h with h
      injection h with e1 h
      injection h with e2 e3
      subst e1 e2 e3
      have hw := while_pos ld c r (by simp [ld, hl])
      refine ⟨by rw [hw]; simp, while_le _ _, ?_⟩
      rw [take_while]
      have hg := while_again ld (c :: r) v rfl
      have hh : hd ((c :: r).takeWhile ld ++ 32 :: v) = c := by rw [hw]; rfl
      unfold tok
      rw [hh, if_neg hd1, if_pos hl, hg, if_neg h1]
    · rw [if_neg hl] at h
      by_cases ht : two (c :: r) = true
      · rw [if_pos ht] at h
        injection h with h
        injection h with e1 h
        injection h with e2 e3
        subst e1 e2 e3
        cases r with
        | nil => cases ht
        | cons b r =>
          refine ⟨by omega, by simp, ?_⟩
          unfold tok
          show (if dg c = true then _ else _) = _
          rw [if_neg hd1]
          show (if lt c = true then _ else _) = _
          rw [if_neg hl, if_pos (show two ((c :: b :: r).take 2 ++ 32 :: v) = true from ht)]
      · rw [if_neg ht] at h
        split at h
        · cases h
        rename_i h1
        injection h with h
        injection h with e1 h
        injection h with e2 e3
        subst e1 e2 e3
        refine ⟨by omega, by simp, ?_⟩
        unfold tok
        show (if dg c = true then _ else _) = _
        rw [if_neg hd1]
        show (if lt c = true then _ else _) = _
        rw [if_neg hl]
        have hx : (c :: r).take 1 ++ 32 :: v = c :: 32 :: v := rfl
        rw [hx, if_neg (by rw [two_blank]; simp)]
        show (if one c < 0 then _ else _) = _
        rw [if_neg h1]

/-! ### What the program tells of a token -/
theorem drop_m {l u : List Int} {s m : Nat} (h : l.drop s = u) : l.drop (s + m) = u.drop m := by rw [← h, List.drop_drop]
section
variable (l : List Int) (hl : l.length < 1000000)
include hl
theorem run_ev2 : ∀ (u : List Int) (s : Nat), l.drop s = u → s ≤ l.length → Ev (fun k => lex_run.l0 k l s) ((s + (u.takeWhile ld).length : Nat) : Int) := by
  intro u
  induction u with
  | nil =>
    intro s h hs
    have e := drop_end hs h
    refine Ev.step (f := fun _ => some (s : Int)) (fun k => ?_) (Ev.now _)
    simp only [lex_run.l0]
    rw [if_neg (by omega)]
  | cons c u ih =>
    intro s h hs
    obtain ⟨h1, h2, h3⟩ := drop_at h
    have st : ∀ k, lex_run.l0 (k + 1) l s = if ld c = true then lex_run.l0 k l ((s + 1 : Nat) : Int) else some (s : Int) := by
      intro k
      simp only [lex_run.l0]
      rw [if_pos (by omega), if_pos (by omega), h2, cletter, cdigit, wnat s (by omega)]
      simp only [Option.bind_some]
      unfold ld
      by_cases a : lt c = true
      · rw [if_pos a, if_pos (by simp [a])]
      · rw [if_neg a]
        by_cases b : dg c = true
        · rw [if_pos b, if_pos (by simp [b])]
        · rw [if_neg b, if_neg (by simp [a, b])]
    refine Ev.step st ?_
    by_cases a : ld c = true
    · simp only [if_pos a]
      rw [while_pos ld c u a]
      have := ih (s + 1) h3 (by omega)
      rw [show s + (c :: u.takeWhile ld).length = s + 1 + (u.takeWhile ld).length by simp; omega]
      exact this
    · simp only [if_neg a]
      rw [List.takeWhile_cons, if_neg a]
      exact Ev.now _
theorem num_ev (x1 : Int) {r : Int × Int × ByteArray × Int × Int} : ∀ (u : List Int) (s : Nat) (x7 : Int), l.drop s = u → s ≤ l.length → Ev (fun k => lex_number.j1 k l x1 ((s + (u.takeWhile dg).length : Nat) : Int) (numF x7 (u.takeWhile dg))) r → Ev (fun k => lex_number.l0 k l x1 s x7) r := by
  intro u
  induction u with
  | nil =>
    intro s x7 h hs hr
    have e := drop_end hs h
    refine Ev.step (f := fun k => lex_number.j1 k l x1 s x7) (fun k => ?_) hr
    simp only [lex_number.l0]
    rw [if_neg (by omega)]
  | cons c u ih =>
    intro s x7 h hs hr
    obtain ⟨h1, h2, h3⟩ := drop_at h
    have st : ∀ k, lex_number.l0 (k + 1) l x1 s x7 = if dg c = true then lex_number.l0 k l x1 ((s + 1 : Nat) : Int) (mn 65536 (wrap64 ((wrap64 (10 * x7)) + ((c - 48) % 256)))) else lex_number.j1 k l x1 s x7 := by
      intro k
      simp only [lex_number.l0]
      rw [if_pos (by omega), if_pos (by omega), h2, cdigit, wnat s (by omega)]
      simp only [Option.bind_some]
    refine Ev.step st ?_
    by_cases a : dg c = true
    · simp only [if_pos a]
      rw [while_pos dg c u a] at hr
      refine ih (s + 1) _ h3 (by omega) ?_
      rw [show s + 1 + (u.takeWhile dg).length = s + (c :: u.takeWhile dg).length by simp; omega]
      exact hr
    · simp only [if_neg a]
      rw [List.takeWhile_cons, if_neg a] at hr
      exact hr
theorem sign_ev (u : List Int) (s : Nat) (h : l.drop s = u) (hu : u ≠ []) :
    Ev (fun k => lex_sign.f k l s) (if two u = true then (3, (s : Int), strOfNums ((l.take (s + 2)).drop s), 0, 0) else if one (hd u) < 0 then (0, (s : Int), (⟨#[]⟩ : ByteArray), 0, 2) else (3, (s : Int), strOfNums ((l.take (s + 1)).drop s), 0, 0)) := by
  obtain ⟨a, r, rfl⟩ : ∃ c r, u = c :: r := by cases u with | nil => exact absurd rfl hu | cons c r => exact ⟨c, r, rfl⟩
  obtain ⟨h1, h2, h3⟩ := drop_at h
  have w1 : wrap64 ((s : Int) + 1) = ((s + 1 : Nat) : Int) := wnat s (by omega)
  have w2 : wrap64 ((s : Int) + 2) = ((s + 2 : Nat) : Int) := by unfold wrap64; omega
  have hone : (strings_IndexByte.f onesB (rd l s)) = some (one a) := by rw [h2]; rfl
  have ev1 : Ev (fun k => lex_sign.f k l s) (if one a < 0 then (0, (s : Int), (⟨#[]⟩ : ByteArray), 0, 2) else (3, (s : Int), strOfNums ((l.take (s + 1)).drop s), 0, 0)) ∨ s + 2 ≤ l.length := by
    by_cases h2 : s + 2 ≤ l.length
    · exact .inr h2
    · refine .inl (Ev.congr (f := fun _ => some (if one a < 0 then (0, (s : Int), (⟨#[]⟩ : ByteArray), 0, 2) else (3, (s : Int), strOfNums ((l.take (s + 1)).drop s), 0, 0))) (fun k => ?_) (Ev.now _))
      unfold lex_sign.f
      rw [w2, w1, if_neg (by omega), if_pos (by omega), if_pos (by omega)]
      show (strings_IndexByte.f onesB (rd l s)).bind _ = _
      rw [hone]
      simp only [Option.bind_some, Int.toNat_natCast]
      split
      · rfl
      · rw [if_pos (by omega), if_pos (by omega)]
  cases r with
  | nil =>
    have e : l.length = s + 1 := by have := congrArg List.length h; rw [List.length_drop] at this; simp at this; omega
    rw [if_neg (show ¬ two [a] = true by simp [two])]
    exact ev1.resolve_right (by omega)
  | cons b r =>
    obtain ⟨g1, g2, g3⟩ := drop_at h3
    have hS : (l.take (s + 2)).drop s = [a, b] := by
      rw [List.drop_take, h, show s + 2 - s = 2 by omega]; rfl
    have hz : (strOfNums [a, b]).size = 2 := by rw [strOfNums_size]; rfl
    have j0 : ∀ bb : Bool, Ev (fun k => lex_sign.j0 k l s (strOfNums [a, b]) bb) (if bb = true then (3, (s : Int), strOfNums [a, b], 0, 0) else if one a < 0 then (0, (s : Int), (⟨#[]⟩ : ByteArray), 0, 2) else (3, (s : Int), strOfNums ((l.take (s + 1)).drop s), 0, 0)) := by
      intro bb
      refine Ev.step (f := fun _ => some (if bb = true then (3, (s : Int), strOfNums [a, b], 0, 0) else if one a < 0 then (0, (s : Int), (⟨#[]⟩ : ByteArray), 0, 2) else (3, (s : Int), strOfNums ((l.take (s + 1)).drop s), 0, 0))) (fun k => ?_) (Ev.now _)
      simp only [lex_sign.j0]
      cases bb with
      | true => rfl
      | false =>
        simp only [Bool.false_eq_true, if_false]
        rw [if_pos (by omega), if_pos (by omega), w1]
        show (strings_IndexByte.f onesB (rd l s)).bind _ = _
        rw [hone]
        simp only [Option.bind_some, Int.toNat_natCast]
        split
        · rfl
        · rw [if_pos (by omega), if_pos (by omega)]
    have main : Ev (fun k => lex_sign.f k l s) (if twoOf a b = true then (3, (s : Int), strOfNums [a, b], 0, 0) else if one a < 0 then (0, (s : Int), (⟨#[]⟩ : ByteArray), 0, 2) else (3, (s : Int), strOfNums ((l.take (s + 1)).drop s), 0, 0)) := by
      refine Ev.congr (f := fun k => lex_sign.j0 k l s (strOfNums [a, b]) (twoOf a b)) (fun k => ?_) (j0 _)
      unfold lex_sign.f
      rw [w2]
      simp only [Int.toNat_natCast]
      rw [hS, hz, if_pos (by omega), if_pos (by omega), if_pos (by omega), if_pos (by omega)]
      unfold twoOf
      by_cases c1 : bt (strOfNums [a, b]) 0 = 32
      · rw [if_pos c1, if_pos c1]
      · rw [if_neg c1, if_neg c1, if_pos (by omega)]
        by_cases c2 : bt (strOfNums [a, b]) 1 = 32
        · rw [if_pos c2, if_pos c2]
        · rw [if_neg c2, if_neg c2, if_pos (by omega), if_pos (by rw [ByteArray.size_append, size_one, hz]; omega)]
          simp only [strings_Contains.f]
          rw [if_pos (by decide)]
          rfl
    rw [hS]
    exact main
theorem number_ev {u : List Int} {s : Nat} {c : Int} {r : List Int} (h : l.drop s = u) (hu : u = c :: r) :
    Ev (fun k => lex_number.f k l s) (if (c = 48 ∧ 1 < (u.takeWhile dg).length) ∨ nextL (u.drop (u.takeWhile dg).length) = true then (0, (s : Int), (⟨#[]⟩ : ByteArray), 0, 2)
      else if numF 0 (u.takeWhile dg) > 65535 then (0, (s : Int), (⟨#[]⟩ : ByteArray), 0, 3) else (2, (s : Int), strOfNums ((l.take (s + (u.takeWhile dg).length)).drop s), numF 0 (u.takeWhile dg), 0)) := by
  obtain ⟨h1, h2, h3⟩ := drop_at (h.trans hu)
  have hle := while_le dg u
  have hul : u.length = l.length - s := by rw [← h, List.length_drop]
  refine num_ev l hl s u s 0 h (by omega) ?_
  generalize hm : (u.takeWhile dg).length = m at hle ⊢
  generalize numF 0 (u.takeWhile dg) = x
  have hd := drop_m (m := m) h
  have w1 : wrap64 ((s : Int) + 1) = ((s + 1 : Nat) : Int) := wnat s (by omega)
  have j2 : ∀ b : Bool, Ev (fun k => lex_number.j2 k l s ((s + m : Nat) : Int) x b) (if b = true then (0, (s : Int), (⟨#[]⟩ : ByteArray), 0, 2) else if x > 65535 then (0, (s : Int), (⟨#[]⟩ : ByteArray), 0, 3) else (2, (s : Int), strOfNums ((l.take (s + m)).drop s), x, 0)) := by
    intro b
    refine Ev.step (f := fun _ => some (if b = true then (0, (s : Int), (⟨#[]⟩ : ByteArray), 0, 2) else if x > 65535 then (0, (s : Int), (⟨#[]⟩ : ByteArray), 0, 3) else (2, (s : Int), strOfNums ((l.take (s + m)).drop s), x, 0))) (fun k => ?_) (Ev.now _)
    simp only [lex_number.j2]
    split
    · rfl
    · split
      · rfl
      · rw [if_pos (by omega), if_pos (by omega), if_pos (by omega)]
        simp only [Int.toNat_natCast]
  have nx : ∀ (g : Bool → Nat → Option (Int × Int × ByteArray × Int × Int)) (k : Nat), (if ((s + m : Nat) : Int) < (l.length : Int) then (if 0 ≤ ((s + m : Nat) : Int) then (some (lt (rd l ((s + m : Nat) : Int)))).bind (fun t => g t k) else none) else g false k) = g (nextL (u.drop m)) k := by
    intro g k
    cases hv : u.drop m with
    | nil =>
      rw [hv] at hd
      have := drop_end (by omega) hd
      rw [if_neg (by omega)]
      rfl
    | cons c' v =>
      rw [hv] at hd
      obtain ⟨q1, q2, q3⟩ := drop_at hd
      rw [if_pos (by omega), if_pos (by omega), q2]
      rfl
  by_cases hb : c = 48 ∧ 1 < m
  · rw [if_pos (.inl hb)]
    refine Ev.step (f := fun k => lex_number.j2 k l s ((s + m : Nat) : Int) x true) (fun k => ?_) (j2 true)
    simp only [lex_number.j1]
    rw [if_pos (by omega), if_pos (by omega), h2, if_pos hb.1, w1, if_pos (by omega)]
  · have e : ((c = 48 ∧ 1 < m) ∨ nextL (u.drop m) = true) ↔ nextL (u.drop m) = true := ⟨fun x => x.resolve_left hb, .inr⟩
    simp only [e]
    refine Ev.step (f := fun k => lex_number.j2 k l s ((s + m : Nat) : Int) x (nextL (u.drop m))) (fun k => ?_) (j2 _)
    simp only [lex_number.j1, cletter]
    rw [if_pos (by omega), if_pos (by omega), h2]
    have hn := nx (fun b k => lex_number.j2 k l s ((s + m : Nat) : Int) x b) k
    by_cases hc : c = 48
    · rw [if_pos hc, w1, if_neg (show ¬ ((s + m : Nat) : Int) > ((s + 1 : Nat) : Int) by have : ¬ 1 < m := fun z => hb ⟨hc, z⟩; omega)]
      exact hn
    · rw [if_neg hc]
      exact hn
/-- The token at or behind a place. -/
def Told (p : Nat) (r : Int × Int × ByteArray × Int × Int) : Prop := Ev (fun k => lex_Next.f k l p) r
theorem next_ev {p s : Nat} (h : Skip l p s) :
    (s = l.length → Told l p (4, (s : Int), (⟨#[]⟩ : ByteArray), 0, 0)) ∧
    (s < l.length → ∀ k len num, tok (l.drop s) = some (k, len, num) → Told l p (k, (s : Int), strOfNums ((l.take (s + len)).drop s), num, 0)) ∧
    (s < l.length → tok (l.drop s) = none → ∃ e, e ≠ 0 ∧ Told l p (0, (s : Int), (⟨#[]⟩ : ByteArray), 0, e)) := by
  have hp := h.le
  have hen := h.end_
  have first : ∀ (g : Nat → Int → Option (Int × Int × ByteArray × Int × Int)) r, (∀ k, lex_Next.j0 (k + 1) l p false = (lex_skip.f k l p).bind fun t => g k t) → Ev (fun k => g k (s : Int)) r → Told l p r := by
    intro g r hg hr
    refine Ev.congr (f := fun k => lex_Next.j0 k l p false) (fun k => ?_) (Ev.step hg (Ev.bind h.run hr))
    unfold lex_Next.f
    rw [if_neg (by omega), decide_eq_false (by omega)]
  have st : ∀ k, lex_Next.j0 (k + 1) l p false = (lex_skip.f k l p).bind fun t129 => (if t129 = (l.length : Int) then (some (4, t129, (⟨#[]⟩ : ByteArray), 0, 0)) else (if 0 ≤ t129 then (if t129 < (l.length : Int) then
      (if dg (rd l t129) = true then ((lex_number.f k l t129).bind fun bt132 => (some (bt132.1, bt132.2.1, bt132.2.2.1, bt132.2.2.2.1, bt132.2.2.2.2))) else (if lt (rd l t129) = true then ((lex_run.f k l t129).bind fun t139 => (if (wrap64 (t139 - t129)) > 12 then (some (0, t129, (⟨#[]⟩ : ByteArray), 0, 3)) else (if t129 ≤ t139 then (if t139 ≤ (l.length : Int) then (some (1, t129, strOfNums ((l.take (t139 : Int).toNat).drop (t129 : Int).toNat), 0, 0)) else (none)) else (none)))) else ((lex_sign.f k l t129).bind fun bt141 => (some (bt141.1, bt141.2.1, bt141.2.2.1, bt141.2.2.2.1, bt141.2.2.2.2))))) else (none)) else (none))) := by
    intro k
    simp only [lex_Next.j0, cdigit, cletter, Option.bind_some, Bool.false_eq_true, if_false]
  refine ⟨fun he => first _ _ st ?_, ?_⟩
  · simp only [if_pos (show (s : Int) = (l.length : Int) by omega)]
    exact Ev.now _
  have all : s < l.length → ∃ r, Told l p r ∧ (∀ k len num, tok (l.drop s) = some (k, len, num) → r = (k, (s : Int), strOfNums ((l.take (s + len)).drop s), num, 0)) ∧ (tok (l.drop s) = none → ∃ e, e ≠ 0 ∧ r = (0, (s : Int), (⟨#[]⟩ : ByteArray), 0, e)) := by
    intro hs
    obtain ⟨c, u, hu⟩ : ∃ c u, l.drop s = c :: u := ⟨_, _, List.drop_eq_getElem_cons hs⟩
    obtain ⟨-, h2, h3⟩ := drop_at hu
    have hc : hd (l.drop s) = c := by rw [hu]; rfl
    have st2 := fun r (x : Ev _ r) => first _ r st x
    simp only [if_neg (show ¬ (s : Int) = (l.length : Int) by omega), if_pos (show (0 : Int) ≤ (s : Int) by omega), if_pos (show (s : Int) < (l.length : Int) by omega), h2] at st2
    by_cases d1 : dg c = true
    · simp only [if_pos d1] at st2
      have hn := number_ev l hl rfl hu
      refine ⟨_, st2 _ (Ev.bind hn (Ev.now _)), ?_, ?_⟩
      · intro k len num ht
        unfold tok at ht
        rw [hc, if_pos d1] at ht
        split at ht
        · cases ht
        rename_i z1
        split at ht
        · cases ht
        rename_i z2
        injection ht with ht
        injection ht with e1 ht
        injection ht with e2 e3
        subst e1 e2 e3
        rw [if_neg z1, if_neg z2]
      · intro ht
        unfold tok at ht
        rw [hc, if_pos d1] at ht
        split at ht
        · rename_i z1
          exact ⟨2, by decide, by rw [if_pos z1]⟩
        rename_i z1
        split at ht
        · rename_i z2
          exact ⟨3, by decide, by rw [if_neg z1, if_pos z2]⟩
        · cases ht
    · simp only [if_neg d1] at st2
      by_cases d2 : lt c = true
      · simp only [if_pos d2] at st2
        have hr := run_ev2 l hl (l.drop s) s rfl hen
        have hle := while_le ld (l.drop s)
        rw [List.length_drop] at hle
        generalize hm : ((l.drop s).takeWhile ld).length = m at hr hle
        have hw : wrap64 (((s + m : Nat) : Int) - (s : Int)) = (m : Int) := by unfold wrap64; omega
        have st3 := fun r (x : Ev _ r) => st2 r (Ev.bind hr x)
        simp only [hw, if_pos (show (s : Int) ≤ ((s + m : Nat) : Int) by omega), if_pos (show ((s + m : Nat) : Int) ≤ (l.length : Int) by omega), Int.toNat_natCast] at st3
        by_cases d3 : 12 < m
        · simp only [if_pos (show (m : Int) > 12 by omega)] at st3
          refine ⟨_, st3 _ (Ev.now _), ?_, fun _ => ⟨3, by decide, rfl⟩⟩
          intro k len num ht
          unfold tok at ht
          rw [hc, if_neg d1, if_pos d2, hm, if_pos d3] at ht
          cases ht
        · simp only [if_neg (show ¬ (m : Int) > 12 by omega)] at st3
          refine ⟨_, st3 _ (Ev.now _), ?_, ?_⟩
          · intro k len num ht
            unfold tok at ht
            rw [hc, if_neg d1, if_pos d2, hm, if_neg d3] at ht
            injection ht with ht
            injection ht with e1 ht
            injection ht with e2 e3
            subst e1 e2 e3
            rfl
          · intro ht
            unfold tok at ht
            rw [hc, if_neg d1, if_pos d2, hm, if_neg d3] at ht
            cases ht
      · simp only [if_neg d2] at st2
        have hg := sign_ev l hl (l.drop s) s rfl (by rw [hu]; simp)
        refine ⟨_, st2 _ (Ev.bind hg (Ev.now _)), ?_, ?_⟩
        · intro k len num ht
          unfold tok at ht
          rw [hc, if_neg d1, if_neg d2] at ht
          rw [hc]
          split at ht
          · rename_i z1
            injection ht with ht
            injection ht with e1 ht
            injection ht with e2 e3
            subst e1 e2 e3
            rw [if_pos z1]
          rename_i z1
          split at ht
          · cases ht
          rename_i z2
          injection ht with ht
          injection ht with e1 ht
          injection ht with e2 e3
          subst e1 e2 e3
          rw [if_neg z1, if_neg z2]
        · intro ht
          unfold tok at ht
          rw [hc, if_neg d1, if_neg d2] at ht
          rw [hc]
          split at ht
          · cases ht
          rename_i z1
          split at ht
          · rename_i z2
            exact ⟨2, by decide, by rw [if_neg z1, if_pos z2]⟩
          · cases ht
  refine ⟨fun hs k len num ht => ?_, fun hs ht => ?_⟩
  · obtain ⟨r, a, b, -⟩ := all hs
    rw [← b k len num ht]
    exact a
  · obtain ⟨r, a, -, b⟩ := all hs
    obtain ⟨e, he, rfl⟩ := b ht
    exact ⟨e, he, a⟩
end
theorem tok_kind {u : List Int} {k : Int} {len : Nat} {num : Int} (h : tok u = some (k, len, num)) : k ≠ 4 := by
  unfold tok at h
  split at h
  · split at h
    · cases h
    · split at h
      · cases h
      · injection h with h; injection h with e; subst e; decide
  · split at h
    · split at h
      · cases h
      · injection h with h; injection h with e; subst e; decide
    · split at h
      · injection h with h; injection h with e; subst e; decide
      · split at h
        · cases h
        · injection h with h; injection h with e; subst e; decide
/-! ### All tokens from a place on -/
inductive Toks (l : List Int) : Nat → List S29 → Prop
  | fin {p s : Nat} : Skip l p s → s = l.length → Toks l p [⟨4, (s : Int), (⟨#[]⟩ : ByteArray), 0⟩]
  | cons {p s : Nat} {k : Int} {len : Nat} {num : Int} {ts : List S29} : Skip l p s → s < l.length → tok (l.drop s) = some (k, len, num) → 1 ≤ len → s + len ≤ l.length → Toks l (s + len) ts → Toks l p (⟨k, (s : Int), strOfNums ((l.take (s + len)).drop s), num⟩ :: ts)
theorem Toks.pos {l : List Int} {p : Nat} {ts : List S29} (h : Toks l p ts) : 1 ≤ ts.length := by cases h <;> simp
theorem cut_eq {l : List Int} {s len : Nat} : (l.take (s + len)).drop s = (l.drop s).take len := by rw [List.drop_take, Nat.add_sub_cancel_left]
theorem cut_size {l : List Int} {s len : Nat} (h : s + len ≤ l.length) : (strOfNums ((l.take (s + len)).drop s)).size = len := by
  rw [strOfNums_size, List.length_drop, List.length_take]
  omega
theorem all_st (l : List Int) (acc : List S29) (p : Int) (k : Nat) : lex_All.l0 (k + 1) l acc p = (lex_Next.f k l p).bind fun bt146 => (if bt146.2.2.2.2 = 0 then (if (acc.length : Int) = 8192 then (some (([] : List (S29)), bt146.2.1, 3)) else (if acc.length < 3518437208883 then ((if bt146.1 = 4 then (some (acc ++ [(⟨bt146.1, bt146.2.1, bt146.2.2.1, bt146.2.2.2.1⟩ : S29)], 0, 0)) else (lex_All.l0 k l (acc ++ [(⟨bt146.1, bt146.2.1, bt146.2.2.1, bt146.2.2.2.1⟩ : S29)]) (wrap64 (bt146.2.1 + (bt146.2.2.1.size : Int)))))) else (none))) else (some (([] : List (S29)), bt146.2.1, bt146.2.2.2.2))) := by
  simp only [lex_All.l0, Option.bind_some]
theorem all_fin {l : List Int} (hl : l.length < 1000000) {p s : Nat} (h : Skip l p s) (he : s = l.length) {acc : List S29} (ha : acc.length < 8192) : Ev (fun k => lex_All.l0 k l acc p) (acc ++ [⟨4, (s : Int), (⟨#[]⟩ : ByteArray), 0⟩], 0, 0) := by
  refine Ev.step (all_st l acc p) (Ev.bind ((next_ev l hl h).1 he) ?_)
  simp only [if_true, if_neg (show ¬ (acc.length : Int) = 8192 by omega), if_pos (show acc.length < 3518437208883 by omega)]
  exact Ev.now _
theorem all_cons {l : List Int} (hl : l.length < 1000000) {p s : Nat} {k : Int} {len : Nat} {num : Int} (h : Skip l p s) (hs : s < l.length) (ht : tok (l.drop s) = some (k, len, num)) (hlen : s + len ≤ l.length) {acc : List S29} (ha : acc.length < 8192) {r : List S29 × Int × Int}
    (hr : Ev (fun f => lex_All.l0 f l (acc ++ [⟨k, (s : Int), strOfNums ((l.take (s + len)).drop s), num⟩]) ((s + len : Nat) : Int)) r) : Ev (fun f => lex_All.l0 f l acc p) r := by
  refine Ev.step (all_st l acc p) (Ev.bind ((next_ev l hl h).2.1 hs k len num ht) ?_)
  simp only [if_true, if_neg (show ¬ (acc.length : Int) = 8192 by omega), if_pos (show acc.length < 3518437208883 by omega), if_neg (tok_kind ht), cut_size hlen, wadd s len (by omega)]
  exact hr
theorem all_full {l : List Int} (hl : l.length < 1000000) {p s : Nat} (h : Skip l p s) {acc : List S29} (ha : acc.length = 8192) : ∃ r : List S29 × Int × Int, r.2.2 ≠ 0 ∧ Ev (fun f => lex_All.l0 f l acc p) r := by
  obtain ⟨n1, n2, n3⟩ := next_ev l hl h
  have go : ∀ x : Int × Int × ByteArray × Int × Int, Told l p x → ∃ r : List S29 × Int × Int, r.2.2 ≠ 0 ∧ Ev (fun f => lex_All.l0 f l acc p) r := by
    intro x hx
    by_cases e : x.2.2.2.2 = 0
    · refine ⟨([], x.2.1, 3), (by decide : (3 : Int) ≠ 0), Ev.step (all_st l acc p) (Ev.bind hx ?_)⟩
      simp only [if_pos e, if_pos (show (acc.length : Int) = 8192 by omega)]
      exact Ev.now _
    · refine ⟨([], x.2.1, x.2.2.2.2), e, Ev.step (all_st l acc p) (Ev.bind hx ?_)⟩
      simp only [if_neg e]
      exact Ev.now _
  rcases Nat.lt_or_ge s l.length with hs | hs
  · cases ht : tok (l.drop s) with
    | none =>
      obtain ⟨e, he, hx⟩ := n3 hs ht
      exact go _ hx
    | some x =>
      obtain ⟨k, len, num⟩ := x
      exact go _ (n2 hs k len num ht)
  · exact go _ (n1 (by have := h.end_; omega))
theorem all_ev (l : List Int) (hl : l.length < 1000000) : ∀ (d p : Nat) (acc : List S29), p ≤ l.length → l.length - p ≤ d → acc.length ≤ 8192 →
    ∃ r : List S29 × Int × Int, Ev (fun k => lex_All.l0 k l acc p) r ∧ (r.2.2 = 0 → ∃ ts, Toks l p ts ∧ r.1 = acc ++ ts ∧ acc.length + ts.length ≤ 8192) := by
  intro d
  induction d with
  | zero =>
    intro p acc hp hd ha
    obtain ⟨s, hs⟩ := (skip_both l hl (l.length - p) p (by omega)).1
    have he : s = l.length := by have := hs.le; have := hs.end_; omega
    rcases Nat.eq_or_lt_of_le ha with e | e
    · obtain ⟨r, h1, h2⟩ := all_full hl hs e
      exact ⟨r, h2, fun h => absurd h h1⟩
    · exact ⟨_, all_fin hl hs he e, fun _ => ⟨_, .fin hs he, rfl, by simp; omega⟩⟩
  | succ d ih =>
    intro p acc hp hd ha
    obtain ⟨s, hs⟩ := (skip_both l hl (l.length - p) p (by omega)).1
    rcases Nat.eq_or_lt_of_le ha with e | e
    · obtain ⟨r, h1, h2⟩ := all_full hl hs e
      exact ⟨r, h2, fun h => absurd h h1⟩
    rcases Nat.lt_or_ge s l.length with hs2 | hs2
    · cases ht : tok (l.drop s) with
      | none =>
        obtain ⟨x, hx, ht2⟩ := (next_ev l hl hs).2.2 hs2 ht
        refine ⟨([], (s : Int), x), Ev.step (all_st l acc p) (Ev.bind ht2 ?_), fun h => absurd h hx⟩
        simp only [if_neg hx]
        exact Ev.now _
      | some x =>
        obtain ⟨k, len, num⟩ := x
        obtain ⟨t1, t2, -⟩ := tok_again ht (by intro z; have := drop_end (by omega) z; omega) []
        rw [List.length_drop] at t2
        have hle := hs.le
        obtain ⟨r, h1, h2⟩ := ih (s + len) (acc ++ [⟨k, (s : Int), strOfNums ((l.take (s + len)).drop s), num⟩]) (by omega) (by omega) (by simp; omega)
        refine ⟨r, all_cons hl hs hs2 ht (by omega) e h1, fun h => ?_⟩
        obtain ⟨ts, g1, g2, g3⟩ := h2 h
        refine ⟨_, .cons hs hs2 ht t1 (by omega) g1, by rw [g2]; simp, ?_⟩
        simp at g3 ⊢
        omega
    · have he : s = l.length := by have := hs.end_; omega
      exact ⟨_, all_fin hl hs he e, fun _ => ⟨_, .fin hs he, rfl, by simp; omega⟩⟩
theorem all_fw {l : List Int} (hl : l.length < 1000000) {p : Nat} {ts : List S29} (h : Toks l p ts) : ∀ acc : List S29, acc.length + ts.length ≤ 8192 → Ev (fun k => lex_All.l0 k l acc p) (acc ++ ts, 0, 0) := by
  induction h with
  | fin hs he => intro acc ha; exact all_fin hl hs he (by simp at ha; omega)
  | @cons p s k len num ts hs hs2 ht t1 t2 h ih =>
    intro acc ha
    refine all_cons hl hs hs2 ht t2 (by simp at ha; omega) ?_
    have := ih (acc ++ [⟨k, (s : Int), strOfNums ((l.take (s + len)).drop s), num⟩]) (by simp at ha ⊢; omega)
    rw [List.append_assoc] at this
    exact this
/-! ### Taken out, with one blank between -/
def enc : List S29 → List Int
  | [] => []
  | t :: ts => 32 :: (bytesOf t.f2 ++ enc ts)
theorem bytes_back (xs : List Int) (h : ∀ x ∈ xs, 0 ≤ x ∧ x < 256) : bytesOf (strOfNums xs) = xs := by
  unfold bytesOf
  rw [strOfNums_data, List.map_map]
  conv => rhs; rw [← List.map_id xs]
  refine List.map_congr_left fun x hx => ?_
  obtain ⟨a, b⟩ := h x hx
  show ((UInt8.ofNat x.toNat).toNat : Int) = x
  rw [UInt8.toNat_ofNat', Nat.mod_eq_of_lt (by omega)]
  omega
theorem enc_head {l : List Int} {p : Nat} {ts : List S29} (h : Toks l p ts) : ∃ v, enc ts = 32 :: v := by cases h <;> exact ⟨_, rfl⟩
def bare3 (t : S29) : Int × ByteArray × Int := (t.f0, t.f2, t.f3)
theorem skip_blank {l : List Int} (hl : l.length < 1000000) {p : Nat} {v : List Int} (h : l.drop p = 32 :: v) (hv : v = [] ∨ ∃ c v', v = c :: v' ∧ bl c = false ∧ c ≠ 35) : Skip l p (p + 1) := by
  obtain ⟨h1, h2, h3⟩ := drop_at h
  have hb : bl 32 = true := rfl
  have a1 : ∀ r, Ev (fun k => lex_skip.l0 k l ((p + 1 : Nat) : Int)) r → Ev (fun k => lex_skip.l0 k l p) r := by
    intro r hr
    refine Ev.step (skip_st l hl p (by omega)) ?_
    simp only [h2, if_pos hb]
    exact hr
  have a2 : ∀ r, Ev (fun k => fathomref20_Start.l0 k l ((p + 1 : Nat) : Int) false) r → Ev (fun k => fathomref20_Start.l0 k l p false) r := by
    intro r hr
    refine Ev.step (f := fun k => fathomref20_Start.l0 (k + 1) l p false) (fun k => rfl) (Ev.step (start_st l hl p (by omega)) ?_)
    simp only [h2, if_neg (show ¬ (32 : Int) = 35 by decide), if_pos hb]
    exact hr
  rcases hv with rfl | ⟨c, v', rfl, c1, c2⟩
  · have e := drop_end (by omega) h3
    refine ⟨by omega, by omega, a1 _ ?_, a2 _ ?_, fun x => by omega⟩
    · exact Ev.step (f := fun _ => some ((p + 1 : Nat) : Int)) (fun k => by simp only [lex_skip.l0]; rw [if_neg (by omega)]) (Ev.now _)
    · exact Ev.step (f := fun _ => some ((p + 1 : Nat) : Int)) (fun k => by simp only [fathomref20_Start.l0]; rw [if_neg (by omega)]) (Ev.now _)
  · obtain ⟨g1, g2, g3⟩ := drop_at h3
    refine ⟨by omega, by omega, a1 _ ?_, a2 _ ?_, fun x => by rw [g2]; exact ⟨c1, c2⟩⟩
    · refine Ev.step (skip_st l hl (p + 1) (by omega)) ?_
      simp only [g2, c1, if_neg c2, Bool.false_eq_true, if_false]
      exact Ev.now _
    · refine Ev.step (f := fun k => fathomref20_Start.l0 (k + 1) l ((p + 1 : Nat) : Int) false) (fun k => rfl) (Ev.step (start_st l hl (p + 1) (by omega)) ?_)
      simp only [g2, c1, if_neg c2, Bool.false_eq_true, if_false]
      exact Ev.now _
theorem again {l : List Int} (hb : ∀ x ∈ l, 0 ≤ x ∧ x < 256) {p : Nat} {ts : List S29} (h : Toks l p ts) : ∀ w : List Int, w.length + (enc ts).length < 1000000 → ∃ ts', Toks (w ++ enc ts) w.length ts' ∧ ts'.map bare3 = ts.map bare3 := by
  induction h with
  | @fin p s hs he =>
    intro w hw
    have e : w ++ enc [(⟨4, (s : Int), (⟨#[]⟩ : ByteArray), 0⟩ : S29)] = w ++ [32] := rfl
    rw [e] at *
    refine ⟨_, .fin (s := w.length + 1) (skip_blank (by simp [enc, bytesOf] at hw ⊢; omega) (v := []) (by simp) (.inl rfl)) (by simp), rfl⟩
  | @cons p s k len num ts hs hs2 ht t1 t2 h ih =>
    intro w hw
    obtain ⟨v, hv⟩ := enc_head h
    have hcut : bytesOf (strOfNums ((l.take (s + len)).drop s)) = (l.drop s).take len := by
      rw [bytes_back _ (fun x hx => hb x (List.mem_of_mem_take (List.mem_of_mem_drop hx))), cut_eq]
    have hen : enc (⟨k, (s : Int), strOfNums ((l.take (s + len)).drop s), num⟩ :: ts) = 32 :: ((l.drop s).take len ++ enc ts) := by
      show 32 :: (bytesOf _ ++ enc ts) = _
      rw [hcut]
    rw [hen] at hw ⊢
    obtain ⟨c, u, hu⟩ : ∃ c u, l.drop s = c :: u := ⟨_, _, List.drop_eq_getElem_cons hs2⟩
    obtain ⟨-, h2, -⟩ := drop_at hu
    obtain ⟨st1, st2⟩ := hs.stop hs2
    rw [h2] at st1 st2
    obtain ⟨len', rfl⟩ : ∃ m, len = m + 1 := ⟨len - 1, by omega⟩
    have hlen : ((l.drop s).take (len' + 1)).length = len' + 1 := by rw [List.length_take, List.length_drop]; omega
    have hx : (l.drop s).take (len' + 1) = c :: u.take len' := by rw [hu]; rfl
    have hL : w ++ 32 :: ((l.drop s).take (len' + 1) ++ enc ts) = (w ++ 32 :: (l.drop s).take (len' + 1)) ++ enc ts := by simp
    have hlL : (w ++ 32 :: ((l.drop s).take (len' + 1) ++ enc ts)).length < 1000000 := by rw [List.length_append]; exact hw
    obtain ⟨ts', g1, g2⟩ := ih (w ++ 32 :: (l.drop s).take (len' + 1)) (by rw [hL, List.length_append] at hlL; exact hlL)
    rw [← hL] at g1
    have hwl : (w ++ 32 :: (l.drop s).take (len' + 1)).length = w.length + 1 + (len' + 1) := by rw [List.length_append, List.length_cons, hlen]; omega
    rw [hwl] at g1
    have hd1 : (w ++ 32 :: ((l.drop s).take (len' + 1) ++ enc ts)).drop w.length = 32 :: ((l.drop s).take (len' + 1) ++ enc ts) := by rw [List.drop_left]
    have hd2 : (w ++ 32 :: ((l.drop s).take (len' + 1) ++ enc ts)).drop (w.length + 1) = (l.drop s).take (len' + 1) ++ enc ts := by rw [← List.drop_drop, hd1]; rfl
    have hsk := skip_blank hlL hd1 (.inr ⟨c, u.take len' ++ enc ts, by rw [hx]; rfl, st1, st2⟩)
    have htot : w.length + 1 + (len' + 1) ≤ (w ++ 32 :: ((l.drop s).take (len' + 1) ++ enc ts)).length := by rw [hL, List.length_append, hwl]; omega
    have htk : tok ((w ++ 32 :: ((l.drop s).take (len' + 1) ++ enc ts)).drop (w.length + 1)) = some (k, len' + 1, num) := by
      rw [hd2, hv]
      exact (tok_again ht (by rw [hu]; simp) v).2.2
    refine ⟨_, .cons hsk (by omega) htk t1 htot g1, ?_⟩
    rw [List.map_cons, List.map_cons, g2]
    have e3 : ((w ++ 32 :: ((l.drop s).take (len' + 1) ++ enc ts)).take (w.length + 1 + (len' + 1))).drop (w.length + 1) = (l.take (s + (len' + 1))).drop s := by
      rw [cut_eq, cut_eq, hd2, List.take_left' hlen]
    show (k, strOfNums _, num) :: _ = (k, strOfNums _, num) :: _
    rw [e3]
theorem enc_le {l : List Int} {p : Nat} {ts : List S29} (h : Toks l p ts) : p ≤ l.length → (enc ts).length ≤ 2 * (l.length - p) + 1 := by
  induction h with
  | fin hs he => intro hp; simp [enc, bytesOf]
  | @cons p s k len num ts hs hs2 ht t1 t2 h ih =>
    intro hp
    have := ih t2
    have hle := hs.le
    have hz : (bytesOf (strOfNums ((l.take (s + len)).drop s))).length = len := by rw [bytesOf_length, cut_size t2]
    show (32 :: (bytesOf _ ++ enc ts)).length ≤ _
    rw [List.length_cons, List.length_append, hz]
    omega
/-! ### The law -/
theorem same_ev (xs ys : List S29) (hl : xs.length < 1000000) (h : ys.map bare3 = xs.map bare3) : ∀ d i : Nat, i + d = xs.length → Ev (fun k => fathomlaw20_LexCovers.l1 k xs ys i) true := by
  have hlen : ys.length = xs.length := by have := congrArg List.length h; simpa using this
  intro d
  induction d with
  | zero =>
    intro i hi
    refine Ev.step (f := fun k => (fathomlaw20_awake.f k).bind fun t => some t) (fun k => ?_) (Ev.bind (f := fun _ t => some t) cawake_ev (Ev.now _))
    simp only [fathomlaw20_LexCovers.l1]
    rw [if_neg (by omega)]
  | succ d ih =>
    intro i hi
    refine Ev.step (f := fun k => fathomlaw20_LexCovers.l1 k xs ys ((i + 1 : Nat) : Int)) (fun k => ?_) (ih (i + 1) (by omega))
    have e : bare3 (rd_T29 ys i) = bare3 (rd_T29 xs i) := by
      have h2 := congrArg (fun z : List (Int × ByteArray × Int) => z[i]?) h
      simp only [List.getElem?_map] at h2
      have hi1 : i < xs.length := by omega
      have hi2 : i < ys.length := by omega
      rw [List.getElem?_eq_getElem hi1, List.getElem?_eq_getElem hi2] at h2
      unfold rd_T29
      rw [Int.toNat_natCast, List.getD_eq_getElem?_getD, List.getD_eq_getElem?_getD, List.getElem?_eq_getElem hi1, List.getElem?_eq_getElem hi2]
      exact Option.some.inj h2
    have e1 : (rd_T29 ys i).f0 = (rd_T29 xs i).f0 := congrArg (fun z : Int × ByteArray × Int => z.1) e
    have e2 : (rd_T29 ys i).f2 = (rd_T29 xs i).f2 := congrArg (fun z : Int × ByteArray × Int => z.2.1) e
    have e3 : (rd_T29 ys i).f3 = (rd_T29 xs i).f3 := congrArg (fun z : Int × ByteArray × Int => z.2.2) e
    simp only [fathomlaw20_LexCovers.l1]
    rw [if_pos (by omega), if_pos (by omega), if_pos (by omega), if_pos e1, e2, if_pos rfl, if_pos e3, wnat i (by omega)]
theorem rd_at (pre : List S29) (t : S29) (ts : List S29) : rd_T29 (pre ++ t :: ts) (pre.length : Int) = t := by
  unfold rd_T29
  rw [Int.toNat_natCast, List.getD_eq_getElem?_getD, List.getElem?_append_right (Nat.le_refl _), Nat.sub_self]
  rfl
theorem cover_ev {l : List Int} (hl : l.length < 1000000) {p : Nat} {ts : List S29} (h : Toks l p ts) : ∀ (pre : List S29) (x7 : List Int), (pre ++ ts).length < 1000000 → x7.length + (enc ts).length < 1000000 → p ≤ l.length →
    (∃ ys : List S29, Ev (fun k => lex_All.f k (x7 ++ enc ts)) (ys, 0, 0) ∧ ys.map bare3 = (pre ++ ts).map bare3) → Ev (fun k => fathomlaw20_LexCovers.l0 k l (pre ++ ts) p x7 pre.length) true := by
  -- one round
  have round : ∀ (p s : Nat) (pre : List S29) (t : S29) (ts : List S29) (x7 : List Int) (n : Nat), Skip l p s → t.f1 = (s : Int) → t.f2.size = n → s + n ≤ l.length → t.f2 = strOfNums ((l.take (s + n)).drop s) → (pre ++ t :: ts).length < 1000000 → x7.length + n < 1000000 →
      Ev (fun k => fathomlaw20_LexCovers.l0 k l (pre ++ t :: ts) ((s + n : Nat) : Int) (x7 ++ 32 :: bytesOf t.f2) ((pre.length + 1 : Nat) : Int)) true → Ev (fun k => fathomlaw20_LexCovers.l0 k l (pre ++ t :: ts) p x7 pre.length) true := by
    intro p s pre t ts x7 n hs h1 h2 h3 h4 hN hx hr
    have hle := hs.le
    have hsz : (x7 ++ [(32 : Int)]).length + n < 140737488355328 := by rw [List.length_append]; simp; omega
    refine Ev.step (f := fun k => (fathomref20_Start.f k l p).bind fun t186 => (if t186 = t.f1 then fathomlaw20_LexCovers.l0 k l (pre ++ t :: ts) ((s + n : Nat) : Int) (x7 ++ 32 :: bytesOf t.f2) ((pre.length + 1 : Nat) : Int) else some false)) (fun k => ?_) ?_
    · simp only [fathomlaw20_LexCovers.l0]
      rw [if_pos (by rw [List.length_append, List.length_cons]; omega), if_pos (by omega), rd_at, h1, h2, wadd s n (by omega), if_neg (by omega), if_neg (by omega), if_pos (by omega), if_pos (by omega), if_pos (by omega)]
      simp only [Int.toNat_natCast, Option.bind_some]
      rw [← h4, if_pos rfl, if_pos (show x7.length < 140737488355328 by omega), if_pos hsz, List.append_assoc, wnat pre.length (by rw [List.length_append] at hN; omega)]
      rfl
    · refine Ev.bind (a := (s : Int)) hs.ref ?_
      simp only [if_pos h1.symm]
      exact hr
  induction h with
  | @fin p s hs he =>
    intro pre x7 hN hx hp ⟨ys, hy1, hy2⟩
    refine round p s pre _ [] x7 0 hs rfl rfl (by omega) (by rw [Nat.add_zero, List.drop_eq_nil_of_le (by rw [List.length_take]; omega)]; rfl) hN (by simp [enc, bytesOf] at hx; omega) ?_
    have hlen : ys.length = (pre ++ [(⟨4, (s : Int), (⟨#[]⟩ : ByteArray), 0⟩ : S29)]).length := by have := congrArg List.length hy2; simpa using this
    refine Ev.step (f := fun k => (lex_All.f k (x7 ++ [32])).bind fun bt193 => (if bt193.2.2 = 0 then (if (bt193.1.length : Int) = ((pre ++ [(⟨4, (s : Int), (⟨#[]⟩ : ByteArray), 0⟩ : S29)]).length : Int) then (fathomlaw20_LexCovers.j1 k (pre ++ [(⟨4, (s : Int), (⟨#[]⟩ : ByteArray), 0⟩ : S29)]) bt193.1 (((s + 0 : Nat) : Int) != (l.length : Int))) else (fathomlaw20_LexCovers.j1 k (pre ++ [(⟨4, (s : Int), (⟨#[]⟩ : ByteArray), 0⟩ : S29)]) bt193.1 true)) else (fathomlaw20_LexCovers.j1 k (pre ++ [(⟨4, (s : Int), (⟨#[]⟩ : ByteArray), 0⟩ : S29)]) bt193.1 true))) (fun k => ?_) (Ev.bind hy1 ?_)
    · simp only [fathomlaw20_LexCovers.l0]
      rw [if_neg (by rw [List.length_append]; simp)]
      rfl
    · simp only [if_true, if_pos (show (ys.length : Int) = ((pre ++ [(⟨4, (s : Int), (⟨#[]⟩ : ByteArray), 0⟩ : S29)]).length : Int) by omega)]
      rw [show ((((s + 0 : Nat) : Int)) != (l.length : Int)) = false by rw [he]; simp]
      refine Ev.step (f := fun k => fathomlaw20_LexCovers.l1 k (pre ++ [(⟨4, (s : Int), (⟨#[]⟩ : ByteArray), 0⟩ : S29)]) ys 0) (fun k => ?_) (same_ev _ ys hN hy2 _ 0 (Nat.zero_add _))
      simp only [fathomlaw20_LexCovers.j1, Bool.false_eq_true, if_false]
  | @cons p s k len num ts hs hs2 ht t1 t2 h ih =>
    intro pre x7 hN hx hp hy
    have hz : (bytesOf (strOfNums ((l.take (s + len)).drop s))).length = len := by rw [bytesOf_length, cut_size t2]
    have hen : x7 ++ enc (⟨k, (s : Int), strOfNums ((l.take (s + len)).drop s), num⟩ :: ts) = (x7 ++ 32 :: bytesOf (strOfNums ((l.take (s + len)).drop s))) ++ enc ts := by
      show x7 ++ 32 :: (bytesOf _ ++ enc ts) = _
      simp
    have hx2 : (x7 ++ 32 :: bytesOf (strOfNums ((l.take (s + len)).drop s))).length + (enc ts).length < 1000000 := by
      rw [← List.length_append, ← hen, List.length_append]; exact hx
    have hxl : (x7 ++ 32 :: bytesOf (strOfNums ((l.take (s + len)).drop s))).length = x7.length + 1 + len := by rw [List.length_append, List.length_cons, hz]; omega
    refine round p s pre _ ts x7 len hs rfl (cut_size t2) t2 rfl hN (by omega) ?_
    have e : pre ++ (⟨k, (s : Int), strOfNums ((l.take (s + len)).drop s), num⟩ : S29) :: ts = (pre ++ [⟨k, (s : Int), strOfNums ((l.take (s + len)).drop s), num⟩]) ++ ts := by simp
    have := ih (pre ++ [⟨k, (s : Int), strOfNums ((l.take (s + len)).drop s), num⟩]) (x7 ++ 32 :: bytesOf (strOfNums ((l.take (s + len)).drop s))) (by rw [← e]; exact hN) hx2 t2 (by rw [← e, ← hen]; exact hy)
    rw [← e, List.length_append] at this
    exact this
theorem LexCovers : fathomlaw20_LexCovers.Pure := by
  intro l _ _ hb
  apply Ev.rounds
  unfold fathomlaw20_LexCovers.f
  by_cases h : (l.length : Int) > 3000
  · simp only [if_pos h]
    exact Ev.bind (f := fun _ t => some t) cawake_ev (Ev.now _)
  have hl : l.length < 1000000 := by omega
  simp only [if_neg h, Option.bind_some, List.nil_append]
  simp only [if_pos (show ([] : List Int).length + l.length < 140737488355328 by simp; omega)]
  have hA : ∀ x : List Int, x.length ≤ 32768 → ∀ r, Ev (fun k => lex_All.l0 k x [] 0) r → Ev (fun k => lex_All.f k x) r := by
    intro x hx r hr
    refine Ev.congr (f := fun k => lex_All.l0 k x [] 0) (fun k => ?_) hr
    unfold lex_All.f
    rw [if_neg (by omega)]
  obtain ⟨r, hr, ht⟩ := all_ev l hl l.length 0 [] (by omega) (by omega) (by simp)
  refine Ev.bind (hA l (by omega) r hr) ?_
  by_cases h0 : r.2.2 = 0
  · simp only [if_pos h0]
    obtain ⟨ts, g1, g2, g3⟩ := ht h0
    rw [List.nil_append] at g2
    rw [g2]
    have hle := enc_le g1 (by omega)
    have hbx : ∀ x ∈ l, 0 ≤ x ∧ x < 256 := by
      intro x hx
      have := hb x hx
      simp [Lit.wf, IntKind.min, IntKind.max, IntKind.signed, IntKind.bits] at this
      omega
    obtain ⟨ts', e1, e2⟩ := again hbx g1 [] (by simp; omega)
    rw [List.nil_append] at e1
    have hts : ts'.length = ts.length := by have := congrArg List.length e2; simpa using this
    have hf := all_fw (l := enc ts) (by omega) e1 [] (by simp at g3 ⊢; omega)
    rw [List.nil_append] at hf
    exact cover_ev hl g1 [] [] (by simp at g3 ⊢; omega) (by simp; omega) (by omega) ⟨ts', by rw [List.nil_append]; exact hA _ (by omega) _ hf, by rw [List.nil_append]; exact e2⟩
  · simp only [if_neg h0]
    exact Ev.bind (f := fun _ t => some t) cawake_ev (Ev.now _)
end Go.Proofs.Ytgjehnjonleibaa.Pure
