/- Key words and names: the program and the reference tell the same of each text of at most 300 bytes. -/
import Derived.Test.YtgjehnjonleibaaQx4
import Derived.Test.YtgjehnjonleibaaPl
namespace Go.Proofs.Ytgjehnjonleibaa.Pure
open Go.RowKit Go.Proofs.Ytgjehnjonleibaa.Q Go.Proofs.YtgjehnjonleibaaW.PrintWords Go.Proofs.YtgjehnjonleibaaW.PrintLast

theorem awake_ev : Ev (fun k => fathomlaw20_awake.f k) true := Ev.of (fun k => fathomlaw20_awake.mono k) (k := 30) (by kernel_rfl)

/-! ### Key words -/
def keyList : List ByteArray := (fathomref20_Keys.f).getD []
theorem keys_some : fathomref20_Keys.f = some keyList := rfl
def keyWords : List (List UInt8) := keyList.map (·.data.toList)
theorem keys_blank : ∀ w ∈ keyWords, 32 ∉ w := by decide
theorem keys_length : keyList.length = 23 := by decide
theorem refKey_from (s : ByteArray) : ∀ d i : Nat, i + d = 23 → Ev (fun k => fathomref20_Key.l0 k s keyList i) (decide (s.data.toList ∈ keyWords.drop i)) := by
  intro d
  induction d with
  | zero =>
    intro i hi
    obtain rfl : i = 23 := by omega
    refine Ev.step (f := fun _ => some false) (fun k => ?_) ?_
    · simp only [fathomref20_Key.l0]
      rw [if_neg (by rw [keys_length]; omega)]
    · have : keyWords.drop 23 = [] := by decide
      rw [this]
      exact Ev.now _
  | succ d ih =>
    intro i hi
    have hlt : i < keyList.length := by rw [keys_length]; omega
    have hlt2 : i < keyWords.length := by rw [keyWords, List.length_map]; exact hlt
    have hrd : (rdOf ByteArray.empty keyList (i : Int)).data.toList = keyWords[i] := by
      simp [rdOf, keyWords, List.getD_eq_getElem?_getD, List.getElem?_eq_getElem hlt]
    have hcons : keyWords.drop i = keyWords[i] :: keyWords.drop (i + 1) := List.drop_eq_getElem_cons hlt2
    refine Ev.step (f := fun k => if keyWords[i] = s.data.toList then some true else fathomref20_Key.l0 k s keyList ((i + 1 : Nat) : Int)) (fun k => ?_) ?_
    · simp only [fathomref20_Key.l0]
      rw [if_pos (by omega), if_pos (by omega), ByteArray.toList_eq, ByteArray.toList_eq, hrd]
      rw [show wrap64 ((i : Int) + 1) = ((i + 1 : Nat) : Int) by have := keys_length; unfold wrap64; omega]
    · rw [hcons]
      by_cases h : keyWords[i] = s.data.toList
      · simp only [if_pos h]
        simp only [h, List.mem_cons, true_or, decide_true]
        exact Ev.now _
      · simp only [if_neg h]
        have e : decide (s.data.toList ∈ keyWords[i] :: keyWords.drop (i + 1)) = decide (s.data.toList ∈ keyWords.drop (i + 1)) := by
          rw [decide_eq_decide, List.mem_cons]
          exact ⟨fun x => x.resolve_left (Ne.symm h), .inr⟩
        rw [e]
        exact ih (i + 1) (by omega)
theorem refKey_ev (s : ByteArray) : Ev (fun k => fathomref20_Key.f k s) (decide (s.data.toList ∈ keyWords)) := by
  refine Ev.congr (f := fun k => fathomref20_Key.l0 k s keyList 0) (fun k => ?_) ?_
  · simp only [fathomref20_Key.f, keys_some, Option.bind_some]
  · exact refKey_from s 23 0 rfl
theorem lexKey (s : ByteArray) (hs : s.size ≤ 140737488351232) : lex_Key.f s = some (decide (s.data.toList ∈ keyWords)) := by
  unfold lex_Key.f
  by_cases h0 : s.toList = []
  · rw [if_pos h0]
    rw [ByteArray.toList_eq] at h0
    rw [h0]
    rfl
  · rw [if_neg h0]
    rw [ByteArray.toList_eq] at h0
    simp only [strings_IndexByte.f, Option.bind_some]
    have e32 : (32 : Int).toNat.toUInt8 = (32 : UInt8) := rfl
    rw [e32]
    have hge := Lib.indexByte_ge s.data.toList 32
    by_cases h1 : Lib.indexByte s.data.toList 32 < 0
    · rw [if_pos h1]
      have hno : (32 : UInt8) ∉ s.data.toList := by
        intro hm
        obtain ⟨k, hk, e⟩ := List.getElem_of_mem hm
        exact Lib.indexByte_none (l := s.data.toList) (c := 32) (by omega) k (by rw [List.getElem?_eq_getElem hk, e])
      rw [if_pos (by omega), if_pos (by rw [ByteArray.size_append, size_one]; omega)]
      simp only [strings_Contains.f]
      rw [if_pos (by decide)]
      simp only [Option.bind_some, Option.some.injEq]
      rw [Bool.eq_iff_iff, contains_infix, decide_eq_true_iff]
      have hx : (({ data := #[32] } : ByteArray) ++ s ++ ({ data := #[32] } : ByteArray)).data.toList = 32 :: (s.data.toList ++ [32]) := by
        simp [ByteArray.data_append]
      rw [hx]
      exact infix_joined s.data.toList hno h0 keyWords keys_blank
    · rw [if_neg h1]
      have hin : ¬ s.data.toList ∈ keyWords := by
        intro hm
        obtain ⟨o, ho⟩ : ∃ o : Nat, Lib.indexByte s.data.toList 32 = o := ⟨(Lib.indexByte s.data.toList 32).toNat, by omega⟩
        have := (Lib.indexByte_some ho).1
        exact keys_blank _ hm (List.mem_of_getElem? this)
      rw [decide_eq_false hin]
/-! ### Names -/
/-- A letter or a digit stands at a place. -/
def LD (s : ByteArray) (j : Nat) : Prop := (97 ≤ bt s j ∧ bt s j ≤ 122) ∨ (48 ≤ bt s j ∧ bt s j ≤ 57)
theorem letter_eq (c : Int) : lex_letter.f c = some (decide (97 ≤ c ∧ c ≤ 122)) := by
  unfold lex_letter.f
  split
  · rename_i h
    simp [show 97 ≤ c from h]
  · rename_i h
    rw [decide_eq_false (by omega)]
theorem digit_eq (c : Int) : lex_digit.f c = some (decide (48 ≤ c ∧ c ≤ 57)) := by
  unfold lex_digit.f
  split
  · rename_i h
    simp [show 48 ≤ c from h]
  · rename_i h
    rw [decide_eq_false (by omega)]
theorem rletter_eq (c : Int) : fathomref20_Letter.f c = some (decide (97 ≤ c ∧ c ≤ 122)) := letter_eq c
theorem rdigit_eq (c : Int) : fathomref20_Digit.f c = some (decide (48 ≤ c ∧ c ≤ 57)) := digit_eq c
/-- The end of the letters and digits. -/
theorem run_from (s : ByteArray) (hs : s.size ≤ 140737488351232) : ∀ d i : Nat, i + d = s.size → ∃ r : Nat, i ≤ r ∧ r ≤ s.size ∧ Ev (fun k => lex_run.l0 k (bytesOf s) i) (r : Int) ∧ (∀ j, i ≤ j → j < r → LD s j) ∧ (r < s.size → ¬ LD s r) := by
  intro d
  induction d with
  | zero =>
    intro i hi
    refine ⟨i, Nat.le_refl _, by omega, ?_, by intro j h1 h2; omega, by intro h; omega⟩
    refine Ev.step (f := fun _ => some (i : Int)) (fun k => ?_) (Ev.now _)
    simp only [lex_run.l0]
    rw [if_neg (by rw [bytesOf_length]; omega)]
  | succ d ih =>
    intro i hi
    by_cases h : LD s i
    · obtain ⟨r, h1, h2, h3, h4, h5⟩ := ih (i + 1) (by omega)
      refine ⟨r, by omega, h2, ?_, ?_, h5⟩
      · refine Ev.step (f := fun k => lex_run.l0 k (bytesOf s) ((i + 1 : Nat) : Int)) (fun k => ?_) h3
        simp only [lex_run.l0]
        rw [if_pos (by rw [bytesOf_length]; omega), if_pos (by omega), rd_bytesOf, letter_eq, digit_eq]
        rw [show wrap64 ((i : Int) + 1) = ((i + 1 : Nat) : Int) by unfold wrap64; omega]
        simp only [Option.bind_some]
        by_cases hl : 97 ≤ bt s i ∧ bt s i ≤ 122
        · rw [if_pos (decide_eq_true hl)]
        · rw [if_neg (by simpa using hl), if_pos (decide_eq_true (h.resolve_left hl))]
      · intro j hj1 hj2
        by_cases e : j = i
        · subst e; exact h
        · exact h4 j (by omega) hj2
    · refine ⟨i, Nat.le_refl _, by omega, ?_, by intro j h1 h2; omega, fun _ => h⟩
      refine Ev.step (f := fun _ => some (i : Int)) (fun k => ?_) (Ev.now _)
      simp only [lex_run.l0]
      rw [if_pos (by rw [bytesOf_length]; omega), if_pos (by omega), rd_bytesOf, letter_eq, digit_eq]
      simp only [Option.bind_some]
      unfold LD at h
      rw [if_neg (by simp; omega), if_neg (by simp; omega)]
theorem refName_from (s : ByteArray) (hs : s.size ≤ 140737488351232) (b : Bool) (hb : Ev (fun k => fathomref20_Key.f k s) b) (h1 : 1 ≤ s.size) : ∀ d i : Nat, 1 ≤ i → i + d = s.size →
    ((∀ j, i ≤ j → j < s.size → LD s j) → Ev (fun k => fathomref20_Name.l0 k s i) (decide (s.size ≤ 12) && !b)) ∧ ((∃ j, i ≤ j ∧ j < s.size ∧ ¬ LD s j) → Ev (fun k => fathomref20_Name.l0 k s i) false) := by
  intro d
  induction d with
  | zero =>
    intro i hi hd
    refine ⟨fun _ => ?_, fun ⟨j, a, c, _⟩ => by omega⟩
    by_cases h12 : s.size ≤ 12
    · refine Ev.step (f := fun k => (fathomref20_Key.f k s).bind fun t => some (!t)) (fun k => ?_) ?_
      · simp only [fathomref20_Name.l0]
        rw [if_neg (by omega), if_pos (by omega), if_pos (by omega)]
      · rw [decide_eq_true h12, Bool.true_and]
        exact Ev.bind (f := fun _ t => some (!t)) hb (Ev.now _)
    · refine Ev.step (f := fun _ => some false) (fun k => ?_) ?_
      · simp only [fathomref20_Name.l0]
        rw [if_neg (by omega), if_pos (by omega), if_neg (by omega)]
      · rw [decide_eq_false h12, Bool.false_and]
        exact Ev.now _
  | succ d ih =>
    intro i hi hd
    have hst : ∀ k, fathomref20_Name.l0 (k + 1) s i = if 97 ≤ bt s i ∧ bt s i ≤ 122 then fathomref20_Name.l0 k s ((i + 1 : Nat) : Int) else if 48 ≤ bt s i ∧ bt s i ≤ 57 then fathomref20_Name.l0 k s ((i + 1 : Nat) : Int) else some false := by
      intro k
      simp only [fathomref20_Name.l0]
      rw [if_pos (by omega), if_pos (by omega), rletter_eq, rdigit_eq, if_neg (show ¬ (i : Int) = 0 by omega)]
      rw [show wrap64 ((i : Int) + 1) = ((i + 1 : Nat) : Int) by unfold wrap64; omega]
      simp only [Option.bind_some, decide_eq_true_eq]
    obtain ⟨ih1, ih2⟩ := ih (i + 1) (by omega) (by omega)
    by_cases h : LD s i
    · have hst2 : ∀ k, fathomref20_Name.l0 (k + 1) s i = fathomref20_Name.l0 k s ((i + 1 : Nat) : Int) := by
        intro k
        rw [hst]
        by_cases hl : 97 ≤ bt s i ∧ bt s i ≤ 122
        · rw [if_pos hl]
        · rw [if_neg hl, if_pos (h.resolve_left hl)]
      refine ⟨fun hg => Ev.step hst2 (ih1 (fun j a c => hg j (by omega) c)), fun ⟨j, a, c, e⟩ => Ev.step hst2 (ih2 ⟨j, ?_, c, e⟩)⟩
      by_cases e2 : j = i
      · subst e2; exact absurd h e
      · omega
    · refine ⟨fun hg => absurd (hg i (Nat.le_refl _) (by omega)) h, fun _ => Ev.step (f := fun _ => some false) (fun k => ?_) (Ev.now _)⟩
      rw [hst]
      unfold LD at h
      rw [if_neg (by omega), if_neg (by omega)]
theorem names (s : ByteArray) (hs : s.size ≤ 140737488351232) : ∃ b, Ev (fun k => lex_Name.f k s) b ∧ Ev (fun k => fathomref20_Name.f k s) b := by
  have hk := refKey_ev s
  have hlk := lexKey s hs
  by_cases h0 : s.toList = []
  · refine ⟨false, Ev.congr (f := fun _ => some false) (fun k => ?_) (Ev.now _), Ev.congr (f := fun k => fathomref20_Name.l0 k s 0) (fun k => rfl) (Ev.step (f := fun _ => some false) (fun k => ?_) (Ev.now _))⟩
    · unfold lex_Name.f
      rw [if_pos h0]
    · have hz : s.size = 0 := by rw [ByteArray.toList_eq] at h0; rw [← data_length, h0]; rfl
      simp only [fathomref20_Name.l0]
      rw [if_neg (by omega), if_neg (by omega)]
  · have h1 : 1 ≤ s.size := by
      rcases Nat.eq_zero_or_pos s.size with z | z
      · exact absurd (by rw [ByteArray.toList_eq]; exact List.length_eq_zero_iff.mp (by rw [data_length]; exact z)) h0
      · exact z
    have hst : ∀ k, fathomref20_Name.l0 (k + 1) s 0 = if 97 ≤ bt s 0 ∧ bt s 0 ≤ 122 then fathomref20_Name.l0 k s ((1 : Nat) : Int) else some false := by
      intro k
      simp only [fathomref20_Name.l0]
      rw [if_pos (by omega), if_pos (by omega), rletter_eq, if_pos True.intro]
      rw [show wrap64 ((0 : Int) + 1) = ((1 : Nat) : Int) by unfold wrap64; omega]
      simp only [Option.bind_some, decide_eq_true_eq]
    have hlex : ∀ k, lex_Name.f k s = if s.size ≤ 12 then (if 97 ≤ bt s 0 ∧ bt s 0 ≤ 122 then (lex_run.f k (bytesOf s) 0).bind fun n => if n = (s.size : Int) then some (!decide (s.data.toList ∈ keyWords)) else some false else some false) else some false := by
      intro k
      unfold lex_Name.f
      rw [if_neg h0, letter_eq, hlk]
      simp only [Option.bind_some, decide_eq_true_eq]
      by_cases h12 : s.size ≤ 12
      · rw [if_pos (by omega), if_pos h12]
      · rw [if_neg (by omega), if_neg h12]
    by_cases hl : 97 ≤ bt s 0 ∧ bt s 0 ≤ 122
    · obtain ⟨r, ha, hb, hr, hg, hn⟩ := run_from s hs s.size 0 (by omega)
      obtain ⟨f1, f2⟩ := refName_from s hs _ hk h1 (s.size - 1) 1 (by omega) (by omega)
      have hst2 : ∀ k, fathomref20_Name.l0 (k + 1) s 0 = fathomref20_Name.l0 k s ((1 : Nat) : Int) := fun k => by rw [hst, if_pos hl]
      by_cases hrs : r = s.size
      · refine ⟨decide (s.size ≤ 12) && !decide (s.data.toList ∈ keyWords), ?_, Ev.congr (f := fun k => fathomref20_Name.l0 k s 0) (fun k => rfl) (Ev.step hst2 (f1 (fun j _ c => hg j (by omega) (by omega))))⟩
        by_cases h12 : s.size ≤ 12
        · rw [decide_eq_true h12, Bool.true_and]
          refine Ev.congr (f := fun k => (lex_run.f k (bytesOf s) 0).bind fun n => if n = (s.size : Int) then some (!decide (s.data.toList ∈ keyWords)) else some false) (fun k => by rw [hlex, if_pos h12, if_pos hl]) ?_
          refine Ev.bind (a := (r : Int)) hr ?_
          simp only [hrs, if_true]
          exact Ev.now _
        · rw [decide_eq_false h12, Bool.false_and]
          exact Ev.congr (f := fun _ => some false) (fun k => by rw [hlex, if_neg h12]) (Ev.now _)
      · refine ⟨false, ?_, Ev.congr (f := fun k => fathomref20_Name.l0 k s 0) (fun k => rfl) (Ev.step hst2 (f2 ⟨r, ?_, by omega, hn (by omega)⟩))⟩
        · by_cases h12 : s.size ≤ 12
          · refine Ev.congr (f := fun k => (lex_run.f k (bytesOf s) 0).bind fun n => if n = (s.size : Int) then some (!decide (s.data.toList ∈ keyWords)) else some false) (fun k => by rw [hlex, if_pos h12, if_pos hl]) ?_
            refine Ev.bind (a := (r : Int)) hr ?_
            rw [if_neg (show ¬ (r : Int) = (s.size : Int) by omega)]
            exact Ev.now _
          · exact Ev.congr (f := fun _ => some false) (fun k => by rw [hlex, if_neg h12]) (Ev.now _)
        · rcases Nat.eq_zero_or_pos r with z | z
          · subst z
            exact absurd (.inl hl) (hn (by omega))
          · exact z
    · refine ⟨false, Ev.congr (f := fun _ => some false) (fun k => ?_) (Ev.now _), Ev.congr (f := fun k => fathomref20_Name.l0 k s 0) (fun k => rfl) (Ev.step (f := fun _ => some false) (fun k => by rw [hst, if_neg hl]) (Ev.now _))⟩
      rw [hlex, if_neg hl]
      split <;> rfl
theorem LexNames : fathomlaw20_LexNames.Pure := by
  intro s hs
  apply Ev.rounds
  unfold fathomlaw20_LexNames.f
  by_cases h : (s.size : Int) > 300
  · simp only [if_pos h]
    exact Ev.bind (f := fun _ t => some t) awake_ev (Ev.now _)
  · simp only [if_neg h, lexKey s hs, Option.bind_some]
    refine Ev.bind (refKey_ev s) ?_
    simp only [beq_self_eq_true, if_true]
    obtain ⟨b, hb1, hb2⟩ := names s hs
    refine Ev.bind hb1 ?_
    refine Ev.bind hb2 ?_
    simp only [beq_self_eq_true, if_true]
    exact Ev.bind (f := fun _ t => some t) awake_ev (Ev.now _)
end Go.Proofs.Ytgjehnjonleibaa.Pure
