/- Plain lemmas: which words stand between blanks in a text of words; when a text contains another. -/
import Derived.Lib.IndexMore
namespace Go.Proofs.Ytgjehnjonleibaa.Pure
open Go
/-! ### Key words -/
/-- Words, each behind a blank's place, each with a blank behind it. -/
def joined : List (List UInt8) → List UInt8
  | [] => []
  | w :: r => w ++ 32 :: joined r
theorem infix_skip (w l : List UInt8) (x : List UInt8) (hw : 32 ∉ w) (h : (32 :: x) <:+: (w ++ l)) : (32 :: x) <:+: l := by
  induction w with
  | nil => exact h
  | cons c w ih =>
    have hc : c ≠ 32 := fun e => hw (by simp [e])
    have hw' : 32 ∉ w := fun e => hw (by simp [e])
    rw [List.cons_append, List.infix_cons_iff] at h
    rcases h with h | h
    · rw [List.cons_prefix_cons] at h
      exact absurd h.1.symm hc
    · exact ih hw' h
theorem prefix_word (s w l : List UInt8) (hs : 32 ∉ s) (hw : 32 ∉ w) (h : (s ++ [32]) <+: (w ++ 32 :: l)) : s = w := by
  induction s generalizing w with
  | nil =>
    cases w with
    | nil => rfl
    | cons c w =>
      simp only [List.nil_append, List.cons_append, List.cons_prefix_cons] at h
      exact absurd (by simp [← h.1] : (32 : UInt8) ∈ c :: w) hw
  | cons a s ih =>
    cases w with
    | nil =>
      simp only [List.nil_append, List.cons_append, List.cons_prefix_cons] at h
      exact absurd (by simp [h.1] : (32 : UInt8) ∈ a :: s) hs
    | cons c w =>
      simp only [List.cons_append, List.cons_prefix_cons] at h
      rw [h.1, ih w (fun e => hs (by simp [e])) (fun e => hw (by simp [e])) h.2]
theorem infix_joined (s : List UInt8) (hs : 32 ∉ s) (h0 : s ≠ []) : ∀ ws : List (List UInt8), (∀ w ∈ ws, 32 ∉ w) → ((32 :: (s ++ [32])) <:+: (32 :: joined ws) ↔ s ∈ ws)
  | [], _ => by
    constructor
    · intro h
      have := h.length_le
      simp [joined] at this
    · intro h
      simp at h
  | w :: r, hr => by
    have ih := infix_joined s hs h0 r (fun x hx => hr x (by simp [hx]))
    have hw : 32 ∉ w := hr w (by simp)
    rw [joined, List.infix_cons_iff, List.cons_prefix_cons]
    constructor
    · rintro (⟨_, h⟩ | h)
      · simp [prefix_word s w _ hs hw h]
      · have h2 := infix_skip w _ _ hw h
        simp [ih.1 h2]
    · intro h
      rcases List.mem_cons.1 h with h | h
      · subst h
        left
        exact ⟨rfl, by rw [show s ++ 32 :: joined r = (s ++ [32]) ++ joined r by simp]; exact List.prefix_append _ _⟩
      · right
        exact (ih.2 h).trans (List.suffix_append _ _).isInfix
theorem contains_infix (l x : List UInt8) : Lib.contains l x = true ↔ x <:+: l := by
  unfold Lib.contains
  rw [decide_eq_true_iff]
  induction l with
  | nil =>
    unfold Lib.index
    cases x with
    | nil => simp
    | cons a x => simp
  | cons b l ih =>
    unfold Lib.index
    rw [List.infix_cons_iff]
    by_cases h : x.isPrefixOf (b :: l) = true
    · rw [if_pos h]
      exact ⟨fun _ => .inl (List.isPrefixOf_iff_prefix.1 h), fun _ => Int.le_refl _⟩
    · rw [if_neg h]
      have hn : ¬ x <+: b :: l := fun e => h (List.isPrefixOf_iff_prefix.2 e)
      have hg := Lib.index_ge l x
      by_cases h1 : (Lib.index l x == -1) = true
      · rw [if_pos h1]
        have h2 : Lib.index l x = -1 := by simpa using h1
        constructor
        · intro h3; omega
        · rintro (h3 | h3)
          · exact absurd h3 hn
          · have := ih.2 h3; omega
      · rw [if_neg h1]
        have h2 : Lib.index l x ≠ -1 := by simpa using h1
        constructor
        · intro _; exact .inr (ih.1 (by omega))
        · intro _; omega
end Go.Proofs.Ytgjehnjonleibaa.Pure
