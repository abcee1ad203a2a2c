/- Plain lemmas: what can be reached in a square, by Warshall's rounds; the order of events. -/
namespace Go.Proofs.Ytcoelecaigkfcaa.Pure
/-! ### Rounds -/
/-- What can be reached by way of places below a number. -/
def P (R : Nat → Nat → Prop) : Nat → Nat → Nat → Prop
  | 0, i, j => R i j
  | k + 1, i, j => P R k i j ∨ (P R k i k ∧ P R k k j)
theorem P_step {R : Nat → Nat → Prop} {k i j : Nat} (h : P R k i j) : P R (k + 1) i j := .inl h
theorem P_edge {R : Nat → Nat → Prop} {i j : Nat} (h : R i j) : ∀ k, P R k i j
  | 0 => h
  | k + 1 => .inl (P_edge h k)
theorem P_trans {R : Nat → Nat → Prop} : ∀ k m, m < k → ∀ i j, P R k i m → P R k m j → P R k i j
  | 0, m, hm, _, _, _, _ => absurd hm (Nat.not_lt_zero _)
  | k + 1, m, hm, i, j, h1, h2 => by
    have ih := P_trans (R := R) k
    rcases Nat.lt_succ_iff_lt_or_eq.1 hm with hm | rfl
    · rcases h1 with h1 | ⟨a, b⟩
      · rcases h2 with h2 | ⟨c, d⟩
        · exact .inl (ih m hm i j h1 h2)
        · exact .inr ⟨ih m hm i k h1 c, d⟩
      · rcases h2 with h2 | ⟨c, d⟩
        · exact .inr ⟨a, ih m hm k j b h2⟩
        · exact .inr ⟨a, d⟩
    · have h1' : P R m i m := by
        rcases h1 with h1 | ⟨a, _⟩
        · exact h1
        · exact a
      have h2' : P R m m j := by
        rcases h2 with h2 | ⟨_, d⟩
        · exact h2
        · exact d
      exact .inr ⟨h1', h2'⟩
/-- Within what is closed, all stays. -/
theorem P_sub {R T : Nat → Nat → Prop} (hR : ∀ i j, R i j → T i j) (hT : ∀ i m j, T i m → T m j → T i j) : ∀ k i j, P R k i j → T i j
  | 0, i, j, h => hR i j h
  | k + 1, i, j, h => by
    have ih := P_sub hR hT k
    rcases h with h | ⟨a, b⟩
    · exact ih i j h
    · exact hT i k j (ih i k a) (ih k j b)
/-! ### Events in order -/
/-- Events: of whom each is (pr), and by which event a goroutine begins (st; below 0: by none). -/
structure Good (n : Nat) (pr : Nat → Int) (st : Int → Int) : Prop where
  nonneg : ∀ i, i < n → 0 ≤ pr i
  rise : ∀ i j, i < j → j < n → pr i ≤ pr j
  starts : ∀ i, i < n → 0 ≤ st (pr i) → st (pr i) < n ∧ pr (st (pr i)).toNat < pr i
/-- The document's 'surely ahead'. -/
inductive Ah (n : Nat) (pr : Nat → Int) (st : Int → Int) : Nat → Nat → Prop
  | same {i j : Nat} : i < j → j < n → pr i = pr j → Ah n pr st i j
  | go {i j : Nat} : j < n → pr i ≠ pr j → st (pr j) = i → Ah n pr st i j
  | far {i j m : Nat} : j < n → pr i ≠ pr j → st (pr j) = m → Ah n pr st i m → Ah n pr st i j
section
variable {n : Nat} {pr : Nat → Int} {st : Int → Int}
theorem Ah.lt_n {i j : Nat} (h : Ah n pr st i j) : j < n := by cases h <;> assumption
/-- Whoever is ahead stands ahead, of an elder goroutine or the same. -/
theorem Ah.lt (g : Good n pr st) {i j : Nat} (h : Ah n pr st i j) : i < j ∧ pr i ≤ pr j := by
  induction h with
  | same h1 h2 h3 => exact ⟨h1, by omega⟩
  | @go j h1 h2 h3 =>
    obtain ⟨a, b⟩ := g.starts j h1 (by omega)
    rw [h3, Int.toNat_natCast] at b
    refine ⟨?_, by omega⟩
    rcases Nat.lt_or_ge i j with h | h
    · exact h
    · rcases Nat.eq_or_lt_of_le h with e | h
      · subst e; omega
      · have := g.rise j i h (by omega); omega
  | @far j m h1 h2 h3 h4 ih =>
    obtain ⟨a, b⟩ := g.starts j h1 (by omega)
    rw [h3, Int.toNat_natCast] at b
    have hm : m < j := by
      rcases Nat.lt_or_ge m j with h | h
      · exact h
      · rcases Nat.eq_or_lt_of_le h with e | h
        · subst e; omega
        · have := g.rise j m h (by omega); omega
    exact ⟨by omega, by omega⟩
theorem Ah.trans (g : Good n pr st) {i m j : Nat} (h1 : Ah n pr st i m) (h2 : Ah n pr st m j) : Ah n pr st i j := by
  induction h2 with
  | @same j a b c =>
    cases h1 with
    | same d e f => exact .same (by omega) b (by omega)
    | go d e f => exact .go b (by omega) (by rw [← c]; exact f)
    | far d e f k => exact .far b (by omega) (by rw [← c]; exact f) k
  | @go j a b c =>
    have hlt := h1.lt g
    obtain ⟨x, y⟩ := g.starts j a (by omega)
    rw [c, Int.toNat_natCast] at y
    exact .far a (by omega) c h1
  | @far j k a b c d ih =>
    have hlt := ih.lt g
    obtain ⟨x, y⟩ := g.starts j a (by omega)
    rw [c, Int.toNat_natCast] at y
    exact .far a (by omega) c ih
/-- An edge: the same goroutine's next ones, and what an event begins. -/
def Edge (n : Nat) (pr : Nat → Int) (st : Int → Int) (i j : Nat) : Prop := j < n ∧ ((pr i = pr j ∧ i < j) ∨ st (pr j) = i)
theorem Edge.ah (g : Good n pr st) {i j : Nat} (h : Edge n pr st i j) : Ah n pr st i j := by
  obtain ⟨h1, h2 | h2⟩ := h
  · exact .same h2.2 h1 h2.1
  · obtain ⟨x, y⟩ := g.starts j h1 (by omega)
    rw [h2, Int.toNat_natCast] at y
    exact .go h1 (by omega) h2
theorem Ah.reach {T : Nat → Nat → Prop} (hR : ∀ i j, Edge n pr st i j → T i j) (hT : ∀ i m j, T i m → T m j → T i j) {i j : Nat} (h : Ah n pr st i j) : T i j := by
  induction h with
  | same a b c => exact hR _ _ ⟨b, .inl ⟨c, a⟩⟩
  | go a b c => exact hR _ _ ⟨a, .inr c⟩
  | far a b c d ih => exact hT _ _ _ ih (hR _ _ ⟨a, .inr c⟩)
end
end Go.Proofs.Ytcoelecaigkfcaa.Pure
