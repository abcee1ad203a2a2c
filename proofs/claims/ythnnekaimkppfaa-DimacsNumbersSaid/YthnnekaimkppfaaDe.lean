/- dimacs.reader.end; dimacs.Read. -/
import Derived.Test.YthnnekaimkppfaaDl
namespace Go.Proofs.Ythnnekaimkppfaa.D
open Go.RowKit Go.Proofs.YthnnekaimkppfaaW.PrintWords Go.Proofs.YthnnekaimkppfaaW.PrintLast
set_option linter.unusedVariables false
set_option linter.unusedSimpArgs false
def endF (s : St) (at_ : Int) : St := if s.head = false ∨ s.inn = true then failF s at_ 2 else if (s.cl.length : Int) < s.want then failF s at_ 4 else s
set_option maxHeartbeats 2000000 in
set_option maxRecDepth 100000 in
theorem end_calls (w0 w : World) (g : Nat) (s : St) (at_ : Int) (h : RS w0 w g s) :
    Calls Try.prog 16 #[.pointer (some ⟨g, 0, none⟩), .int .i64 at_] w fun e w' => e = .returned (.tuple #[]) ∧ RS w0 w' g (endF s at_) ∧ Keep w w' := by
  obtain ⟨R, hR⟩ : ∃ R, endF s at_ = R := ⟨_, rfl⟩
  rw [hR]
  have HU := Aside0.mk (show R = endF s at_ from hR.symm)
  clear hR
  unfold endF at HU
  obtain ⟨vC, vO, hg, hC, hO⟩ := h.st
  obtain ⟨AC, cC, eC⟩ := Kd.R_slice hC
  subst eC
  obtain ⟨-, c1, c2, c3, -, c5, -, -⟩ := cells_S (Aside0.mk hg)
  have HS := Aside0.mk h
  clear h hg hC hO
  cases hh : s.head with
  | false =>
    have HE := Aside0.mk (HU.out.trans (if_pos (.inl hh)))
    clear HU
    rw [hh] at c2
    clear hh
    go_enter Try.func16, Try.ntmps16
    go_wp2_with (go_at_call 22; (refine (fail_calls w0 _ g s at_ 2 HS.out).mono ?_); rintro e w3 ⟨rfl, hr, hk⟩; have HR := Aside0.mk hr; have HKK := Aside0.mk hk; clear hr hk)
    go_end0
    rw [HE.out]
    exact ⟨rfl, HR.out, HKK.out⟩
  | true =>
    rw [hh] at c2
    cases hi : s.inn with
    | true =>
      have HE := Aside0.mk (HU.out.trans (if_pos (.inr hi)))
      clear HU
      rw [hi] at c5
      clear hh hi
      go_enter Try.func16, Try.ntmps16
      go_wp2_with (go_at_call 22; (refine (fail_calls w0 _ g s at_ 2 HS.out).mono ?_); rintro e w3 ⟨rfl, hr, hk⟩; have HR := Aside0.mk hr; have HKK := Aside0.mk hk; clear hr hk)
      go_end0
      rw [HE.out]
      exact ⟨rfl, HR.out, HKK.out⟩
    | false =>
      replace HU := Aside0.mk (HU.out.trans (if_neg (by rw [hh, hi]; simp)))
      rw [hi] at c5
      clear hh hi
      by_cases hlt : (s.cl.length : Int) < s.want
      · have HE := Aside0.mk (HU.out.trans (if_pos hlt))
        have q : decide ((s.cl.length : Int) < s.want) = true := decide_eq_true hlt
        clear HU hlt
        go_enter Try.func16, Try.ntmps16
        go_upto_region 2 with (fail)
        go_quiet (fail)
        go_wp2_with (go_at_call 22; (refine (fail_calls w0 _ g s at_ 4 (HS.out.drawn ⟨⟨_, rfl⟩⟩)).mono ?_); rintro e w3 ⟨rfl, hr, hk⟩; have HR := Aside0.mk hr; have HKK := Aside0.mk hk; clear hr hk)
        go_end0
        rw [HE.out]
        exact ⟨rfl, HR.out, HKK.out⟩
      · have HE := Aside0.mk (HU.out.trans (if_neg hlt))
        have q : decide ((s.cl.length : Int) < s.want) = false := decide_eq_false hlt
        clear HU hlt
        go_enter Try.func16, Try.ntmps16
        go_upto_region 2 with (fail)
        go_quiet (fail)
        go_wp2
        go_end0
        rw [HE.out]
        exact ⟨rfl, HS.out.drawn ⟨⟨_, rfl⟩⟩, Keep.refl _⟩
/-- Where a line ends that a line's end stands behind. -/
def endOf (b : List Int) (i fr : Nat) : Nat := if i < b.length ∧ fr < i ∧ rd b ((i : Int) - 1) = 13 then i - 1 else i
/-- The lines from a place on; i: where the walk stands; fr: where the line begins. -/
def loopF (b : List Int) : Nat → Nat → Nat → St → St × Bool
  | 0, _, _, s => (s, true)
  | d + 1, i, fr, s =>
    if i < b.length ∧ rd b i ≠ 10 then loopF b d (i + 1) fr s
    else if (lineF s ((b.take (endOf b i fr)).drop fr) fr).2 = true then loopF b d (i + 1) (i + 1) (lineF s ((b.take (endOf b i fr)).drop fr) fr).1
    else ((lineF s ((b.take (endOf b i fr)).drop fr) fr).1, false)
def s0 : St := ⟨0, [], false, 0, [], false, 0, 0⟩
/-- The formula; where it is wrong; what is wrong. -/
def readE (t : St) : (Int × List (List Int)) × Int × Int := if t.e ≠ 0 then ((0, []), t.wrong, t.e) else ((t.vars, t.cl), 0, 0)
def readG (n : Int) (r : St × Bool) : (Int × List (List Int)) × Int × Int := if r.2 = false then ((0, []), r.1.wrong, r.1.e) else readE (endF r.1 n)
def readF (b : List Int) : (Int × List (List Int)) × Int × Int := if 4194304 < b.length then ((0, []), 0, 3) else readG b.length (loopF b (b.length + 1) 0 0 s0)
def Alike (s : St) (r : St × Bool) : Prop := r.1.cl = s.cl ∧ r.1.op = s.op
theorem bE_in (s : St) (ws : List Word) (k k2 : Int) : Alike s (bE s ws k k2) := by unfold bE; split <;> exact ⟨rfl, rfl⟩
theorem bN_in {s : St} {ws : List Word} {line i m : Int} {n : Int → St × Bool} (h : ∀ k, Alike s (n k)) : Alike s (bN s ws line i m n) := by
  unfold bN
  split
  · exact ⟨rfl, rfl⟩
  · split
    · exact ⟨rfl, rfl⟩
    · split
      · exact ⟨rfl, rfl⟩
      · exact h _
theorem bH_in {s : St} {ws : List Word} {line i : Int} {x : List UInt8} {n : St × Bool} (h : Alike s n) : Alike s (bH s ws line i x n) := by
  unfold bH
  split
  · exact ⟨rfl, rfl⟩
  · split
    · exact ⟨rfl, rfl⟩
    · exact h
theorem beginF_in (s : St) (ws : List Word) (line : Int) : Alike s (beginF s ws line) := bH_in (bH_in (bN_in fun _ => bN_in fun _ => bE_in _ _ _ _))
theorem numsF_in : ∀ (ws : List Word) (s : St), s.op.length ≤ 4096 → (numsF s ws).1.op.length ≤ 4096 ∧ (numsF s ws).1.cl.length ≤ s.cl.length + ws.length
  | [], s, h => ⟨h, by simp [numsF]⟩
  | w :: r, s, h => by
    obtain ⟨h1, h2⟩ := numberF_in s w h
    unfold numsF
    split
    · obtain ⟨h3, h4⟩ := numsF_in r _ h1
      exact ⟨h3, by simp; omega⟩
    · exact ⟨h1, by simp; omega⟩
theorem lineF_in (s : St) (b : List Int) (at_ : Int) (h : s.op.length ≤ 4096) : (lineF s b at_).1.op.length ≤ 4096 ∧ (lineF s b at_).1.cl.length ≤ s.cl.length + b.length + 1 := by
  have hw := wordsF_len b at_
  unfold lineF
  split
  · exact ⟨h, by simp; omega⟩
  split
  · exact ⟨h, by simp; omega⟩
  split
  · obtain ⟨h1, h2⟩ := beginF_in s (wordsF b at_) at_
    rw [h1, h2]
    exact ⟨h, by omega⟩
  · obtain ⟨h1, h2⟩ := numsF_in (wordsF b at_) s h
    exact ⟨h1, by omega⟩
end Go.Proofs.Ythnnekaimkppfaa.D
