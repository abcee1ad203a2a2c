/- fathomlaw03.awake. -/
import Derived.Test.YthnnekaimkppfaaDf
namespace Go.Proofs.Ythnnekaimkppfaa.D
open Go.RowKit Go.Proofs.YthnnekaimkppfaaW.PrintWords Go.Proofs.YthnnekaimkppfaaW.PrintLast
set_option linter.unusedVariables false
set_option linter.unusedSimpArgs false
theorem awake_read : readF [112, 32, 99, 110, 102, 32, 50, 32, 49, 10, 49, 32, 45, 50, 32, 48, 10] = ((2, [[1, -2]]), 0, 0) := by decide +kernel
theorem awake_calls0 (hN : NumOK) (w : World) (A : Option Addr) (c : Nat) (h : (Kd.int .u8).C w A 17 [112, 32, 99, 110, 102, 32, 50, 32, 49, 10, 49, 32, 45, 50, 32, 48, 10]) (hc : 17 ≤ c) :
    Calls Try.prog 11 #[.slice A 17 c] w fun e w' => ∃ v, e = .returned (.tuple #[.agg #[.int .i64 2, v], .int .i64 0, .int .i64 0]) ∧ kR.R 32 w' w.heap.size (fun _ => True) v [[1, -2]] ∧ Below w.heap.size w w' := by
  have hx := read_calls hN w A c _ h hc
  rw [awake_read] at hx
  exact hx
theorem atL {w : World} {A : Option Addr} {n : Nat} {xs : List (List Int)} (h : kR.C w A n xs) (i : Int) (h0 : 0 ≤ i) (h1 : i < n) : ∃ ad A0 c0, A = some ad ∧ w.cell? (ad.add i.toNat) = some (.slice A0 (xs.getD i.toNat []).length c0) ∧ (xs.getD i.toNat []).length ≤ c0 ∧ (Kd.int .i64).C w A0 (xs.getD i.toNat []).length (xs.getD i.toNat []) := by
  obtain ⟨ad, c, e, _, hK, hc0⟩ := Kd.C_get h ([] : List Int) i h0 h1
  have hc : ∀ j u, c[j]? = some u → w.cell? (ad.add (i.toNat * 1 + j)) = some u := hc0
  obtain ⟨A0, c0, rfl, l0, g0⟩ := hK
  exact ⟨ad, A0, c0, e, by have hq := hc 0 _ rfl; rwa [Nat.mul_one, Nat.add_zero] at hq, l0, g0⟩
theorem awake_cells {w : World} {b : Nat} {v : Value} (h : kR.R 32 w b (fun _ => True) v [[1, -2]]) : ∃ ad c a0 c0, v = .slice (some ad) 1 c ∧ w.cell? ad = some (.slice (some a0) 2 c0) ∧ w.cell? ⟨a0.block, a0.off + 1, none⟩ = some (.int .i64 (-2)) := by
  obtain ⟨A, c, rfl, _, hC⟩ := Kd.R_reads h
  obtain ⟨ad, A0, c0, rfl, h1, _, h2⟩ := atL hC 0 (by decide) (by decide)
  obtain ⟨a0, rfl, h3⟩ := Kd.at_int h2 1 (by decide) (by decide)
  exact ⟨ad, c, a0, c0, rfl, by simpa [Addr.add] using h1, by have h4 : w.cell? (a0.add 1) = some (.int .i64 (-2)) := h3; simpa [Addr.add] using h4⟩
set_option maxHeartbeats 2000000 in
set_option maxRecDepth 100000 in
theorem awake_calls (hN : NumOK) (w : World) :
    Calls Try.prog 5 #[] w fun e w' => e = .returned (.bool true) ∧ Below w.heap.size w w' := by
  have HN := Aside0.mk hN
  clear hN
  go_enter Try.func5, Try.ntmps5
  go_wp2_with (first | ((with_reducible refine gate_dst (N := 5) rfl ?_); (try (refine gate_guard (by rfl) ?_; dsimp only)); refine lit_event 30 5 ?hg (N := 5) ?hd (xs := ([112, 32, 99, 110, 102, 32, 50, 32, 49, 10, 49, 32, 45, 50, 32, 48, 10] : List Int)) (inner := [.int .u8 112, .int .u8 32, .int .u8 99, .int .u8 110, .int .u8 102, .int .u8 32, .int .u8 50, .int .u8 32, .int .u8 49, .int .u8 10, .int .u8 49, .int .u8 32, .int .u8 45, .int .u8 50, .int .u8 32, .int .u8 48, .int .u8 10]) rfl ?hr Try.underlying30 Try.underlying5 (by simp) ?_; (case hd => rfl); (case hg => rfl); (case hr => first | (go_simp; done) | (go_simp; rfl)); intro v1 wq w2 hcv ho hb; have HO := Aside0.mk ho; have HB := Aside0.mk hb; clear hb ho; obtain ⟨A1, c1, e1⟩ := ReadL.slice HO.out; subst e1; have hcw : (convert 30 30 (.slice A1 17 c1)).run Try.prog wq = .ok (.slice A1 17 c1) w2 := hcv) | (go_at_call 11; obtain ⟨A3, c3, e3, l3, h3⟩ := HO.out; injection e3 with e31 e32 e33; subst e31; subst e33; refine (awake_calls0 HN.out _ _ _ h3 l3).mono ?_; rintro e w4 ⟨v, rfl, hr, hb⟩; have HB4 := Aside0.mk (HB.out.trans (hb.mono HB.out.size)); obtain ⟨ad, c, a0, c0, rfl, z1, z2⟩ := awake_cells hr; have z3 : ∀ o, (w4.alloc o).cell? ad = _ := fun o => (World.cell?_alloc_some _ _ o (by rw [z1]; rfl)).trans z1; have z4 : ∀ o, (w4.alloc o).cell? ⟨a0.block, a0.off + 1, none⟩ = _ := fun o => (World.cell?_alloc_some _ _ o (by rw [z2]; rfl)).trans z2; clear hr hb z1 z2))
  go_ret
  exact ⟨rfl, below_alloc HB4.out _⟩
end Go.Proofs.Ythnnekaimkppfaa.D
