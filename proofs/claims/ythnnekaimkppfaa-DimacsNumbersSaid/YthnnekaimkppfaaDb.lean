/- dimacs.reader.begin: the head. -/
import Derived.Test.YthnnekaimkppfaaDn
namespace Go.Proofs.Ythnnekaimkppfaa.D
open Go.RowKit Go.Proofs.YthnnekaimkppfaaW.PrintWords Go.Proofs.YthnnekaimkppfaaW.PrintLast
set_option linter.unusedVariables false
set_option linter.unusedSimpArgs false
section
variable (s : St) (ws : List Word) (line : Int)
def bE (k k2 : Int) : St × Bool := if 4 < ws.length then (failF s (rdW ws 4).1 2, false) else ({ s with vars := k, want := k2, head := true }, true)
def bN (i : Int) (most : Int) (next : Int → St × Bool) : St × Bool :=
  if (ws.length : Int) ≤ i then (failF s line 2, false)
  else if (numF (rdW ws i).2).2 = false ∨ (numF (rdW ws i).2).1 < 0 then (failF s (rdW ws i).1 2, false)
  else if most < (numF (rdW ws i).2).1 then (failF s (rdW ws i).1 1, false) else next (numF (rdW ws i).2).1
def bH (i : Int) (word : List UInt8) (next : St × Bool) : St × Bool :=
  if (ws.length : Int) ≤ i then (failF s line 2, false) else if (rdW ws i).2.toList ≠ word then (failF s (rdW ws i).1 2, false) else next
def most : Nat → Int
  | 0 => 1048576
  | _ => 262144
def lit : Nat → ByteArray
  | 0 => ⟨#[112]⟩
  | _ => ⟨#[99, 110, 102]⟩
def stg2 : Nat → Int → Int → St × Bool
  | 0, _, _ => bN s ws line ((2 + 0 : Nat) : Int) (most 0) fun k => bN s ws line ((2 + 1 : Nat) : Int) (most 1) fun k2 => bE s ws k k2
  | 1, k, _ => bN s ws line ((2 + 1 : Nat) : Int) (most 1) fun k2 => bE s ws k k2
  | _, k, k2 => bE s ws k k2
def stg1 : Nat → St × Bool
  | 0 => bH s ws line ((0 : Nat) : Int) (lit 0).toList (bH s ws line ((1 : Nat) : Int) (lit 1).toList (stg2 s ws line 0 0 0))
  | 1 => bH s ws line ((1 : Nat) : Int) (lit 1).toList (stg2 s ws line 0 0 0)
  | _ => stg2 s ws line 0 0 0
def beginF : St × Bool := stg1 s ws line 0
variable {s : St} {ws : List Word} {line : Int}
theorem bH_1 {i : Int} {x : List UInt8} {n : St × Bool} (h : (ws.length : Int) ≤ i) : bH s ws line i x n = (failF s line 2, false) := if_pos h
theorem bH_2 {i : Int} {x : List UInt8} {n : St × Bool} (h : ¬ (ws.length : Int) ≤ i) (h2 : (rdW ws i).2.toList ≠ x) : bH s ws line i x n = (failF s (rdW ws i).1 2, false) := (if_neg h).trans (if_pos h2)
theorem bH_3 {i : Int} {x : List UInt8} {n : St × Bool} (h : ¬ (ws.length : Int) ≤ i) (h2 : ¬ (rdW ws i).2.toList ≠ x) : bH s ws line i x n = n := (if_neg h).trans (if_neg h2)
theorem bN_1 {i m : Int} {n : Int → St × Bool} (h : (ws.length : Int) ≤ i) : bN s ws line i m n = (failF s line 2, false) := if_pos h
theorem bN_2 {i m : Int} {n : Int → St × Bool} (h : ¬ (ws.length : Int) ≤ i) (h2 : (numF (rdW ws i).2).2 = false ∨ (numF (rdW ws i).2).1 < 0) : bN s ws line i m n = (failF s (rdW ws i).1 2, false) := (if_neg h).trans (if_pos h2)
theorem bN_3 {i m : Int} {n : Int → St × Bool} (h : ¬ (ws.length : Int) ≤ i) (h2 : ¬ ((numF (rdW ws i).2).2 = false ∨ (numF (rdW ws i).2).1 < 0)) (h3 : m < (numF (rdW ws i).2).1) : bN s ws line i m n = (failF s (rdW ws i).1 1, false) := (if_neg h).trans ((if_neg h2).trans (if_pos h3))
theorem bN_4 {i m : Int} {n : Int → St × Bool} (h : ¬ (ws.length : Int) ≤ i) (h2 : ¬ ((numF (rdW ws i).2).2 = false ∨ (numF (rdW ws i).2).1 < 0)) (h3 : ¬ m < (numF (rdW ws i).2).1) : bN s ws line i m n = n (numF (rdW ws i).2).1 := (if_neg h).trans ((if_neg h2).trans (if_neg h3))
theorem stg1_lt {k : Nat} (h : k < 2) : stg1 s ws line k = bH s ws line k (lit k).toList (stg1 s ws line (k + 1)) := by
  match k, h with
  | 0, _ => rfl
  | 1, _ => rfl
theorem stg2_lt {k : Nat} (h : k < 2) (a b : Int) : stg2 s ws line k a b = bN s ws line ((2 + k : Nat) : Int) (most k) fun x => stg2 s ws line (k + 1) (if k = 0 then x else a) (if k = 0 then b else x) := by
  match k, h with
  | 0, _ => rfl
  | 1, _ => rfl
end
theorem two_at {w : World} {b k : Nat} {u v : Value} (hk : k < 2) (h0 : w.cell? ⟨b, 0, none⟩ = some u) (h1 : w.cell? ⟨b, 1, none⟩ = some v) : ∃ x, w.cell? ⟨b, k, none⟩ = some x := by
  match k, hk with
  | 0, _ => exact ⟨_, h0⟩
  | 1, _ => exact ⟨_, h1⟩
theorem RS.far {w0 w : World} {g : Nat} {s : St} (h : RS w0 w g s) {b j : Nat} {cs : Array Value} {t : TypeId} (hb : w.heap[b]? = some (.cells cs t (0, 0))) (h1 : t ≠ 43) (h2 : t ≠ 32) (h3 : t ≠ 3) (hge : w0.heap.size ≤ b) (u : Value) : RS w0 (w.setCell ⟨b, j, none⟩ u) g s := by
  obtain ⟨x0, x1, vC, vO, y1, y2, y3⟩ := h
  have hne : g ≠ b := blk_ne y1 hb (Ne.symm h1)
  refine ⟨x0.setCell hge _, x1, vC, vO, blk_far y1 hne _, Kd.R_set y2 hb ?_ j u, Kd.R_set y3 hb ?_ j u⟩
  · intro q hq
    rcases List.mem_cons.1 hq with rfl | hq
    · exact Ne.symm h2
    · rcases List.mem_cons.1 hq with rfl | hq
      · exact Ne.symm h3
      · cases hq
  · intro q hq
    rcases List.mem_cons.1 hq with rfl | hq
    · exact Ne.symm h3
    · cases hq
theorem Keep.new {a w : World} (h : Keep a w) {p : Addr} (hp : a.heap.size ≤ p.block) (u : Value) : Keep a (w.setCell p u) :=
  ⟨by have := h.1; simpa [World.setCell] using this, fun k cs t x h1 h2 h3 => (Below.heap_setCell w p u k (by have := blk_lt x; omega)).trans (h.2 k cs t x h1 h2 h3)⟩
set_option maxHeartbeats 2000000 in
set_option maxRecDepth 100000 in
theorem begin_calls (hN : NumOK) (w0 w : World) (g : Nat) (s : St) (A : Option Addr) (c : Nat) (ws : List Word) (line : Int) (base : Nat) (h : RS w0 w g s) (hw : k51.R 51 w base (fun _ => True) (.slice A ws.length c) ws) (hl : ws.length < 1099511627776) :
    Calls Try.prog 20 #[.pointer (some ⟨g, 0, none⟩), .slice A ws.length c, .int .i64 line] w fun e w' => e = .returned (.bool (beginF s ws line).2) ∧ RS w0 w' g (beginF s ws line).1 ∧ Keep w w' := by
  obtain ⟨R, hR⟩ : ∃ R, beginF s ws line = R := ⟨_, rfl⟩
  rw [hR]
  have HU0 := Aside0.mk (show R = stg1 s ws line 0 from hR.symm)
  clear hR
  have HS := Aside0.mk h
  have HW := Aside0.mk hw
  have HN := Aside0.mk hN
  clear h hw hN
  go_enter Try.func20, Try.ntmps20
  go_wp2
  have HS1 := Aside0.mk (HS.out.move (below_alloc (Below.refl w.heap.size w) (.cells #[.string { data := #[112] }, .string { data := #[99, 110, 102] }] 9)))
  have HK1 := Aside0.mk ((Keep.refl w).below (below_alloc (Below.refl w.heap.size w) (.cells #[.string { data := #[112] }, .string { data := #[99, 110, 102] }] 9)))
  have HW1 := Aside0.mk (Kd.R_alloc HW.out (.cells #[.string { data := #[112] }, .string { data := #[99, 110, 102] }] 9))
  have HB1 := Aside0.mk (blk_new w (.cells #[.string { data := #[112] }, .string { data := #[99, 110, 102] }] 9))
  clear HS HW
  generalize w.alloc (.cells #[.string { data := #[112] }, .string { data := #[99, 110, 102] }] 9) = w1 at HS1 HK1 HW1 HB1 ⊢
  generalize w.heap.size = b15 at HB1 ⊢
  obtain ⟨h0, h1, -, -⟩ := bo2 HB1
  have HL := Aside0.mk (show ∀ k, k < 2 → w1.cell? ⟨b15, k, none⟩ = some (.string (lit k)) from fun k hk => by
    match k, hk with
    | 0, _ => exact h0
    | 1, _ => exact h1)
  clear h0 h1
  go_loop [17] (fun i => ∃ k : Nat, k ≤ 2 ∧ i = .int .i64 k ∧ Aside0 (R = stg1 s ws line k)) (fun i => 2 - (intOf i).toNat)
  case atStart => exact ⟨0, by omega, rfl, HU0⟩
  case round =>
    obtain ⟨k, hk, rfl, HU⟩ := hrel
    clear HU0
    by_cases hk2 : k < 2
    · have hc := HL.out k hk2
      replace HU := Aside0.mk (HU.out.trans (stg1_lt hk2))
      by_cases hlen : (ws.length : Int) ≤ (k : Int)
      · have HE := Aside0.mk (HU.out.trans (bH_1 hlen))
        have q1 : decide ((ws.length : Int) ≤ (k : Int)) = true := decide_eq_true hlen
        have q1' : decide (ws.length ≤ k) = true := decide_eq_true (by omega)
        clear hlen
        go_wp2_with (go_at_call 22; (refine (fail_calls w0 _ g s line 2 HS1.out).mono ?_); rintro e w2 ⟨rfl, hr, hk⟩; have HR := Aside0.mk hr; have HK := Aside0.mk hk; clear hr hk)
        go_ret
        rw [HE.out]
        exact ⟨rfl, HR.out, HK1.out.trans HK.out⟩
      · have q1 : decide ((ws.length : Int) ≤ (k : Int)) = false := decide_eq_false hlen
        have q1' : decide (ws.length ≤ k) = false := decide_eq_false (by omega)
        have q0 : k < ws.length := by omega
        obtain ⟨ad, e1, x0, x1⟩ := at_W (Kd.R_reads' HW1.out).2.2 k (by omega) (by omega)
        subst e1
        rw [Int.toNat_natCast] at x0 x1
        by_cases hs : (rdW ws k).2.toList ≠ (lit k).toList
        · have HE := Aside0.mk (HU.out.trans (bH_2 hlen hs))
          have q2 : ((rdW ws k).2.toList != (lit k).toList) = true := bne_iff_ne.mpr hs
          have q3 : ((rdW ws k).2.toList == (lit k).toList) = false := beq_eq_false_iff_ne.mpr hs
          clear hs hlen
          go_wp2_with (go_at_call 22; (refine (fail_calls w0 _ g s (rdW ws k).1 2 HS1.out).mono ?_); rintro e w2 ⟨rfl, hr, hk⟩; have HR := Aside0.mk hr; have HK := Aside0.mk hk; clear hr hk)
          go_ret
          rw [HE.out]
          exact ⟨rfl, HR.out, HK1.out.trans HK.out⟩
        · have HE := Aside0.mk (HU.out.trans (bH_3 hlen hs))
          have hs' : (rdW ws k).2.toList = (lit k).toList := Classical.not_not.mp hs
          have q2 : ((rdW ws k).2.toList != (lit k).toList) = false := bne_eq_false_iff_eq.mpr hs'
          have q3 : ((rdW ws k).2.toList == (lit k).toList) = true := beq_iff_eq.mpr hs'
          clear hs hs' hlen
          go_wp2
          go_round
          case rel => exact ⟨k + 1, by omega, by go_num, HE⟩
          case measure => simp [intOf]; omega
    · obtain rfl : k = 2 := by omega
      go_wp2
      have s1 : ∀ (w : World) (o : Obj), (w.alloc o).heap.size = w.heap.size + 1 := fun w o => by simp
      have hBw : Below w1.heap.size w1 ((w1.alloc (.cells #[.int .i64 0, .int .i64 0] 56)).alloc (.cells #[.int .i64 1048576, .int .i64 262144] 3)) := below_alloc (below_alloc (Below.refl _ _) _) _
      have HS2 := Aside0.mk (HS1.out.move hBw)
      have HK2 := Aside0.mk (HK1.out.below hBw)
      have HW2 := Aside0.mk (Kd.R_below HW1.out hBw)
      have HA2 := Aside0.mk (blk_alloc (blk_new w1 (.cells #[.int .i64 0, .int .i64 0] 56)) (.cells #[.int .i64 1048576, .int .i64 262144] 3))
      have HL2 := Aside0.mk (show ((w1.alloc (.cells #[.int .i64 0, .int .i64 0] 56)).alloc (.cells #[.int .i64 1048576, .int .i64 262144] 3)).heap[w1.heap.size + 1]? = some (.cells #[.int .i64 1048576, .int .i64 262144] 3 (0, 0)) by rw [← s1 w1 (.cells #[.int .i64 0, .int .i64 0] 56)]; exact blk_new _ _)
      have HGE := Aside0.mk (show w0.heap.size ≤ w1.heap.size from HS1.out.below.size)
      have HGW := Aside0.mk (show w.heap.size ≤ w1.heap.size from HK1.out.1)
      have HGN := Aside0.mk (show g < w1.heap.size by obtain ⟨vC, vO, hg, _, _⟩ := HS1.out.st; exact blk_lt hg)
      have HWB := Aside0.mk (Kd.R_bound HW1.out)
      clear hBw HS1 HK1 HW1 HB1 HL
      generalize (w1.alloc (.cells #[.int .i64 0, .int .i64 0] 56)).alloc (.cells #[.int .i64 1048576, .int .i64 262144] 3) = w2 at HS2 HK2 HW2 HA2 HL2 ⊢
      generalize w1.heap.size = bA at HA2 HL2 HGE HGW HGN HWB ⊢
      go_loopw [49] (fun i wr => ∃ (k : Nat) (n0 n1 : Int), k ≤ 2 ∧ i = .int .i64 k ∧ Aside0 (R = stg2 s ws line k n0 n1) ∧ Aside0 (RS w0 wr g s) ∧ Aside0 (Keep w wr) ∧ Aside0 (k51.R 51 wr base (fun _ => True) (.slice A ws.length c) ws) ∧ Aside0 (wr.heap[bA]? = some (.cells #[.int .i64 n0, .int .i64 n1] 56 (0, 0))) ∧ Aside0 (wr.heap[bA + 1]? = some (.cells #[.int .i64 1048576, .int .i64 262144] 3 (0, 0)))) (fun i _ => 2 - (intOf i).toNat)
      case atStart => exact ⟨0, 0, 0, by omega, rfl, HU, HS2, HK2, HW2, HA2, HL2⟩
      case round =>
        clear HU HS2 HK2 HW2 HA2 HL2
        obtain ⟨k, n0, n1, hk, rfl, HU, HS, HK, HW, HA, HL⟩ := hrel
        have hsum : IntKind.i64.wrap (2 + (k : Int)) = 2 + (k : Int) := IntWalk.i64_in _ (by omega)
        by_cases hk2 : k < 2
        · have hc : wr.cell? ⟨bA + 1, k, none⟩ = some (.int .i64 (most k)) := by
            obtain ⟨c0, c1, -, -⟩ := bo2 HL
            match k, hk2 with
            | 0, _ => exact c0
            | 1, _ => exact c1
          replace HU := Aside0.mk (HU.out.trans (stg2_lt hk2 n0 n1))
          by_cases hlen : (ws.length : Int) ≤ ((2 + k : Nat) : Int)
          · have HE := Aside0.mk (HU.out.trans (bN_1 hlen))
            have q1 : decide ((ws.length : Int) ≤ 2 + (k : Int)) = true := decide_eq_true (by omega)
            have q1' : decide (ws.length ≤ 2 + k) = true := decide_eq_true (by omega)
            clear hlen
            go_wp2_with (go_at_call 22; (refine (fail_calls w0 _ g s line 2 HS.out).mono ?_); rintro e w3 ⟨rfl, hr, hk⟩; have HR := Aside0.mk hr; have HKK := Aside0.mk hk; clear hr hk)
            go_ret
            rw [HE.out]
            exact ⟨rfl, HR.out, HK.out.trans HKK.out⟩
          · have q1 : decide ((ws.length : Int) ≤ 2 + (k : Int)) = false := decide_eq_false (by omega)
            have q1' : decide (ws.length ≤ 2 + k) = false := decide_eq_false (by omega)
            have q0 : 2 + (k : Int) < ws.length := by omega
            obtain ⟨ad, e1, x0, x1⟩ := at_W (Kd.R_reads' HW.out).2.2 ((2 + k : Nat) : Int) (by omega) (by omega)
            subst e1
            have hz : (2 + (k : Int)).toNat = 2 + k := by omega
            rw [Int.toNat_natCast] at x0 x1
            have HNW := Aside0.mk (fun w => HN.out (rdW ws ((2 + k : Nat) : Int)).2 w)
            have HU4 := fun h2 h3 => HU.out.trans (bN_4 hlen h2 h3)
            have HU3 := fun h2 h3 => HU.out.trans (bN_3 hlen h2 h3)
            have HU2 := fun h2 => HU.out.trans (bN_2 hlen h2)
            clear HU hlen
            generalize hwd : rdW ws ((2 + k : Nat) : Int) = wd at x0 x1 HNW HU4 HU3 HU2
            generalize hnn : numF wd.2 = nn at HNW HU4 HU3 HU2
            clear hwd hnn
            obtain ⟨n, ok⟩ := nn
            simp only at HU4 HU3 HU2
            cases ok with
            | false =>
              have HE := Aside0.mk (HU2 (.inl rfl))
              clear HU2 HU3 HU4
              go_wp2_with (first | (go_at_call 6; (refine (HNW.out _).mono ?_); rintro e w3 ⟨rfl, hd⟩; have HS3 := Aside0.mk ((HS.out.move (below_alloc (Below.refl _ _) _)).drawn hd); have HK3 := Aside0.mk ((HK.out.below (below_alloc (Below.refl _ _) _)).drawn hd); have HW3 := Aside0.mk (show k51.R 51 w3 base (fun _ => True) (.slice (some ad) ws.length c) ws by obtain ⟨nd, rfl⟩ := hd; exact Kd.R_drewN (Kd.R_alloc HW.out _) _); have HA3 := Aside0.mk (show w3.heap[bA]? = some (.cells #[.int .i64 n0, .int .i64 n1] 56 (0, 0)) by obtain ⟨nd, rfl⟩ := hd; exact blk_alloc HA.out _); have HL3 := Aside0.mk (show w3.heap[bA + 1]? = some (.cells #[.int .i64 1048576, .int .i64 262144] 3 (0, 0)) by obtain ⟨nd, rfl⟩ := hd; exact blk_alloc HL.out _); have HX3 := Aside0.mk (show w3.heap[wr.heap.size]? = some (.cells #[.int .i64 wd.1, .string wd.2] 51 (0, 0)) by obtain ⟨nd, rfl⟩ := hd; exact blk_new _ _); clear hd; obtain ⟨y0, y1, -, -⟩ := bo2 HX3; obtain ⟨z0, z1, -, -⟩ := bo2 HA3; obtain ⟨zv, zk⟩ := two_at hk2 z0 z1; have zf := blk_frozen HA3.out k; clear z0 z1) | (go_at_call 22; (refine (fail_calls w0 _ g s wd.1 2 HS3.out).mono ?_); rintro e w4 ⟨rfl, hr, hk⟩; have HR := Aside0.mk hr; have HKK := Aside0.mk hk; clear hr hk))
              go_ret
              rw [HE.out]
              exact ⟨rfl, HR.out, HK3.out.trans HKK.out⟩
            | true =>
              by_cases hneg : n < 0
              · have HE := Aside0.mk (HU2 (.inr hneg))
                have q2 : decide (n < 0) = true := decide_eq_true hneg
                clear HU2 HU3 HU4 hneg
                go_wp2_with (first | (go_at_call 6; (refine (HNW.out _).mono ?_); rintro e w3 ⟨rfl, hd⟩; have HS3 := Aside0.mk ((HS.out.move (below_alloc (Below.refl _ _) _)).drawn hd); have HK3 := Aside0.mk ((HK.out.below (below_alloc (Below.refl _ _) _)).drawn hd); have HW3 := Aside0.mk (show k51.R 51 w3 base (fun _ => True) (.slice (some ad) ws.length c) ws by obtain ⟨nd, rfl⟩ := hd; exact Kd.R_drewN (Kd.R_alloc HW.out _) _); have HA3 := Aside0.mk (show w3.heap[bA]? = some (.cells #[.int .i64 n0, .int .i64 n1] 56 (0, 0)) by obtain ⟨nd, rfl⟩ := hd; exact blk_alloc HA.out _); have HL3 := Aside0.mk (show w3.heap[bA + 1]? = some (.cells #[.int .i64 1048576, .int .i64 262144] 3 (0, 0)) by obtain ⟨nd, rfl⟩ := hd; exact blk_alloc HL.out _); have HX3 := Aside0.mk (show w3.heap[wr.heap.size]? = some (.cells #[.int .i64 wd.1, .string wd.2] 51 (0, 0)) by obtain ⟨nd, rfl⟩ := hd; exact blk_new _ _); clear hd; obtain ⟨y0, y1, -, -⟩ := bo2 HX3; obtain ⟨z0, z1, -, -⟩ := bo2 HA3; obtain ⟨zv, zk⟩ := two_at hk2 z0 z1; have zf := blk_frozen HA3.out k; clear z0 z1) | (go_at_call 22; (refine (fail_calls w0 _ g s wd.1 2 HS3.out).mono ?_); rintro e w4 ⟨rfl, hr, hk⟩; have HR := Aside0.mk hr; have HKK := Aside0.mk hk; clear hr hk))
                go_ret
                rw [HE.out]
                exact ⟨rfl, HR.out, HK3.out.trans HKK.out⟩
              · have q2 : decide (n < 0) = false := decide_eq_false hneg
                by_cases hm : most k < n
                · have HE := Aside0.mk (HU3 (by simpa using hneg) hm)
                  have q3 : decide (most k < n) = true := decide_eq_true hm
                  clear HU2 HU3 HU4 hneg hm
                  go_wp2_with (first | (go_at_call 6; (refine (HNW.out _).mono ?_); rintro e w3 ⟨rfl, hd⟩; have HS3 := Aside0.mk ((HS.out.move (below_alloc (Below.refl _ _) _)).drawn hd); have HK3 := Aside0.mk ((HK.out.below (below_alloc (Below.refl _ _) _)).drawn hd); have HW3 := Aside0.mk (show k51.R 51 w3 base (fun _ => True) (.slice (some ad) ws.length c) ws by obtain ⟨nd, rfl⟩ := hd; exact Kd.R_drewN (Kd.R_alloc HW.out _) _); have HA3 := Aside0.mk (show w3.heap[bA]? = some (.cells #[.int .i64 n0, .int .i64 n1] 56 (0, 0)) by obtain ⟨nd, rfl⟩ := hd; exact blk_alloc HA.out _); have HL3 := Aside0.mk (show w3.heap[bA + 1]? = some (.cells #[.int .i64 1048576, .int .i64 262144] 3 (0, 0)) by obtain ⟨nd, rfl⟩ := hd; exact blk_alloc HL.out _); have HX3 := Aside0.mk (show w3.heap[wr.heap.size]? = some (.cells #[.int .i64 wd.1, .string wd.2] 51 (0, 0)) by obtain ⟨nd, rfl⟩ := hd; exact blk_new _ _); clear hd; obtain ⟨y0, y1, -, -⟩ := bo2 HX3; obtain ⟨z0, z1, -, -⟩ := bo2 HA3; obtain ⟨zv, zk⟩ := two_at hk2 z0 z1; have zf := blk_frozen HA3.out k; clear z0 z1) | (go_at_call 22; (refine (fail_calls w0 _ g s wd.1 1 HS3.out).mono ?_); rintro e w4 ⟨rfl, hr, hk⟩; have HR := Aside0.mk hr; have HKK := Aside0.mk hk; clear hr hk))
                  go_ret
                  rw [HE.out]
                  exact ⟨rfl, HR.out, HK3.out.trans HKK.out⟩
                · have HE := Aside0.mk (HU4 (by simpa using hneg) hm)
                  have q3 : decide (most k < n) = false := decide_eq_false hm
                  clear HU2 HU3 HU4 hneg hm
                  go_wp2_with (first | (go_at_call 6; (refine (HNW.out _).mono ?_); rintro e w3 ⟨rfl, hd⟩; have HS3 := Aside0.mk ((HS.out.move (below_alloc (Below.refl _ _) _)).drawn hd); have HK3 := Aside0.mk ((HK.out.below (below_alloc (Below.refl _ _) _)).drawn hd); have HW3 := Aside0.mk (show k51.R 51 w3 base (fun _ => True) (.slice (some ad) ws.length c) ws by obtain ⟨nd, rfl⟩ := hd; exact Kd.R_drewN (Kd.R_alloc HW.out _) _); have HA3 := Aside0.mk (show w3.heap[bA]? = some (.cells #[.int .i64 n0, .int .i64 n1] 56 (0, 0)) by obtain ⟨nd, rfl⟩ := hd; exact blk_alloc HA.out _); have HL3 := Aside0.mk (show w3.heap[bA + 1]? = some (.cells #[.int .i64 1048576, .int .i64 262144] 3 (0, 0)) by obtain ⟨nd, rfl⟩ := hd; exact blk_alloc HL.out _); have HX3 := Aside0.mk (show w3.heap[wr.heap.size]? = some (.cells #[.int .i64 wd.1, .string wd.2] 51 (0, 0)) by obtain ⟨nd, rfl⟩ := hd; exact blk_new _ _); clear hd; obtain ⟨y0, y1, -, -⟩ := bo2 HX3; obtain ⟨z0, z1, -, -⟩ := bo2 HA3; obtain ⟨zv, zk⟩ := two_at hk2 z0 z1; have zf := blk_frozen HA3.out k; clear z0 z1))
                  go_roundw
                  case rel =>
                    refine ⟨k + 1, (if k = 0 then n else n0), (if k = 0 then n1 else n), by omega, by go_num, HE, ⟨HS3.out.far HA3.out (by decide) (by decide) (by decide) HGE.out _⟩, ⟨HK3.out.new HGW.out _⟩, ⟨Kd.R_set HW3.out HA3.out (by decide) k _⟩, ⟨blk_put HA3.out k _ ?_⟩, ⟨(Below.heap_setCell _ _ _ _ (by simp)).trans HL3.out⟩⟩
                    match k, hk2 with
                    | 0, _ => rfl
                    | 1, _ => rfl
                  case measure => simp [intOf]; omega
        · obtain rfl : k = 2 := by omega
          have HU2 := HU.out
          change R = bE s ws n0 n1 at HU2
          by_cases h4 : 4 < ws.length
          · have HE := Aside0.mk (HU2.trans (show bE s ws n0 n1 = (failF s (rdW ws 4).1 2, false) from if_pos h4))
            have q1 : decide ((4 : Int) < (ws.length : Int)) = true := decide_eq_true (by omega)
            have q1' : decide (4 < ws.length) = true := decide_eq_true h4
            obtain ⟨ad, e1, x0, x1⟩ := at_W (Kd.R_reads' HW.out).2.2 4 (by omega) (by omega)
            subst e1
            have x0' : wr.cell? ⟨ad.block, ad.off + 8, none⟩ = some (.int .i64 (rdW ws 4).1) := by
              rw [← show ad.add 8 = ⟨ad.block, ad.off + 8, none⟩ by unfold Addr.add; simp]
              exact x0
            clear x0 x1
            clear HU2 HU
            go_wp2_with (go_at_call 22; (refine (fail_calls w0 _ g s (rdW ws 4).1 2 HS.out).mono ?_); rintro e w3 ⟨rfl, hr, hk⟩; have HR := Aside0.mk hr; have HKK := Aside0.mk hk; clear hr hk)
            go_ret
            rw [HE.out]
            exact ⟨rfl, HR.out, HK.out.trans HKK.out⟩
          · have HE := Aside0.mk (HU2.trans (show bE s ws n0 n1 = _ from if_neg h4))
            have q1 : decide ((4 : Int) < (ws.length : Int)) = false := decide_eq_false (by omega)
            have q1' : decide (4 < ws.length) = false := decide_eq_false h4
            clear HU2 HU h4
            go_upto_region 25 with (fail)
            obtain ⟨vC, vO, hg1, hC1, hO1⟩ := HS.out.st
            have HG2 := Aside0.mk (blk_drew hg1)
            have HC2 := Aside0.mk (Kd.R_drew hC1)
            have HO2 := Aside0.mk (Kd.R_drew hO1)
            have HB2 := Aside0.mk HS.out.below.drew
            have HGG := Aside0.mk HS.out.ge
            have HK2 := Aside0.mk (HK.out.below (below_drew1 (Below.refl _ _)))
            have HA2 := Aside0.mk (blk_drew HA.out)
            clear hg1 hC1 hO1 HS HK HA HL HW HWB
            obtain ⟨a0, a1, -, -⟩ := bo2 HA2
            refine start_ (n := 17) (S := fun w' => w'.cell? ⟨bA, 0, none⟩ = some (.int .i64 n0) ∧ w'.cell? ⟨bA, 1, none⟩ = some (.int .i64 n1)) (ds := []) #[false, false, false, false, false, false, false, false, false, false, false, false, false, false, false, false, false] (by kernel_rfl) rfl rfl ⟨a0, a1⟩ (fun hHeld => ?_)
            clear a0 a1
            generalize wr.drew = w3 at HG2 HC2 HO2 HB2 HK2 HA2 hHeld ⊢
            refine sv 0 105 ?_
            refine sv 3 108 ?_
            refine sr 4 109 hHeld ?_
            refine sv 5 110 ?_
            refine sr 6 111 hHeld ?_
            refine sv 7 112 ?_
            refine sv 8 113 ?_
            refine sv 9 114 ?_
            refine sv 1 106 ?_
            refine sv 2 107 ?_
            have f0 := blk_frozen HG2.out 0
            obtain ⟨d0, -, d2, d3, -, -, -, -⟩ := cells_S HG2
            refine one_ (i := 10) (N := none) #[true, true, true, true, true, true, true, true, true, true, true, false, false, false, false, false, false] rfl rfl (by kernel_rfl) (by decide) (fun K hK => ?_)
            refine skip_ (w1 := w3.setCell ⟨g, 0, none⟩ (.int .i64 n0)) (by rfl) rfl (by go_simp) ?_
            have HG3 := Aside0.mk (blk_put (cs' := cellsS ({ s with vars := n0 }) vC vO) HG2.out 0 (.int .i64 n0) rfl)
            have HC3 := Aside0.mk (Kd.R_set HC2.out HG2.out (by decide) 0 (.int .i64 n0))
            have HO3 := Aside0.mk (Kd.R_set HO2.out HG2.out (by decide) 0 (.int .i64 n0))
            have HB3 := Aside0.mk (HB2.out.setCell (p := ⟨g, 0, none⟩) HGG.out (.int .i64 n0))
            have HK3 := Aside0.mk (HK2.out.set (j := 0) HG2.out (.inl rfl) (.int .i64 n0))
            have HA3 := Aside0.mk ((Below.heap_setCell w3 ⟨g, 0, none⟩ (.int .i64 n0) bA (by have := HGN.out; simp; omega)).trans HA2.out)
            refine hK.out _ _ ⟨(bo2 HA3).1, (bo2 HA3).2.1⟩ (fun hHeld3 => ?_)
            clear hK K f0 d0 d2 d3 HG2 HC2 HO2 HB2 HK2 HA2
            generalize w3.setCell ⟨g, 0, none⟩ (.int .i64 n0) = w4 at HG3 HC3 HO3 HB3 HK3 HA3 hHeld3 ⊢
            refine sv 11 115 ?_
            refine sv 12 116 ?_
            have f3 := blk_frozen HG3.out 3
            obtain ⟨d0, -, d2, d3, -, -, -, -⟩ := cells_S HG3
            refine one_ (i := 13) (N := none) #[true, true, true, true, true, true, true, true, true, true, true, true, true, true, false, false, false] rfl rfl (by kernel_rfl) (by decide) (fun K hK => ?_)
            refine skip_ (w1 := w4.setCell ⟨g, 3, none⟩ (.int .i64 n1)) (by rfl) rfl (by go_simp) ?_
            have HG4 := Aside0.mk (blk_put (cs' := cellsS ({ s with vars := n0, want := n1 }) vC vO) HG3.out 3 (.int .i64 n1) rfl)
            have HC4 := Aside0.mk (Kd.R_set HC3.out HG3.out (by decide) 3 (.int .i64 n1))
            have HO4 := Aside0.mk (Kd.R_set HO3.out HG3.out (by decide) 3 (.int .i64 n1))
            have HB4 := Aside0.mk (HB3.out.setCell (p := ⟨g, 3, none⟩) HGG.out (.int .i64 n1))
            have HK4 := Aside0.mk (HK3.out.set (j := 3) HG3.out (.inl rfl) (.int .i64 n1))
            have HA4 := Aside0.mk ((Below.heap_setCell w4 ⟨g, 3, none⟩ (.int .i64 n1) bA (by have := HGN.out; simp; omega)).trans HA3.out)
            refine hK.out _ _ ⟨(bo2 HA4).1, (bo2 HA4).2.1⟩ (fun hHeld4 => ?_)
            clear hK K f3 d0 d2 d3 HG3 HC3 HO3 HB3 HK3 HA3
            generalize w4.setCell ⟨g, 3, none⟩ (.int .i64 n1) = w5 at HG4 HC4 HO4 HB4 HK4 HA4 hHeld4 ⊢
            refine sv 14 117 ?_
            refine sv 15 118 ?_
            have f2 := blk_frozen HG4.out 2
            obtain ⟨d0, -, d2, d3, -, -, -, -⟩ := cells_S HG4
            refine one_ (i := 16) (N := none) #[true, true, true, true, true, true, true, true, true, true, true, true, true, true, true, true, true] rfl rfl (by kernel_rfl) (by decide) (fun K hK => ?_)
            refine skip_ (w1 := w5.setCell ⟨g, 2, none⟩ (.bool true)) (by rfl) rfl (by go_simp) ?_
            have HG5 := Aside0.mk (blk_put (cs' := cellsS ({ s with vars := n0, want := n1, head := true }) vC vO) HG4.out 2 (.bool true) rfl)
            have HC5 := Aside0.mk (Kd.R_set HC4.out HG4.out (by decide) 2 (.bool true))
            have HO5 := Aside0.mk (Kd.R_set HO4.out HG4.out (by decide) 2 (.bool true))
            have HB5 := Aside0.mk (HB4.out.setCell (p := ⟨g, 2, none⟩) HGG.out (.bool true))
            have HK5 := Aside0.mk (HK4.out.set (j := 2) HG4.out (.inl rfl) (.bool true))
            have HA5 := Aside0.mk ((Below.heap_setCell w5 ⟨g, 2, none⟩ (.bool true) bA (by have := HGN.out; simp; omega)).trans HA4.out)
            refine hK.out _ _ ⟨(bo2 HA5).1, (bo2 HA5).2.1⟩ (fun hHeld5 => ?_)
            clear hK K f2 d0 d2 d3 HG4 HC4 HO4 HB4 HK4 HA4
            generalize w5.setCell ⟨g, 2, none⟩ (.bool true) = w6 at HG5 HC5 HO5 HB5 HK5 HA5 hHeld5 ⊢
            refine done_ (by kernel_rfl) ?_
            go_wp2
            go_ret
            rw [HE.out]
            exact ⟨rfl, ⟨HB5.out, HGG.out, vC, vO, HG5.out, HC5.out, HO5.out⟩, HK5.out⟩
end Go.Proofs.Ythnnekaimkppfaa.D
