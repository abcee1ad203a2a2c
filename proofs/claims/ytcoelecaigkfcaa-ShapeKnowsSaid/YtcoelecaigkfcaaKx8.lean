-- Laid by drive.py (a program of the session's) out of the translation. Lean checks it.
import Derived.Test.YtcoelecaigkfcaaKx0
import Derived.Test.YtcoelecaigkfcaaKx3
import Derived.Test.YtcoelecaigkfcaaKx7
namespace Go.Proofs.Ytcoelecaigkfcaa.K
open Go.RowKit Go.Proofs.YtcoelecaigkfcaaW.PrintWords Go.Proofs.YtcoelecaigkfcaaW.PrintLast
set_option linter.unusedVariables false
set_option linter.unusedSimpArgs false

-- kind st:38
/-- Where the first event of a goroutine and a place stands. -/
def shape_At.at_ : List S38 → Int → Int → Int
  | [], _, _ => -1
  | e :: l, a, b => if e.f0 = a ∧ e.f1 = b then 0 else if shape_At.at_ l a b = -1 then -1 else shape_At.at_ l a b + 1
def shape_At.f (k : Nat) (l0_0 : List S38) (l0_1 : List Int) (a1 a2 : Int) : Option Int := (shape_Check.f k l0_0 l0_1).bind fun t => if t = 0 then some (shape_At.at_ l0_0 a1 a2) else some (-1)
theorem shape_At.mono : ∀ a0 a1 a2 a3 k, LeO (shape_At.f k a0 a1 a2 a3) (shape_At.f (k + 1) a0 a1 a2 a3) := by
  intro a0 a1 a2 a3 k
  unfold shape_At.f
  exact LeO.bind (shape_Check.mono _ _ _) (fun _ => LeO.refl _)
theorem shape_At.at_ge (a b : Int) : ∀ l, -1 ≤ shape_At.at_ l a b
  | [] => by unfold shape_At.at_; omega
  | e :: l => by
    have := shape_At.at_ge a b l
    unfold shape_At.at_
    split
    · omega
    · split <;> omega
theorem shape_At.at_none (a b : Int) : ∀ l : List S38, (∀ i, i < l.length → ¬ ((l.getD i z38).f0 = a ∧ (l.getD i z38).f1 = b)) → shape_At.at_ l a b = -1
  | [], _ => rfl
  | e :: l, h => by
    unfold shape_At.at_
    rw [if_neg (by simpa using h 0 (by simp)), if_pos (shape_At.at_none a b l (fun i hi => by simpa using h (i + 1) (by simpa using hi)))]
theorem shape_At.at_some (a b : Int) : ∀ (l : List S38) (j : Nat), j < l.length → (∀ i, i < j → ¬ ((l.getD i z38).f0 = a ∧ (l.getD i z38).f1 = b)) → ((l.getD j z38).f0 = a ∧ (l.getD j z38).f1 = b) → shape_At.at_ l a b = j
  | [], j, h, _, _ => by simp at h
  | e :: l, 0, _, _, h => by
    unfold shape_At.at_
    rw [if_pos (by simpa using h)]
    rfl
  | e :: l, j + 1, h, hn, hj => by
    have := shape_At.at_some a b l j (by simpa using h) (fun i hi => by simpa using hn (i + 1) (by omega)) (by simpa using hj)
    unfold shape_At.at_
    rw [if_neg (by simpa using hn 0 (by omega)), this, if_neg (by omega)]
    omega
/-- The closure: is an event the one? -/
def shape_At.is (e : S38) (a b : Int) : Bool := decide (e.f0 = a ∧ e.f1 = b)
theorem shape_At.closure (x0 x1 x2 x3 a b : Int) (g1 g2 : Nat) (W : World) (h1 : W.heap[g1]? = some (.cells #[.int .i64 a] 3 (0, 0))) (h2 : W.heap[g2]? = some (.cells #[.int .i64 b] 3 (0, 0))) :
    Calls Try.prog 23 #[.agg #[.int .i64 x0, .int .i64 x1, .int .i64 x2, .int .i64 x3], .pointer (some ⟨g1, 0, none⟩), .pointer (some ⟨g2, 0, none⟩)] W fun e w' => e = .returned (.bool (shape_At.is ⟨x0, x1, x2, x3⟩ a b)) ∧ Below W.heap.size W w' := by
  have H1 := Aside0.mk h1
  have H2 := Aside0.mk h2
  clear h1 h2
  have hu38 := Try.underlying38
  by_cases c1 : x0 = a
  · have c1b : (x0 == a) = true := beq_iff_eq.mpr c1
    by_cases c2 : x1 = b
    · have c2b : (x1 == b) = true := beq_iff_eq.mpr c2
      have e : shape_At.is ⟨x0, x1, x2, x3⟩ a b = true := decide_eq_true ⟨c1, c2⟩
      rw [e]
      clear e c1 c2
      go_enter Try.func23, Try.ntmps23
      go_wp2_with (first | ((with_reducible refine gate_dst (N := 3) rfl ?_); refine bx 3 #[.int .i64 x0, .int .i64 x1, .int .i64 x2, .int .i64 x3] 38 ?_; intro gb hg w1 hbox hb; have HB := Aside0.mk hb; have hcz0 : w1.cell? ⟨gb, 0, none⟩ = some (.int .i64 x0) := (blk_cell hbox 0).trans rfl; have hcz1 : w1.cell? ⟨gb, 1, none⟩ = some (.int .i64 x1) := (blk_cell hbox 1).trans rfl; have hca : w1.cell? ⟨g1, 0, none⟩ = some (.int .i64 a) := (blk_cell (blk_below H1.out hb) 0).trans rfl; have hcb : w1.cell? ⟨g2, 0, none⟩ = some (.int .i64 b) := (blk_cell (blk_below H2.out hb) 0).trans rfl; clear hbox hb hg))
      repeat (go_quiet (fail); try go_wp2)
      go_ret
      exact ⟨rs, bb⟩
    · have c2b : (x1 == b) = false := beq_eq_false_iff_ne.mpr c2
      have e : shape_At.is ⟨x0, x1, x2, x3⟩ a b = false := decide_eq_false (fun h => c2 h.2)
      rw [e]
      clear e c1 c2
      go_enter Try.func23, Try.ntmps23
      go_wp2_with (first | ((with_reducible refine gate_dst (N := 3) rfl ?_); refine bx 3 #[.int .i64 x0, .int .i64 x1, .int .i64 x2, .int .i64 x3] 38 ?_; intro gb hg w1 hbox hb; have HB := Aside0.mk hb; have hcz0 : w1.cell? ⟨gb, 0, none⟩ = some (.int .i64 x0) := (blk_cell hbox 0).trans rfl; have hcz1 : w1.cell? ⟨gb, 1, none⟩ = some (.int .i64 x1) := (blk_cell hbox 1).trans rfl; have hca : w1.cell? ⟨g1, 0, none⟩ = some (.int .i64 a) := (blk_cell (blk_below H1.out hb) 0).trans rfl; have hcb : w1.cell? ⟨g2, 0, none⟩ = some (.int .i64 b) := (blk_cell (blk_below H2.out hb) 0).trans rfl; clear hbox hb hg))
      repeat (go_quiet (fail); try go_wp2)
      go_ret
      exact ⟨rs, bb⟩
  · have c1b : (x0 == a) = false := beq_eq_false_iff_ne.mpr c1
    have e : shape_At.is ⟨x0, x1, x2, x3⟩ a b = false := decide_eq_false (fun h => c1 h.1)
    rw [e]
    clear e c1
    go_enter Try.func23, Try.ntmps23
    go_wp2_with (first | ((with_reducible refine gate_dst (N := 3) rfl ?_); refine bx 3 #[.int .i64 x0, .int .i64 x1, .int .i64 x2, .int .i64 x3] 38 ?_; intro gb hg w1 hbox hb; have HB := Aside0.mk hb; have hcz0 : w1.cell? ⟨gb, 0, none⟩ = some (.int .i64 x0) := (blk_cell hbox 0).trans rfl; have hcz1 : w1.cell? ⟨gb, 1, none⟩ = some (.int .i64 x1) := (blk_cell hbox 1).trans rfl; have hca : w1.cell? ⟨g1, 0, none⟩ = some (.int .i64 a) := (blk_cell (blk_below H1.out hb) 0).trans rfl; have hcb : w1.cell? ⟨g2, 0, none⟩ = some (.int .i64 b) := (blk_cell (blk_below H2.out hb) 0).trans rfl; clear hbox hb hg))
    repeat (go_quiet (fail); try go_wp2)
    go_ret
    exact ⟨rs, bb⟩
structure shape_At.Inv (l : List S38) (a b : Int) (k : Nat) (j : Int) (w w' : World) : Prop where
  low : 0 ≤ j
  sum : (k : Int) + j = l.length
  all : ∀ i : Nat, (i : Int) < j → ¬ ((l.getD i z38).f0 = a ∧ (l.getD i z38).f1 = b)
  below : Below w.heap.size w w'
set_option maxHeartbeats 8000000 in
set_option maxRecDepth 100000 in
theorem shape_At.index (A : Option Addr) (c : Nat) (l : List S38) (a b : Int) (g1 g2 : Nat) (w : World) (hr : Kd.C k38 w A l.length l) (h1 : w.heap[g1]? = some (.cells #[.int .i64 a] 3 (0, 0))) (h2 : w.heap[g2]? = some (.cells #[.int .i64 b] 3 (0, 0))) :
    Calls Try.prog 22 #[.slice A l.length c, .func (.func 23) #[] #[.pointer (some ⟨g1, 0, none⟩), .pointer (some ⟨g2, 0, none⟩)]] w fun e w' => e = .returned (.int .i64 (shape_At.at_ l a b)) ∧ Below w.heap.size w w' := by
  have HR := Aside0.mk hr
  have H1 := Aside0.mk h1
  have H2 := Aside0.mk h2
  have hlen : l.length ≤ 9223372036854775807 := hr.2.1
  clear hr h1 h2
  go_enter Try.func22, Try.ntmps22
  go_wp2
  go_loopg [8] l.length (fun kq v8 w' => ∃ j : Int, v8 = .int .i64 j ∧ Aside0 (shape_At.Inv l a b kq j w w'))
  case atStart => exact ⟨0, rfl, ⟨⟨by omega, by omega, fun i hi => by omega, Below.refl _ _⟩⟩⟩
  case round =>
    obtain ⟨j, rfl, HI⟩ := hrel
    have hlow := HI.out.low
    have hsum := HI.out.sum
    have HB := Aside0.mk HI.out.below
    cases gk with
    | zero =>
      have c1 : decide (j < (l.length : Int)) = false := decide_eq_false (by omega)
      have HJ : Aside0 (j = l.length) := ⟨by omega⟩
      clear hsum
      go_wp2
      go_ret
      refine ⟨?_, HB.out⟩
      rw [shape_At.at_none a b l (fun i hi => HI.out.all i (by have := HJ.out; omega))]
      rfl
    | succ k =>
      have c1 : decide (j < (l.length : Int)) = true := decide_eq_true (by omega)
      have q1 : j < (l.length : Int) := by omega
      obtain ⟨ad, e1, hx0, hx1, hx2, hx3⟩ := at_T38 HR.out j hlow q1
      subst e1
      replace hx0 := bl HB hx0
      replace hx1 := bl HB hx1
      replace hx2 := bl HB hx2
      replace hx3 := bl HB hx3
      have HG1 := Aside0.mk ((HB.out.block g1 (blk_lt H1.out)).trans H1.out)
      have HG2 := Aside0.mk ((HB.out.block g2 (blk_lt H2.out)).trans H2.out)
      have HIall := Aside0.mk HI.out.all
      have HS := Aside0.mk hsum
      have HQ := Aside0.mk q1
      have Q1 := eq_true q1
      have hw : wrap64 (j + 1) = j + 1 := by unfold wrap64; omega
      have HW := Aside0.mk hw
      have HLOW := eq_true hlow
      have hcl := fun (W : World) (hW1 : W.heap[g1]? = some (.cells #[.int .i64 a] 3 (0, 0))) (hW2 : W.heap[g2]? = some (.cells #[.int .i64 b] 3 (0, 0))) => shape_At.closure (rd_T38 l j).f0 (rd_T38 l j).f1 (rd_T38 l j).f2 (rd_T38 l j).f3 a b g1 g2 W hW1 hW2
      by_cases c2 : (rd_T38 l j).f0 = a ∧ (rd_T38 l j).f1 = b
      · have C2 := Aside0.mk (show (l.getD j.toNat z38).f0 = a ∧ (l.getD j.toNat z38).f1 = b from c2)
        rw [show shape_At.is ⟨(rd_T38 l j).f0, (rd_T38 l j).f1, (rd_T38 l j).f2, (rd_T38 l j).f3⟩ a b = true from decide_eq_true c2] at hcl
        have HCL := Aside0.mk hcl
        clear hsum q1 hw c2 hcl hlow HI
        go_wp2_with (first | (go_at_call 23; (refine (HCL.out _ (by refine bm ?_; exact HG1.out) (by refine bm ?_; exact HG2.out)).mono ?_); rintro e w2 ⟨rfl, hb⟩; have HB2 := Aside0.mk (below_step HB.out hb); clear hb))
        go_ret
        refine ⟨?_, HB2.out⟩
        have hl := of_eq_true HLOW
        rw [shape_At.at_some a b l j.toNat (by have := HQ.out; omega) (fun i hi => HIall.out i (by omega)) C2.out]
        show Ending.returned (.int .i64 j) = _
        rw [Int.toNat_of_nonneg hl]
      · have C2 := Aside0.mk (show ¬ ((l.getD j.toNat z38).f0 = a ∧ (l.getD j.toNat z38).f1 = b) from c2)
        rw [show shape_At.is ⟨(rd_T38 l j).f0, (rd_T38 l j).f1, (rd_T38 l j).f2, (rd_T38 l j).f3⟩ a b = false from decide_eq_false c2] at hcl
        have HCL := Aside0.mk hcl
        clear hsum q1 hw c2 hcl hlow HI
        go_wp2_with (first | (go_at_call 23; (refine (HCL.out _ (by refine bm ?_; exact HG1.out) (by refine bm ?_; exact HG2.out)).mono ?_); rintro e w2 ⟨rfl, hb⟩; have HB2 := Aside0.mk (below_step HB.out hb); clear hb))
        go_roundg k
        case measure => omega
        case rel =>
          have hl := of_eq_true HLOW
          have hq := HQ.out
          have hw := HW.out
          exact ⟨wrap64 (j + 1), rfl, ⟨⟨by omega, by have := HS.out; omega, fun i hi => by
            by_cases h : (i : Int) < j
            · exact HIall.out i h
            · obtain rfl : i = j.toNat := by omega
              exact C2.out, HB2.out⟩⟩⟩
set_option maxHeartbeats 8000000 in
set_option maxRecDepth 100000 in
theorem shape_At.calls (k : Nat) (A0_0 : Option Addr) (c0_0 : Nat) (l0_0 : List (S38)) (A0_1 : Option Addr) (c0_1 : Nat) (l0_1 : List Int) (a1 a2 : Int) (r : Int) (w : World) (hr0_0 : Kd.C k38 w A0_0 l0_0.length l0_0) (hc0_0 : l0_0.length ≤ c0_0) (hr0_1 : Kd.C (Kd.int .i64) w A0_1 l0_1.length l0_1) (hc0_1 : l0_1.length ≤ c0_1) (h : shape_At.f k l0_0 l0_1 a1 a2 = some r) :
    Calls Try.prog 12 #[.agg #[.slice A0_0 l0_0.length c0_0, .slice A0_1 l0_1.length c0_1], .int .i64 a1, .int .i64 a2] w fun e w' => e = .returned (.int .i64 r) ∧ Below w.heap.size w w' := by
 have hu25 := Try.underlying25
 have HR0 := Aside0.mk hr0_0
 have HC0 := Aside0.mk hc0_0
 have HR1 := Aside0.mk hr0_1
 have HC1 := Aside0.mk hc0_1
 clear hr0_0 hc0_0 hr0_1 hc0_1
 obtain ⟨t, ht, h⟩ := Option.bind_eq_some_iff.mp h
 have A1 := Aside0.mk ht
 clear ht
 by_cases c1 : t = 0
 rotate_left
 ·
  rw [if_neg c1] at h
  have c1b : (t != 0) = true := bne_iff_ne.mpr c1
  clear c1
  obtain rfl := Option.some.inj h
  clear h
  go_enter Try.func12, Try.ntmps12
  go_wp2_with (first | ((with_reducible refine gate_dst (N := 3) rfl ?_); refine bx 3 #[.slice A0_0 l0_0.length c0_0, .slice A0_1 l0_1.length c0_1] 25 ?_; intro gb hg w1 hbox hb; have BK := Aside0.mk hbox; have HB := Aside0.mk hb; clear hbox hb hg) | ((with_reducible refine gate_dst (N := 4) rfl ?_); refine bx 4 #[.int .i64 a1] 3 ?_; intro g1 hg w2 hbox hb; have BK2 := Aside0.mk (blk_below BK.out hb); have BP := Aside0.mk hbox; have HB2 := Aside0.mk (below_step HB.out hb); clear hbox hb hg) | ((with_reducible refine gate_dst (N := 5) rfl ?_); refine bx 5 #[.int .i64 a2] 3 ?_; intro g2 hg w3 hbox hb; have BK3 := Aside0.mk (blk_below BK2.out hb); have BP3 := Aside0.mk (blk_below BP.out hb); have BQ := Aside0.mk hbox; have HB3 := Aside0.mk (below_step HB2.out hb); have hcz0 : w3.cell? ⟨gb, 0, none⟩ = some (.slice A0_0 l0_0.length c0_0) := (blk_cell BK3.out 0).trans rfl; have hcz1 : w3.cell? ⟨gb, 1, none⟩ = some (.slice A0_1 l0_1.length c0_1) := (blk_cell BK3.out 1).trans rfl; clear hbox hb hg) | (go_at_call 13; (refine (shape_Check.calls k _ _ l0_0 _ _ l0_1 t _ ?side1 ?side2 ?side3 ?side4 A1.out).mono ?_); (case side1 => repeat (first | exact (Kd.C_below HR0.out HB3.out) | (with_reducible refine Kd.C_alloc ?_ _) | (with_reducible refine Kd.C_drewN ?_ _) | (with_reducible refine Kd.C_drew ?_))); (case side2 => exact HC0.out); (case side3 => repeat (first | exact (Kd.C_below HR1.out HB3.out) | (with_reducible refine Kd.C_alloc ?_ _) | (with_reducible refine Kd.C_drewN ?_ _) | (with_reducible refine Kd.C_drew ?_))); (case side4 => exact HC1.out); rintro e w4 ⟨rfl, hb⟩; have HB4 := Aside0.mk (below_step HB3.out hb); clear hb hcz0 hcz1))
  go_ret
  exact ⟨rfl, HB4.out⟩
 rw [if_pos c1] at h
 have c1b : (t != 0) = false := bne_eq_false_iff_eq.mpr c1
 clear c1
 obtain rfl := Option.some.inj h
 clear h
 go_enter Try.func12, Try.ntmps12
 go_wp2_with (first | ((with_reducible refine gate_dst (N := 3) rfl ?_); refine bx 3 #[.slice A0_0 l0_0.length c0_0, .slice A0_1 l0_1.length c0_1] 25 ?_; intro gb hg w1 hbox hb; have BK := Aside0.mk hbox; have HB := Aside0.mk hb; clear hbox hb hg) | ((with_reducible refine gate_dst (N := 4) rfl ?_); refine bx 4 #[.int .i64 a1] 3 ?_; intro g1 hg w2 hbox hb; have BK2 := Aside0.mk (blk_below BK.out hb); have BP := Aside0.mk hbox; have HB2 := Aside0.mk (below_step HB.out hb); clear hbox hb hg) | ((with_reducible refine gate_dst (N := 5) rfl ?_); refine bx 5 #[.int .i64 a2] 3 ?_; intro g2 hg w3 hbox hb; have BK3 := Aside0.mk (blk_below BK2.out hb); have BP3 := Aside0.mk (blk_below BP.out hb); have BQ := Aside0.mk hbox; have HB3 := Aside0.mk (below_step HB2.out hb); have hcz0 : w3.cell? ⟨gb, 0, none⟩ = some (.slice A0_0 l0_0.length c0_0) := (blk_cell BK3.out 0).trans rfl; have hcz1 : w3.cell? ⟨gb, 1, none⟩ = some (.slice A0_1 l0_1.length c0_1) := (blk_cell BK3.out 1).trans rfl; clear hbox hb hg) | (go_at_call 13; (refine (shape_Check.calls k _ _ l0_0 _ _ l0_1 t _ ?side1 ?side2 ?side3 ?side4 A1.out).mono ?_); (case side1 => repeat (first | exact (Kd.C_below HR0.out HB3.out) | (with_reducible refine Kd.C_alloc ?_ _) | (with_reducible refine Kd.C_drewN ?_ _) | (with_reducible refine Kd.C_drew ?_))); (case side2 => exact HC0.out); (case side3 => repeat (first | exact (Kd.C_below HR1.out HB3.out) | (with_reducible refine Kd.C_alloc ?_ _) | (with_reducible refine Kd.C_drewN ?_ _) | (with_reducible refine Kd.C_drew ?_))); (case side4 => exact HC1.out); rintro e w4 ⟨rfl, hb⟩; have BK4 := Aside0.mk (blk_below BK3.out hb); have BP4 := Aside0.mk (blk_below BP3.out hb); have BQ4 := Aside0.mk (blk_below BQ.out hb); have HB4 := Aside0.mk (below_step HB3.out hb); have hdz0 : w4.cell? ⟨gb, 0, none⟩ = some (.slice A0_0 l0_0.length c0_0) := (blk_cell BK4.out 0).trans rfl; clear hb hcz0 hcz1) | (go_at_call 22; (refine (shape_At.index A0_0 c0_0 l0_0 a1 a2 g1 g2 _ ?side1 ?side2 ?side3).mono ?_); (case side1 => repeat (first | exact (Kd.C_below HR0.out HB4.out) | (with_reducible refine Kd.C_alloc ?_ _) | (with_reducible refine Kd.C_drewN ?_ _) | (with_reducible refine Kd.C_drew ?_))); (case side2 => refine bm ?_; exact BP4.out); (case side3 => refine bm ?_; exact BQ4.out); rintro e w5 ⟨rfl, hb⟩; have HB5 := Aside0.mk (below_step HB4.out hb); clear hb))
 go_ret
 exact ⟨rfl, HB5.out⟩

/-! ### fathomref01_Ints: function 18 -/
def fathomref01_Ints.l0 : Nat → List Int → List Int → Int → Option (Bool)
  | 0, _, _, _ => none
  | k + 1, x0, x1, x5 => if x5 < (x0.length : Int) then (if 0 ≤ x5 then (if x5 < (x1.length : Int) then (if (rd x0 x5) = (rd x1 x5) then (fathomref01_Ints.l0 k x0 x1 (wrap64 (x5 + 1))) else (some false)) else (none)) else (none)) else (some true)
def fathomref01_Ints.f (k : Nat) (l0 : List Int) (l1 : List Int) : Option (Bool) := if (l0.length : Int) = (l1.length : Int) then (fathomref01_Ints.l0 k l0 l1 0) else (some false)
theorem fathomref01_Ints.mono_l : ∀ k, (∀ y0 y1 y2, LeO (fathomref01_Ints.l0 k y0 y1 y2) (fathomref01_Ints.l0 (k + 1) y0 y1 y2))
  | 0 => fun _ _ _ r h => by simp [fathomref01_Ints.l0] at h
  | k + 1 => by
    have ih0 := fathomref01_Ints.mono_l k
    · intro y0 y1 y2
      unfold fathomref01_Ints.l0
      repeat' first
      | (with_reducible exact ih0 _ _ _)
      | (with_reducible exact LeO.refl _)
      | (with_reducible exact LeO.none _)
      | (with_reducible refine LeO.ite ?_ ?_)
      | (with_reducible refine LeO.bind ?_ (fun _ => ?_))
      | exact ih0 _ _ _
      | exact LeO.none _
      | refine LeO.ite ?_ ?_
      | refine LeO.bind ?_ (fun _ => ?_)
theorem fathomref01_Ints.mono : ∀ a0 a1 k, LeO (fathomref01_Ints.f k a0 a1) (fathomref01_Ints.f (k + 1) a0 a1) := by
  intro a0 a1 k
  have ih0 := fathomref01_Ints.mono_l k
  unfold fathomref01_Ints.f
  repeat' first
      | (with_reducible exact ih0 _ _ _)
      | (with_reducible exact LeO.refl _)
      | (with_reducible exact LeO.none _)
      | (with_reducible refine LeO.ite ?_ ?_)
      | (with_reducible refine LeO.bind ?_ (fun _ => ?_))
      | exact ih0 _ _ _
      | exact LeO.none _
      | refine LeO.ite ?_ ?_
      | refine LeO.bind ?_ (fun _ => ?_)
set_option maxHeartbeats 8000000 in
set_option maxRecDepth 100000 in
theorem fathomref01_Ints.calls (k : Nat) (A0 : Option Addr) (c0 : Nat) (l0 : List Int) (A1 : Option Addr) (c1 : Nat) (l1 : List Int) (r : Bool) (w : World) (hr0 : Kd.C (Kd.int .i64) w A0 l0.length l0) (hc0 : l0.length ≤ c0) (hr1 : Kd.C (Kd.int .i64) w A1 l1.length l1) (hc1 : l1.length ≤ c1) (h : fathomref01_Ints.f k l0 l1 = some r) :
    Calls Try.prog 18 #[.slice A0 l0.length c0, .slice A1 l1.length c1] w fun e w' => e = .returned (.bool r) ∧ Drawn0 w w' := by
 have HR0 := Aside0.mk hr0
 have HC0 := Aside0.mk hc0
 clear hr0 hc0
 have HR1 := Aside0.mk hr1
 have HC1 := Aside0.mk hc1
 clear hr1 hc1
 have H : (if (l0.length : Int) = (l1.length : Int) then (fathomref01_Ints.l0 k l0 l1 0) else (some false)) = some r := h
 clear h
 by_cases c3 : (l0.length : Int) = (l1.length : Int)
 rotate_left
 ·
  rw [if_neg c3] at H
  have c3b0 : ((l0.length : Int) == (l1.length : Int)) = false := beq_eq_false_iff_ne.mpr c3
  have c3b1 : ((l0.length : Int) != (l1.length : Int)) = true := bne_iff_ne.mpr c3
  have c3b2 : (l0.length == l1.length) = false := by first | simpa using c3 | (simp at c3 ⊢; omega)
  obtain rfl := Option.some.inj H
  go_enter Try.func18, Try.ntmps18
  go_wp2
  repeat (go_quiet (fail); try go_wp2)
  go_ret
  exact ⟨rs, by repeat (first | exact Drawn0.refl _ | apply Drawn0.step)⟩
 rw [if_pos c3] at H
 have c3b0 : ((l0.length : Int) == (l1.length : Int)) = true := beq_iff_eq.mpr c3
 have c3b1 : ((l0.length : Int) != (l1.length : Int)) = false := bne_eq_false_iff_eq.mpr c3
 have c3b2 : (l0.length == l1.length) = true := by first | simpa using c3 | (simp at c3 ⊢; omega)
 clear c3
 have H' := Aside0.mk H
 clear H
 go_enter Try.func18, Try.ntmps18
 go_wp2
 repeat (go_quiet (fail); try go_wp2)
 go_loopg [5] k (fun kq v5 w' => ∃ (x5_1 : Int), v5 = .int .i64 x5_1 ∧ Aside0 (fathomref01_Ints.l0 kq l0 l1 x5_1 = some r) ∧ Aside0 (kq ≤ k) ∧ Drawn0 w w')
 case atStart => exact ⟨(0), rs, H', ⟨Nat.le_refl _⟩, by repeat (first | exact Drawn0.refl _ | apply Drawn0.step)⟩
 case round =>
  clear H'
  try clear c1
  try clear p2
  try clear c3
  try clear c3b0
  try clear c3b1
  try clear c3b2
  obtain ⟨x5_1, rfl, HA, HK1, ⟨m1, rfl⟩⟩ := hrel
  cases gk with
  | zero => exact absurd HA.out (by simp [fathomref01_Ints.l0])
  | succ k1 =>
   have H := HA.out
   clear HA
   simp only [fathomref01_Ints.l0] at H
   by_cases c4 : x5_1 < (l0.length : Int)
   rotate_left
   ·
    rw [if_neg c4] at H
    have c4b0 : decide (x5_1 < (l0.length : Int)) = false := decide_eq_false c4
    clear c4
    obtain rfl := Option.some.inj H
    go_wp2
    repeat (go_quiet (fail); try go_wp2)
    go_ret
    exact ⟨rs, by repeat (first | exact Drawn0.refl _ | apply Drawn0.step)⟩
   rw [if_pos c4] at H
   have c4b0 : decide (x5_1 < (l0.length : Int)) = true := decide_eq_true c4
   clear c4
   by_cases c5 : 0 ≤ x5_1
   rotate_left
   ·
    rw [if_neg c5] at H
    exact absurd H (by simp)
   rw [if_pos c5] at H
   have c5b0 : decide (0 ≤ x5_1) = true := decide_eq_true c5
   clear c5
   by_cases c6 : x5_1 < (l1.length : Int)
   rotate_left
   ·
    rw [if_neg c6] at H
    exact absurd H (by simp)
   rw [if_pos c6] at H
   have c6b0 : decide (x5_1 < (l1.length : Int)) = true := decide_eq_true c6
   clear c6
   by_cases c7 : (rd l0 x5_1) = (rd l1 x5_1)
   rotate_left
   ·
    rw [if_neg c7] at H
    have c7b0 : ((rd l0 x5_1) == (rd l1 x5_1)) = false := beq_eq_false_iff_ne.mpr c7
    have c7b1 : ((rd l0 x5_1) != (rd l1 x5_1)) = true := bne_iff_ne.mpr c7
    obtain rfl := Option.some.inj H
    have p183 : 0 ≤ (x5_1 : Int) := od
    have q183 : x5_1 < (l0.length : Int) := od
    obtain ⟨ad183, e183, hx183_0⟩ := Kd.at_int HR0.out x5_1 p183 q183
    cases e183
    replace p183 := eq_true p183
    replace q183 := eq_true q183
    have p184 : 0 ≤ (x5_1 : Int) := od
    have q184 : x5_1 < (l1.length : Int) := od
    obtain ⟨ad184, e184, hx184_0⟩ := Kd.at_int HR1.out x5_1 p184 q184
    cases e184
    replace p184 := eq_true p184
    replace q184 := eq_true q184
    go_wp2
    repeat (go_quiet (fail); try go_wp2)
    go_ret
    exact ⟨rs, by repeat (first | exact Drawn0.refl _ | apply Drawn0.step)⟩
   rw [if_pos c7] at H
   have c7b0 : ((rd l0 x5_1) == (rd l1 x5_1)) = true := beq_iff_eq.mpr c7
   have c7b1 : ((rd l0 x5_1) != (rd l1 x5_1)) = false := bne_eq_false_iff_eq.mpr c7
   clear c7
   have H' := Aside0.mk H
   clear H
   have p183 : 0 ≤ (x5_1 : Int) := od
   have q183 : x5_1 < (l0.length : Int) := od
   obtain ⟨ad183, e183, hx183_0⟩ := Kd.at_int HR0.out x5_1 p183 q183
   cases e183
   replace p183 := eq_true p183
   replace q183 := eq_true q183
   have p184 : 0 ≤ (x5_1 : Int) := od
   have q184 : x5_1 < (l1.length : Int) := od
   obtain ⟨ad184, e184, hx184_0⟩ := Kd.at_int HR1.out x5_1 p184 q184
   cases e184
   replace p184 := eq_true p184
   replace q184 := eq_true q184
   go_wp2
   repeat (go_quiet (fail); try go_wp2)
   go_roundg k1
   case measure => have := HK1.out; omega
   case rel => exact ⟨(wrap64 (x5_1 + 1)), rs, H', ⟨by have := HK1.out; omega⟩, by repeat (first | exact Drawn0.refl _ | apply Drawn0.step)⟩

/-! ### fathomlaw27_awake: function 7 -/
def fathomlaw27_awake.f (k : Nat)  : Option (Bool) := (some (([(-1), 0] : List Int) : List Int)).bind fun y185 => ((some (([(⟨0, 0, 11, 1⟩ : S38), (⟨0, 1, 2, 0⟩ : S38), (⟨1, 0, 2, 0⟩ : S38)] : List (S38)) : List (S38))).bind fun y188 => ((shape_Check.f k y188 y185).bind fun t192 => (if t192 = 0 then ((shape_Rivals.f k y188 y185 1).bind fun t193 => ((fathomref01_Ints.f k t193 (([2] : List Int))).bind fun t199 => (if t199 = true then ((shape_At.f k y188 y185 1 0).bind fun t200 => (some (t200 == 2))) else (some false)))) else (some false))))
theorem fathomlaw27_awake.mono : ∀ k, LeO (fathomlaw27_awake.f k ) (fathomlaw27_awake.f (k + 1) ) := by
  intro  k
  unfold fathomlaw27_awake.f
  repeat' first
      | (with_reducible exact fathomref01_Ints.mono _ _ _)
      | (with_reducible exact shape_At.mono _ _ _ _ _)
      | (with_reducible exact shape_Check.mono _ _ _)
      | (with_reducible exact shape_Rivals.mono _ _ _ _)
      | (with_reducible exact LeO.refl _)
      | (with_reducible exact LeO.none _)
      | (with_reducible refine LeO.ite ?_ ?_)
      | (with_reducible refine LeO.bind ?_ (fun _ => ?_))
      | exact fathomref01_Ints.mono _ _ _
      | exact shape_At.mono _ _ _ _ _
      | exact shape_Check.mono _ _ _
      | exact shape_Rivals.mono _ _ _ _
      | exact LeO.none _
      | refine LeO.ite ?_ ?_
      | refine LeO.bind ?_ (fun _ => ?_)
set_option maxHeartbeats 8000000 in
set_option maxRecDepth 100000 in
theorem fathomlaw27_awake.calls (k : Nat)  (r : Bool) (w : World) (h : fathomlaw27_awake.f k  = some r) :
    Calls Try.prog 7 #[] w fun e w' => e = .returned (.bool r) ∧ Below w.heap.size w w' := by
 have hu38 := Try.underlying38
 have hu25 := Try.underlying25
 have HB := Aside0.mk (Below.refl w.heap.size w)
 have H : ((some (([(-1), 0] : List Int) : List Int)).bind fun y185 => ((some (([(⟨0, 0, 11, 1⟩ : S38), (⟨0, 1, 2, 0⟩ : S38), (⟨1, 0, 2, 0⟩ : S38)] : List (S38)) : List (S38))).bind fun y188 => ((shape_Check.f k y188 y185).bind fun t192 => (if t192 = 0 then ((shape_Rivals.f k y188 y185 1).bind fun t193 => ((fathomref01_Ints.f k t193 (([2] : List Int))).bind fun t199 => (if t199 = true then ((shape_At.f k y188 y185 1 0).bind fun t200 => (some (t200 == 2))) else (some false)))) else (some false))))) = some r := h
 clear h
 obtain ⟨y185, hy185⟩ : ∃ y_ : List Int, y_ = (([(-1), 0] : List Int)) := ⟨_, rfl⟩
 replace H : ((some (([(⟨0, 0, 11, 1⟩ : S38), (⟨0, 1, 2, 0⟩ : S38), (⟨1, 0, 2, 0⟩ : S38)] : List (S38)) : List (S38))).bind fun y188 => ((shape_Check.f k y188 y185).bind fun t192 => (if t192 = 0 then ((shape_Rivals.f k y188 y185 1).bind fun t193 => ((fathomref01_Ints.f k t193 (([2] : List Int))).bind fun t199 => (if t199 = true then ((shape_At.f k y188 y185 1 0).bind fun t200 => (some (t200 == 2))) else (some false)))) else (some false)))) = some r := by first | (rw [hy185]; with_reducible exact H) | (have H2_ := (Option.bind_some _ _).symm.trans H; rw [hy185]; with_reducible exact H2_) | (have H2_ := (Option.bind_some _ _).symm.trans H; with_reducible exact H2_) | with_reducible exact H | (rw [hy185]; exact H) | exact H
 have Ny185 := Aside0.mk hy185
 clear hy185
 obtain ⟨y188, hy188⟩ : ∃ y_ : List (S38), y_ = (([(⟨0, 0, 11, 1⟩ : S38), (⟨0, 1, 2, 0⟩ : S38), (⟨1, 0, 2, 0⟩ : S38)] : List (S38))) := ⟨_, rfl⟩
 replace H : ((shape_Check.f k y188 y185).bind fun t192 => (if t192 = 0 then ((shape_Rivals.f k y188 y185 1).bind fun t193 => ((fathomref01_Ints.f k t193 (([2] : List Int))).bind fun t199 => (if t199 = true then ((shape_At.f k y188 y185 1 0).bind fun t200 => (some (t200 == 2))) else (some false)))) else (some false))) = some r := by first | (rw [hy188]; with_reducible exact H) | (have H2_ := (Option.bind_some _ _).symm.trans H; rw [hy188]; with_reducible exact H2_) | (have H2_ := (Option.bind_some _ _).symm.trans H; with_reducible exact H2_) | with_reducible exact H | (rw [hy188]; exact H) | exact H
 have Ny188 := Aside0.mk hy188
 clear hy188
 replace H := Option.bind_eq_some_iff.mp H
 obtain ⟨t192, A10, H⟩ := H
 replace H : (if t192 = 0 then ((shape_Rivals.f k y188 y185 1).bind fun t193 => ((fathomref01_Ints.f k t193 (([2] : List Int))).bind fun t199 => (if t199 = true then ((shape_At.f k y188 y185 1 0).bind fun t200 => (some (t200 == 2))) else (some false)))) else (some false)) = some r := H
 have A1 := Aside0.mk A10
 clear A10
 by_cases c2 : t192 = 0
 rotate_left
 ·
  rw [if_neg c2] at H
  have c2b0 : (t192 == 0) = false := beq_eq_false_iff_ne.mpr c2
  have c2b1 : (t192 != 0) = true := bne_iff_ne.mpr c2
  obtain rfl := Option.some.inj H
  go_enter Try.func7, Try.ntmps7
  go_wp2_with (first | ((with_reducible refine gate_dst (N := 2) rfl ?_); (try (refine gate_guard (by rfl) ?_; dsimp only)); refine Kd.R_lit (Kd.int .i64) _ 3 ?hg (N := 2) ?hd (xs := ([(-1), 0] : List Int)) (inner := [.int .i64 (-1), .int .i64 0]) (ok := fun _ => True) (okp := fun _ => True) ?hr ?hp (fun _ hk => hk) trivial (Below.refl _ _) (Nat.le_refl _) (by simp) ?_; (case hd => rfl); (case hg => rfl); (case hr => first | (go_simp; done) | (go_simp; rfl)); (case hp => exact (Reps.one (show Kd.M (Kd.int .i64) _ _ _ (-1) [.int .i64 (-1)] from rfl) (Reps.one (show Kd.M (Kd.int .i64) _ _ _ 0 [.int .i64 0] from rfl) (Reps.none _ _)))); intro v186 w39 ho40 hb hg_ hnew_; clear hg_ hnew_; (first | rw [← Ny185.out] at ho40 | (simp only [Int.reduceToNat] at ho40; rw [← Ny185.out] at ho40)); have HO187 := Aside0.mk (Kd.R_lower ho40 (below_size bb)); replace HB := Aside0.mk (below_step bb hb); clear hb ho40) | ((with_reducible refine gate_dst (N := 6) rfl ?_); (try (refine gate_guard (by rfl) ?_; dsimp only)); refine Kd.R_lit k38 _ 38 ?hg (N := 6) ?hd (xs := ([(⟨0, 0, 11, 1⟩ : S38), (⟨0, 1, 2, 0⟩ : S38), (⟨1, 0, 2, 0⟩ : S38)] : List (S38))) (inner := [.int .i64 0, .int .i64 0, .int .i64 11, .int .i64 1, .int .i64 0, .int .i64 1, .int .i64 2, .int .i64 0, .int .i64 1, .int .i64 0, .int .i64 2, .int .i64 0]) (ok := fun _ => True) (okp := fun _ => True) ?hr ?hp (fun _ hk => hk) trivial (Below.refl _ _) (Nat.le_refl _) (by simp) ?_; (case hd => rfl); (case hg => rfl); (case hr => first | (go_simp; done) | (go_simp; rfl)); (case hp => exact (Reps.c4 (show Kd.M k38 _ _ _ (⟨0, 0, 11, 1⟩ : S38) [.int .i64 0, .int .i64 0, .int .i64 11, .int .i64 1] from (k38_mkM _ _ _ (⟨0, 0, 11, 1⟩ : S38) )) (Reps.c4 (show Kd.M k38 _ _ _ (⟨0, 1, 2, 0⟩ : S38) [.int .i64 0, .int .i64 1, .int .i64 2, .int .i64 0] from (k38_mkM _ _ _ (⟨0, 1, 2, 0⟩ : S38) )) (Reps.c4 (show Kd.M k38 _ _ _ (⟨1, 0, 2, 0⟩ : S38) [.int .i64 1, .int .i64 0, .int .i64 2, .int .i64 0] from (k38_mkM _ _ _ (⟨1, 0, 2, 0⟩ : S38) )) (Reps.none _ _))))); intro v189 w41 ho42 hb hg_ hnew_; clear hg_ hnew_; (first | rw [← Ny188.out] at ho42 | (simp only [Int.reduceToNat] at ho42; rw [← Ny188.out] at ho42)); replace HO187 := Aside0.mk (Kd.R_below (rk HO187) hb); have HO190 := Aside0.mk (Kd.R_lower ho42 (below_size bb)); replace HB := Aside0.mk (below_step bb hb); clear hb ho42; obtain ⟨Ao43, co43, eo43⟩ := Kd.R_slice HO187.out; subst eo43; obtain ⟨Ao44, co44, eo44⟩ := Kd.R_slice HO190.out; subst eo44) | ((with_reducible refine gate_dst (N := 1) rfl ?_); (try (refine gate_guard (by rfl) ?_; dsimp only)); refine bx 1 #[.slice none 0 0, .slice none 0 0] 25 ?_; intro gb191 hg w45 hbox hb; replace HO187 := Aside0.mk (Kd.R_below (rk HO187) hb); replace HO190 := Aside0.mk (Kd.R_below (rk HO190) hb); have BK191 := Aside0.mk (hbox); have GW191 := Aside0.mk ((bz hg : w.heap.size ≤ gb191)); have GE191 := Aside0.mk ((bz hg : w.heap.size ≤ gb191)); replace HB := Aside0.mk (below_step bb hb); clear hb hbox hg; obtain ⟨hcz46_0, hcz46_1, hfz46_0, hfz46_1⟩ := bo2 BK191) | ((with_reducible refine gate_callee (f := 13) rfl ?_); refine gl (some 9) Try.func13 #[.agg #[.slice Ao44 y188.length co44, .slice Ao43 y185.length co43]] ?_; (with_reducible refine (shape_Check.calls k _ _ y188 _ _ y185 t192 _ ?side1 ?side2 ?side3 ?side4 A1.out).mono ?_); (case side1 => refine (Kd.R_reads' (e := 38) (base := w.heap.size) (ok := fun k_ => True) (n := y188.length) (c := co44) ?_).2.2; exact (rm ((Kd.R_mono (Kd.R_far (p := ⟨gb191, 1, none⟩) (Kd.R_far (p := ⟨gb191, 0, none⟩) (Kd.R_types HO190.out BK191.out (by decide)) (fun _ hk => hk.2) (.slice Ao44 y188.length co44)) (fun _ hk => hk.2) (.slice Ao43 y185.length co43)) (fun _ h_ => h_.1))))); (case side2 => exact (Kd.R_reads' HO190.out).2.1); (case side3 => refine (Kd.R_reads' (e := 3) (base := w.heap.size) (ok := fun k_ => True) (n := y185.length) (c := co43) ?_).2.2; exact (rm ((Kd.R_mono (Kd.R_far (p := ⟨gb191, 1, none⟩) (Kd.R_far (p := ⟨gb191, 0, none⟩) (Kd.R_types HO187.out BK191.out (by decide)) (fun _ hk => hk.2) (.slice Ao44 y188.length co44)) (fun _ hk => hk.2) (.slice Ao43 y185.length co43)) (fun _ h_ => h_.1))))); (case side4 => exact (Kd.R_reads' HO187.out).2.1); rintro e w47 ⟨rfl, hb⟩; refine ⟨_, rfl, ?_⟩; replace HO187 := Aside0.mk (Kd.R_below (rm ((Kd.R_mono (Kd.R_far (p := ⟨gb191, 1, none⟩) (Kd.R_far (p := ⟨gb191, 0, none⟩) (Kd.R_types HO187.out BK191.out (by decide)) (fun _ hk => hk.2) (.slice Ao44 y188.length co44)) (fun _ hk => hk.2) (.slice Ao43 y185.length co43)) (fun _ h_ => h_.1)))) hb); replace HO190 := Aside0.mk (Kd.R_below (rm ((Kd.R_mono (Kd.R_far (p := ⟨gb191, 1, none⟩) (Kd.R_far (p := ⟨gb191, 0, none⟩) (Kd.R_types HO190.out BK191.out (by decide)) (fun _ hk => hk.2) (.slice Ao44 y188.length co44)) (fun _ hk => hk.2) (.slice Ao43 y185.length co43)) (fun _ h_ => h_.1)))) hb); replace BK191 := Aside0.mk (blk_below (g := gb191) (o := .cells #[.slice Ao44 y188.length co44, .slice Ao43 y185.length co43] 25 (0, 0)) (by refine bm ?_; refine blk_put (cs := #[.slice Ao44 y188.length co44, .slice none 0 0]) ?_ 1 _ rfl; refine bm ?_; refine blk_put (cs := #[.slice none 0 0, .slice none 0 0]) ?_ 0 _ rfl; refine bm ?_; exact BK191.out) hb); replace HB := Aside0.mk (below_step bb hb); (try clear hb); (try clear hb2); (try clear hk); (try clear hi)))
  go_ret
  exact ⟨ew, bb⟩
 rw [if_pos c2] at H
 have c2b0 : (t192 == 0) = true := beq_iff_eq.mpr c2
 have c2b1 : (t192 != 0) = false := bne_eq_false_iff_eq.mpr c2
 clear c2
 replace H := Option.bind_eq_some_iff.mp H
 obtain ⟨t193, A30, H⟩ := H
 replace H : ((fathomref01_Ints.f k t193 (([2] : List Int))).bind fun t199 => (if t199 = true then ((shape_At.f k y188 y185 1 0).bind fun t200 => (some (t200 == 2))) else (some false))) = some r := H
 have A3 := Aside0.mk A30
 clear A30
 obtain ⟨y196, hy196⟩ : ∃ y_ : List Int, y_ = (([2] : List Int)) := ⟨_, rfl⟩
 replace H : ((fathomref01_Ints.f k t193 y196).bind fun t199 => (if t199 = true then ((shape_At.f k y188 y185 1 0).bind fun t200 => (some (t200 == 2))) else (some false))) = some r := by first | (rw [hy196]; with_reducible exact H) | (have H2_ := (Option.bind_some _ _).symm.trans H; rw [hy196]; with_reducible exact H2_) | (have H2_ := (Option.bind_some _ _).symm.trans H; with_reducible exact H2_) | with_reducible exact H | (rw [hy196]; exact H) | exact H
 have Ny196 := Aside0.mk hy196
 clear hy196
 replace H := Option.bind_eq_some_iff.mp H
 obtain ⟨t199, A40, H⟩ := H
 replace H : (if t199 = true then ((shape_At.f k y188 y185 1 0).bind fun t200 => (some (t200 == 2))) else (some false)) = some r := H
 have A4 := Aside0.mk A40
 clear A40
 by_cases c5 : t199 = true
 rotate_left
 ·
  replace c5 := Bool.eq_false_iff.mpr c5
  subst c5
  have H1 : (some false) = some r := by rw [if_neg (show ¬ (false = true) by decide)] at H; exact H
  clear H
  have H := H1
  clear H1
  obtain rfl := Option.some.inj H
  go_enter Try.func7, Try.ntmps7
  go_wp2_with (first | ((with_reducible refine gate_dst (N := 2) rfl ?_); (try (refine gate_guard (by rfl) ?_; dsimp only)); refine Kd.R_lit (Kd.int .i64) _ 3 ?hg (N := 2) ?hd (xs := ([(-1), 0] : List Int)) (inner := [.int .i64 (-1), .int .i64 0]) (ok := fun _ => True) (okp := fun _ => True) ?hr ?hp (fun _ hk => hk) trivial (Below.refl _ _) (Nat.le_refl _) (by simp) ?_; (case hd => rfl); (case hg => rfl); (case hr => first | (go_simp; done) | (go_simp; rfl)); (case hp => exact (Reps.one (show Kd.M (Kd.int .i64) _ _ _ (-1) [.int .i64 (-1)] from rfl) (Reps.one (show Kd.M (Kd.int .i64) _ _ _ 0 [.int .i64 0] from rfl) (Reps.none _ _)))); intro v186 w24 ho25 hb hg_ hnew_; clear hg_ hnew_; (first | rw [← Ny185.out] at ho25 | (simp only [Int.reduceToNat] at ho25; rw [← Ny185.out] at ho25)); have HO187 := Aside0.mk (Kd.R_lower ho25 (below_size bb)); replace HB := Aside0.mk (below_step bb hb); clear hb ho25) | ((with_reducible refine gate_dst (N := 6) rfl ?_); (try (refine gate_guard (by rfl) ?_; dsimp only)); refine Kd.R_lit k38 _ 38 ?hg (N := 6) ?hd (xs := ([(⟨0, 0, 11, 1⟩ : S38), (⟨0, 1, 2, 0⟩ : S38), (⟨1, 0, 2, 0⟩ : S38)] : List (S38))) (inner := [.int .i64 0, .int .i64 0, .int .i64 11, .int .i64 1, .int .i64 0, .int .i64 1, .int .i64 2, .int .i64 0, .int .i64 1, .int .i64 0, .int .i64 2, .int .i64 0]) (ok := fun _ => True) (okp := fun _ => True) ?hr ?hp (fun _ hk => hk) trivial (Below.refl _ _) (Nat.le_refl _) (by simp) ?_; (case hd => rfl); (case hg => rfl); (case hr => first | (go_simp; done) | (go_simp; rfl)); (case hp => exact (Reps.c4 (show Kd.M k38 _ _ _ (⟨0, 0, 11, 1⟩ : S38) [.int .i64 0, .int .i64 0, .int .i64 11, .int .i64 1] from (k38_mkM _ _ _ (⟨0, 0, 11, 1⟩ : S38) )) (Reps.c4 (show Kd.M k38 _ _ _ (⟨0, 1, 2, 0⟩ : S38) [.int .i64 0, .int .i64 1, .int .i64 2, .int .i64 0] from (k38_mkM _ _ _ (⟨0, 1, 2, 0⟩ : S38) )) (Reps.c4 (show Kd.M k38 _ _ _ (⟨1, 0, 2, 0⟩ : S38) [.int .i64 1, .int .i64 0, .int .i64 2, .int .i64 0] from (k38_mkM _ _ _ (⟨1, 0, 2, 0⟩ : S38) )) (Reps.none _ _))))); intro v189 w26 ho27 hb hg_ hnew_; clear hg_ hnew_; (first | rw [← Ny188.out] at ho27 | (simp only [Int.reduceToNat] at ho27; rw [← Ny188.out] at ho27)); replace HO187 := Aside0.mk (Kd.R_below (rk HO187) hb); have HO190 := Aside0.mk (Kd.R_lower ho27 (below_size bb)); replace HB := Aside0.mk (below_step bb hb); clear hb ho27; obtain ⟨Ao28, co28, eo28⟩ := Kd.R_slice HO187.out; subst eo28; obtain ⟨Ao29, co29, eo29⟩ := Kd.R_slice HO190.out; subst eo29) | ((with_reducible refine gate_dst (N := 1) rfl ?_); (try (refine gate_guard (by rfl) ?_; dsimp only)); refine bx 1 #[.slice none 0 0, .slice none 0 0] 25 ?_; intro gb191 hg w30 hbox hb; replace HO187 := Aside0.mk (Kd.R_below (rk HO187) hb); replace HO190 := Aside0.mk (Kd.R_below (rk HO190) hb); have BK191 := Aside0.mk (hbox); have GW191 := Aside0.mk ((bz hg : w.heap.size ≤ gb191)); have GE191 := Aside0.mk ((bz hg : w.heap.size ≤ gb191)); replace HB := Aside0.mk (below_step bb hb); clear hb hbox hg; obtain ⟨hcz31_0, hcz31_1, hfz31_0, hfz31_1⟩ := bo2 BK191) | ((with_reducible refine gate_callee (f := 13) rfl ?_); refine gl (some 9) Try.func13 #[.agg #[.slice Ao29 y188.length co29, .slice Ao28 y185.length co28]] ?_; (with_reducible refine (shape_Check.calls k _ _ y188 _ _ y185 t192 _ ?side1 ?side2 ?side3 ?side4 A1.out).mono ?_); (case side1 => refine (Kd.R_reads' (e := 38) (base := w.heap.size) (ok := fun k_ => True) (n := y188.length) (c := co29) ?_).2.2; exact (rm ((Kd.R_mono (Kd.R_far (p := ⟨gb191, 1, none⟩) (Kd.R_far (p := ⟨gb191, 0, none⟩) (Kd.R_types HO190.out BK191.out (by decide)) (fun _ hk => hk.2) (.slice Ao29 y188.length co29)) (fun _ hk => hk.2) (.slice Ao28 y185.length co28)) (fun _ h_ => h_.1))))); (case side2 => exact (Kd.R_reads' HO190.out).2.1); (case side3 => refine (Kd.R_reads' (e := 3) (base := w.heap.size) (ok := fun k_ => True) (n := y185.length) (c := co28) ?_).2.2; exact (rm ((Kd.R_mono (Kd.R_far (p := ⟨gb191, 1, none⟩) (Kd.R_far (p := ⟨gb191, 0, none⟩) (Kd.R_types HO187.out BK191.out (by decide)) (fun _ hk => hk.2) (.slice Ao29 y188.length co29)) (fun _ hk => hk.2) (.slice Ao28 y185.length co28)) (fun _ h_ => h_.1))))); (case side4 => exact (Kd.R_reads' HO187.out).2.1); rintro e w32 ⟨rfl, hb⟩; refine ⟨_, rfl, ?_⟩; replace HO187 := Aside0.mk (Kd.R_below (rm ((Kd.R_mono (Kd.R_far (p := ⟨gb191, 1, none⟩) (Kd.R_far (p := ⟨gb191, 0, none⟩) (Kd.R_types HO187.out BK191.out (by decide)) (fun _ hk => hk.2) (.slice Ao29 y188.length co29)) (fun _ hk => hk.2) (.slice Ao28 y185.length co28)) (fun _ h_ => h_.1)))) hb); replace HO190 := Aside0.mk (Kd.R_below (rm ((Kd.R_mono (Kd.R_far (p := ⟨gb191, 1, none⟩) (Kd.R_far (p := ⟨gb191, 0, none⟩) (Kd.R_types HO190.out BK191.out (by decide)) (fun _ hk => hk.2) (.slice Ao29 y188.length co29)) (fun _ hk => hk.2) (.slice Ao28 y185.length co28)) (fun _ h_ => h_.1)))) hb); replace BK191 := Aside0.mk (blk_below (g := gb191) (o := .cells #[.slice Ao29 y188.length co29, .slice Ao28 y185.length co28] 25 (0, 0)) (by refine bm ?_; refine blk_put (cs := #[.slice Ao29 y188.length co29, .slice none 0 0]) ?_ 1 _ rfl; refine bm ?_; refine blk_put (cs := #[.slice none 0 0, .slice none 0 0]) ?_ 0 _ rfl; refine bm ?_; exact BK191.out) hb); replace HB := Aside0.mk (below_step bb hb); (try clear hb); (try clear hb2); (try clear hk); (try clear hi); obtain ⟨hcz33_0, hcz33_1, hfz33_0, hfz33_1⟩ := bo2 BK191) | (go_at_call 10; (with_reducible refine (shape_Rivals.calls k _ _ y188 _ _ y185 1 t193 _ ?side1 ?side2 ?side3 ?side4 A3.out).mono ?_); (case side1 => repeat (first | exact (Kd.R_reads' HO190.out).2.2 | (with_reducible refine Kd.C_alloc ?_ _) | (with_reducible refine Kd.C_drewN ?_ _) | (with_reducible refine Kd.C_drew ?_))); (case side2 => exact (Kd.R_reads' HO190.out).2.1); (case side3 => repeat (first | exact (Kd.R_reads' HO187.out).2.2 | (with_reducible refine Kd.C_alloc ?_ _) | (with_reducible refine Kd.C_drewN ?_ _) | (with_reducible refine Kd.C_drew ?_))); (case side4 => exact (Kd.R_reads' HO187.out).2.1); rintro e w34 ⟨v194, rfl, ho0, hb⟩; replace HO190 := Aside0.mk (Kd.R_below (rk HO190) hb); have HO195 := Aside0.mk (Kd.R_lower (Kd.R_new' ho0 (Kd.R_lt (rk HO187))) (below_size bb)); replace HO187 := Aside0.mk (Kd.R_elder' (rk HO187) (Kd.R_base ho0) hb); replace BK191 := Aside0.mk (bw BK191 hb); replace HB := Aside0.mk (below_step bb hb); (try clear hb); (try clear hb2); (try clear hk); (try clear hi); (try clear ho0)) | ((with_reducible refine gate_dst (N := 14) rfl ?_); (try (refine gate_guard (by rfl) ?_; dsimp only)); refine Kd.R_lit (Kd.int .i64) _ 3 ?hg (N := 14) ?hd (xs := ([2] : List Int)) (inner := [.int .i64 2]) (ok := fun _ => True) (okp := fun _ => True) ?hr ?hp (fun _ hk => hk) trivial (Below.refl _ _) (Nat.le_refl _) (by simp) ?_; (case hd => rfl); (case hg => rfl); (case hr => first | (go_simp; done) | (go_simp; rfl)); (case hp => exact (Reps.one (show Kd.M (Kd.int .i64) _ _ _ 2 [.int .i64 2] from rfl) (Reps.none _ _))); intro v197 w35 ho36 hb hg_ hnew_; clear hg_ hnew_; (first | rw [← Ny196.out] at ho36 | (simp only [Int.reduceToNat] at ho36; rw [← Ny196.out] at ho36)); replace HO190 := Aside0.mk (Kd.R_below (rk HO190) hb); have HO198 := Aside0.mk (Kd.R_lower (Kd.R_new' (Kd.R_new' ho36 (Kd.R_lt (rk HO187))) (Kd.R_lt (rk HO195))) (below_size bb)); replace HO187 := Aside0.mk (Kd.R_elder' (rk HO187) (Kd.R_base ho36) hb); replace HO195 := Aside0.mk (Kd.R_elder' (rk HO195) (Kd.R_base ho36) hb); replace BK191 := Aside0.mk (bw BK191 hb); replace HB := Aside0.mk (below_step bb hb); clear hb ho36; obtain ⟨Ao37, co37, eo37⟩ := Kd.R_slice HO195.out; subst eo37; obtain ⟨Ao38, co38, eo38⟩ := Kd.R_slice HO198.out; subst eo38) | (go_at_call 18; (with_reducible refine (fathomref01_Ints.calls k _ _ t193 _ _ y196 false _ ?side1 ?side2 ?side3 ?side4 A4.out).mono ?_); (case side1 => repeat (first | exact (Kd.R_reads' HO195.out).2.2 | (with_reducible refine Kd.C_alloc ?_ _) | (with_reducible refine Kd.C_drewN ?_ _) | (with_reducible refine Kd.C_drew ?_))); (case side2 => exact (Kd.R_reads' HO195.out).2.1); (case side3 => repeat (first | exact (Kd.R_reads' HO198.out).2.2 | (with_reducible refine Kd.C_alloc ?_ _) | (with_reducible refine Kd.C_drewN ?_ _) | (with_reducible refine Kd.C_drew ?_))); (case side4 => exact (Kd.R_reads' HO198.out).2.1); rintro e w' ⟨rfl, ⟨nd, rfl⟩⟩))
  go_ret
  exact ⟨ew, bb⟩
 subst c5
 have H1 : ((shape_At.f k y188 y185 1 0).bind fun t200 => (some (t200 == 2))) = some r := by rw [if_pos rfl] at H; exact H
 clear H
 have H := H1
 clear H1
 replace H := Option.bind_eq_some_iff.mp H
 obtain ⟨t200, A60, H⟩ := H
 replace H : (some (t200 == 2)) = some r := H
 have A6 := Aside0.mk A60
 clear A60
 obtain rfl := Option.some.inj H
 go_enter Try.func7, Try.ntmps7
 go_wp2_with (first | ((with_reducible refine gate_dst (N := 2) rfl ?_); (try (refine gate_guard (by rfl) ?_; dsimp only)); refine Kd.R_lit (Kd.int .i64) _ 3 ?hg (N := 2) ?hd (xs := ([(-1), 0] : List Int)) (inner := [.int .i64 (-1), .int .i64 0]) (ok := fun _ => True) (okp := fun _ => True) ?hr ?hp (fun _ hk => hk) trivial (Below.refl _ _) (Nat.le_refl _) (by simp) ?_; (case hd => rfl); (case hg => rfl); (case hr => first | (go_simp; done) | (go_simp; rfl)); (case hp => exact (Reps.one (show Kd.M (Kd.int .i64) _ _ _ (-1) [.int .i64 (-1)] from rfl) (Reps.one (show Kd.M (Kd.int .i64) _ _ _ 0 [.int .i64 0] from rfl) (Reps.none _ _)))); intro v186 w7 ho8 hb hg_ hnew_; clear hg_ hnew_; (first | rw [← Ny185.out] at ho8 | (simp only [Int.reduceToNat] at ho8; rw [← Ny185.out] at ho8)); have HO187 := Aside0.mk (Kd.R_lower ho8 (below_size bb)); replace HB := Aside0.mk (below_step bb hb); clear hb ho8) | ((with_reducible refine gate_dst (N := 6) rfl ?_); (try (refine gate_guard (by rfl) ?_; dsimp only)); refine Kd.R_lit k38 _ 38 ?hg (N := 6) ?hd (xs := ([(⟨0, 0, 11, 1⟩ : S38), (⟨0, 1, 2, 0⟩ : S38), (⟨1, 0, 2, 0⟩ : S38)] : List (S38))) (inner := [.int .i64 0, .int .i64 0, .int .i64 11, .int .i64 1, .int .i64 0, .int .i64 1, .int .i64 2, .int .i64 0, .int .i64 1, .int .i64 0, .int .i64 2, .int .i64 0]) (ok := fun _ => True) (okp := fun _ => True) ?hr ?hp (fun _ hk => hk) trivial (Below.refl _ _) (Nat.le_refl _) (by simp) ?_; (case hd => rfl); (case hg => rfl); (case hr => first | (go_simp; done) | (go_simp; rfl)); (case hp => exact (Reps.c4 (show Kd.M k38 _ _ _ (⟨0, 0, 11, 1⟩ : S38) [.int .i64 0, .int .i64 0, .int .i64 11, .int .i64 1] from (k38_mkM _ _ _ (⟨0, 0, 11, 1⟩ : S38) )) (Reps.c4 (show Kd.M k38 _ _ _ (⟨0, 1, 2, 0⟩ : S38) [.int .i64 0, .int .i64 1, .int .i64 2, .int .i64 0] from (k38_mkM _ _ _ (⟨0, 1, 2, 0⟩ : S38) )) (Reps.c4 (show Kd.M k38 _ _ _ (⟨1, 0, 2, 0⟩ : S38) [.int .i64 1, .int .i64 0, .int .i64 2, .int .i64 0] from (k38_mkM _ _ _ (⟨1, 0, 2, 0⟩ : S38) )) (Reps.none _ _))))); intro v189 w9 ho10 hb hg_ hnew_; clear hg_ hnew_; (first | rw [← Ny188.out] at ho10 | (simp only [Int.reduceToNat] at ho10; rw [← Ny188.out] at ho10)); replace HO187 := Aside0.mk (Kd.R_below (rk HO187) hb); have HO190 := Aside0.mk (Kd.R_lower ho10 (below_size bb)); replace HB := Aside0.mk (below_step bb hb); clear hb ho10; obtain ⟨Ao11, co11, eo11⟩ := Kd.R_slice HO187.out; subst eo11; obtain ⟨Ao12, co12, eo12⟩ := Kd.R_slice HO190.out; subst eo12) | ((with_reducible refine gate_dst (N := 1) rfl ?_); (try (refine gate_guard (by rfl) ?_; dsimp only)); refine bx 1 #[.slice none 0 0, .slice none 0 0] 25 ?_; intro gb191 hg w13 hbox hb; replace HO187 := Aside0.mk (Kd.R_below (rk HO187) hb); replace HO190 := Aside0.mk (Kd.R_below (rk HO190) hb); have BK191 := Aside0.mk (hbox); have GW191 := Aside0.mk ((bz hg : w.heap.size ≤ gb191)); have GE191 := Aside0.mk ((bz hg : w.heap.size ≤ gb191)); replace HB := Aside0.mk (below_step bb hb); clear hb hbox hg; obtain ⟨hcz14_0, hcz14_1, hfz14_0, hfz14_1⟩ := bo2 BK191) | ((with_reducible refine gate_callee (f := 13) rfl ?_); refine gl (some 9) Try.func13 #[.agg #[.slice Ao12 y188.length co12, .slice Ao11 y185.length co11]] ?_; (with_reducible refine (shape_Check.calls k _ _ y188 _ _ y185 t192 _ ?side1 ?side2 ?side3 ?side4 A1.out).mono ?_); (case side1 => refine (Kd.R_reads' (e := 38) (base := w.heap.size) (ok := fun k_ => True) (n := y188.length) (c := co12) ?_).2.2; exact (rm ((Kd.R_mono (Kd.R_far (p := ⟨gb191, 1, none⟩) (Kd.R_far (p := ⟨gb191, 0, none⟩) (Kd.R_types HO190.out BK191.out (by decide)) (fun _ hk => hk.2) (.slice Ao12 y188.length co12)) (fun _ hk => hk.2) (.slice Ao11 y185.length co11)) (fun _ h_ => h_.1))))); (case side2 => exact (Kd.R_reads' HO190.out).2.1); (case side3 => refine (Kd.R_reads' (e := 3) (base := w.heap.size) (ok := fun k_ => True) (n := y185.length) (c := co11) ?_).2.2; exact (rm ((Kd.R_mono (Kd.R_far (p := ⟨gb191, 1, none⟩) (Kd.R_far (p := ⟨gb191, 0, none⟩) (Kd.R_types HO187.out BK191.out (by decide)) (fun _ hk => hk.2) (.slice Ao12 y188.length co12)) (fun _ hk => hk.2) (.slice Ao11 y185.length co11)) (fun _ h_ => h_.1))))); (case side4 => exact (Kd.R_reads' HO187.out).2.1); rintro e w15 ⟨rfl, hb⟩; refine ⟨_, rfl, ?_⟩; replace HO187 := Aside0.mk (Kd.R_below (rm ((Kd.R_mono (Kd.R_far (p := ⟨gb191, 1, none⟩) (Kd.R_far (p := ⟨gb191, 0, none⟩) (Kd.R_types HO187.out BK191.out (by decide)) (fun _ hk => hk.2) (.slice Ao12 y188.length co12)) (fun _ hk => hk.2) (.slice Ao11 y185.length co11)) (fun _ h_ => h_.1)))) hb); replace HO190 := Aside0.mk (Kd.R_below (rm ((Kd.R_mono (Kd.R_far (p := ⟨gb191, 1, none⟩) (Kd.R_far (p := ⟨gb191, 0, none⟩) (Kd.R_types HO190.out BK191.out (by decide)) (fun _ hk => hk.2) (.slice Ao12 y188.length co12)) (fun _ hk => hk.2) (.slice Ao11 y185.length co11)) (fun _ h_ => h_.1)))) hb); replace BK191 := Aside0.mk (blk_below (g := gb191) (o := .cells #[.slice Ao12 y188.length co12, .slice Ao11 y185.length co11] 25 (0, 0)) (by refine bm ?_; refine blk_put (cs := #[.slice Ao12 y188.length co12, .slice none 0 0]) ?_ 1 _ rfl; refine bm ?_; refine blk_put (cs := #[.slice none 0 0, .slice none 0 0]) ?_ 0 _ rfl; refine bm ?_; exact BK191.out) hb); replace HB := Aside0.mk (below_step bb hb); (try clear hb); (try clear hb2); (try clear hk); (try clear hi); obtain ⟨hcz16_0, hcz16_1, hfz16_0, hfz16_1⟩ := bo2 BK191) | (go_at_call 10; (with_reducible refine (shape_Rivals.calls k _ _ y188 _ _ y185 1 t193 _ ?side1 ?side2 ?side3 ?side4 A3.out).mono ?_); (case side1 => repeat (first | exact (Kd.R_reads' HO190.out).2.2 | (with_reducible refine Kd.C_alloc ?_ _) | (with_reducible refine Kd.C_drewN ?_ _) | (with_reducible refine Kd.C_drew ?_))); (case side2 => exact (Kd.R_reads' HO190.out).2.1); (case side3 => repeat (first | exact (Kd.R_reads' HO187.out).2.2 | (with_reducible refine Kd.C_alloc ?_ _) | (with_reducible refine Kd.C_drewN ?_ _) | (with_reducible refine Kd.C_drew ?_))); (case side4 => exact (Kd.R_reads' HO187.out).2.1); rintro e w17 ⟨v194, rfl, ho0, hb⟩; replace HO190 := Aside0.mk (Kd.R_below (rk HO190) hb); have HO195 := Aside0.mk (Kd.R_lower (Kd.R_new' ho0 (Kd.R_lt (rk HO187))) (below_size bb)); replace HO187 := Aside0.mk (Kd.R_elder' (rk HO187) (Kd.R_base ho0) hb); replace BK191 := Aside0.mk (bw BK191 hb); replace HB := Aside0.mk (below_step bb hb); (try clear hb); (try clear hb2); (try clear hk); (try clear hi); (try clear ho0)) | ((with_reducible refine gate_dst (N := 14) rfl ?_); (try (refine gate_guard (by rfl) ?_; dsimp only)); refine Kd.R_lit (Kd.int .i64) _ 3 ?hg (N := 14) ?hd (xs := ([2] : List Int)) (inner := [.int .i64 2]) (ok := fun _ => True) (okp := fun _ => True) ?hr ?hp (fun _ hk => hk) trivial (Below.refl _ _) (Nat.le_refl _) (by simp) ?_; (case hd => rfl); (case hg => rfl); (case hr => first | (go_simp; done) | (go_simp; rfl)); (case hp => exact (Reps.one (show Kd.M (Kd.int .i64) _ _ _ 2 [.int .i64 2] from rfl) (Reps.none _ _))); intro v197 w18 ho19 hb hg_ hnew_; clear hg_ hnew_; (first | rw [← Ny196.out] at ho19 | (simp only [Int.reduceToNat] at ho19; rw [← Ny196.out] at ho19)); replace HO190 := Aside0.mk (Kd.R_below (rk HO190) hb); have HO198 := Aside0.mk (Kd.R_lower (Kd.R_new' (Kd.R_new' ho19 (Kd.R_lt (rk HO187))) (Kd.R_lt (rk HO195))) (below_size bb)); replace HO187 := Aside0.mk (Kd.R_elder' (rk HO187) (Kd.R_base ho19) hb); replace HO195 := Aside0.mk (Kd.R_elder' (rk HO195) (Kd.R_base ho19) hb); replace BK191 := Aside0.mk (bw BK191 hb); replace HB := Aside0.mk (below_step bb hb); clear hb ho19; obtain ⟨Ao20, co20, eo20⟩ := Kd.R_slice HO195.out; subst eo20; obtain ⟨Ao21, co21, eo21⟩ := Kd.R_slice HO198.out; subst eo21) | (go_at_call 18; (with_reducible refine (fathomref01_Ints.calls k _ _ t193 _ _ y196 true _ ?side1 ?side2 ?side3 ?side4 A4.out).mono ?_); (case side1 => repeat (first | exact (Kd.R_reads' HO195.out).2.2 | (with_reducible refine Kd.C_alloc ?_ _) | (with_reducible refine Kd.C_drewN ?_ _) | (with_reducible refine Kd.C_drew ?_))); (case side2 => exact (Kd.R_reads' HO195.out).2.1); (case side3 => repeat (first | exact (Kd.R_reads' HO198.out).2.2 | (with_reducible refine Kd.C_alloc ?_ _) | (with_reducible refine Kd.C_drewN ?_ _) | (with_reducible refine Kd.C_drew ?_))); (case side4 => exact (Kd.R_reads' HO198.out).2.1); rintro e w' ⟨rfl, ⟨nd, rfl⟩⟩; obtain ⟨hcz22_0, hcz22_1, hfz22_0, hfz22_1⟩ := bo2 BK191) | (go_at_call 12; (with_reducible refine (shape_At.calls k _ _ y188 _ _ y185 1 0 t200 _ ?side1 ?side2 ?side3 ?side4 A6.out).mono ?_); (case side1 => repeat (first | exact (Kd.R_reads' HO190.out).2.2 | (with_reducible refine Kd.C_alloc ?_ _) | (with_reducible refine Kd.C_drewN ?_ _) | (with_reducible refine Kd.C_drew ?_))); (case side2 => exact (Kd.R_reads' HO190.out).2.1); (case side3 => repeat (first | exact (Kd.R_reads' HO187.out).2.2 | (with_reducible refine Kd.C_alloc ?_ _) | (with_reducible refine Kd.C_drewN ?_ _) | (with_reducible refine Kd.C_drew ?_))); (case side4 => exact (Kd.R_reads' HO187.out).2.1); rintro e w23 ⟨rfl, hb⟩; replace HO187 := Aside0.mk (Kd.R_below (rk HO187) hb); replace HO190 := Aside0.mk (Kd.R_below (rk HO190) hb); replace HO195 := Aside0.mk (Kd.R_below (rk HO195) hb); replace HO198 := Aside0.mk (Kd.R_below (rk HO198) hb); replace BK191 := Aside0.mk (bw BK191 hb); replace HB := Aside0.mk (below_step bb hb); (try clear hb); (try clear hb2); (try clear hk); (try clear hi)))
 go_ret
 exact ⟨ew, bb⟩

/-! ### shape_feeds: function 26 -/
def shape_feeds.j0 : Nat → Int → Int → Bool → Option (Bool)
  | 0, _, _, _ => none
  | k + 1, x0, x5, x10 => if x10 = true then (if x0 = 4 then (some true) else (if x0 = 5 then (some true) else (some (x0 == 6)))) else (if x5 = 10 then (some (x0 == 9)) else (some false))
def shape_feeds.f (k : Nat) (a0 : Int) (a1 : Int) : Option (Bool) := if a1 = 1 then (some (a0 == 2)) else (if a1 = 3 then (shape_feeds.j0 k a0 a1 (a1 == 3)) else (if a1 = 5 then (shape_feeds.j0 k a0 a1 (a1 == 5)) else (shape_feeds.j0 k a0 a1 (a1 == 6))))
theorem shape_feeds.mono_l : ∀ k, (∀ y0 y1 y2, LeO (shape_feeds.j0 k y0 y1 y2) (shape_feeds.j0 (k + 1) y0 y1 y2))
  | 0 => fun _ _ _ r h => by simp [shape_feeds.j0] at h
  | k + 1 => by
    have ih0 := shape_feeds.mono_l k
    · intro y0 y1 y2
      unfold shape_feeds.j0
      repeat' first
      | (with_reducible exact ih0 _ _ _)
      | (with_reducible exact LeO.refl _)
      | (with_reducible exact LeO.none _)
      | (with_reducible refine LeO.ite ?_ ?_)
      | (with_reducible refine LeO.bind ?_ (fun _ => ?_))
      | exact ih0 _ _ _
      | exact LeO.none _
      | refine LeO.ite ?_ ?_
      | refine LeO.bind ?_ (fun _ => ?_)
theorem shape_feeds.mono : ∀ a0 a1 k, LeO (shape_feeds.f k a0 a1) (shape_feeds.f (k + 1) a0 a1) := by
  intro a0 a1 k
  have ih0 := shape_feeds.mono_l k
  unfold shape_feeds.f
  repeat' first
      | (with_reducible exact ih0 _ _ _)
      | (with_reducible exact LeO.refl _)
      | (with_reducible exact LeO.none _)
      | (with_reducible refine LeO.ite ?_ ?_)
      | (with_reducible refine LeO.bind ?_ (fun _ => ?_))
      | exact ih0 _ _ _
      | exact LeO.none _
      | refine LeO.ite ?_ ?_
      | refine LeO.bind ?_ (fun _ => ?_)
set_option maxHeartbeats 8000000 in
set_option maxRecDepth 100000 in
theorem shape_feeds.calls (k : Nat) (a0 : Int) (a1 : Int) (r : Bool) (w : World) (h : shape_feeds.f k a0 a1 = some r) :
    Calls Try.prog 26 #[.int .i64 a0, .int .i64 a1] w fun e w' => e = .returned (.bool r) ∧ Drawn0 w w' := by
 have H : (if a1 = 1 then (some (a0 == 2)) else (if a1 = 3 then (shape_feeds.j0 k a0 a1 (a1 == 3)) else (if a1 = 5 then (shape_feeds.j0 k a0 a1 (a1 == 5)) else (shape_feeds.j0 k a0 a1 (a1 == 6))))) = some r := h
 clear h
 by_cases c3 : a1 = 1
 ·
  rw [if_pos c3] at H
  have c3b0 : (a1 == 1) = true := beq_iff_eq.mpr c3
  have c3b1 : (a1 != 1) = false := bne_eq_false_iff_eq.mpr c3
  clear c3
  obtain rfl := Option.some.inj H
  go_enter Try.func26, Try.ntmps26
  go_wp2
  go_ret
  exact ⟨rs, by repeat (first | exact Drawn0.refl _ | apply Drawn0.step)⟩
 rw [if_neg c3] at H
 have c3b0 : (a1 == 1) = false := beq_eq_false_iff_ne.mpr c3
 have c3b1 : (a1 != 1) = true := bne_iff_ne.mpr c3
 have HC4 := Aside0.mk H
 clear H
 go_enter Try.func26, Try.ntmps26
 go_upto_if 10 with (fail)
 go_cut [10] (fun v10 wc => ∃ (kq : Nat) (x10_3 : Bool), v10 = .bool x10_3 ∧ Aside0 (shape_feeds.j0 kq a0 a1 x10_3 = some r) ∧ Aside0 (kq ≤ k) ∧ Drawn0 w wc)
 case first =>
  have H := HC4.out
  clear HC4
  by_cases c5 : a1 = 3
  ·
   rw [if_pos c5] at H
   have c5b0 : (a1 == 3) = true := beq_iff_eq.mpr c5
   have c5b1 : (a1 != 3) = false := bne_eq_false_iff_eq.mpr c5
   clear c5
   (first | rw [c5b0] | (simp only [i64_w, i32_w]; rw [c5b0]) | skip)
   have H' := Aside0.mk H
   clear H
   go_wp2
   go_meet
   case rel => exact ⟨_, ((a1 == 3)), rs, H', ⟨by first | omega | exact Nat.le_refl _⟩, by repeat (first | exact Drawn0.refl _ | apply Drawn0.step)⟩
  rw [if_neg c5] at H
  have c5b0 : (a1 == 3) = false := beq_eq_false_iff_ne.mpr c5
  have c5b1 : (a1 != 3) = true := bne_iff_ne.mpr c5
  (first | rw [c5b0] | (simp only [i64_w, i32_w]; rw [c5b0]) | skip)
  by_cases c6 : a1 = 5
  rotate_left
  ·
   rw [if_neg c6] at H
   have c6b0 : (a1 == 5) = false := beq_eq_false_iff_ne.mpr c6
   have c6b1 : (a1 != 5) = true := bne_iff_ne.mpr c6
   have H' := Aside0.mk H
   clear H
   go_wp2
   go_meet
   case rel => exact ⟨_, ((a1 == 6)), rs, H', ⟨by first | omega | exact Nat.le_refl _⟩, by repeat (first | exact Drawn0.refl _ | apply Drawn0.step)⟩
  rw [if_pos c6] at H
  have c6b0 : (a1 == 5) = true := beq_iff_eq.mpr c6
  have c6b1 : (a1 != 5) = false := bne_eq_false_iff_eq.mpr c6
  clear c6
  have H' := Aside0.mk H
  clear H
  go_wp2
  go_meet
  case rel => exact ⟨_, ((a1 == 5)), rs, H', ⟨by first | omega | exact Nat.le_refl _⟩, by repeat (first | exact Drawn0.refl _ | apply Drawn0.step)⟩
 case rest =>
  clear HC4
  try clear c2
  try clear p2
  try clear c3
  try clear c3b0
  try clear c3b1
  try clear c5
  try clear c5b0
  try clear c5b1
  try clear c6
  try clear c6b0
  try clear c6b1
  obtain ⟨kq, x10_3, rfl, HA, HJ3, ⟨mc3, rfl⟩⟩ := hcut
  cases kq with
  | zero => exact absurd HA.out (by simp [shape_feeds.j0])
  | succ kj3 =>
   have H := HA.out
   clear HA
   simp only [shape_feeds.j0] at H
   by_cases c7 : x10_3 = true
   rotate_left
   ·
    replace c7 := Bool.eq_false_iff.mpr c7
    subst c7
    have H1 : (if a1 = 10 then (some (a0 == 9)) else (some false)) = some r := by rw [if_neg (show ¬ (false = true) by decide)] at H; exact H
    clear H
    have H := H1
    clear H1
    by_cases c10 : a1 = 10
    rotate_left
    ·
     rw [if_neg c10] at H
     have c10b0 : (a1 == 10) = false := beq_eq_false_iff_ne.mpr c10
     have c10b1 : (a1 != 10) = true := bne_iff_ne.mpr c10
     obtain rfl := Option.some.inj H
     go_wp2
     go_ret
     exact ⟨rs, by repeat (first | exact Drawn0.refl _ | apply Drawn0.step)⟩
    rw [if_pos c10] at H
    have c10b0 : (a1 == 10) = true := beq_iff_eq.mpr c10
    have c10b1 : (a1 != 10) = false := bne_eq_false_iff_eq.mpr c10
    clear c10
    obtain rfl := Option.some.inj H
    go_wp2
    go_ret
    exact ⟨rs, by repeat (first | exact Drawn0.refl _ | apply Drawn0.step)⟩
   subst c7
   have H1 : (if a0 = 4 then (some true) else (if a0 = 5 then (some true) else (some (a0 == 6)))) = some r := by rw [if_pos rfl] at H; exact H
   clear H
   have H := H1
   clear H1
   by_cases c8 : a0 = 4
   ·
    rw [if_pos c8] at H
    have c8b0 : (a0 == 4) = true := beq_iff_eq.mpr c8
    have c8b1 : (a0 != 4) = false := bne_eq_false_iff_eq.mpr c8
    clear c8
    obtain rfl := Option.some.inj H
    go_wp2
    go_ret
    exact ⟨rs, by repeat (first | exact Drawn0.refl _ | apply Drawn0.step)⟩
   rw [if_neg c8] at H
   have c8b0 : (a0 == 4) = false := beq_eq_false_iff_ne.mpr c8
   have c8b1 : (a0 != 4) = true := bne_iff_ne.mpr c8
   by_cases c9 : a0 = 5
   rotate_left
   ·
    rw [if_neg c9] at H
    have c9b0 : (a0 == 5) = false := beq_eq_false_iff_ne.mpr c9
    have c9b1 : (a0 != 5) = true := bne_iff_ne.mpr c9
    obtain rfl := Option.some.inj H
    go_wp2
    go_ret
    exact ⟨rs, by repeat (first | exact Drawn0.refl _ | apply Drawn0.step)⟩
   rw [if_pos c9] at H
   have c9b0 : (a0 == 5) = true := beq_iff_eq.mpr c9
   have c9b1 : (a0 != 5) = false := bne_eq_false_iff_eq.mpr c9
   clear c9
   obtain rfl := Option.some.inj H
   go_wp2
   go_ret
   exact ⟨rs, by repeat (first | exact Drawn0.refl _ | apply Drawn0.step)⟩

end Go.Proofs.Ytcoelecaigkfcaa.K
