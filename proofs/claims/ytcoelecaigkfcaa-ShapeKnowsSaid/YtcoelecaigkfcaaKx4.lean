-- Laid by drive.py (a program of the session's) out of the translation. Lean checks it.
import Derived.Test.YtcoelecaigkfcaaKx0
namespace Go.Proofs.Ytcoelecaigkfcaa.K
open Go.RowKit Go.Proofs.YtcoelecaigkfcaaW.PrintWords Go.Proofs.YtcoelecaigkfcaaW.PrintLast
set_option linter.unusedVariables false
set_option linter.unusedSimpArgs false

def rank_squared.f (l0 : List (List Bool)) : Option Bool := some (decide (l0.length ≤ 40) && l0.all fun r => decide (r.length = l0.length))
/-- The closure: is a row of another length? -/
theorem rank_squared.closure (A : Option Addr) (n c : Nat) (b : Nat) (A0 : Option Addr) (m c0 : Nat) (W : World) (hb : W.heap[b]? = some (.cells #[.slice A0 m c0] 28 (0, 0))) :
    Calls Try.prog 31 #[.slice A n c, .pointer (some ⟨b, 0, none⟩)] W fun e w' => e = .returned (.bool ((n : Int) != (m : Int))) ∧ Drawn0 W w' := by
  have hc : W.cell? ⟨b, 0, none⟩ = some (.slice A0 m c0) := (blk_cell hb 0).trans rfl
  clear hb
  go_enter Try.func31, Try.ntmps31
  go_wp2
  repeat (go_quiet (fail); try go_wp2)
  go_ret
  exact ⟨rs, by repeat (first | exact Drawn0.refl _ | apply Drawn0.step)⟩
/-- Where the first row of another length stands. -/
def rank_squared.Idx (l : List (List Bool)) (m : Nat) (r : Int) : Prop := (r = -1 ∧ ∀ i, i < l.length → (l.getD i []).length = m) ∨ (0 ≤ r ∧ ∃ i, i < l.length ∧ (l.getD i []).length ≠ m)
theorem rank_squared.all_eq {l : List (List Bool)} {m : Nat} {r : Int} (h : rank_squared.Idx l m r) : (!decide (0 ≤ r)) = l.all fun x => decide (x.length = m) := by
  have get : ∀ i (hi : i < l.length), l.getD i [] = l[i] := fun i hi => by simp [List.getD_eq_getElem?_getD, List.getElem?_eq_getElem hi]
  rcases h with ⟨rfl, h⟩ | ⟨h0, i, hi, h⟩
  · symm
    rw [show (!decide (0 ≤ (-1 : Int))) = true from rfl, List.all_eq_true]
    intro x hx
    obtain ⟨i, hi, rfl⟩ := List.getElem_of_mem hx
    have := h i hi
    rw [get i hi] at this
    exact decide_eq_true this
  · rw [decide_eq_true h0]
    symm
    rw [Bool.not_true, List.all_eq_false]
    refine ⟨l[i], List.getElem_mem hi, ?_⟩
    rw [get i hi] at h
    simpa using h
structure rank_squared.Inv (l : List (List Bool)) (m : Nat) (k : Nat) (j : Int) (w w' : World) : Prop where
  low : 0 ≤ j
  sum : (k : Int) + j = l.length
  all : ∀ i : Nat, (i : Int) < j → (l.getD i []).length = m
  below : Below w.heap.size w w'
set_option maxHeartbeats 8000000 in
set_option maxRecDepth 100000 in
theorem rank_squared.index (A : Option Addr) (c : Nat) (l : List (List Bool)) (b : Nat) (A0 : Option Addr) (m c0 : Nat) (w : World) (hr : Kd.C (Kd.slice 4 Kd.bool) w A l.length l) (hb : w.heap[b]? = some (.cells #[.slice A0 m c0] 28 (0, 0))) :
    Calls Try.prog 32 #[.slice A l.length c, .func (.func 31) #[] #[.pointer (some ⟨b, 0, none⟩)]] w fun e w' => ∃ r : Int, e = .returned (.int .i64 r) ∧ Aside0 (rank_squared.Idx l m r) ∧ Below w.heap.size w w' := by
  have HR := Aside0.mk hr
  have HBK := Aside0.mk hb
  have hlen : l.length ≤ 9223372036854775807 := hr.2.1
  clear hr hb
  go_enter Try.func32, Try.ntmps32
  go_wp2
  go_loopg [8] l.length (fun kq v8 w' => ∃ j : Int, v8 = .int .i64 j ∧ Aside0 (rank_squared.Inv l m kq j w w'))
  case atStart => exact ⟨0, rfl, ⟨⟨by omega, by omega, fun i hi => by omega, Below.refl _ _⟩⟩⟩
  case round =>
    obtain ⟨j, rfl, HI⟩ := hrel
    have hlow := HI.out.low
    have hsum := HI.out.sum
    have HB := Aside0.mk HI.out.below
    cases gk with
    | zero =>
      have c1 : decide (j < (l.length : Int)) = false := decide_eq_false (by omega)
      have HJ : Aside0 (j = l.length) := ⟨by omega⟩
      clear hsum
      go_wp2
      go_ret
      exact ⟨-1, rfl, ⟨.inl ⟨rfl, fun i hi => HI.out.all i (by have := HJ.out; omega)⟩⟩, HB.out⟩
    | succ k =>
      have c1 : decide (j < (l.length : Int)) = true := decide_eq_true (by omega)
      have q1 : j < (l.length : Int) := by omega
      obtain ⟨ad, A1, n1, e1, hx, hl1, hi1⟩ := at_L3 HR.out j hlow q1
      subst e1
      replace hx := bl HB hx
      have hbk : wr.heap[b]? = some (.cells #[.slice A0 m c0] 28 (0, 0)) := (HB.out.block b (blk_lt HBK.out)).trans HBK.out
      have HBK2 := Aside0.mk hbk
      have hrow : rd_L3 l j = l.getD j.toNat [] := rfl
      have HIall := Aside0.mk HI.out.all
      have HS := Aside0.mk hsum
      have HQ := Aside0.mk q1
      have Q1 := eq_true q1
      have hw : wrap64 (j + 1) = j + 1 := by unfold wrap64; omega
      have HW := Aside0.mk hw
      clear hbk hsum q1 hw
      by_cases c2 : (rd_L3 l j).length = m
      · have c2b : (((rd_L3 l j).length : Int) != (m : Int)) = false := bne_eq_false_iff_eq.mpr (by omega)
        have C2 := Aside0.mk c2
        have hcl := fun (W : World) (hW : W.heap[b]? = some (.cells #[.slice A0 m c0] 28 (0, 0))) => rank_squared.closure A1 (rd_L3 l j).length n1 b A0 m c0 W hW
        rw [c2b] at hcl
        have HCL := Aside0.mk hcl
        have HLOW := eq_true hlow
        have HROW := Aside0.mk hrow
        clear c2 c2b hcl hrow hlow HI
        go_wp2_with (first | (go_at_call 31; (refine (HCL.out _ (by refine bm ?_; exact HBK2.out)).mono ?_); rintro e w' ⟨rfl, ⟨nd, rfl⟩⟩))
        go_roundg k
        case measure => omega
        case rel =>
          have hl := of_eq_true HLOW
          have hq := HQ.out
          have hw := HW.out
          exact ⟨wrap64 (j + 1), rfl, ⟨⟨by omega, by have := HS.out; omega, fun i hi => by
            by_cases h : (i : Int) < j
            · exact HIall.out i h
            · obtain rfl : i = j.toNat := by omega
              rw [← HROW.out]; exact C2.out, bb⟩⟩⟩
      · have c2b : (((rd_L3 l j).length : Int) != (m : Int)) = true := bne_iff_ne.mpr (by omega)
        have C2 := Aside0.mk c2
        have hcl := fun (W : World) (hW : W.heap[b]? = some (.cells #[.slice A0 m c0] 28 (0, 0))) => rank_squared.closure A1 (rd_L3 l j).length n1 b A0 m c0 W hW
        rw [c2b] at hcl
        have HCL := Aside0.mk hcl
        have HLOW := eq_true hlow
        have HROW := Aside0.mk hrow
        clear c2 c2b hcl hrow hlow HI
        go_wp2_with (first | (go_at_call 31; (refine (HCL.out _ (by refine bm ?_; exact HBK2.out)).mono ?_); rintro e w' ⟨rfl, ⟨nd, rfl⟩⟩))
        go_ret
        exact ⟨j, rfl, ⟨.inr ⟨of_eq_true HLOW, j.toNat, by have := HQ.out; have := of_eq_true HLOW; omega, by rw [← HROW.out]; exact C2.out⟩⟩, bb⟩
set_option maxHeartbeats 8000000 in
set_option maxRecDepth 100000 in
theorem rank_squared.contains (A : Option Addr) (c : Nat) (l : List (List Bool)) (b : Nat) (A0 : Option Addr) (m c0 : Nat) (w : World) (hr : Kd.C (Kd.slice 4 Kd.bool) w A l.length l) (hb : w.heap[b]? = some (.cells #[.slice A0 m c0] 28 (0, 0))) :
    Calls Try.prog 30 #[.slice A l.length c, .func (.func 31) #[] #[.pointer (some ⟨b, 0, none⟩)]] w fun e w' => ∃ r : Int, e = .returned (.bool (decide (0 ≤ r))) ∧ Aside0 (rank_squared.Idx l m r) ∧ Below w.heap.size w w' := by
  have HX := Aside0.mk (rank_squared.index A c l b A0 m c0 w hr hb)
  clear hr hb
  go_enter Try.func30, Try.ntmps30
  go_wp2_with (first | (go_at_call 32; (refine HX.out.mono ?_); rintro e w1 ⟨r, rfl, hr, hb⟩; have HR := Aside0.mk hr; have HB := Aside0.mk hb; clear hr hb))
  go_ret
  exact ⟨r, by first | rfl | (simp; done), HR.out, HB.out⟩
set_option maxHeartbeats 8000000 in
set_option maxRecDepth 100000 in
theorem rank_squared.calls (A0 : Option Addr) (c0 : Nat) (l0 : List (List Bool)) (r : Bool) (w : World) (hr0 : Kd.C (Kd.slice 4 Kd.bool) w A0 l0.length l0) (hc0 : l0.length ≤ c0) (h : rank_squared.f l0 = some r) :
    Calls Try.prog 28 #[.slice A0 l0.length c0] w fun e w' => e = .returned (.bool r) ∧ Below w.heap.size w w' := by
 obtain rfl := Option.some.inj h
 clear h
 have HR := Aside0.mk hr0
 clear hr0 hc0
 by_cases c1 : l0.length ≤ 40
 rotate_left
 ·
  have c1b : decide ((l0.length : Int) ≤ 40) = false := decide_eq_false (by omega)
  have c1c : decide (l0.length ≤ 40) = false := decide_eq_false c1
  clear c1
  rw [c1c]
  go_enter Try.func28, Try.ntmps28
  go_wp2_with (first | ((with_reducible refine gate_dst (N := 1) rfl ?_); refine bx 1 #[.slice A0 l0.length c0] 28 ?_; intro gb hg w1 hbox hb; have BK := Aside0.mk hbox; have HB := Aside0.mk hb; have hcz : w1.cell? ⟨gb, 0, none⟩ = some (.slice A0 l0.length c0) := (blk_cell BK.out 0).trans rfl; clear hbox hb hg))
  go_ret
  exact ⟨rfl, HB.out⟩
 have c1b : decide ((l0.length : Int) ≤ 40) = true := decide_eq_true (by omega)
 have c1c : decide (l0.length ≤ 40) = true := decide_eq_true c1
 clear c1
 go_enter Try.func28, Try.ntmps28
 go_wp2_with (first | ((with_reducible refine gate_dst (N := 1) rfl ?_); refine bx 1 #[.slice A0 l0.length c0] 28 ?_; intro gb hg w1 hbox hb; have BK := Aside0.mk hbox; have HB := Aside0.mk hb; have hcz : w1.cell? ⟨gb, 0, none⟩ = some (.slice A0 l0.length c0) := (blk_cell BK.out 0).trans rfl; clear hbox hb hg) | (go_at_call 30; (refine (rank_squared.contains A0 c0 l0 gb A0 l0.length c0 _ (by repeat (first | exact (Kd.C_below HR.out HB.out) | (with_reducible refine Kd.C_alloc ?_ _) | (with_reducible refine Kd.C_drewN ?_ _) | (with_reducible refine Kd.C_drew ?_))) (by refine bm ?_; exact BK.out)).mono ?_); rintro e w2 ⟨r, rfl, hr, hb⟩; have HX := Aside0.mk hr; have HB2 := Aside0.mk (below_step HB.out hb); clear hr hb))
 go_ret
 refine ⟨?_, HB2.out⟩
 show Ending.returned (.bool (!decide (0 ≤ r))) = _
 rw [rank_squared.all_eq HX.out.out, c1c, Bool.true_and]

def slices_Clone_bool_bool.f (l0 : List Bool) : Option (List Bool) := if l0.length ≤ 140737488355328 then some l0 else none
theorem slices_Clone_bool_bool.info : (Try.prog.info? 4).map (fun i => (i.zero, i.size, i.bytes)) = some (some (.bool false), 1, 1) := by kernel_rfl
set_option maxHeartbeats 8000000 in
set_option maxRecDepth 100000 in
theorem slices_Clone_bool_bool.calls (A0 : Option Addr) (c0 : Nat) (l0 : List Bool) (r : List Bool) (w : World) (hr0 : Kd.C Kd.bool w A0 l0.length l0) (hc0 : l0.length ≤ c0) (h : slices_Clone_bool_bool.f l0 = some r) :
    Calls Try.prog 29 #[.slice A0 l0.length c0] w fun e w' => ∃ v0_ : Value, e = .returned (v0_) ∧ Kd.R Kd.bool 4 w' w.heap.size (fun _ => True) v0_ r ∧ Below w.heap.size w w' := by
 unfold slices_Clone_bool_bool.f at h
 split at h
 ·
  rename_i hlen
  obtain rfl := Option.some.inj h
  clear h
  have HR := Aside0.mk hr0
  have HC := Aside0.mk hc0
  have HL := Aside0.mk hlen
  have hq := Lib.run_eql_slice_nil (P := Try.prog) (t := 33) (e := 4) (h := Try.underlying33)
  cases A0 with
  | none =>
   obtain rfl : l0 = [] := by
     have h1 := (Kd.reads_of_C (d := false) hr0).2.2
     cases l0 with
     | nil => rfl
     | cons a l =>
       obtain ⟨ad, e, _⟩ := h1 (by simp)
       cases e
   clear hr0 hc0 hlen
   go_enter Try.func29, Try.ntmps29
   go_wp2
   go_ret
   exact ⟨_, rfl, Kd.R_nil _ _ _ _ _, Below.refl _ _⟩
  | some ad =>
   clear hr0 hc0 hlen
   go_enter Try.func29, Try.ntmps29
   go_wp2_with (first | ((with_reducible refine gate_dst (N := 5) rfl ?_); refine Kd.R_lit Kd.bool _ 4 ?hg (N := 5) ?hd (xs := ([] : List Bool)) (inner := []) (ok := fun _ => True) (okp := fun _ => True) ?hr ?hp (fun _ hk => hk) trivial (Below.refl _ _) (Nat.le_refl _) (by simp) ?_; (case hd => rfl); (case hg => rfl); (case hr => first | (go_simp; done) | (go_simp; rfl)); (case hp => exact Reps.none _ _); intro v1 w1 ho hb hg_ hnew_; clear hg_ hnew_; have HO := Aside0.mk ho; have HB := Aside0.mk hb; clear ho hb) | ((with_reducible refine gate_dst (N := 7) rfl ?_); refine Kd.R_append_row (w0 := w) (W := w1) Value.bool false (h1 := fun _ => rfl) w.heap.size rfl (.tmp 5) (.tmp 6) 33 4 (.bool false) 1 rfl Try.underlying33 slices_Clone_bool_bool.info rfl (by decide) v1 [] l0 (some ad) l0.length c0 (fun _ => True) rfl rfl (fun _ _ => trivial) HO.out (Kd.C_below HR.out HB.out) HB.out HB.out.size (by have := HL.out; simp; omega) ?_; intro v2 w2 ho2 hb2 hg2 hn2; clear hg2 hn2; have HO2 := Aside0.mk ho2; have HB2 := Aside0.mk hb2; clear ho2 hb2))
   go_ret
   exact ⟨_, rfl, HO2.out, HB2.out⟩
 cases h

end Go.Proofs.Ytcoelecaigkfcaa.K
