/- dimacs.reader: what it holds; fail, begin, number. -/
import Derived.Test.YthnnekaimkppfaaDw
namespace Go.Proofs.Ythnnekaimkppfaa.D
open Go.RowKit Go.Proofs.YthnnekaimkppfaaW.PrintWords Go.Proofs.YthnnekaimkppfaaW.PrintLast
set_option linter.unusedVariables false
set_option linter.unusedSimpArgs false
/-- A reader. -/
structure St where
  vars : Int
  cl : List (List Int)
  head : Bool
  want : Int
  op : List Int
  inn : Bool
  wrong : Int
  e : Int
abbrev cellsS (s : St) (vC vO : Value) : Array Value := #[.int .i64 s.vars, vC, .bool s.head, .int .i64 s.want, vO, .bool s.inn, .int .i64 s.wrong, .int .i64 s.e]
/-- What is of no type of the reader's stays. -/
def Keep (w w' : World) : Prop := w.heap.size ≤ w'.heap.size ∧ ∀ (k : Nat) (cs : Array Value) (t : TypeId), w.heap[k]? = some (Obj.cells cs t (0, 0)) → t ≠ 43 → t ≠ 32 → t ≠ 3 → w'.heap[k]? = some (Obj.cells cs t (0, 0))
theorem Keep.refl (w : World) : Keep w w := ⟨Nat.le_refl _, fun _ _ _ h _ _ _ => h⟩
theorem Keep.trans {a b c : World} (h : Keep a b) (k : Keep b c) : Keep a c := ⟨Nat.le_trans h.1 k.1, fun i cs t x h1 h2 h3 => k.2 i cs t (h.2 i cs t x h1 h2 h3) h1 h2 h3⟩
theorem Keep.below {a w w' : World} (h : Keep a w) (hb : Below w.heap.size w w') : Keep a w' := h.trans ⟨hb.size, fun k cs t x _ _ _ => blk_below x hb⟩
theorem Keep.set {a w : World} (h : Keep a w) {g j : Nat} {cs : Array Value} {t : TypeId} (hg : w.heap[g]? = some (.cells cs t (0, 0))) (ht : t = 43 ∨ t = 32 ∨ t = 3) (u : Value) : Keep a (w.setCell ⟨g, j, none⟩ u) :=
  h.trans ⟨by simp [World.setCell], fun k cs' t' x h1 h2 h3 => by
    have hne : k ≠ g := by
      rintro rfl
      rw [hg] at x
      injection x with x
      injection x with _ x
      subst x
      rcases ht with e | e | e <;> simp_all
    exact (Below.heap_setCell w ⟨g, j, none⟩ u k hne).trans x⟩
/-- A row of the reader's own types has been written. -/
theorem Keep.grown {a w w' : World} (h : Keep a w) {row : Option Nat} (hg : w.grownBy w' row) (hr : ∀ k : Nat, row = some k → ∃ (cs : Array Value) (t : TypeId), w.heap[k]? = some (Obj.cells cs t (0, 0)) ∧ (t = 43 ∨ t = 32 ∨ t = 3)) : Keep a w' :=
  h.trans ⟨hg.size, fun k cs' t' x h1 h2 h3 => by
    have hne : some k ≠ row := by
      intro e
      obtain ⟨cs, t, y, ht⟩ := hr k e.symm
      rw [x] at y
      injection y with y
      injection y with _ y
      subst y
      rcases ht with e | e | e <;> simp_all
    exact (hg.block k (blk_lt x) hne).trans x⟩
theorem Keep.words {a w : World} {v : Value} {ws : List Word} {base : Nat} (h : Keep a w) (hr : k51.R 51 a base (fun _ => True) v ws) : k51.R 51 w base (fun _ => True) v ws :=
  Kd.R_mono (Kd.R_move (Kd.R_bound hr) (fun k hk => by
    obtain ⟨_, _, _, q, hq, cs, hc⟩ := hk
    have e : q = 51 := by simpa [k51, Kd.pair, Kd.int, Kd.string, Kd.scalar] using hq
    subst e
    rw [hc]
    exact h.2 k cs 51 hc (by decide) (by decide) (by decide))) (fun _ _ => trivial)
abbrev kI : Kd Int := Kd.int .i64
abbrev kR : Kd (List Int) := Kd.slice 3 (Kd.int .i64)
structure RS (w0 w : World) (g : Nat) (s : St) : Prop where
  below : Below w0.heap.size w0 w
  ge : w0.heap.size ≤ g
  st : ∃ vC vO, w.heap[g]? = some (.cells (cellsS s vC vO) 43 (0, 0)) ∧ kR.R 32 w w0.heap.size (fun k => some k ≠ vO.ownBlock) vC s.cl ∧ kI.R 3 w w0.heap.size (fun _ => True) vO s.op
theorem RS.put {w0 w : World} {g : Nat} {s : St} (h : RS w0 w g s) (j : Nat) (u : Value) (s' : St) (hc : s'.cl = s.cl) (ho : s'.op = s.op) (hp : ∀ vC vO, (cellsS s vC vO).setIfInBounds j u = cellsS s' vC vO) : RS w0 (w.setCell ⟨g, j, none⟩ u) g s' := by
  obtain ⟨hb, hg, vC, vO, h1, h2, h3⟩ := h
  exact ⟨hb.setCell hg _, hg, vC, vO, blk_put h1 j u (hp vC vO), by rw [hc]; exact Kd.R_set h2 h1 (by decide) j u, by rw [ho]; exact Kd.R_set h3 h1 (by decide) j u⟩
theorem RS.move {w0 w w' : World} {g : Nat} {s : St} (h : RS w0 w g s) (hb : Below w.heap.size w w') : RS w0 w' g s := by
  obtain ⟨h0, hg, vC, vO, h1, h2, h3⟩ := h
  exact ⟨below_then h0 h0.size hb, hg, vC, vO, blk_below h1 hb, Kd.R_below h2 hb, Kd.R_below h3 hb⟩
def failF (s : St) (at_ e : Int) : St := { s with wrong := at_, e := e }
set_option maxHeartbeats 2000000 in
set_option maxRecDepth 100000 in
theorem fail_calls (w0 w : World) (g : Nat) (s : St) (at_ er : Int) (h : RS w0 w g s) :
    Calls Try.prog 22 #[.pointer (some ⟨g, 0, none⟩), .int .i64 at_, .int .i64 er] w fun e w' => e = .returned (.bool false) ∧ RS w0 w' g (failF s at_ er) ∧ Keep w w' := by
  obtain ⟨vC, vO, h1, _, _⟩ := h.st
  have c6 := (blk_cell h1 6).trans rfl
  have c7 := (blk_cell h1 7).trans rfl
  have f6 := blk_frozen h1 6
  have f7 := blk_frozen h1 7
  have H := Aside0.mk h
  have H1 := Aside0.mk h1
  clear h h1
  go_enter Try.func22, Try.ntmps22
  go_wp2
  go_ret
  refine ⟨rfl, ?_, ?_⟩
  · exact (H.out.put 6 (.int .i64 at_) { s with wrong := at_ } rfl rfl (fun _ _ => rfl)).put 7 (.int .i64 er) (failF s at_ er) rfl rfl (fun _ _ => rfl)
  · exact ((Keep.refl w).set H1.out (.inl rfl) _).set (blk_set H1.out 6 _) (.inl rfl) _
end Go.Proofs.Ythnnekaimkppfaa.D
