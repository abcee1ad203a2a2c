/- Helpers beside the print's words: a literal '[]byte("..")' that is only read; a half run operation; the length of a sum of texts. -/
import Derived.Below
import Derived.RowKit
import Derived.Lib.SlBytesConst
import Derived.Lib.SliceRun
import Derived.Test.YtcoelecaigkfcaaWWords
namespace Go
open Go.RowKit Go.Proofs.YtcoelecaigkfcaaW.PrintWords
theorem size_one (b : UInt8) : ({ data := #[b] } : ByteArray).size = 1 := rfl
/-- A goal whose operation has not been run to its end. -/
theorem upon_gate {P : Program} {o : Oper} {a : Act} {next : Act → World → Prop} {Q : Exit → Act → World → Prop} {r : Result Next} (h : o.upon P a next Q r) : o.upon P a next Q r := h
/-- A slice's value is one cell. -/
theorem cells_slice {v : Value} {n : Nat} (h : ∃ A c, v = .slice A n c) : v.cells = #[v] := by
  obtain ⟨A, c, rfl⟩ := h
  rfl
theorem one_slice {v : Value} {n : Nat} (h : ∃ A c, v = .slice A n c) : v.oneCell' = true := by
  obtain ⟨A, c, rfl⟩ := h
  rfl
/-- A slice that is read: its value, and what it holds. -/
def ReadL {α : Type} (d : Kd α) (w : World) (v : Value) (xs : List α) : Prop := ∃ A c, v = .slice A xs.length c ∧ xs.length ≤ c ∧ d.C w A xs.length xs
section
variable {α : Type} {d : Kd α} {w w1 : World} {v : Value} {xs : List α}
theorem ReadL.below (h : ReadL d w v xs) (hb : Below w.heap.size w w1) : ReadL d w1 v xs := by
  obtain ⟨A, c, e, hl, hr⟩ := h
  exact ⟨A, c, e, hl, Kd.C_below hr hb⟩
theorem ReadL.alloc (h : ReadL d w v xs) (o : Obj) : ReadL d (w.alloc o) v xs := h.below (below_alloc (Below.refl _ _) o)
theorem ReadL.drewN (h : ReadL d w v xs) (m : Nat) : ReadL d (w.drewN m) v xs := h.below (pw_below_drewN (Below.refl _ _) m)
theorem ReadL.drew (h : ReadL d w v xs) : ReadL d w.drew v xs := h.below (below_drew (Below.refl _ _))
theorem ReadL.slice (h : ReadL d w v xs) : ∃ A c, v = .slice A xs.length c := by
  obtain ⟨A, c, e, _, _⟩ := h
  exact ⟨A, c, e⟩
theorem ReadL.reads {A : Option Addr} {n c : Nat} (h : ReadL d w (.slice A n c) xs) : n = xs.length ∧ n ≤ c ∧ d.C w A xs.length xs := by
  obtain ⟨A', c', he, hl, hr⟩ := h
  injection he with h1 h2 h3
  subst h1
  exact ⟨h2, by omega, hr⟩
end
section
variable {P : Program} {ops : Array Oper} {rest : List Oper} {o : Oper} {a : Act} {Q : Exit → Act → World → Prop}
/-- '[]byte("..")': the literal; the conversion to its own type, that only marks its row, is handed on as an equation. -/
theorem lit_event {W : World} (t e : TypeId) (hgd : o.guard = none) {N : Tmp} (_hd : o.dst = some N) {xs : List Int} {inner : List Value} (hin : inner = xs.map (Value.int .u8))
    (hrun : (execOp a.eval o).run P W = .ok (.value (.slice (some ⟨W.heap.size, 0, none⟩) xs.length xs.length)) (W.alloc (.cells inner.toArray e)))
    (ht : P.underlying t = some (.slice e)) (he : P.underlying e = some (.int .u8)) (hm : xs.length ≤ 9223372036854775807)
    (h : ∀ v1 w1 w2, (convert t t v1).run P w1 = .ok v1 w2 → ReadL (Kd.int .u8) w2 v1 xs → Below W.heap.size W w2 → wpList P ops Q rest (a.put o.dst v1) w1) : wpList P ops Q (o :: rest) a W := by
  refine Kd.event_run hgd hrun (h _ _ _ (Lib.run_convert_bytes_const W t e inner.toArray xs.length xs.length ht he) ?_ (below_alloc (Below.refl _ _) _))
  refine ⟨_, _, rfl, Nat.le_refl _, Kd.C_of_reads (d := (0 : Int)) (h1 := fun _ => rfl) ⟨rfl, hm, fun _ => ⟨_, rfl, fun j hj => ?_⟩⟩⟩
  have e1 : (Addr.add ⟨W.heap.size, 0, none⟩ j) = ⟨W.heap.size, j, none⟩ := by simp only [Addr.add, Nat.zero_add]; split <;> simp_all
  rw [e1, World.cell?_alloc_mark, hin]
  simp [List.getElem?_map, List.getElem?_eq_getElem hj, List.getD_eq_getElem?_getD]
end
end Go
namespace Go
section
variable {P : Program} {ops : Array Oper} {rest : List Oper} {o : Oper} {a : Act} {Q : Exit → Act → World → Prop} {W : World}
/-- A look ahead: what is called here is function f; nothing else is done. -/
theorem gate_callee {f : FuncId} {xs : Array Operand} {ts : Array TypeId} (_h : o.op = .call { callee := .value (.func f), args := xs, argTypes := ts }) (k : wpList P ops Q (o :: rest) a W) : wpList P ops Q (o :: rest) a W := k
/-- A look ahead: it is this builtin. -/
theorem gate_builtin {b : Builtin} {xs : Array Operand} {ts : Array TypeId} (_h : o.op = .call { callee := .builtin b, args := xs, argTypes := ts }) (k : wpList P ops Q (o :: rest) a W) : wpList P ops Q (o :: rest) a W := k
end
end Go
