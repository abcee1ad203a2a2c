/- Helpers beside the print's words: a literal '[]byte("..")' that is only read; a half run operation; the length of a sum of texts. -/
import Derived.Below
import Derived.RowKit
import Derived.Lib.SlBytesConst
import Derived.Lib.SliceRun
import Derived.Test.YthnnekaimkppfaaWWords
namespace Go
open Go.RowKit Go.Proofs.YthnnekaimkppfaaW.PrintWords
theorem size_one (b : UInt8) : ({ data := #[b] } : ByteArray).size = 1 := rfl
/-- A goal whose operation has not been run to its end. -/
theorem upon_gate {P : Program} {o : Oper} {a : Act} {next : Act → World → Prop} {Q : Exit → Act → World → Prop} {r : Result Next} (h : o.upon P a next Q r) : o.upon P a next Q r := h
/-- A slice's value is one cell. -/
theorem cells_slice {v : Value} {n : Nat} (h : ∃ A c, v = .slice A n c) : v.cells = #[v] := by
  obtain ⟨A, c, rfl⟩ := h
  rfl
theorem one_slice {v : Value} {n : Nat} (h : ∃ A c, v = .slice A n c) : v.oneCell' = true := by
  obtain ⟨A, c, rfl⟩ := h
  rfl
/-- A slice that is read: its value, and what it holds. -/
def ReadL {α : Type} (d : Kd α) (w : World) (v : Value) (xs : List α) : Prop := ∃ A c, v = .slice A xs.length c ∧ xs.length ≤ c ∧ d.C w A xs.length xs
section
variable {α : Type} {d : Kd α} {w w1 : World} {v : Value} {xs : List α}
theorem ReadL.below (h : ReadL d w v xs) (hb : Below w.heap.size w w1) : ReadL d w1 v xs := by
  obtain ⟨A, c, e, hl, hr⟩ := h
  exact ⟨A, c, e, hl, Kd.C_below hr hb⟩
theorem ReadL.alloc (h : ReadL d w v xs) (o : Obj) : ReadL d (w.alloc o) v xs := h.below (below_alloc (Below.refl _ _) o)
theorem ReadL.drewN (h : ReadL d w v xs) (m : Nat) : ReadL d (w.drewN m) v xs := h.below (pw_below_drewN (Below.refl _ _) m)
theorem ReadL.drew (h : ReadL d w v xs) : ReadL d w.drew v xs := h.below (below_drew (Below.refl _ _))
theorem ReadL.slice (h : ReadL d w v xs) : ∃ A c, v = .slice A xs.length c := by
  obtain ⟨A, c, e, _, _⟩ := h
  exact ⟨A, c, e⟩
theorem ReadL.reads {A : Option Addr} {n c : Nat} (h : ReadL d w (.slice A n c) xs) : n = xs.length ∧ n ≤ c ∧ d.C w A xs.length xs := by
  obtain ⟨A', c', he, hl, hr⟩ := h
  injection he with h1 h2 h3
  subst h1
  exact ⟨h2, by omega, hr⟩
end
section
variable {P : Program} {ops : Array Oper} {rest : List Oper} {o : Oper} {a : Act} {Q : Exit → Act → World → Prop}
/-- '[]byte("..")': the literal; the conversion to its own type, that only marks its row, is handed on as an equation. -/
theorem lit_event {W : World} (t e : TypeId) (hgd : o.guard = none) {N : Tmp} (_hd : o.dst = some N) {xs : List Int} {inner : List Value} (hin : inner = xs.map (Value.int .u8))
    (hrun : (execOp a.eval o).run P W = .ok (.value (.slice (some ⟨W.heap.size, 0, none⟩) xs.length xs.length)) (W.alloc (.cells inner.toArray e)))
    (ht : P.underlying t = some (.slice e)) (he : P.underlying e = some (.int .u8)) (hm : xs.length ≤ 9223372036854775807)
    (h : ∀ v1 w1 w2, (convert t t v1).run P w1 = .ok v1 w2 → ReadL (Kd.int .u8) w2 v1 xs → Below W.heap.size W w2 → wpList P ops Q rest (a.put o.dst v1) w1) : wpList P ops Q (o :: rest) a W := by
  refine Kd.event_run hgd hrun (h _ _ _ (Lib.run_convert_bytes_const W t e inner.toArray xs.length xs.length ht he) ?_ (below_alloc (Below.refl _ _) _))
  refine ⟨_, _, rfl, Nat.le_refl _, Kd.C_of_reads (d := (0 : Int)) (h1 := fun _ => rfl) ⟨rfl, hm, fun _ => ⟨_, rfl, fun j hj => ?_⟩⟩⟩
  have e1 : (Addr.add ⟨W.heap.size, 0, none⟩ j) = ⟨W.heap.size, j, none⟩ := by simp only [Addr.add, Nat.zero_add]; split <;> simp_all
  rw [e1, World.cell?_alloc_mark, hin]
  simp [List.getElem?_map, List.getElem?_eq_getElem hj, List.getD_eq_getElem?_getD]
end
end Go
namespace Go
section
variable {P : Program} {ops : Array Oper} {rest : List Oper} {o : Oper} {a : Act} {Q : Exit → Act → World → Prop} {W : World}
/-- A look ahead: what is called here is function f; nothing else is done. -/
theorem gate_callee {f : FuncId} {xs : Array Operand} {ts : Array TypeId} (_h : o.op = .call { callee := .value (.func f), args := xs, argTypes := ts }) (k : wpList P ops Q (o :: rest) a W) : wpList P ops Q (o :: rest) a W := k
/-- A look ahead: it is this builtin. -/
theorem gate_builtin {b : Builtin} {xs : Array Operand} {ts : Array TypeId} (_h : o.op = .call { callee := .builtin b, args := xs, argTypes := ts }) (k : wpList P ops Q (o :: rest) a W) : wpList P ops Q (o :: rest) a W := k
end
end Go
namespace Go
open Go.RowKit Go.Proofs.YthnnekaimkppfaaW.PrintWords
section
variable {P : Program} {ops : Array Oper} {o : Oper} {a : Act} {Q : Exit → Act → World → Prop} {Kc : Act → World → Prop}
/-- append(b, s...), s a string, as a step of a region that draws its order. -/
theorem print_append_str_step {w0 W : World} (base : Nat) (hw : Region.wanted o (yielded ops a.tmps) = true) (s x : Operand) (t u e : TypeId)
    (ho : o.op = .call { callee := .builtin .append, args := #[s, x], argTypes := #[t, u] })
    (ht : P.underlying t = some (.slice e)) (hu : P.underlying u = some .string) (hinfo : (P.info? e).map (fun i => (i.zero, i.size, i.bytes)) = some (some (.int .u8 0), 1, 1))
    (v : Value) (xs : List Int) (y : ByteArray) (hs : a.eval s = v) (hx : a.eval x = .string y)
    (HO : W.ownsRow base e 1 v xs.length (nums .u8 xs)) (HB : Below base w0 W) (hbase : base ≤ W.heap.size) (hl : xs.length + y.size ≤ 140737488355328)
    (h : ∀ v1 w1, w1.ownsRow base e 1 v1 (xs ++ bytesOf y).length (nums .u8 (xs ++ bytesOf y)) → Below base w0 w1 → W.grownBy w1 v.ownBlock → Kc (a.put o.dst v1) w1) :
    if Region.wanted o (yielded ops a.tmps) = true then Oper.wp P o a W Kc Q else Kc (a.put o.dst undef) W := by
  obtain ⟨i0, hi, hzz⟩ := Option.map_eq_some_iff.1 hinfo
  simp only [Prod.mk.injEq] at hzz
  obtain ⟨hz0, hz1, hz2⟩ := hzz
  rw [if_pos hw]
  obtain ⟨v1, w1, hr, hown, hg, _⟩ := Lib.run_append_own_string (P := P) W base t u o.type e i0 ht hu hi hz0 hz1 hz2 v xs.length (nums .u8 xs) HO y (by simp only [maxLen]; omega) hl hbase
  unfold Oper.wp execOp
  simp only [ho, resolve, invoke, builtin, Sem.run_bind, Sem.run_pure, Result.andThen_ok, List.map_toArray, List.map_cons, List.map_nil, hs, hx, hr]
  have hl2 : (xs ++ bytesOf y).length = xs.length + y.size := by rw [List.length_append, bytesOf_length]
  have hc : nums .u8 (xs ++ bytesOf y) = nums .u8 xs ++ Lib.strCells y := by
    rw [nums_append]
    congr 1
    simp [nums, bytesOf, Lib.strCells]
  exact h v1 w1 (by rw [hl2, hc]; exact hown) (HB.grown hg hbase (own_base HO)) hg
end
end Go
