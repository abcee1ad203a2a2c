/- What reads as data reads as the print's kinds: numbers, bools, texts, slices, structs of fields in line. -/
import Derived.Deep.Slices
import Derived.ProofKit
import Derived.OpenShut
import Derived.Test.YtcoelecaigkfcaaWWords
namespace Go
open Go.RowKit Go.Deep Go.ChangeShapes Go.Proofs.YtcoelecaigkfcaaW.PrintWords
/-- What reads as data of type t is, as cells, a value of kind d of which B holds. -/
def Opens {α : Type} (P : Program) (t : TypeId) (d : Kd α) (B : α → Prop) : Prop :=
  ∀ (H : Type) (enc : TypeId × Value → H) (w : World) (base : Nat) (spare : Nat → Bool) (held : Bool) (fuel : Nat) (cs : List Value) (x : DataW H × List MemPlace),
    DataW.trod enc P w base spare held fuel t cs = some x → ∃ a, d.K w a cs ∧ B a
theorem Opens.mono {α : Type} {P : Program} {t : TypeId} {d : Kd α} {B B' : α → Prop} (h : Opens P t d B) (hb : ∀ a, B a → B' a) : Opens P t d B' := by
  intro H enc w base spare held fuel cs x hx
  obtain ⟨a, ha, hB⟩ := h H enc w base spare held fuel cs x hx
  exact ⟨a, ha, hb a hB⟩
theorem Opens.int {P : Program} {t : TypeId} {k : IntKind} (ht : P.underlying t = some (.int k)) : Opens P t (Kd.int k) (fun n => (Lit.int k n).wf = true) := by
  intro H enc w base spare held fuel cs x hx
  obtain ⟨n, rfl, _, hw⟩ := DataW.trod_int ht hx
  exact ⟨n, rfl, hw⟩
theorem Opens.bool {P : Program} {t : TypeId} (ht : P.underlying t = some .bool) : Opens P t Kd.bool (fun _ => True) := by
  intro H enc w base spare held fuel cs x hx
  obtain ⟨n, rfl, _⟩ := DataW.trod_bool ht hx
  exact ⟨n, rfl, trivial⟩
theorem Opens.string {P : Program} {t : TypeId} (ht : P.underlying t = some .string) : Opens P t Kd.string (fun s => s.size ≤ maxLen) := by
  intro H enc w base spare held fuel cs x hx
  obtain ⟨n, rfl, _, hw⟩ := DataW.trod_string ht hx
  exact ⟨n, rfl, hw⟩
theorem Opens.slice {α : Type} {P : Program} {t e : TypeId} {d : Kd α} {B : α → Prop} (ht : P.underlying t = some (.slice e)) (hc : P.cellsOf e = d.sz) (h : Opens P e d B) :
    Opens P t (Kd.slice e d) (fun l => l.length ≤ maxLen ∧ ∀ x ∈ l, B x) := by
  intro H enc w base spare held fuel cs x hx
  rcases open_slice ht hx with ⟨rfl, _⟩ | ⟨a, len, cap, m, n, D, Pl, rfl, hb, hl, hm, hmm, _, hel⟩
  · exact ⟨[], ⟨none, 0, rfl, Nat.le_refl _, ⟨rfl, by simp, fun h0 => by simp at h0⟩⟩, by simp, fun x hx => by simp at hx⟩
  · have hlm : len ≤ m := by rw [hmm]; split <;> omega
    have key : ∀ i, i < len → ∃ y : α, B y ∧ ∃ c, c.length = d.sz ∧ d.K w y c ∧ ∀ j u, c[j]? = some u → w.cell? (a.add (i * d.sz + j)) = some u := by
      intro i hi
      obtain ⟨cs', h1, h2⟩ := hel i (by omega)
      obtain ⟨y, hy, hB⟩ := h H enc w base spare held n cs' _ h2
      obtain ⟨_, hlen, hcell⟩ := World.cells?_some h1
      rw [hc] at hlen hcell
      refine ⟨y, hB, cs', hlen, hy, fun j u hj => ?_⟩
      have hj' : j < d.sz := by rw [← hlen]; exact (List.getElem?_eq_some_iff.1 hj).1
      have := hcell j hj'
      rw [Go.Deep.add_add] at this
      rw [← hj]
      exact this
    obtain ⟨f, hf⟩ : ∃ f : Fin len → α, ∀ i : Fin len, B (f i) ∧ ∃ c, c.length = d.sz ∧ d.K w (f i) c ∧ ∀ j u, c[j]? = some u → w.cell? (a.add (i.1 * d.sz + j)) = some u :=
      ⟨fun i => Classical.choose (key i.1 i.2), fun i => Classical.choose_spec (key i.1 i.2)⟩
    have hlen : (List.ofFn f).length = len := List.length_ofFn
    refine ⟨List.ofFn f, ⟨some a, cap, by rw [hlen], by rw [hlen]; exact hl, ⟨rfl, by rw [hlen]; unfold maxLen at hm; omega, fun _ => ⟨a, rfl, fun j p hj => ?_⟩⟩⟩, by rw [hlen]; omega, ?_⟩
    · obtain ⟨hj1, hj2⟩ := List.getElem?_eq_some_iff.1 hj
      rw [hlen] at hj1
      rw [List.getElem_ofFn] at hj2
      subst hj2
      exact (hf ⟨j, hj1⟩).2
    · intro y hy
      obtain ⟨i, rfl⟩ := List.mem_ofFn.1 hy
      exact (hf i).1
/-- Fields in line, from a place on. -/
def OpensAt {α : Type} (P : Program) (fs : List Field) (off : Nat) (d : Kd α) (B : α → Prop) : Prop :=
  ∀ (H : Type) (enc : TypeId × Value → H) (w : World) (base : Nat) (spare : Nat → Bool) (held : Bool) (fuel : Nat) (cs : List Value) (xs : List (DataW H × List MemPlace)),
    cs.length = off + d.sz → (fs.mapM fun f => DataW.trod enc P w base spare held fuel f.type ((cs.drop f.offset).take (P.cellsOf f.type))) = some xs → ∃ a, d.K w a (cs.drop off) ∧ B a
theorem OpensAt.one {α : Type} {P : Program} {f : Field} {off : Nat} {d : Kd α} {B : α → Prop} (ho : f.offset = off) (hc : P.cellsOf f.type = d.sz) (h : Opens P f.type d B) : OpensAt P [f] off d B := by
  intro H enc w base spare held fuel cs xs hl hx
  simp only [List.mapM_cons, List.mapM_nil, Option.pure_def, Option.bind_eq_bind, Option.bind_some] at hx
  obtain ⟨y, hy, _⟩ := Option.bind_eq_some_iff.1 hx
  obtain ⟨a, ha, hB⟩ := h H enc w base spare held fuel _ _ hy
  refine ⟨a, ?_, hB⟩
  rw [ho, hc, List.take_of_length_le (by rw [List.length_drop]; omega)] at ha
  exact ha
theorem OpensAt.cons {α β : Type} {P : Program} {f : Field} {fs : List Field} {off : Nat} {d : Kd α} {d' : Kd β} {B : α → Prop} {B' : β → Prop} (ho : f.offset = off) (hc : P.cellsOf f.type = d.sz) (h : Opens P f.type d B) (h' : OpensAt P fs (off + d.sz) d' B') :
    OpensAt P (f :: fs) off (Kd.pair d d') (fun x => B x.1 ∧ B' x.2) := by
  intro H enc w base spare held fuel cs xs hl hx
  have hl : cs.length = off + (d.sz + d'.sz) := hl
  rw [List.mapM_cons] at hx
  simp only [Option.bind_eq_bind, Option.pure_def] at hx
  obtain ⟨y, hy, hx⟩ := Option.bind_eq_some_iff.1 hx
  obtain ⟨ys, hys, _⟩ := Option.bind_eq_some_iff.1 hx
  obtain ⟨a, ha, hB⟩ := h H enc w base spare held fuel _ _ hy
  obtain ⟨b, hb, hB'⟩ := h' H enc w base spare held fuel cs ys (by rw [hl]; omega) hys
  rw [ho, hc] at ha
  refine ⟨(a, b), ⟨(cs.drop off).take d.sz, cs.drop (off + d.sz), ?_, ha, hb⟩, hB, hB'⟩
  rw [← List.drop_drop, List.take_append_drop]
theorem Opens.struct {α : Type} {P : Program} {t : TypeId} {fs : Array Field} {d : Kd α} {B : α → Prop} (ht : P.underlying t = some (.struct fs)) (hc : P.cellsOf t = d.sz) (h : OpensAt P fs.toList 0 d B) : Opens P t d B := by
  intro H enc w base spare held fuel cs x hx
  cases fuel with
  | zero => simp [DataW.trod] at hx
  | succ n =>
    unfold DataW.trod at hx
    rw [ht] at hx
    simp only at hx
    split at hx
    · rename_i hlen
      obtain ⟨xs, hxs, _⟩ := Option.map_eq_some_iff.1 hx
      obtain ⟨a, ha, hB⟩ := h H enc w base spare held n cs xs (by omega) hxs
      exact ⟨a, ha, hB⟩
    · cases hx
theorem Opens.iso {α β : Type} {P : Program} {t : TypeId} {d : Kd α} {f : β → α} {g : α → β} {B : α → Prop} {B' : β → Prop} (hfg : ∀ a, f (g a) = a) (hB : ∀ a, B a → B' (g a)) (h : Opens P t d B) : Opens P t (Kd.iso d f) B' := by
  intro H enc w base spare held fuel cs x hx
  obtain ⟨a, ha, hb⟩ := h H enc w base spare held fuel cs x hx
  exact ⟨g a, by show d.K w (f (g a)) cs; rw [hfg]; exact ha, hB a hb⟩
end Go
