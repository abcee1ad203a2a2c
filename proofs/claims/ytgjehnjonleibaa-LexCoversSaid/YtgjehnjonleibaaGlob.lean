/- A fact on the world that the library's search asks: block 0 holds one number (a variable of the library's own); how it is kept. -/
import Derived.Test.YtgjehnjonleibaaShelf
import Derived.Below
import Derived.RowKit
import Derived.Test.YtgjehnjonleibaaAid
namespace Go
open Go.Proofs.YtgjehnjonleibaaW.PrintWords Go.RowKit
def GlobOK (w : World) : Prop := ∃ m, w.cell? ⟨0, 0, none⟩ = some (.int .i64 m)
theorem GlobOK.lt {w : World} (h : GlobOK w) : 0 < w.heap.size := by
  obtain ⟨m, h⟩ := h
  exact World.block_lt_of_cell? w _ h
theorem GlobOK.below {w W : World} (h : GlobOK w) (hb : Below w.heap.size w W) : GlobOK W := by
  have hl := h.lt
  obtain ⟨m, h⟩ := h
  exact ⟨m, (hb.cell (p := ⟨0, 0, none⟩) hl).trans h⟩
theorem GlobOK.drewN {W : World} (h : GlobOK W) (m : Nat) : GlobOK (W.drewN m) := h
theorem GlobOK.drew {W : World} (h : GlobOK W) : GlobOK W.drew := h
theorem GlobOK.alloc {w W : World} (_h : GlobOK w) (h : GlobOK W) (o : Obj) : GlobOK (W.alloc o) := h.below (below_alloc (Below.refl _ _) o)
theorem GlobOK.set {w W : World} {p : Addr} {v : Value} (h : GlobOK w) (hp : Aside0 (w.heap.size ≤ p.block)) (hW : GlobOK W) : GlobOK (W.setCell p v) := by
  have hl := h.lt
  have hp := hp.out
  obtain ⟨m, e⟩ := hW
  refine ⟨m, ?_⟩
  refine (World.cell?_setCell_other W p _ v ?_).trans e
  intro e2
  subst e2
  have hp : w.heap.size ≤ 0 := hp
  omega
end Go
