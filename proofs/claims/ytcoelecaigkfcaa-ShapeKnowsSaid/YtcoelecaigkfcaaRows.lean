/-
  No cell of these rows narrows 'for every input' (looked for: loops, veiled, ifaces, maps, wideKeys, modest, calm, conditions, laid).
  DERIVED. THE GIVEN ROWS OF THIS SEAT. 3 by the template 'for every input the law returns true; each argument reads behind the call as it read before'; 0 by the template 'total and deterministic' (their statements: YtcoelecaigkfcaaTotals.lean).
  GIVEN WITH THE SEED: the statements are not yours to turn. If you find one false, say at which input.
  Laid BY PROGRAM, IN A SANDBOX (cutbox-rows.mjs): the forced cells as the released guide's own fill.sh prints them over the translation f74ccbf40b2b5eb2… (all of the seat's roots in one cut). By AI agents, Wed Nov 11 2026. No macro, syntax, notation, axiom, sorry.
-/
import Derived.Test.YtcoelecaigkfcaaChecked
import GoSem.Claim
import GoSem.ClaimJoined
import GoSem.ClaimMapViews
import Derived.JoinedTies
import Derived.KernelRfl
namespace Go.Proofs.Ytcoelecaigkfcaa
/- THE CELL 'sum', in the pinned program and in every row, IS THE sha256 OF THE DUMP (.gsa) THAT YtcoelecaigkfcaaProg.lean LOADS. Nothing in Lean hashes anything: it is a label: what it is worth is what the hold of that sum in a sandbox is worth. -/
noncomputable def Try.pinned : Pinned := { name := "ytcoelecaigkfcaa", sum := "f74ccbf40b2b5eb237cc298d31c7e6402b3755ce1ea191fd6b336be652c5c04d", checked := Try.checked }
namespace Rows
def none {H : Type} : Left H := { results := [], args := [] }

/-- 'fathomlaw27.ShapeOrders': WHATEVER THE INPUT: true; the input reads as it did. -/
def shapeOrdersSpec : ChangeSpec := { name := "shapeOrders", fn := fun _ => fun
  | [d] => { results := [.lit (.bool true)], args := [d] }
  | _ => none }
def shapeOrdersRow : OpenClaim := { program := "ytcoelecaigkfcaa", sum := "f74ccbf40b2b5eb237cc298d31c7e6402b3755ce1ea191fd6b336be652c5c04d", func := "fathom/fathomlaw27.ShapeOrders", spec := "shapeOrders", unfollowed := true, recurses := true, apart := false }
def ShapeOrdersSaid : Prop := shapeOrdersRow.holds Try.pinned (OpenSpec.ofChange shapeOrdersSpec)

/-- ITS FALSE NEIGHBOUR: 'it returns false'. Refute it at one input. -/
def shapeOrdersWrong : ChangeSpec := { name := "shapeOrders", fn := fun _ => fun
  | [d] => { results := [.lit (.bool false)], args := [d] }
  | _ => none }
def ShapeOrdersWrongFalsely : Prop := shapeOrdersRow.holds Try.pinned (OpenSpec.ofChange shapeOrdersWrong)

/-- 'fathomlaw27.ShapeChecks': WHATEVER THE INPUT: true; the input reads as it did. -/
def shapeChecksSpec : ChangeSpec := { name := "shapeChecks", fn := fun _ => fun
  | [d1, d2, d3] => { results := [.lit (.bool true)], args := [d1, d2, d3] }
  | _ => none }
def shapeChecksRow : OpenClaim := { program := "ytcoelecaigkfcaa", sum := "f74ccbf40b2b5eb237cc298d31c7e6402b3755ce1ea191fd6b336be652c5c04d", func := "fathom/fathomlaw27.ShapeChecks", spec := "shapeChecks", unfollowed := true, recurses := true, apart := false }
def ShapeChecksSaid : Prop := shapeChecksRow.holds Try.pinned (OpenSpec.ofChange shapeChecksSpec)

/-- ITS FALSE NEIGHBOUR: 'it returns false'. Refute it at one input. -/
def shapeChecksWrong : ChangeSpec := { name := "shapeChecks", fn := fun _ => fun
  | [d1, d2, d3] => { results := [.lit (.bool false)], args := [d1, d2, d3] }
  | _ => none }
def ShapeChecksWrongFalsely : Prop := shapeChecksRow.holds Try.pinned (OpenSpec.ofChange shapeChecksWrong)

/-- 'fathomlaw27.ShapeKnows': WHATEVER THE INPUT: true; the input reads as it did. -/
def shapeKnowsSpec : ChangeSpec := { name := "shapeKnows", fn := fun _ => fun
  | [d1, d2] => { results := [.lit (.bool true)], args := [d1, d2] }
  | _ => none }
def shapeKnowsRow : OpenClaim := { program := "ytcoelecaigkfcaa", sum := "f74ccbf40b2b5eb237cc298d31c7e6402b3755ce1ea191fd6b336be652c5c04d", func := "fathom/fathomlaw27.ShapeKnows", spec := "shapeKnows", unfollowed := true, recurses := true, apart := false }
def ShapeKnowsSaid : Prop := shapeKnowsRow.holds Try.pinned (OpenSpec.ofChange shapeKnowsSpec)

/-- ITS FALSE NEIGHBOUR: 'it returns false'. Refute it at one input. -/
def shapeKnowsWrong : ChangeSpec := { name := "shapeKnows", fn := fun _ => fun
  | [d1, d2] => { results := [.lit (.bool false)], args := [d1, d2] }
  | _ => none }
def ShapeKnowsWrongFalsely : Prop := shapeKnowsRow.holds Try.pinned (OpenSpec.ofChange shapeKnowsWrong)

/- THE SECOND FORM. 'bulk': how many values and letters a reading holds, each counted each time it is reached (what is shared counts as often as it is met; a slice's spare places count too). A statement '..UptoSaid' is the law's where the arguments, and the package variables that the reading takes, are together of bulk at most 1048576: NARROWER than '..Said'. Prove '..Said' where nothing that the law and all that it calls make is longer than what came in: it says more and counts as full. Else prove '..UptoSaid'. A law counts once. -/
mutual
def uptoBulk {H : Type} : DataW H → Nat
  | .lit (.string bytes) => bytes.length + 1
  | .lit _ => 1
  | .nil => 1
  | .ptr d => uptoBulk d + 1
  | .slice elems spare => uptoBulkAll elems + uptoBulkAll spare + 1
  | .agg parts => uptoBulkAll parts + 1
  | .iface _ d => uptoBulk d + 1
  | .map entries => uptoBulkEntries entries + 1
  | .held _ => 1
def uptoBulkAll {H : Type} : List (DataW H) → Nat
  | [] => 0
  | d :: r => uptoBulk d + uptoBulkAll r
def uptoBulkEntries {H : Type} : List (Lit × DataW H) → Nat
  | [] => 0
  | x :: r => uptoBulkEntry x + uptoBulkEntries r
def uptoBulkEntry {H : Type} : Lit × DataW H → Nat
  | (.string bytes, d) => bytes.length + uptoBulk d + 1
  | (_, d) => uptoBulk d + 1
 end
def uptoSmall : (H : Type) → List (DataW H) → Bool := fun _ ds => decide (uptoBulkAll ds ≤ 1048576)
def OpenSpec.upto (s : _root_.Go.ChangeSpec) : _root_.Go.OpenSpec := { _root_.Go.OpenSpec.ofChange s with cond := some uptoSmall }

/-- 'fathomlaw27.ShapeOrders', WHERE WHAT IT READS IS OF BULK AT MOST 1048576: true; the input reads as it did. -/
def shapeOrdersUptoRow : OpenClaim := { program := "ytcoelecaigkfcaa", sum := "f74ccbf40b2b5eb237cc298d31c7e6402b3755ce1ea191fd6b336be652c5c04d", func := "fathom/fathomlaw27.ShapeOrders", spec := "shapeOrders", unfollowed := true, recurses := true, apart := false, narrowed := true }
def ShapeOrdersUptoSaid : Prop := shapeOrdersUptoRow.holds Try.pinned (OpenSpec.upto shapeOrdersSpec)

/-- 'fathomlaw27.ShapeChecks', WHERE WHAT IT READS IS OF BULK AT MOST 1048576: true; the input reads as it did. -/
def shapeChecksUptoRow : OpenClaim := { program := "ytcoelecaigkfcaa", sum := "f74ccbf40b2b5eb237cc298d31c7e6402b3755ce1ea191fd6b336be652c5c04d", func := "fathom/fathomlaw27.ShapeChecks", spec := "shapeChecks", unfollowed := true, recurses := true, apart := false, narrowed := true }
def ShapeChecksUptoSaid : Prop := shapeChecksUptoRow.holds Try.pinned (OpenSpec.upto shapeChecksSpec)

/-- 'fathomlaw27.ShapeKnows', WHERE WHAT IT READS IS OF BULK AT MOST 1048576: true; the input reads as it did. -/
def shapeKnowsUptoRow : OpenClaim := { program := "ytcoelecaigkfcaa", sum := "f74ccbf40b2b5eb237cc298d31c7e6402b3755ce1ea191fd6b336be652c5c04d", func := "fathom/fathomlaw27.ShapeKnows", spec := "shapeKnows", unfollowed := true, recurses := true, apart := false, narrowed := true }
def ShapeKnowsUptoSaid : Prop := shapeKnowsUptoRow.holds Try.pinned (OpenSpec.upto shapeKnowsSpec)

end Rows
end Go.Proofs.Ytcoelecaigkfcaa
