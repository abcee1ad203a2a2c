/-
  No cell of these rows narrows 'for every input' (looked for: loops, veiled, ifaces, maps, wideKeys, modest, calm, conditions, laid).
  DERIVED. THE GIVEN ROWS OF THIS SEAT. 2 by the template 'for every input the law returns true; each argument reads behind the call as it read before'; 0 by the template 'total and deterministic' (their statements: YthnnekaimkppfaaTotals.lean).
  GIVEN WITH THE SEED: the statements are not yours to turn. If you find one false, say at which input.
  Laid BY PROGRAM, IN A SANDBOX (cutbox-rows.mjs): the forced cells as the released guide's own fill.sh prints them over the translation e2acd0fa4d82a18e… (all of the seat's roots in one cut). By AI agents, Wed Nov 11 2026. No macro, syntax, notation, axiom, sorry.
-/
import Derived.Test.YthnnekaimkppfaaChecked
import GoSem.Claim
import GoSem.ClaimJoined
import GoSem.ClaimMapViews
import Derived.JoinedTies
import Derived.KernelRfl
namespace Go.Proofs.Ythnnekaimkppfaa
/- THE CELL 'sum', in the pinned program and in every row, IS THE sha256 OF THE DUMP (.gsa) THAT YthnnekaimkppfaaProg.lean LOADS. Nothing in Lean hashes anything: it is a label: what it is worth is what the hold of that sum in a sandbox is worth. -/
noncomputable def Try.pinned : Pinned := { name := "ythnnekaimkppfaa", sum := "e2acd0fa4d82a18e44690f59674806c94eb2df1cd107a9e27f59961f282ef596", checked := Try.checked }
namespace Rows
def none {H : Type} : Left H := { results := [], args := [] }

/-- 'fathomlaw03.DimacsNumbers': WHATEVER THE INPUT: true; the input reads as it did. -/
def dimacsNumbersSpec : ChangeSpec := { name := "dimacsNumbers", fn := fun _ => fun
  | [d1, d2] => { results := [.lit (.bool true)], args := [d1, d2] }
  | _ => none }
def dimacsNumbersRow : OpenClaim := { program := "ythnnekaimkppfaa", sum := "e2acd0fa4d82a18e44690f59674806c94eb2df1cd107a9e27f59961f282ef596", func := "fathom/fathomlaw03.DimacsNumbers", spec := "dimacsNumbers", unfollowed := true, recurses := true, apart := false }
def DimacsNumbersSaid : Prop := dimacsNumbersRow.holds Try.pinned (OpenSpec.ofChange dimacsNumbersSpec)

/-- ITS FALSE NEIGHBOUR: 'it returns false'. Refute it at one input. -/
def dimacsNumbersWrong : ChangeSpec := { name := "dimacsNumbers", fn := fun _ => fun
  | [d1, d2] => { results := [.lit (.bool false)], args := [d1, d2] }
  | _ => none }
def DimacsNumbersWrongFalsely : Prop := dimacsNumbersRow.holds Try.pinned (OpenSpec.ofChange dimacsNumbersWrong)

/-- 'fathomlaw03.DimacsLines': WHATEVER THE INPUT: true; the input reads as it did. -/
def dimacsLinesSpec : ChangeSpec := { name := "dimacsLines", fn := fun _ => fun
  | [d1, d2] => { results := [.lit (.bool true)], args := [d1, d2] }
  | _ => none }
def dimacsLinesRow : OpenClaim := { program := "ythnnekaimkppfaa", sum := "e2acd0fa4d82a18e44690f59674806c94eb2df1cd107a9e27f59961f282ef596", func := "fathom/fathomlaw03.DimacsLines", spec := "dimacsLines", unfollowed := true, recurses := true, apart := false }
def DimacsLinesSaid : Prop := dimacsLinesRow.holds Try.pinned (OpenSpec.ofChange dimacsLinesSpec)

/-- ITS FALSE NEIGHBOUR: 'it returns false'. Refute it at one input. -/
def dimacsLinesWrong : ChangeSpec := { name := "dimacsLines", fn := fun _ => fun
  | [d1, d2] => { results := [.lit (.bool false)], args := [d1, d2] }
  | _ => none }
def DimacsLinesWrongFalsely : Prop := dimacsLinesRow.holds Try.pinned (OpenSpec.ofChange dimacsLinesWrong)

/- THE SECOND FORM. 'bulk': how many values and letters a reading holds, each counted each time it is reached (what is shared counts as often as it is met; a slice's spare places count too). A statement '..UptoSaid' is the law's where the arguments, and the package variables that the reading takes, are together of bulk at most 1048576: NARROWER than '..Said'. Prove '..Said' where nothing that the law and all that it calls make is longer than what came in: it says more and counts as full. Else prove '..UptoSaid'. A law counts once. -/
mutual
def uptoBulk {H : Type} : DataW H → Nat
  | .lit (.string bytes) => bytes.length + 1
  | .lit _ => 1
  | .nil => 1
  | .ptr d => uptoBulk d + 1
  | .slice elems spare => uptoBulkAll elems + uptoBulkAll spare + 1
  | .agg parts => uptoBulkAll parts + 1
  | .iface _ d => uptoBulk d + 1
  | .map entries => uptoBulkEntries entries + 1
  | .held _ => 1
def uptoBulkAll {H : Type} : List (DataW H) → Nat
  | [] => 0
  | d :: r => uptoBulk d + uptoBulkAll r
def uptoBulkEntries {H : Type} : List (Lit × DataW H) → Nat
  | [] => 0
  | x :: r => uptoBulkEntry x + uptoBulkEntries r
def uptoBulkEntry {H : Type} : Lit × DataW H → Nat
  | (.string bytes, d) => bytes.length + uptoBulk d + 1
  | (_, d) => uptoBulk d + 1
 end
def uptoSmall : (H : Type) → List (DataW H) → Bool := fun _ ds => decide (uptoBulkAll ds ≤ 1048576)
def OpenSpec.upto (s : _root_.Go.ChangeSpec) : _root_.Go.OpenSpec := { _root_.Go.OpenSpec.ofChange s with cond := some uptoSmall }

/-- 'fathomlaw03.DimacsNumbers', WHERE WHAT IT READS IS OF BULK AT MOST 1048576: true; the input reads as it did. -/
def dimacsNumbersUptoRow : OpenClaim := { program := "ythnnekaimkppfaa", sum := "e2acd0fa4d82a18e44690f59674806c94eb2df1cd107a9e27f59961f282ef596", func := "fathom/fathomlaw03.DimacsNumbers", spec := "dimacsNumbers", unfollowed := true, recurses := true, apart := false, narrowed := true }
def DimacsNumbersUptoSaid : Prop := dimacsNumbersUptoRow.holds Try.pinned (OpenSpec.upto dimacsNumbersSpec)

/-- 'fathomlaw03.DimacsLines', WHERE WHAT IT READS IS OF BULK AT MOST 1048576: true; the input reads as it did. -/
def dimacsLinesUptoRow : OpenClaim := { program := "ythnnekaimkppfaa", sum := "e2acd0fa4d82a18e44690f59674806c94eb2df1cd107a9e27f59961f282ef596", func := "fathom/fathomlaw03.DimacsLines", spec := "dimacsLines", unfollowed := true, recurses := true, apart := false, narrowed := true }
def DimacsLinesUptoSaid : Prop := dimacsLinesUptoRow.holds Try.pinned (OpenSpec.upto dimacsLinesSpec)

end Rows
end Go.Proofs.Ythnnekaimkppfaa
