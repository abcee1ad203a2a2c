-- Laid by drive.py (a program of the session's) out of the translation. Lean checks it.
import Derived.Test.YthnnekaimkppfaaProg
import Derived.Below
import Derived.Deep.Draws
import Derived.Deep.AppendLies
import Derived.Maps.AppendAt
import Derived.OwnWalk
import Derived.Laws.BytesArg
import Derived.Laws.MakeOwn
import Derived.Laws.OwnMore
import Derived.Deep.OwnRows
import Derived.Tactics
import Derived.Lib.ConvBytes
import Derived.Laws.Slices
import Derived.WalkKit
import Derived.KernelRfl
import Derived.RowKit3
import Derived.Deep.LoopGhost
import Derived.Deep.QuietTactic
import Derived.BigQuiet
import Derived.WideLaws
import Derived.Deep.DeepCutAuto
import Derived.Deep.CutBlock
import Derived.Deep.RegionHeld3
import Derived.Laws.Rows
import Derived.Lib.AppendStr
import Derived.ArgAppend
import Derived.Laws.IdiomCopy
import Derived.OrdersHeld
import Derived.Laws.BitsLemmas
import Derived.RowKit
import Derived.Test.YthnnekaimkppfaaAid
import Derived.Test.YthnnekaimkppfaaSteps
import Derived.Test.YthnnekaimkppfaaShort
import Derived.Test.YthnnekaimkppfaaDg
import Derived.Test.YthnnekaimkppfaaWWords
import Derived.Test.YthnnekaimkppfaaWLast
import Derived.Test.YthnnekaimkppfaaWTab
import Derived.Test.YthnnekaimkppfaaWFour
import Derived.Test.YthnnekaimkppfaaWQPut
import Derived.Test.YthnnekaimkppfaaWApart
import Derived.Test.YthnnekaimkppfaaWArr
import Derived.Test.YthnnekaimkppfaaWZeros
import Derived.Test.YthnnekaimkppfaaWFoot
import Derived.Test.YthnnekaimkppfaaWKept
import Derived.Test.YthnnekaimkppfaaWShare
import Derived.Test.YthnnekaimkppfaaWN
import Derived.Test.YthnnekaimkppfaaWFootNe
import Derived.Test.YthnnekaimkppfaaWAt
import Derived.Test.YthnnekaimkppfaaWEqStruct
import Derived.Test.YthnnekaimkppfaaWRepsOne
import Derived.Test.YthnnekaimkppfaaWInv
import Derived.Test.YthnnekaimkppfaaWInvWords
import Derived.Test.YthnnekaimkppfaaWGuard
import Derived.Test.YthnnekaimkppfaaWNEv
import Derived.Test.YthnnekaimkppfaaWMore
namespace Go.Proofs.Ythnnekaimkppfaa.Q
open Go.RowKit Go.Proofs.YthnnekaimkppfaaW.PrintWords Go.Proofs.YthnnekaimkppfaaW.PrintLast Go.Proofs.YthnnekaimkppfaaW.PrintMore
attribute [local go_sem] max2_int min2_int max_two min_two max_three min_three max_four min_four   -- for this text's walks alone
set_option linter.unusedVariables false
set_option linter.unusedSimpArgs false



def errW : Option Int → Value
  | none => .nilIface
  | some c => .iface 0 (.int .i64 c)
theorem errW_none : errW none = .nilIface := rfl
theorem errW_some (c : Int) : errW (some c) = .iface 0 (.int .i64 c) := rfl

-- the values' own types

end Go.Proofs.Ythnnekaimkppfaa.Q
