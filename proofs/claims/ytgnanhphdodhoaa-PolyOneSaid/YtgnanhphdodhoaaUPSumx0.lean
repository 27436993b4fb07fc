-- written by a program (wip/gen/myprint.py) for this claim, out of the translation's print and of contracts proved by hand
import Derived.Test.YtgnanhphdodhoaaProg
import Derived.Test.YtgnanhphdodhoaaPolyT
import Derived.Below
import Derived.Deep.Draws
import Derived.Deep.AppendLies
import Derived.Maps.AppendAt
import Derived.OwnWalk
import Derived.Laws.BytesArg
import Derived.Laws.MakeOwn
import Derived.Laws.OwnMore
import Derived.Deep.OwnRows
import Derived.Tactics
import Derived.Lib.ConvBytes
import Derived.Laws.Slices
import Derived.WalkKit
import Derived.KernelRfl
import Derived.RowKit3
import Derived.Deep.LoopGhost
import Derived.Deep.QuietTactic
import Derived.BigQuiet
import Derived.WideLaws
import Derived.Deep.DeepCutAuto
import Derived.Deep.CutBlock
import Derived.Deep.RegionHeld3
import Derived.Laws.Rows
import Derived.Lib.AppendStr
import Derived.ArgAppend
import Derived.Laws.IdiomCopy
import Derived.OrdersHeld
import Derived.Laws.BitsLemmas
import Derived.RowKit
import Derived.Test.YtgnanhphdodhoaaWWords
import Derived.Test.YtgnanhphdodhoaaWLast
import Derived.Test.YtgnanhphdodhoaaWTab
import Derived.Test.YtgnanhphdodhoaaWFour
import Derived.Test.YtgnanhphdodhoaaWQPut
import Derived.Test.YtgnanhphdodhoaaWApart
import Derived.Test.YtgnanhphdodhoaaWArr
import Derived.Test.YtgnanhphdodhoaaWZeros
import Derived.Test.YtgnanhphdodhoaaWFoot
import Derived.Test.YtgnanhphdodhoaaWKept
import Derived.Test.YtgnanhphdodhoaaWShare
import Derived.Test.YtgnanhphdodhoaaWN
import Derived.Test.YtgnanhphdodhoaaWFootNe
import Derived.Test.YtgnanhphdodhoaaWAt
import Derived.Test.YtgnanhphdodhoaaWEqStruct
import Derived.Test.YtgnanhphdodhoaaWRepsOne
import Derived.Test.YtgnanhphdodhoaaWInv
import Derived.Test.YtgnanhphdodhoaaWInvWords
import Derived.Test.YtgnanhphdodhoaaWGuard
import Derived.Test.YtgnanhphdodhoaaWNEv
import Derived.Test.YtgnanhphdodhoaaWMore
namespace Go.Proofs.Ytgnanhphdodhoaa.UPSum
open Go.RowKit Go.Proofs.YtgnanhphdodhoaaW.PrintWords Go.Proofs.YtgnanhphdodhoaaW.PrintLast Go.Proofs.YtgnanhphdodhoaaW.PrintMore
attribute [local go_sem] max2_int min2_int max_two min_two max_three min_three max_four min_four   -- for this text's walks alone
set_option linter.unusedVariables false
set_option linter.unusedSimpArgs false



def errW : Option Int → Value
  | none => .nilIface
  | some c => .iface 0 (.int .i64 c)
theorem errW_none : errW none = .nilIface := rfl
theorem errW_some (c : Int) : errW (some c) = .iface 0 (.int .i64 c) := rfl

-- the values' own types

end Go.Proofs.Ytgnanhphdodhoaa.UPSum
