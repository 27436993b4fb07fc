-- written by a program (wip/gen/myprint.py) for this claim, out of the translation's print and of contracts proved by hand
import Derived.Test.YtclabnfngchpfaaProg
import Derived.Below
import Derived.Deep.Draws
import Derived.Deep.AppendLies
import Derived.Maps.AppendAt
import Derived.OwnWalk
import Derived.Laws.BytesArg
import Derived.Laws.MakeOwn
import Derived.Laws.OwnMore
import Derived.Deep.OwnRows
import Derived.Tactics
import Derived.Lib.ConvBytes
import Derived.Laws.Slices
import Derived.WalkKit
import Derived.KernelRfl
import Derived.RowKit3
import Derived.Deep.LoopGhost
import Derived.Deep.QuietTactic
import Derived.BigQuiet
import Derived.WideLaws
import Derived.Deep.DeepCutAuto
import Derived.Deep.CutBlock
import Derived.Deep.RegionHeld3
import Derived.Laws.Rows
import Derived.Lib.AppendStr
import Derived.ArgAppend
import Derived.Laws.IdiomCopy
import Derived.OrdersHeld
import Derived.Laws.BitsLemmas
import Derived.RowKit
import Derived.Test.YtclabnfngchpfaaWWords
import Derived.Test.YtclabnfngchpfaaWLast
import Derived.Test.YtclabnfngchpfaaWTab
import Derived.Test.YtclabnfngchpfaaWFour
import Derived.Test.YtclabnfngchpfaaWQPut
import Derived.Test.YtclabnfngchpfaaWApart
import Derived.Test.YtclabnfngchpfaaWArr
import Derived.Test.YtclabnfngchpfaaWZeros
import Derived.Test.YtclabnfngchpfaaWFoot
import Derived.Test.YtclabnfngchpfaaWKept
import Derived.Test.YtclabnfngchpfaaWShare
import Derived.Test.YtclabnfngchpfaaWN
import Derived.Test.YtclabnfngchpfaaWFootNe
import Derived.Test.YtclabnfngchpfaaWAt
import Derived.Test.YtclabnfngchpfaaWEqStruct
import Derived.Test.YtclabnfngchpfaaWRepsOne
import Derived.Test.YtclabnfngchpfaaWInv
import Derived.Test.YtclabnfngchpfaaWInvWords
import Derived.Test.YtclabnfngchpfaaWGuard
import Derived.Test.YtclabnfngchpfaaWNEv
import Derived.Test.YtclabnfngchpfaaWMore
namespace Go.Proofs.Ytclabnfngchpfaa.UW7
open Go.RowKit Go.Proofs.YtclabnfngchpfaaW.PrintWords Go.Proofs.YtclabnfngchpfaaW.PrintLast Go.Proofs.YtclabnfngchpfaaW.PrintMore
attribute [local go_sem] max2_int min2_int max_two min_two max_three min_three max_four min_four   -- for this text's walks alone
set_option linter.unusedVariables false
set_option linter.unusedSimpArgs false



def errW : Option Int → Value
  | none => .nilIface
  | some c => .iface 0 (.int .i64 c)
theorem errW_none : errW none = .nilIface := rfl
theorem errW_some (c : Int) : errW (some c) = .iface 0 (.int .i64 c) := rfl

-- the values' own types

end Go.Proofs.Ytclabnfngchpfaa.UW7
