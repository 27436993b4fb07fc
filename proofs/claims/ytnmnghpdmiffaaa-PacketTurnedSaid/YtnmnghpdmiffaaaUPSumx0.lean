-- written by a program (wip/gen/myprint.py) for this claim, out of the translation's print and of contracts proved by hand
import Derived.Test.YtnmnghpdmiffaaaProg
import Derived.Test.YtnmnghpdmiffaaaPolyT
import Derived.Below
import Derived.Deep.Draws
import Derived.Deep.AppendLies
import Derived.Maps.AppendAt
import Derived.OwnWalk
import Derived.Laws.BytesArg
import Derived.Laws.MakeOwn
import Derived.Laws.OwnMore
import Derived.Deep.OwnRows
import Derived.Tactics
import Derived.Lib.ConvBytes
import Derived.Laws.Slices
import Derived.WalkKit
import Derived.KernelRfl
import Derived.RowKit3
import Derived.Deep.LoopGhost
import Derived.Deep.QuietTactic
import Derived.BigQuiet
import Derived.WideLaws
import Derived.Deep.DeepCutAuto
import Derived.Deep.CutBlock
import Derived.Deep.RegionHeld3
import Derived.Laws.Rows
import Derived.Lib.AppendStr
import Derived.ArgAppend
import Derived.Laws.IdiomCopy
import Derived.OrdersHeld
import Derived.Laws.BitsLemmas
import Derived.RowKit
import Derived.Test.YtnmnghpdmiffaaaWWords
import Derived.Test.YtnmnghpdmiffaaaWLast
import Derived.Test.YtnmnghpdmiffaaaWTab
import Derived.Test.YtnmnghpdmiffaaaWFour
import Derived.Test.YtnmnghpdmiffaaaWQPut
import Derived.Test.YtnmnghpdmiffaaaWApart
import Derived.Test.YtnmnghpdmiffaaaWArr
import Derived.Test.YtnmnghpdmiffaaaWZeros
import Derived.Test.YtnmnghpdmiffaaaWFoot
import Derived.Test.YtnmnghpdmiffaaaWKept
import Derived.Test.YtnmnghpdmiffaaaWShare
import Derived.Test.YtnmnghpdmiffaaaWN
import Derived.Test.YtnmnghpdmiffaaaWFootNe
import Derived.Test.YtnmnghpdmiffaaaWAt
import Derived.Test.YtnmnghpdmiffaaaWEqStruct
import Derived.Test.YtnmnghpdmiffaaaWRepsOne
import Derived.Test.YtnmnghpdmiffaaaWInv
import Derived.Test.YtnmnghpdmiffaaaWInvWords
import Derived.Test.YtnmnghpdmiffaaaWGuard
import Derived.Test.YtnmnghpdmiffaaaWNEv
import Derived.Test.YtnmnghpdmiffaaaWMore
namespace Go.Proofs.Ytnmnghpdmiffaaa.UPSum
open Go.RowKit Go.Proofs.YtnmnghpdmiffaaaW.PrintWords Go.Proofs.YtnmnghpdmiffaaaW.PrintLast Go.Proofs.YtnmnghpdmiffaaaW.PrintMore
attribute [local go_sem] max2_int min2_int max_two min_two max_three min_three max_four min_four   -- for this text's walks alone
set_option linter.unusedVariables false
set_option linter.unusedSimpArgs false



def errW : Option Int → Value
  | none => .nilIface
  | some c => .iface 0 (.int .i64 c)
theorem errW_none : errW none = .nilIface := rfl
theorem errW_some (c : Int) : errW (some c) = .iface 0 (.int .i64 c) := rfl

-- the values' own types

end Go.Proofs.Ytnmnghpdmiffaaa.UPSum
