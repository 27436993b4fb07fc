-- written by a program (wip/gen/myprint.py) for this claim, out of the translation's print and of contracts proved by hand
import Derived.Test.YthahhjkokdillaaProg
import Derived.Below
import Derived.Deep.Draws
import Derived.Deep.AppendLies
import Derived.Maps.AppendAt
import Derived.OwnWalk
import Derived.Laws.BytesArg
import Derived.Laws.MakeOwn
import Derived.Laws.OwnMore
import Derived.Deep.OwnRows
import Derived.Tactics
import Derived.Lib.ConvBytes
import Derived.Laws.Slices
import Derived.WalkKit
import Derived.KernelRfl
import Derived.RowKit3
import Derived.Deep.LoopGhost
import Derived.Deep.QuietTactic
import Derived.BigQuiet
import Derived.WideLaws
import Derived.Deep.DeepCutAuto
import Derived.Deep.CutBlock
import Derived.Deep.RegionHeld3
import Derived.Laws.Rows
import Derived.Lib.AppendStr
import Derived.ArgAppend
import Derived.Laws.IdiomCopy
import Derived.OrdersHeld
import Derived.Laws.BitsLemmas
import Derived.RowKit
import Derived.Test.YthahhjkokdillaaWWords
import Derived.Test.YthahhjkokdillaaWLast
import Derived.Test.YthahhjkokdillaaWTab
import Derived.Test.YthahhjkokdillaaWFour
import Derived.Test.YthahhjkokdillaaWQPut
import Derived.Test.YthahhjkokdillaaWApart
import Derived.Test.YthahhjkokdillaaWArr
import Derived.Test.YthahhjkokdillaaWZeros
import Derived.Test.YthahhjkokdillaaWFoot
import Derived.Test.YthahhjkokdillaaWKept
import Derived.Test.YthahhjkokdillaaWShare
import Derived.Test.YthahhjkokdillaaWN
import Derived.Test.YthahhjkokdillaaWFootNe
import Derived.Test.YthahhjkokdillaaWAt
import Derived.Test.YthahhjkokdillaaWEqStruct
import Derived.Test.YthahhjkokdillaaWRepsOne
import Derived.Test.YthahhjkokdillaaWInv
import Derived.Test.YthahhjkokdillaaWInvWords
import Derived.Test.YthahhjkokdillaaWGuard
import Derived.Test.YthahhjkokdillaaWNEv
import Derived.Test.YthahhjkokdillaaWMore
namespace Go.Proofs.Ythahhjkokdillaa.URot
open Go.RowKit Go.Proofs.YthahhjkokdillaaW.PrintWords Go.Proofs.YthahhjkokdillaaW.PrintLast Go.Proofs.YthahhjkokdillaaW.PrintMore
attribute [local go_sem] max2_int min2_int max_two min_two max_three min_three max_four min_four   -- for this text's walks alone
set_option linter.unusedVariables false
set_option linter.unusedSimpArgs false



def errW : Option Int → Value
  | none => .nilIface
  | some c => .iface 0 (.int .i64 c)
theorem errW_none : errW none = .nilIface := rfl
theorem errW_some (c : Int) : errW (some c) = .iface 0 (.int .i64 c) := rfl

-- the values' own types

end Go.Proofs.Ythahhjkokdillaa.URot
