/-
  No cell of these rows narrows 'for every input' (looked for: loops, veiled, ifaces, maps, wideKeys, modest, calm, conditions, laid).
  DERIVED. THE GIVEN ROWS OF THIS SEAT. 5 by the template 'for every input the law returns true; each argument reads behind the call as it read before'; 0 by the template 'total and deterministic' (their statements: YtlpoolcdoecodaaTotals.lean).
  GIVEN WITH THE SEED: the statements are not yours to turn. If you find one false, say at which input.
  Laid BY PROGRAM, IN A SANDBOX (cutbox-rows.mjs): the forced cells as the released guide's own fill.sh prints them over the translation 4f296df2f2d4fed8… (all of the seat's roots in one cut). By AI agents, Wed Nov 11 2026. No macro, syntax, notation, axiom, sorry.
-/
import Derived.Test.YtlpoolcdoecodaaChecked
import GoSem.Claim
import GoSem.ClaimJoined
import GoSem.ClaimMapViews
import Derived.JoinedTies
import Derived.KernelRfl
namespace Go.Proofs.Ytlpoolcdoecodaa
/- THE CELL 'sum', in the pinned program and in every row, IS THE sha256 OF THE DUMP (.gsa) THAT YtlpoolcdoecodaaProg.lean LOADS. Nothing in Lean hashes anything: it is a label: what it is worth is what the hold of that sum in a sandbox is worth. -/
noncomputable def Try.pinned : Pinned := { name := "ytlpoolcdoecodaa", sum := "4f296df2f2d4fed8776154ecaacba7bef9c209cf74af73c1043309aca066417c", checked := Try.checked }
namespace Rows
def none {H : Type} : Left H := { results := [], args := [] }

/-- 'strongroomlaw5.CurveNumbers': WHATEVER THE INPUT: true; the input reads as it did. -/
def curveNumbersSpec : ChangeSpec := { name := "curveNumbers", fn := fun _ => fun
  | [] => { results := [.lit (.bool true)], args := [] }
  | _ => none }
def curveNumbersRow : OpenClaim := { program := "ytlpoolcdoecodaa", sum := "4f296df2f2d4fed8776154ecaacba7bef9c209cf74af73c1043309aca066417c", func := "strongroom/strongroomlaw5.CurveNumbers", spec := "curveNumbers", apart := false }
def CurveNumbersSaid : Prop := curveNumbersRow.holds Try.pinned (OpenSpec.ofChange curveNumbersSpec)

/-- ITS FALSE NEIGHBOUR: 'it returns false'. Refute it at one input. -/
def curveNumbersWrong : ChangeSpec := { name := "curveNumbers", fn := fun _ => fun
  | [] => { results := [.lit (.bool false)], args := [] }
  | _ => none }
def CurveNumbersWrongFalsely : Prop := curveNumbersRow.holds Try.pinned (OpenSpec.ofChange curveNumbersWrong)

/-- 'strongroomlaw5.CurveTells': WHATEVER THE INPUT: true; the input reads as it did. -/
def curveTellsSpec : ChangeSpec := { name := "curveTells", fn := fun _ => fun
  | [d1, d2, d3] => { results := [.lit (.bool true)], args := [d1, d2, d3] }
  | _ => none }
def curveTellsRow : OpenClaim := { program := "ytlpoolcdoecodaa", sum := "4f296df2f2d4fed8776154ecaacba7bef9c209cf74af73c1043309aca066417c", func := "strongroom/strongroomlaw5.CurveTells", spec := "curveTells", apart := false }
def CurveTellsSaid : Prop := curveTellsRow.holds Try.pinned (OpenSpec.ofChange curveTellsSpec)

/-- ITS FALSE NEIGHBOUR: 'it returns false'. Refute it at one input. -/
def curveTellsWrong : ChangeSpec := { name := "curveTells", fn := fun _ => fun
  | [d1, d2, d3] => { results := [.lit (.bool false)], args := [d1, d2, d3] }
  | _ => none }
def CurveTellsWrongFalsely : Prop := curveTellsRow.holds Try.pinned (OpenSpec.ofChange curveTellsWrong)

/-- 'strongroomlaw5.CurveBoth': WHATEVER THE INPUT: true; the input reads as it did. -/
def curveBothSpec : ChangeSpec := { name := "curveBoth", fn := fun _ => fun
  | [d1, d2, d3, d4] => { results := [.lit (.bool true)], args := [d1, d2, d3, d4] }
  | _ => none }
def curveBothRow : OpenClaim := { program := "ytlpoolcdoecodaa", sum := "4f296df2f2d4fed8776154ecaacba7bef9c209cf74af73c1043309aca066417c", func := "strongroom/strongroomlaw5.CurveBoth", spec := "curveBoth", apart := false }
def CurveBothSaid : Prop := curveBothRow.holds Try.pinned (OpenSpec.ofChange curveBothSpec)

/-- ITS FALSE NEIGHBOUR: 'it returns false'. Refute it at one input. -/
def curveBothWrong : ChangeSpec := { name := "curveBoth", fn := fun _ => fun
  | [d1, d2, d3, d4] => { results := [.lit (.bool false)], args := [d1, d2, d3, d4] }
  | _ => none }
def CurveBothWrongFalsely : Prop := curveBothRow.holds Try.pinned (OpenSpec.ofChange curveBothWrong)

/-- 'strongroomlaw5.CurveThree': WHATEVER THE INPUT: true; the input reads as it did. -/
def curveThreeSpec : ChangeSpec := { name := "curveThree", fn := fun _ => fun
  | [d1, d2, d3] => { results := [.lit (.bool true)], args := [d1, d2, d3] }
  | _ => none }
def curveThreeRow : OpenClaim := { program := "ytlpoolcdoecodaa", sum := "4f296df2f2d4fed8776154ecaacba7bef9c209cf74af73c1043309aca066417c", func := "strongroom/strongroomlaw5.CurveThree", spec := "curveThree", apart := false }
def CurveThreeSaid : Prop := curveThreeRow.holds Try.pinned (OpenSpec.ofChange curveThreeSpec)

/-- ITS FALSE NEIGHBOUR: 'it returns false'. Refute it at one input. -/
def curveThreeWrong : ChangeSpec := { name := "curveThree", fn := fun _ => fun
  | [d1, d2, d3] => { results := [.lit (.bool false)], args := [d1, d2, d3] }
  | _ => none }
def CurveThreeWrongFalsely : Prop := curveThreeRow.holds Try.pinned (OpenSpec.ofChange curveThreeWrong)

/-- 'strongroomlaw5.CurveLow': WHATEVER THE INPUT: true; the input reads as it did. -/
def curveLowSpec : ChangeSpec := { name := "curveLow", fn := fun _ => fun
  | [d1, d2] => { results := [.lit (.bool true)], args := [d1, d2] }
  | _ => none }
def curveLowRow : OpenClaim := { program := "ytlpoolcdoecodaa", sum := "4f296df2f2d4fed8776154ecaacba7bef9c209cf74af73c1043309aca066417c", func := "strongroom/strongroomlaw5.CurveLow", spec := "curveLow", apart := false }
def CurveLowSaid : Prop := curveLowRow.holds Try.pinned (OpenSpec.ofChange curveLowSpec)

/-- ITS FALSE NEIGHBOUR: 'it returns false'. Refute it at one input. -/
def curveLowWrong : ChangeSpec := { name := "curveLow", fn := fun _ => fun
  | [d1, d2] => { results := [.lit (.bool false)], args := [d1, d2] }
  | _ => none }
def CurveLowWrongFalsely : Prop := curveLowRow.holds Try.pinned (OpenSpec.ofChange curveLowWrong)

/- THE SECOND FORM. 'bulk': how many values and letters a reading holds, each counted each time it is reached (what is shared counts as often as it is met; a slice's spare places count too). A statement '..UptoSaid' is the law's where the arguments, and the package variables that the reading takes, are together of bulk at most 1048576: NARROWER than '..Said'. Prove '..Said' where nothing that the law and all that it calls make is longer than what came in: it says more and counts as full. Else prove '..UptoSaid'. A law counts once. -/
mutual
def uptoBulk {H : Type} : DataW H → Nat
  | .lit (.string bytes) => bytes.length + 1
  | .lit _ => 1
  | .nil => 1
  | .ptr d => uptoBulk d + 1
  | .slice elems spare => uptoBulkAll elems + uptoBulkAll spare + 1
  | .agg parts => uptoBulkAll parts + 1
  | .iface _ d => uptoBulk d + 1
  | .map entries => uptoBulkEntries entries + 1
  | .held _ => 1
def uptoBulkAll {H : Type} : List (DataW H) → Nat
  | [] => 0
  | d :: r => uptoBulk d + uptoBulkAll r
def uptoBulkEntries {H : Type} : List (Lit × DataW H) → Nat
  | [] => 0
  | x :: r => uptoBulkEntry x + uptoBulkEntries r
def uptoBulkEntry {H : Type} : Lit × DataW H → Nat
  | (.string bytes, d) => bytes.length + uptoBulk d + 1
  | (_, d) => uptoBulk d + 1
 end
def uptoSmall : (H : Type) → List (DataW H) → Bool := fun _ ds => decide (uptoBulkAll ds ≤ 1048576)
def OpenSpec.upto (s : _root_.Go.ChangeSpec) : _root_.Go.OpenSpec := { _root_.Go.OpenSpec.ofChange s with cond := some uptoSmall }

/-- 'strongroomlaw5.CurveNumbers', WHERE WHAT IT READS IS OF BULK AT MOST 1048576: true; the input reads as it did. -/
def curveNumbersUptoRow : OpenClaim := { program := "ytlpoolcdoecodaa", sum := "4f296df2f2d4fed8776154ecaacba7bef9c209cf74af73c1043309aca066417c", func := "strongroom/strongroomlaw5.CurveNumbers", spec := "curveNumbers", apart := false, narrowed := true }
def CurveNumbersUptoSaid : Prop := curveNumbersUptoRow.holds Try.pinned (OpenSpec.upto curveNumbersSpec)

/-- 'strongroomlaw5.CurveTells', WHERE WHAT IT READS IS OF BULK AT MOST 1048576: true; the input reads as it did. -/
def curveTellsUptoRow : OpenClaim := { program := "ytlpoolcdoecodaa", sum := "4f296df2f2d4fed8776154ecaacba7bef9c209cf74af73c1043309aca066417c", func := "strongroom/strongroomlaw5.CurveTells", spec := "curveTells", apart := false, narrowed := true }
def CurveTellsUptoSaid : Prop := curveTellsUptoRow.holds Try.pinned (OpenSpec.upto curveTellsSpec)

/-- 'strongroomlaw5.CurveBoth', WHERE WHAT IT READS IS OF BULK AT MOST 1048576: true; the input reads as it did. -/
def curveBothUptoRow : OpenClaim := { program := "ytlpoolcdoecodaa", sum := "4f296df2f2d4fed8776154ecaacba7bef9c209cf74af73c1043309aca066417c", func := "strongroom/strongroomlaw5.CurveBoth", spec := "curveBoth", apart := false, narrowed := true }
def CurveBothUptoSaid : Prop := curveBothUptoRow.holds Try.pinned (OpenSpec.upto curveBothSpec)

/-- 'strongroomlaw5.CurveThree', WHERE WHAT IT READS IS OF BULK AT MOST 1048576: true; the input reads as it did. -/
def curveThreeUptoRow : OpenClaim := { program := "ytlpoolcdoecodaa", sum := "4f296df2f2d4fed8776154ecaacba7bef9c209cf74af73c1043309aca066417c", func := "strongroom/strongroomlaw5.CurveThree", spec := "curveThree", apart := false, narrowed := true }
def CurveThreeUptoSaid : Prop := curveThreeUptoRow.holds Try.pinned (OpenSpec.upto curveThreeSpec)

/-- 'strongroomlaw5.CurveLow', WHERE WHAT IT READS IS OF BULK AT MOST 1048576: true; the input reads as it did. -/
def curveLowUptoRow : OpenClaim := { program := "ytlpoolcdoecodaa", sum := "4f296df2f2d4fed8776154ecaacba7bef9c209cf74af73c1043309aca066417c", func := "strongroom/strongroomlaw5.CurveLow", spec := "curveLow", apart := false, narrowed := true }
def CurveLowUptoSaid : Prop := curveLowUptoRow.holds Try.pinned (OpenSpec.upto curveLowSpec)

end Rows
end Go.Proofs.Ytlpoolcdoecodaa
