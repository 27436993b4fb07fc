/-
  No cell of these rows narrows 'for every input' (looked for: loops, veiled, ifaces, maps, wideKeys, modest, calm, conditions, laid).
  DERIVED. THE GIVEN ROWS OF THIS SEAT. 10 by the template 'for every input the law returns true; each argument reads behind the call as it read before'; 0 by the template 'total and deterministic' (their statements: YthahhjkokdillaaTotals.lean).
  GIVEN WITH THE SEED: the statements are not yours to turn. If you find one false, say at which input.
  Laid BY PROGRAM, IN A SANDBOX (cutbox-rows.mjs): the forced cells as the released guide's own fill.sh prints them over the translation 0da32bec761d527c… (all of the seat's roots in one cut). By AI agents, Wed Nov 11 2026. No macro, syntax, notation, axiom, sorry.
-/
import Derived.Test.YthahhjkokdillaaChecked
import GoSem.Claim
import GoSem.ClaimJoined
import GoSem.ClaimMapViews
import Derived.JoinedTies
import Derived.KernelRfl
namespace Go.Proofs.Ythahhjkokdillaa
/- THE CELL 'sum', in the pinned program and in every row, IS THE sha256 OF THE DUMP (.gsa) THAT YthahhjkokdillaaProg.lean LOADS. Nothing in Lean hashes anything: it is a label: what it is worth is what the hold of that sum in a sandbox is worth. -/
noncomputable def Try.pinned : Pinned := { name := "ythahhjkokdillaa", sum := "0da32bec761d527c59a99d1ca546f579c6d46e9243145da467cdae7e31d6b1ab", checked := Try.checked }
namespace Rows
def none {H : Type} : Left H := { results := [], args := [] }

/-- 'strongroomlaw6.KdfMacs': WHATEVER THE INPUT: true; the input reads as it did. -/
def kdfMacsSpec : ChangeSpec := { name := "kdfMacs", fn := fun _ => fun
  | [d1, d2, d3] => { results := [.lit (.bool true)], args := [d1, d2, d3] }
  | _ => none }
def kdfMacsRow : OpenClaim := { program := "ythahhjkokdillaa", sum := "0da32bec761d527c59a99d1ca546f579c6d46e9243145da467cdae7e31d6b1ab", func := "strongroom/strongroomlaw6.KdfMacs", spec := "kdfMacs", apart := false }
def KdfMacsSaid : Prop := kdfMacsRow.holds Try.pinned (OpenSpec.ofChange kdfMacsSpec)

/-- ITS FALSE NEIGHBOUR: 'it returns false'. Refute it at one input. -/
def kdfMacsWrong : ChangeSpec := { name := "kdfMacs", fn := fun _ => fun
  | [d1, d2, d3] => { results := [.lit (.bool false)], args := [d1, d2, d3] }
  | _ => none }
def KdfMacsWrongFalsely : Prop := kdfMacsRow.holds Try.pinned (OpenSpec.ofChange kdfMacsWrong)

/-- 'strongroomlaw6.KdfGrows': WHATEVER THE INPUT: true; the input reads as it did. -/
def kdfGrowsSpec : ChangeSpec := { name := "kdfGrows", fn := fun _ => fun
  | [d1, d2, d3, d4, d5, d6, d7] => { results := [.lit (.bool true)], args := [d1, d2, d3, d4, d5, d6, d7] }
  | _ => none }
def kdfGrowsRow : OpenClaim := { program := "ythahhjkokdillaa", sum := "0da32bec761d527c59a99d1ca546f579c6d46e9243145da467cdae7e31d6b1ab", func := "strongroom/strongroomlaw6.KdfGrows", spec := "kdfGrows", apart := false }
def KdfGrowsSaid : Prop := kdfGrowsRow.holds Try.pinned (OpenSpec.ofChange kdfGrowsSpec)

/-- ITS FALSE NEIGHBOUR: 'it returns false'. Refute it at one input. -/
def kdfGrowsWrong : ChangeSpec := { name := "kdfGrows", fn := fun _ => fun
  | [d1, d2, d3, d4, d5, d6, d7] => { results := [.lit (.bool false)], args := [d1, d2, d3, d4, d5, d6, d7] }
  | _ => none }
def KdfGrowsWrongFalsely : Prop := kdfGrowsRow.holds Try.pinned (OpenSpec.ofChange kdfGrowsWrong)

/-- 'strongroomlaw6.KdfJoins': WHATEVER THE INPUT: true; the input reads as it did. -/
def kdfJoinsSpec : ChangeSpec := { name := "kdfJoins", fn := fun _ => fun
  | [d1, d2, d3, d4, d5, d6] => { results := [.lit (.bool true)], args := [d1, d2, d3, d4, d5, d6] }
  | _ => none }
def kdfJoinsRow : OpenClaim := { program := "ythahhjkokdillaa", sum := "0da32bec761d527c59a99d1ca546f579c6d46e9243145da467cdae7e31d6b1ab", func := "strongroom/strongroomlaw6.KdfJoins", spec := "kdfJoins", apart := false }
def KdfJoinsSaid : Prop := kdfJoinsRow.holds Try.pinned (OpenSpec.ofChange kdfJoinsSpec)

/-- ITS FALSE NEIGHBOUR: 'it returns false'. Refute it at one input. -/
def kdfJoinsWrong : ChangeSpec := { name := "kdfJoins", fn := fun _ => fun
  | [d1, d2, d3, d4, d5, d6] => { results := [.lit (.bool false)], args := [d1, d2, d3, d4, d5, d6] }
  | _ => none }
def KdfJoinsWrongFalsely : Prop := kdfJoinsRow.holds Try.pinned (OpenSpec.ofChange kdfJoinsWrong)

/-- 'strongroomlaw6.KdfNumbers': WHATEVER THE INPUT: true; the input reads as it did. -/
def kdfNumbersSpec : ChangeSpec := { name := "kdfNumbers", fn := fun _ => fun
  | [] => { results := [.lit (.bool true)], args := [] }
  | _ => none }
def kdfNumbersRow : OpenClaim := { program := "ythahhjkokdillaa", sum := "0da32bec761d527c59a99d1ca546f579c6d46e9243145da467cdae7e31d6b1ab", func := "strongroom/strongroomlaw6.KdfNumbers", spec := "kdfNumbers", apart := false }
def KdfNumbersSaid : Prop := kdfNumbersRow.holds Try.pinned (OpenSpec.ofChange kdfNumbersSpec)

/-- ITS FALSE NEIGHBOUR: 'it returns false'. Refute it at one input. -/
def kdfNumbersWrong : ChangeSpec := { name := "kdfNumbers", fn := fun _ => fun
  | [] => { results := [.lit (.bool false)], args := [] }
  | _ => none }
def KdfNumbersWrongFalsely : Prop := kdfNumbersRow.holds Try.pinned (OpenSpec.ofChange kdfNumbersWrong)

/-- 'strongroomlaw6.KdfTells': WHATEVER THE INPUT: true; the input reads as it did. -/
def kdfTellsSpec : ChangeSpec := { name := "kdfTells", fn := fun _ => fun
  | [d1, d2, d3, d4, d5, d6, d7, d8] => { results := [.lit (.bool true)], args := [d1, d2, d3, d4, d5, d6, d7, d8] }
  | _ => none }
def kdfTellsRow : OpenClaim := { program := "ythahhjkokdillaa", sum := "0da32bec761d527c59a99d1ca546f579c6d46e9243145da467cdae7e31d6b1ab", func := "strongroom/strongroomlaw6.KdfTells", spec := "kdfTells", apart := false }
def KdfTellsSaid : Prop := kdfTellsRow.holds Try.pinned (OpenSpec.ofChange kdfTellsSpec)

/-- ITS FALSE NEIGHBOUR: 'it returns false'. Refute it at one input. -/
def kdfTellsWrong : ChangeSpec := { name := "kdfTells", fn := fun _ => fun
  | [d1, d2, d3, d4, d5, d6, d7, d8] => { results := [.lit (.bool false)], args := [d1, d2, d3, d4, d5, d6, d7, d8] }
  | _ => none }
def KdfTellsWrongFalsely : Prop := kdfTellsRow.holds Try.pinned (OpenSpec.ofChange kdfTellsWrong)

/-- 'strongroomlaw3.PolyLine': WHATEVER THE INPUT: true; the input reads as it did. -/
def polyLineSpec : ChangeSpec := { name := "polyLine", fn := fun _ => fun
  | [d1, d2] => { results := [.lit (.bool true)], args := [d1, d2] }
  | _ => none }
def polyLineRow : OpenClaim := { program := "ythahhjkokdillaa", sum := "0da32bec761d527c59a99d1ca546f579c6d46e9243145da467cdae7e31d6b1ab", func := "strongroom/strongroomlaw3.PolyLine", spec := "polyLine", inPlace := ["math/bits.Add64"], apart := false }
def PolyLineSaid : Prop := polyLineRow.holds Try.pinned (OpenSpec.ofChange polyLineSpec)

/-- ITS FALSE NEIGHBOUR: 'it returns false'. Refute it at one input. -/
def polyLineWrong : ChangeSpec := { name := "polyLine", fn := fun _ => fun
  | [d1, d2] => { results := [.lit (.bool false)], args := [d1, d2] }
  | _ => none }
def PolyLineWrongFalsely : Prop := polyLineRow.holds Try.pinned (OpenSpec.ofChange polyLineWrong)

/-- 'strongroomlaw3.PolyOne': WHATEVER THE INPUT: true; the input reads as it did. -/
def polyOneSpec : ChangeSpec := { name := "polyOne", fn := fun _ => fun
  | [d] => { results := [.lit (.bool true)], args := [d] }
  | _ => none }
def polyOneRow : OpenClaim := { program := "ythahhjkokdillaa", sum := "0da32bec761d527c59a99d1ca546f579c6d46e9243145da467cdae7e31d6b1ab", func := "strongroom/strongroomlaw3.PolyOne", spec := "polyOne", inPlace := ["math/bits.Add64"], apart := false }
def PolyOneSaid : Prop := polyOneRow.holds Try.pinned (OpenSpec.ofChange polyOneSpec)

/-- ITS FALSE NEIGHBOUR: 'it returns false'. Refute it at one input. -/
def polyOneWrong : ChangeSpec := { name := "polyOne", fn := fun _ => fun
  | [d] => { results := [.lit (.bool false)], args := [d] }
  | _ => none }
def PolyOneWrongFalsely : Prop := polyOneRow.holds Try.pinned (OpenSpec.ofChange polyOneWrong)

/-- 'strongroomlaw3.PolyNumbers': WHATEVER THE INPUT: true; the input reads as it did. -/
def polyNumbersSpec : ChangeSpec := { name := "polyNumbers", fn := fun _ => fun
  | [] => { results := [.lit (.bool true)], args := [] }
  | _ => none }
def polyNumbersRow : OpenClaim := { program := "ythahhjkokdillaa", sum := "0da32bec761d527c59a99d1ca546f579c6d46e9243145da467cdae7e31d6b1ab", func := "strongroom/strongroomlaw3.PolyNumbers", spec := "polyNumbers", inPlace := ["math/bits.Add64"], apart := false }
def PolyNumbersSaid : Prop := polyNumbersRow.holds Try.pinned (OpenSpec.ofChange polyNumbersSpec)

/-- ITS FALSE NEIGHBOUR: 'it returns false'. Refute it at one input. -/
def polyNumbersWrong : ChangeSpec := { name := "polyNumbers", fn := fun _ => fun
  | [] => { results := [.lit (.bool false)], args := [] }
  | _ => none }
def PolyNumbersWrongFalsely : Prop := polyNumbersRow.holds Try.pinned (OpenSpec.ofChange polyNumbersWrong)

/-- 'strongroomlaw3.PolyTells': WHATEVER THE INPUT: true; the input reads as it did. -/
def polyTellsSpec : ChangeSpec := { name := "polyTells", fn := fun _ => fun
  | [d1, d2, d3] => { results := [.lit (.bool true)], args := [d1, d2, d3] }
  | _ => none }
def polyTellsRow : OpenClaim := { program := "ythahhjkokdillaa", sum := "0da32bec761d527c59a99d1ca546f579c6d46e9243145da467cdae7e31d6b1ab", func := "strongroom/strongroomlaw3.PolyTells", spec := "polyTells", inPlace := ["math/bits.Add64"], apart := false }
def PolyTellsSaid : Prop := polyTellsRow.holds Try.pinned (OpenSpec.ofChange polyTellsSpec)

/-- ITS FALSE NEIGHBOUR: 'it returns false'. Refute it at one input. -/
def polyTellsWrong : ChangeSpec := { name := "polyTells", fn := fun _ => fun
  | [d1, d2, d3] => { results := [.lit (.bool false)], args := [d1, d2, d3] }
  | _ => none }
def PolyTellsWrongFalsely : Prop := polyTellsRow.holds Try.pinned (OpenSpec.ofChange polyTellsWrong)

/-- 'strongroomlaw3.PolyBlocks': WHATEVER THE INPUT: true; the input reads as it did. -/
def polyBlocksSpec : ChangeSpec := { name := "polyBlocks", fn := fun _ => fun
  | [d1, d2, d3, d4] => { results := [.lit (.bool true)], args := [d1, d2, d3, d4] }
  | _ => none }
def polyBlocksRow : OpenClaim := { program := "ythahhjkokdillaa", sum := "0da32bec761d527c59a99d1ca546f579c6d46e9243145da467cdae7e31d6b1ab", func := "strongroom/strongroomlaw3.PolyBlocks", spec := "polyBlocks", inPlace := ["math/bits.Add64"], apart := false }
def PolyBlocksSaid : Prop := polyBlocksRow.holds Try.pinned (OpenSpec.ofChange polyBlocksSpec)

/-- ITS FALSE NEIGHBOUR: 'it returns false'. Refute it at one input. -/
def polyBlocksWrong : ChangeSpec := { name := "polyBlocks", fn := fun _ => fun
  | [d1, d2, d3, d4] => { results := [.lit (.bool false)], args := [d1, d2, d3, d4] }
  | _ => none }
def PolyBlocksWrongFalsely : Prop := polyBlocksRow.holds Try.pinned (OpenSpec.ofChange polyBlocksWrong)

/- THE SECOND FORM. 'bulk': how many values and letters a reading holds, each counted each time it is reached (what is shared counts as often as it is met; a slice's spare places count too). A statement '..UptoSaid' is the law's where the arguments, and the package variables that the reading takes, are together of bulk at most 1048576: NARROWER than '..Said'. Prove '..Said' where nothing that the law and all that it calls make is longer than what came in: it says more and counts as full. Else prove '..UptoSaid'. A law counts once. -/
mutual
def uptoBulk {H : Type} : DataW H → Nat
  | .lit (.string bytes) => bytes.length + 1
  | .lit _ => 1
  | .nil => 1
  | .ptr d => uptoBulk d + 1
  | .slice elems spare => uptoBulkAll elems + uptoBulkAll spare + 1
  | .agg parts => uptoBulkAll parts + 1
  | .iface _ d => uptoBulk d + 1
  | .map entries => uptoBulkEntries entries + 1
  | .held _ => 1
def uptoBulkAll {H : Type} : List (DataW H) → Nat
  | [] => 0
  | d :: r => uptoBulk d + uptoBulkAll r
def uptoBulkEntries {H : Type} : List (Lit × DataW H) → Nat
  | [] => 0
  | x :: r => uptoBulkEntry x + uptoBulkEntries r
def uptoBulkEntry {H : Type} : Lit × DataW H → Nat
  | (.string bytes, d) => bytes.length + uptoBulk d + 1
  | (_, d) => uptoBulk d + 1
 end
def uptoSmall : (H : Type) → List (DataW H) → Bool := fun _ ds => decide (uptoBulkAll ds ≤ 1048576)
def OpenSpec.upto (s : _root_.Go.ChangeSpec) : _root_.Go.OpenSpec := { _root_.Go.OpenSpec.ofChange s with cond := some uptoSmall }

/-- 'strongroomlaw6.KdfMacs', WHERE WHAT IT READS IS OF BULK AT MOST 1048576: true; the input reads as it did. -/
def kdfMacsUptoRow : OpenClaim := { program := "ythahhjkokdillaa", sum := "0da32bec761d527c59a99d1ca546f579c6d46e9243145da467cdae7e31d6b1ab", func := "strongroom/strongroomlaw6.KdfMacs", spec := "kdfMacs", apart := false, narrowed := true }
def KdfMacsUptoSaid : Prop := kdfMacsUptoRow.holds Try.pinned (OpenSpec.upto kdfMacsSpec)

/-- 'strongroomlaw6.KdfGrows', WHERE WHAT IT READS IS OF BULK AT MOST 1048576: true; the input reads as it did. -/
def kdfGrowsUptoRow : OpenClaim := { program := "ythahhjkokdillaa", sum := "0da32bec761d527c59a99d1ca546f579c6d46e9243145da467cdae7e31d6b1ab", func := "strongroom/strongroomlaw6.KdfGrows", spec := "kdfGrows", apart := false, narrowed := true }
def KdfGrowsUptoSaid : Prop := kdfGrowsUptoRow.holds Try.pinned (OpenSpec.upto kdfGrowsSpec)

/-- 'strongroomlaw6.KdfJoins', WHERE WHAT IT READS IS OF BULK AT MOST 1048576: true; the input reads as it did. -/
def kdfJoinsUptoRow : OpenClaim := { program := "ythahhjkokdillaa", sum := "0da32bec761d527c59a99d1ca546f579c6d46e9243145da467cdae7e31d6b1ab", func := "strongroom/strongroomlaw6.KdfJoins", spec := "kdfJoins", apart := false, narrowed := true }
def KdfJoinsUptoSaid : Prop := kdfJoinsUptoRow.holds Try.pinned (OpenSpec.upto kdfJoinsSpec)

/-- 'strongroomlaw6.KdfNumbers', WHERE WHAT IT READS IS OF BULK AT MOST 1048576: true; the input reads as it did. -/
def kdfNumbersUptoRow : OpenClaim := { program := "ythahhjkokdillaa", sum := "0da32bec761d527c59a99d1ca546f579c6d46e9243145da467cdae7e31d6b1ab", func := "strongroom/strongroomlaw6.KdfNumbers", spec := "kdfNumbers", apart := false, narrowed := true }
def KdfNumbersUptoSaid : Prop := kdfNumbersUptoRow.holds Try.pinned (OpenSpec.upto kdfNumbersSpec)

/-- 'strongroomlaw6.KdfTells', WHERE WHAT IT READS IS OF BULK AT MOST 1048576: true; the input reads as it did. -/
def kdfTellsUptoRow : OpenClaim := { program := "ythahhjkokdillaa", sum := "0da32bec761d527c59a99d1ca546f579c6d46e9243145da467cdae7e31d6b1ab", func := "strongroom/strongroomlaw6.KdfTells", spec := "kdfTells", apart := false, narrowed := true }
def KdfTellsUptoSaid : Prop := kdfTellsUptoRow.holds Try.pinned (OpenSpec.upto kdfTellsSpec)

/-- 'strongroomlaw3.PolyLine', WHERE WHAT IT READS IS OF BULK AT MOST 1048576: true; the input reads as it did. -/
def polyLineUptoRow : OpenClaim := { program := "ythahhjkokdillaa", sum := "0da32bec761d527c59a99d1ca546f579c6d46e9243145da467cdae7e31d6b1ab", func := "strongroom/strongroomlaw3.PolyLine", spec := "polyLine", inPlace := ["math/bits.Add64"], apart := false, narrowed := true }
def PolyLineUptoSaid : Prop := polyLineUptoRow.holds Try.pinned (OpenSpec.upto polyLineSpec)

/-- 'strongroomlaw3.PolyOne', WHERE WHAT IT READS IS OF BULK AT MOST 1048576: true; the input reads as it did. -/
def polyOneUptoRow : OpenClaim := { program := "ythahhjkokdillaa", sum := "0da32bec761d527c59a99d1ca546f579c6d46e9243145da467cdae7e31d6b1ab", func := "strongroom/strongroomlaw3.PolyOne", spec := "polyOne", inPlace := ["math/bits.Add64"], apart := false, narrowed := true }
def PolyOneUptoSaid : Prop := polyOneUptoRow.holds Try.pinned (OpenSpec.upto polyOneSpec)

/-- 'strongroomlaw3.PolyNumbers', WHERE WHAT IT READS IS OF BULK AT MOST 1048576: true; the input reads as it did. -/
def polyNumbersUptoRow : OpenClaim := { program := "ythahhjkokdillaa", sum := "0da32bec761d527c59a99d1ca546f579c6d46e9243145da467cdae7e31d6b1ab", func := "strongroom/strongroomlaw3.PolyNumbers", spec := "polyNumbers", inPlace := ["math/bits.Add64"], apart := false, narrowed := true }
def PolyNumbersUptoSaid : Prop := polyNumbersUptoRow.holds Try.pinned (OpenSpec.upto polyNumbersSpec)

/-- 'strongroomlaw3.PolyTells', WHERE WHAT IT READS IS OF BULK AT MOST 1048576: true; the input reads as it did. -/
def polyTellsUptoRow : OpenClaim := { program := "ythahhjkokdillaa", sum := "0da32bec761d527c59a99d1ca546f579c6d46e9243145da467cdae7e31d6b1ab", func := "strongroom/strongroomlaw3.PolyTells", spec := "polyTells", inPlace := ["math/bits.Add64"], apart := false, narrowed := true }
def PolyTellsUptoSaid : Prop := polyTellsUptoRow.holds Try.pinned (OpenSpec.upto polyTellsSpec)

/-- 'strongroomlaw3.PolyBlocks', WHERE WHAT IT READS IS OF BULK AT MOST 1048576: true; the input reads as it did. -/
def polyBlocksUptoRow : OpenClaim := { program := "ythahhjkokdillaa", sum := "0da32bec761d527c59a99d1ca546f579c6d46e9243145da467cdae7e31d6b1ab", func := "strongroom/strongroomlaw3.PolyBlocks", spec := "polyBlocks", inPlace := ["math/bits.Add64"], apart := false, narrowed := true }
def PolyBlocksUptoSaid : Prop := polyBlocksUptoRow.holds Try.pinned (OpenSpec.upto polyBlocksSpec)

end Rows
end Go.Proofs.Ythahhjkokdillaa
