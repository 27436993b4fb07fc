/-
  No cell of these rows narrows 'for every input' (looked for: loops, veiled, ifaces, maps, wideKeys, modest, calm, conditions, laid).
  DERIVED. THE GIVEN ROWS OF THIS SEAT. 5 by the template 'for every input the law returns true; each argument reads behind the call as it read before'; 0 by the template 'total and deterministic' (their statements: YtjlokmjbblpmoaaTotals.lean).
  GIVEN WITH THE SEED: the statements are not yours to turn. If you find one false, say at which input.
  Laid BY PROGRAM, IN A SANDBOX (cutbox-rows.mjs): the forced cells as the released guide's own fill.sh prints them over the translation 418ba0b284c5c0ae… (all of the seat's roots in one cut). By AI agents, Wed Nov 11 2026. No macro, syntax, notation, axiom, sorry.
-/
import Derived.Test.YtjlokmjbblpmoaaChecked
import GoSem.Claim
import GoSem.ClaimJoined
import GoSem.ClaimMapViews
import Derived.JoinedTies
import Derived.KernelRfl
namespace Go.Proofs.Ytjlokmjbblpmoaa
/- THE CELL 'sum', in the pinned program and in every row, IS THE sha256 OF THE DUMP (.gsa) THAT YtjlokmjbblpmoaaProg.lean LOADS. Nothing in Lean hashes anything: it is a label: what it is worth is what the hold of that sum in a sandbox is worth. -/
noncomputable def Try.pinned : Pinned := { name := "ytjlokmjbblpmoaa", sum := "418ba0b284c5c0ae76bcaf2b67be2200ca710705348e93ff7cfdb56af1b0e613", checked := Try.checked }
namespace Rows
def none {H : Type} : Left H := { results := [], args := [] }

/-- 'strongroomlaw4.AeadNumbers': WHATEVER THE INPUT: true; the input reads as it did. -/
def aeadNumbersSpec : ChangeSpec := { name := "aeadNumbers", fn := fun _ => fun
  | [] => { results := [.lit (.bool true)], args := [] }
  | _ => none }
def aeadNumbersRow : OpenClaim := { program := "ytjlokmjbblpmoaa", sum := "418ba0b284c5c0ae76bcaf2b67be2200ca710705348e93ff7cfdb56af1b0e613", func := "strongroom/strongroomlaw4.AeadNumbers", spec := "aeadNumbers", inPlace := ["math/bits.Add64"], apart := false }
def AeadNumbersSaid : Prop := aeadNumbersRow.holds Try.pinned (OpenSpec.ofChange aeadNumbersSpec)

/-- ITS FALSE NEIGHBOUR: 'it returns false'. Refute it at one input. -/
def aeadNumbersWrong : ChangeSpec := { name := "aeadNumbers", fn := fun _ => fun
  | [] => { results := [.lit (.bool false)], args := [] }
  | _ => none }
def AeadNumbersWrongFalsely : Prop := aeadNumbersRow.holds Try.pinned (OpenSpec.ofChange aeadNumbersWrong)

/-- 'strongroomlaw4.AeadTells': WHATEVER THE INPUT: true; the input reads as it did. -/
def aeadTellsSpec : ChangeSpec := { name := "aeadTells", fn := fun _ => fun
  | [d1, d2, d3, d4, d5, d6, d7] => { results := [.lit (.bool true)], args := [d1, d2, d3, d4, d5, d6, d7] }
  | _ => none }
def aeadTellsRow : OpenClaim := { program := "ytjlokmjbblpmoaa", sum := "418ba0b284c5c0ae76bcaf2b67be2200ca710705348e93ff7cfdb56af1b0e613", func := "strongroom/strongroomlaw4.AeadTells", spec := "aeadTells", inPlace := ["math/bits.Add64"], apart := false }
def AeadTellsSaid : Prop := aeadTellsRow.holds Try.pinned (OpenSpec.ofChange aeadTellsSpec)

/-- ITS FALSE NEIGHBOUR: 'it returns false'. Refute it at one input. -/
def aeadTellsWrong : ChangeSpec := { name := "aeadTells", fn := fun _ => fun
  | [d1, d2, d3, d4, d5, d6, d7] => { results := [.lit (.bool false)], args := [d1, d2, d3, d4, d5, d6, d7] }
  | _ => none }
def AeadTellsWrongFalsely : Prop := aeadTellsRow.holds Try.pinned (OpenSpec.ofChange aeadTellsWrong)

/-- 'strongroomlaw4.AeadBack': WHATEVER THE INPUT: true; the input reads as it did. -/
def aeadBackSpec : ChangeSpec := { name := "aeadBack", fn := fun _ => fun
  | [d1, d2, d3, d4] => { results := [.lit (.bool true)], args := [d1, d2, d3, d4] }
  | _ => none }
def aeadBackRow : OpenClaim := { program := "ytjlokmjbblpmoaa", sum := "418ba0b284c5c0ae76bcaf2b67be2200ca710705348e93ff7cfdb56af1b0e613", func := "strongroom/strongroomlaw4.AeadBack", spec := "aeadBack", inPlace := ["math/bits.Add64"], apart := false }
def AeadBackSaid : Prop := aeadBackRow.holds Try.pinned (OpenSpec.ofChange aeadBackSpec)

/-- ITS FALSE NEIGHBOUR: 'it returns false'. Refute it at one input. -/
def aeadBackWrong : ChangeSpec := { name := "aeadBack", fn := fun _ => fun
  | [d1, d2, d3, d4] => { results := [.lit (.bool false)], args := [d1, d2, d3, d4] }
  | _ => none }
def AeadBackWrongFalsely : Prop := aeadBackRow.holds Try.pinned (OpenSpec.ofChange aeadBackWrong)

/-- 'strongroomlaw4.AeadTurned': WHATEVER THE INPUT: true; the input reads as it did. -/
def aeadTurnedSpec : ChangeSpec := { name := "aeadTurned", fn := fun _ => fun
  | [d1, d2, d3, d4, d5, d6] => { results := [.lit (.bool true)], args := [d1, d2, d3, d4, d5, d6] }
  | _ => none }
def aeadTurnedRow : OpenClaim := { program := "ytjlokmjbblpmoaa", sum := "418ba0b284c5c0ae76bcaf2b67be2200ca710705348e93ff7cfdb56af1b0e613", func := "strongroom/strongroomlaw4.AeadTurned", spec := "aeadTurned", inPlace := ["math/bits.Add64"], apart := false }
def AeadTurnedSaid : Prop := aeadTurnedRow.holds Try.pinned (OpenSpec.ofChange aeadTurnedSpec)

/-- ITS FALSE NEIGHBOUR: 'it returns false'. Refute it at one input. -/
def aeadTurnedWrong : ChangeSpec := { name := "aeadTurned", fn := fun _ => fun
  | [d1, d2, d3, d4, d5, d6] => { results := [.lit (.bool false)], args := [d1, d2, d3, d4, d5, d6] }
  | _ => none }
def AeadTurnedWrongFalsely : Prop := aeadTurnedRow.holds Try.pinned (OpenSpec.ofChange aeadTurnedWrong)

/-- 'strongroomlaw4.AeadWhole': WHATEVER THE INPUT: true; the input reads as it did. -/
def aeadWholeSpec : ChangeSpec := { name := "aeadWhole", fn := fun _ => fun
  | [d1, d2, d3, d4, d5] => { results := [.lit (.bool true)], args := [d1, d2, d3, d4, d5] }
  | _ => none }
def aeadWholeRow : OpenClaim := { program := "ytjlokmjbblpmoaa", sum := "418ba0b284c5c0ae76bcaf2b67be2200ca710705348e93ff7cfdb56af1b0e613", func := "strongroom/strongroomlaw4.AeadWhole", spec := "aeadWhole", inPlace := ["math/bits.Add64"], apart := false }
def AeadWholeSaid : Prop := aeadWholeRow.holds Try.pinned (OpenSpec.ofChange aeadWholeSpec)

/-- ITS FALSE NEIGHBOUR: 'it returns false'. Refute it at one input. -/
def aeadWholeWrong : ChangeSpec := { name := "aeadWhole", fn := fun _ => fun
  | [d1, d2, d3, d4, d5] => { results := [.lit (.bool false)], args := [d1, d2, d3, d4, d5] }
  | _ => none }
def AeadWholeWrongFalsely : Prop := aeadWholeRow.holds Try.pinned (OpenSpec.ofChange aeadWholeWrong)

/- THE SECOND FORM. 'bulk': how many values and letters a reading holds, each counted each time it is reached (what is shared counts as often as it is met; a slice's spare places count too). A statement '..UptoSaid' is the law's where the arguments, and the package variables that the reading takes, are together of bulk at most 1048576: NARROWER than '..Said'. Prove '..Said' where nothing that the law and all that it calls make is longer than what came in: it says more and counts as full. Else prove '..UptoSaid'. A law counts once. -/
mutual
def uptoBulk {H : Type} : DataW H → Nat
  | .lit (.string bytes) => bytes.length + 1
  | .lit _ => 1
  | .nil => 1
  | .ptr d => uptoBulk d + 1
  | .slice elems spare => uptoBulkAll elems + uptoBulkAll spare + 1
  | .agg parts => uptoBulkAll parts + 1
  | .iface _ d => uptoBulk d + 1
  | .map entries => uptoBulkEntries entries + 1
  | .held _ => 1
def uptoBulkAll {H : Type} : List (DataW H) → Nat
  | [] => 0
  | d :: r => uptoBulk d + uptoBulkAll r
def uptoBulkEntries {H : Type} : List (Lit × DataW H) → Nat
  | [] => 0
  | x :: r => uptoBulkEntry x + uptoBulkEntries r
def uptoBulkEntry {H : Type} : Lit × DataW H → Nat
  | (.string bytes, d) => bytes.length + uptoBulk d + 1
  | (_, d) => uptoBulk d + 1
 end
def uptoSmall : (H : Type) → List (DataW H) → Bool := fun _ ds => decide (uptoBulkAll ds ≤ 1048576)
def OpenSpec.upto (s : _root_.Go.ChangeSpec) : _root_.Go.OpenSpec := { _root_.Go.OpenSpec.ofChange s with cond := some uptoSmall }

/-- 'strongroomlaw4.AeadNumbers', WHERE WHAT IT READS IS OF BULK AT MOST 1048576: true; the input reads as it did. -/
def aeadNumbersUptoRow : OpenClaim := { program := "ytjlokmjbblpmoaa", sum := "418ba0b284c5c0ae76bcaf2b67be2200ca710705348e93ff7cfdb56af1b0e613", func := "strongroom/strongroomlaw4.AeadNumbers", spec := "aeadNumbers", inPlace := ["math/bits.Add64"], apart := false, narrowed := true }
def AeadNumbersUptoSaid : Prop := aeadNumbersUptoRow.holds Try.pinned (OpenSpec.upto aeadNumbersSpec)

/-- 'strongroomlaw4.AeadTells', WHERE WHAT IT READS IS OF BULK AT MOST 1048576: true; the input reads as it did. -/
def aeadTellsUptoRow : OpenClaim := { program := "ytjlokmjbblpmoaa", sum := "418ba0b284c5c0ae76bcaf2b67be2200ca710705348e93ff7cfdb56af1b0e613", func := "strongroom/strongroomlaw4.AeadTells", spec := "aeadTells", inPlace := ["math/bits.Add64"], apart := false, narrowed := true }
def AeadTellsUptoSaid : Prop := aeadTellsUptoRow.holds Try.pinned (OpenSpec.upto aeadTellsSpec)

/-- 'strongroomlaw4.AeadBack', WHERE WHAT IT READS IS OF BULK AT MOST 1048576: true; the input reads as it did. -/
def aeadBackUptoRow : OpenClaim := { program := "ytjlokmjbblpmoaa", sum := "418ba0b284c5c0ae76bcaf2b67be2200ca710705348e93ff7cfdb56af1b0e613", func := "strongroom/strongroomlaw4.AeadBack", spec := "aeadBack", inPlace := ["math/bits.Add64"], apart := false, narrowed := true }
def AeadBackUptoSaid : Prop := aeadBackUptoRow.holds Try.pinned (OpenSpec.upto aeadBackSpec)

/-- 'strongroomlaw4.AeadTurned', WHERE WHAT IT READS IS OF BULK AT MOST 1048576: true; the input reads as it did. -/
def aeadTurnedUptoRow : OpenClaim := { program := "ytjlokmjbblpmoaa", sum := "418ba0b284c5c0ae76bcaf2b67be2200ca710705348e93ff7cfdb56af1b0e613", func := "strongroom/strongroomlaw4.AeadTurned", spec := "aeadTurned", inPlace := ["math/bits.Add64"], apart := false, narrowed := true }
def AeadTurnedUptoSaid : Prop := aeadTurnedUptoRow.holds Try.pinned (OpenSpec.upto aeadTurnedSpec)

/-- 'strongroomlaw4.AeadWhole', WHERE WHAT IT READS IS OF BULK AT MOST 1048576: true; the input reads as it did. -/
def aeadWholeUptoRow : OpenClaim := { program := "ytjlokmjbblpmoaa", sum := "418ba0b284c5c0ae76bcaf2b67be2200ca710705348e93ff7cfdb56af1b0e613", func := "strongroom/strongroomlaw4.AeadWhole", spec := "aeadWhole", inPlace := ["math/bits.Add64"], apart := false, narrowed := true }
def AeadWholeUptoSaid : Prop := aeadWholeUptoRow.holds Try.pinned (OpenSpec.upto aeadWholeSpec)

end Rows
end Go.Proofs.Ytjlokmjbblpmoaa
