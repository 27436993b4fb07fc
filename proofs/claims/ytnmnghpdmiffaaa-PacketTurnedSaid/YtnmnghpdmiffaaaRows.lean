/-
  No cell of these rows narrows 'for every input' (looked for: loops, veiled, ifaces, maps, wideKeys, modest, calm, conditions, laid).
  DERIVED. THE GIVEN ROWS OF THIS SEAT. 8 by the template 'for every input the law returns true; each argument reads behind the call as it read before'; 0 by the template 'total and deterministic' (their statements: YtnmnghpdmiffaaaTotals.lean).
  GIVEN WITH THE SEED: the statements are not yours to turn. If you find one false, say at which input.
  Laid BY PROGRAM, IN A SANDBOX (cutbox-rows.mjs): the forced cells as the released guide's own fill.sh prints them over the translation 513c1a395e99dceb… (all of the seat's roots in one cut). By AI agents, Wed Nov 11 2026. No macro, syntax, notation, axiom, sorry.
-/
import Derived.Test.YtnmnghpdmiffaaaChecked
import GoSem.Claim
import GoSem.ClaimJoined
import GoSem.ClaimMapViews
import Derived.JoinedTies
import Derived.KernelRfl
namespace Go.Proofs.Ytnmnghpdmiffaaa
/- THE CELL 'sum', in the pinned program and in every row, IS THE sha256 OF THE DUMP (.gsa) THAT YtnmnghpdmiffaaaProg.lean LOADS. Nothing in Lean hashes anything: it is a label: what it is worth is what the hold of that sum in a sandbox is worth. -/
noncomputable def Try.pinned : Pinned := { name := "ytnmnghpdmiffaaa", sum := "513c1a395e99dceb257232c7cdbbf15d0564bb9f62fb6c9153581e87e1b69b4a", checked := Try.checked }
namespace Rows
def none {H : Type} : Left H := { results := [], args := [] }

/-- 'strongroomlaw8.PacketWrites': WHATEVER THE INPUT: true; the input reads as it did. -/
def packetWritesSpec : ChangeSpec := { name := "packetWrites", fn := fun _ => fun
  | [d1, d2, d3] => { results := [.lit (.bool true)], args := [d1, d2, d3] }
  | _ => none }
def packetWritesRow : OpenClaim := { program := "ytnmnghpdmiffaaa", sum := "513c1a395e99dceb257232c7cdbbf15d0564bb9f62fb6c9153581e87e1b69b4a", func := "strongroom/strongroomlaw8.PacketWrites", spec := "packetWrites", inPlace := ["math/bits.Add64"], apart := false }
def PacketWritesSaid : Prop := packetWritesRow.holds Try.pinned (OpenSpec.ofChange packetWritesSpec)

/-- ITS FALSE NEIGHBOUR: 'it returns false'. Refute it at one input. -/
def packetWritesWrong : ChangeSpec := { name := "packetWrites", fn := fun _ => fun
  | [d1, d2, d3] => { results := [.lit (.bool false)], args := [d1, d2, d3] }
  | _ => none }
def PacketWritesWrongFalsely : Prop := packetWritesRow.holds Try.pinned (OpenSpec.ofChange packetWritesWrong)

/-- 'strongroomlaw8.PacketSizes': WHATEVER THE INPUT: true; the input reads as it did. -/
def packetSizesSpec : ChangeSpec := { name := "packetSizes", fn := fun _ => fun
  | [d1, d2, d3] => { results := [.lit (.bool true)], args := [d1, d2, d3] }
  | _ => none }
def packetSizesRow : OpenClaim := { program := "ytnmnghpdmiffaaa", sum := "513c1a395e99dceb257232c7cdbbf15d0564bb9f62fb6c9153581e87e1b69b4a", func := "strongroom/strongroomlaw8.PacketSizes", spec := "packetSizes", inPlace := ["math/bits.Add64"], apart := false }
def PacketSizesSaid : Prop := packetSizesRow.holds Try.pinned (OpenSpec.ofChange packetSizesSpec)

/-- ITS FALSE NEIGHBOUR: 'it returns false'. Refute it at one input. -/
def packetSizesWrong : ChangeSpec := { name := "packetSizes", fn := fun _ => fun
  | [d1, d2, d3] => { results := [.lit (.bool false)], args := [d1, d2, d3] }
  | _ => none }
def PacketSizesWrongFalsely : Prop := packetSizesRow.holds Try.pinned (OpenSpec.ofChange packetSizesWrong)

/-- 'strongroomlaw8.PacketReads': WHATEVER THE INPUT: true; the input reads as it did. -/
def packetReadsSpec : ChangeSpec := { name := "packetReads", fn := fun _ => fun
  | [d1, d2, d3, d4, d5, d6, d7] => { results := [.lit (.bool true)], args := [d1, d2, d3, d4, d5, d6, d7] }
  | _ => none }
def packetReadsRow : OpenClaim := { program := "ytnmnghpdmiffaaa", sum := "513c1a395e99dceb257232c7cdbbf15d0564bb9f62fb6c9153581e87e1b69b4a", func := "strongroom/strongroomlaw8.PacketReads", spec := "packetReads", inPlace := ["math/bits.Add64"], apart := false }
def PacketReadsSaid : Prop := packetReadsRow.holds Try.pinned (OpenSpec.ofChange packetReadsSpec)

/-- ITS FALSE NEIGHBOUR: 'it returns false'. Refute it at one input. -/
def packetReadsWrong : ChangeSpec := { name := "packetReads", fn := fun _ => fun
  | [d1, d2, d3, d4, d5, d6, d7] => { results := [.lit (.bool false)], args := [d1, d2, d3, d4, d5, d6, d7] }
  | _ => none }
def PacketReadsWrongFalsely : Prop := packetReadsRow.holds Try.pinned (OpenSpec.ofChange packetReadsWrong)

/-- 'strongroomlaw8.PacketNumbers': WHATEVER THE INPUT: true; the input reads as it did. -/
def packetNumbersSpec : ChangeSpec := { name := "packetNumbers", fn := fun _ => fun
  | [] => { results := [.lit (.bool true)], args := [] }
  | _ => none }
def packetNumbersRow : OpenClaim := { program := "ytnmnghpdmiffaaa", sum := "513c1a395e99dceb257232c7cdbbf15d0564bb9f62fb6c9153581e87e1b69b4a", func := "strongroom/strongroomlaw8.PacketNumbers", spec := "packetNumbers", inPlace := ["math/bits.Add64"], apart := false }
def PacketNumbersSaid : Prop := packetNumbersRow.holds Try.pinned (OpenSpec.ofChange packetNumbersSpec)

/-- ITS FALSE NEIGHBOUR: 'it returns false'. Refute it at one input. -/
def packetNumbersWrong : ChangeSpec := { name := "packetNumbers", fn := fun _ => fun
  | [] => { results := [.lit (.bool false)], args := [] }
  | _ => none }
def PacketNumbersWrongFalsely : Prop := packetNumbersRow.holds Try.pinned (OpenSpec.ofChange packetNumbersWrong)

/-- 'strongroomlaw8.PacketBack': WHATEVER THE INPUT: true; the input reads as it did. -/
def packetBackSpec : ChangeSpec := { name := "packetBack", fn := fun _ => fun
  | [d1, d2, d3, d4] => { results := [.lit (.bool true)], args := [d1, d2, d3, d4] }
  | _ => none }
def packetBackRow : OpenClaim := { program := "ytnmnghpdmiffaaa", sum := "513c1a395e99dceb257232c7cdbbf15d0564bb9f62fb6c9153581e87e1b69b4a", func := "strongroom/strongroomlaw8.PacketBack", spec := "packetBack", inPlace := ["math/bits.Add64"], apart := false }
def PacketBackSaid : Prop := packetBackRow.holds Try.pinned (OpenSpec.ofChange packetBackSpec)

/-- ITS FALSE NEIGHBOUR: 'it returns false'. Refute it at one input. -/
def packetBackWrong : ChangeSpec := { name := "packetBack", fn := fun _ => fun
  | [d1, d2, d3, d4] => { results := [.lit (.bool false)], args := [d1, d2, d3, d4] }
  | _ => none }
def PacketBackWrongFalsely : Prop := packetBackRow.holds Try.pinned (OpenSpec.ofChange packetBackWrong)

/-- 'strongroomlaw8.PacketTurned': WHATEVER THE INPUT: true; the input reads as it did. -/
def packetTurnedSpec : ChangeSpec := { name := "packetTurned", fn := fun _ => fun
  | [d1, d2, d3, d4, d5] => { results := [.lit (.bool true)], args := [d1, d2, d3, d4, d5] }
  | _ => none }
def packetTurnedRow : OpenClaim := { program := "ytnmnghpdmiffaaa", sum := "513c1a395e99dceb257232c7cdbbf15d0564bb9f62fb6c9153581e87e1b69b4a", func := "strongroom/strongroomlaw8.PacketTurned", spec := "packetTurned", inPlace := ["math/bits.Add64"], apart := false }
def PacketTurnedSaid : Prop := packetTurnedRow.holds Try.pinned (OpenSpec.ofChange packetTurnedSpec)

/-- ITS FALSE NEIGHBOUR: 'it returns false'. Refute it at one input. -/
def packetTurnedWrong : ChangeSpec := { name := "packetTurned", fn := fun _ => fun
  | [d1, d2, d3, d4, d5] => { results := [.lit (.bool false)], args := [d1, d2, d3, d4, d5] }
  | _ => none }
def PacketTurnedWrongFalsely : Prop := packetTurnedRow.holds Try.pinned (OpenSpec.ofChange packetTurnedWrong)

/-- 'strongroomlaw8.PacketKeys': WHATEVER THE INPUT: true; the input reads as it did. -/
def packetKeysSpec : ChangeSpec := { name := "packetKeys", fn := fun _ => fun
  | [d1, d2, d3] => { results := [.lit (.bool true)], args := [d1, d2, d3] }
  | _ => none }
def packetKeysRow : OpenClaim := { program := "ytnmnghpdmiffaaa", sum := "513c1a395e99dceb257232c7cdbbf15d0564bb9f62fb6c9153581e87e1b69b4a", func := "strongroom/strongroomlaw8.PacketKeys", spec := "packetKeys", inPlace := ["math/bits.Add64"], apart := false }
def PacketKeysSaid : Prop := packetKeysRow.holds Try.pinned (OpenSpec.ofChange packetKeysSpec)

/-- ITS FALSE NEIGHBOUR: 'it returns false'. Refute it at one input. -/
def packetKeysWrong : ChangeSpec := { name := "packetKeys", fn := fun _ => fun
  | [d1, d2, d3] => { results := [.lit (.bool false)], args := [d1, d2, d3] }
  | _ => none }
def PacketKeysWrongFalsely : Prop := packetKeysRow.holds Try.pinned (OpenSpec.ofChange packetKeysWrong)

/-- 'strongroomlaw8.PacketHeld': WHATEVER THE INPUT: true; the input reads as it did. -/
def packetHeldSpec : ChangeSpec := { name := "packetHeld", fn := fun _ => fun
  | [d1, d2, d3, d4] => { results := [.lit (.bool true)], args := [d1, d2, d3, d4] }
  | _ => none }
def packetHeldRow : OpenClaim := { program := "ytnmnghpdmiffaaa", sum := "513c1a395e99dceb257232c7cdbbf15d0564bb9f62fb6c9153581e87e1b69b4a", func := "strongroom/strongroomlaw8.PacketHeld", spec := "packetHeld", inPlace := ["math/bits.Add64"], apart := false }
def PacketHeldSaid : Prop := packetHeldRow.holds Try.pinned (OpenSpec.ofChange packetHeldSpec)

/-- ITS FALSE NEIGHBOUR: 'it returns false'. Refute it at one input. -/
def packetHeldWrong : ChangeSpec := { name := "packetHeld", fn := fun _ => fun
  | [d1, d2, d3, d4] => { results := [.lit (.bool false)], args := [d1, d2, d3, d4] }
  | _ => none }
def PacketHeldWrongFalsely : Prop := packetHeldRow.holds Try.pinned (OpenSpec.ofChange packetHeldWrong)

/- THE SECOND FORM. 'bulk': how many values and letters a reading holds, each counted each time it is reached (what is shared counts as often as it is met; a slice's spare places count too). A statement '..UptoSaid' is the law's where the arguments, and the package variables that the reading takes, are together of bulk at most 1048576: NARROWER than '..Said'. Prove '..Said' where nothing that the law and all that it calls make is longer than what came in: it says more and counts as full. Else prove '..UptoSaid'. A law counts once. -/
mutual
def uptoBulk {H : Type} : DataW H → Nat
  | .lit (.string bytes) => bytes.length + 1
  | .lit _ => 1
  | .nil => 1
  | .ptr d => uptoBulk d + 1
  | .slice elems spare => uptoBulkAll elems + uptoBulkAll spare + 1
  | .agg parts => uptoBulkAll parts + 1
  | .iface _ d => uptoBulk d + 1
  | .map entries => uptoBulkEntries entries + 1
  | .held _ => 1
def uptoBulkAll {H : Type} : List (DataW H) → Nat
  | [] => 0
  | d :: r => uptoBulk d + uptoBulkAll r
def uptoBulkEntries {H : Type} : List (Lit × DataW H) → Nat
  | [] => 0
  | x :: r => uptoBulkEntry x + uptoBulkEntries r
def uptoBulkEntry {H : Type} : Lit × DataW H → Nat
  | (.string bytes, d) => bytes.length + uptoBulk d + 1
  | (_, d) => uptoBulk d + 1
 end
def uptoSmall : (H : Type) → List (DataW H) → Bool := fun _ ds => decide (uptoBulkAll ds ≤ 1048576)
def OpenSpec.upto (s : _root_.Go.ChangeSpec) : _root_.Go.OpenSpec := { _root_.Go.OpenSpec.ofChange s with cond := some uptoSmall }

/-- 'strongroomlaw8.PacketWrites', WHERE WHAT IT READS IS OF BULK AT MOST 1048576: true; the input reads as it did. -/
def packetWritesUptoRow : OpenClaim := { program := "ytnmnghpdmiffaaa", sum := "513c1a395e99dceb257232c7cdbbf15d0564bb9f62fb6c9153581e87e1b69b4a", func := "strongroom/strongroomlaw8.PacketWrites", spec := "packetWrites", inPlace := ["math/bits.Add64"], apart := false, narrowed := true }
def PacketWritesUptoSaid : Prop := packetWritesUptoRow.holds Try.pinned (OpenSpec.upto packetWritesSpec)

/-- 'strongroomlaw8.PacketSizes', WHERE WHAT IT READS IS OF BULK AT MOST 1048576: true; the input reads as it did. -/
def packetSizesUptoRow : OpenClaim := { program := "ytnmnghpdmiffaaa", sum := "513c1a395e99dceb257232c7cdbbf15d0564bb9f62fb6c9153581e87e1b69b4a", func := "strongroom/strongroomlaw8.PacketSizes", spec := "packetSizes", inPlace := ["math/bits.Add64"], apart := false, narrowed := true }
def PacketSizesUptoSaid : Prop := packetSizesUptoRow.holds Try.pinned (OpenSpec.upto packetSizesSpec)

/-- 'strongroomlaw8.PacketReads', WHERE WHAT IT READS IS OF BULK AT MOST 1048576: true; the input reads as it did. -/
def packetReadsUptoRow : OpenClaim := { program := "ytnmnghpdmiffaaa", sum := "513c1a395e99dceb257232c7cdbbf15d0564bb9f62fb6c9153581e87e1b69b4a", func := "strongroom/strongroomlaw8.PacketReads", spec := "packetReads", inPlace := ["math/bits.Add64"], apart := false, narrowed := true }
def PacketReadsUptoSaid : Prop := packetReadsUptoRow.holds Try.pinned (OpenSpec.upto packetReadsSpec)

/-- 'strongroomlaw8.PacketNumbers', WHERE WHAT IT READS IS OF BULK AT MOST 1048576: true; the input reads as it did. -/
def packetNumbersUptoRow : OpenClaim := { program := "ytnmnghpdmiffaaa", sum := "513c1a395e99dceb257232c7cdbbf15d0564bb9f62fb6c9153581e87e1b69b4a", func := "strongroom/strongroomlaw8.PacketNumbers", spec := "packetNumbers", inPlace := ["math/bits.Add64"], apart := false, narrowed := true }
def PacketNumbersUptoSaid : Prop := packetNumbersUptoRow.holds Try.pinned (OpenSpec.upto packetNumbersSpec)

/-- 'strongroomlaw8.PacketBack', WHERE WHAT IT READS IS OF BULK AT MOST 1048576: true; the input reads as it did. -/
def packetBackUptoRow : OpenClaim := { program := "ytnmnghpdmiffaaa", sum := "513c1a395e99dceb257232c7cdbbf15d0564bb9f62fb6c9153581e87e1b69b4a", func := "strongroom/strongroomlaw8.PacketBack", spec := "packetBack", inPlace := ["math/bits.Add64"], apart := false, narrowed := true }
def PacketBackUptoSaid : Prop := packetBackUptoRow.holds Try.pinned (OpenSpec.upto packetBackSpec)

/-- 'strongroomlaw8.PacketTurned', WHERE WHAT IT READS IS OF BULK AT MOST 1048576: true; the input reads as it did. -/
def packetTurnedUptoRow : OpenClaim := { program := "ytnmnghpdmiffaaa", sum := "513c1a395e99dceb257232c7cdbbf15d0564bb9f62fb6c9153581e87e1b69b4a", func := "strongroom/strongroomlaw8.PacketTurned", spec := "packetTurned", inPlace := ["math/bits.Add64"], apart := false, narrowed := true }
def PacketTurnedUptoSaid : Prop := packetTurnedUptoRow.holds Try.pinned (OpenSpec.upto packetTurnedSpec)

/-- 'strongroomlaw8.PacketKeys', WHERE WHAT IT READS IS OF BULK AT MOST 1048576: true; the input reads as it did. -/
def packetKeysUptoRow : OpenClaim := { program := "ytnmnghpdmiffaaa", sum := "513c1a395e99dceb257232c7cdbbf15d0564bb9f62fb6c9153581e87e1b69b4a", func := "strongroom/strongroomlaw8.PacketKeys", spec := "packetKeys", inPlace := ["math/bits.Add64"], apart := false, narrowed := true }
def PacketKeysUptoSaid : Prop := packetKeysUptoRow.holds Try.pinned (OpenSpec.upto packetKeysSpec)

/-- 'strongroomlaw8.PacketHeld', WHERE WHAT IT READS IS OF BULK AT MOST 1048576: true; the input reads as it did. -/
def packetHeldUptoRow : OpenClaim := { program := "ytnmnghpdmiffaaa", sum := "513c1a395e99dceb257232c7cdbbf15d0564bb9f62fb6c9153581e87e1b69b4a", func := "strongroom/strongroomlaw8.PacketHeld", spec := "packetHeld", inPlace := ["math/bits.Add64"], apart := false, narrowed := true }
def PacketHeldUptoSaid : Prop := packetHeldUptoRow.holds Try.pinned (OpenSpec.upto packetHeldSpec)

end Rows
end Go.Proofs.Ytnmnghpdmiffaaa
