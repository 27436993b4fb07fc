/-
  No cell of these rows narrows 'for every input' (looked for: loops, veiled, ifaces, maps, wideKeys, modest, calm, conditions, laid).
  DERIVED. THE GIVEN ROWS OF THIS SEAT. 9 by the template 'for every input the law returns true; each argument reads behind the call as it read before'; 0 by the template 'total and deterministic' (their statements: YtclabnfngchpfaaTotals.lean).
  GIVEN WITH THE SEED: the statements are not yours to turn. If you find one false, say at which input.
  Laid BY PROGRAM, IN A SANDBOX (cutbox-rows.mjs): the forced cells as the released guide's own fill.sh prints them over the translation 30e56dd5ce85014d… (all of the seat's roots in one cut). By AI agents, Wed Nov 11 2026. No macro, syntax, notation, axiom, sorry.
-/
import Derived.Test.YtclabnfngchpfaaChecked
import GoSem.Claim
import GoSem.ClaimJoined
import GoSem.ClaimMapViews
import Derived.JoinedTies
import Derived.KernelRfl
namespace Go.Proofs.Ytclabnfngchpfaa
/- THE CELL 'sum', in the pinned program and in every row, IS THE sha256 OF THE DUMP (.gsa) THAT YtclabnfngchpfaaProg.lean LOADS. Nothing in Lean hashes anything: it is a label: what it is worth is what the hold of that sum in a sandbox is worth. -/
noncomputable def Try.pinned : Pinned := { name := "ytclabnfngchpfaa", sum := "30e56dd5ce85014dbd8b89b10ac7e1d90b24798fbb8d26e0fca818977eaf1fb0", checked := Try.checked }
namespace Rows
def none {H : Type} : Left H := { results := [], args := [] }

/-- 'strongroomlaw2.ChachaNumbers': WHATEVER THE INPUT: true; the input reads as it did. -/
def chachaNumbersSpec : ChangeSpec := { name := "chachaNumbers", fn := fun _ => fun
  | [] => { results := [.lit (.bool true)], args := [] }
  | _ => none }
def chachaNumbersRow : OpenClaim := { program := "ytclabnfngchpfaa", sum := "30e56dd5ce85014dbd8b89b10ac7e1d90b24798fbb8d26e0fca818977eaf1fb0", func := "strongroom/strongroomlaw2.ChachaNumbers", spec := "chachaNumbers", apart := false }
def ChachaNumbersSaid : Prop := chachaNumbersRow.holds Try.pinned (OpenSpec.ofChange chachaNumbersSpec)

/-- ITS FALSE NEIGHBOUR: 'it returns false'. Refute it at one input. -/
def chachaNumbersWrong : ChangeSpec := { name := "chachaNumbers", fn := fun _ => fun
  | [] => { results := [.lit (.bool false)], args := [] }
  | _ => none }
def ChachaNumbersWrongFalsely : Prop := chachaNumbersRow.holds Try.pinned (OpenSpec.ofChange chachaNumbersWrong)

/-- 'strongroomlaw2.ChachaTells': WHATEVER THE INPUT: true; the input reads as it did. -/
def chachaTellsSpec : ChangeSpec := { name := "chachaTells", fn := fun _ => fun
  | [d1, d2, d3, d4, d5] => { results := [.lit (.bool true)], args := [d1, d2, d3, d4, d5] }
  | _ => none }
def chachaTellsRow : OpenClaim := { program := "ytclabnfngchpfaa", sum := "30e56dd5ce85014dbd8b89b10ac7e1d90b24798fbb8d26e0fca818977eaf1fb0", func := "strongroom/strongroomlaw2.ChachaTells", spec := "chachaTells", apart := false }
def ChachaTellsSaid : Prop := chachaTellsRow.holds Try.pinned (OpenSpec.ofChange chachaTellsSpec)

/-- ITS FALSE NEIGHBOUR: 'it returns false'. Refute it at one input. -/
def chachaTellsWrong : ChangeSpec := { name := "chachaTells", fn := fun _ => fun
  | [d1, d2, d3, d4, d5] => { results := [.lit (.bool false)], args := [d1, d2, d3, d4, d5] }
  | _ => none }
def ChachaTellsWrongFalsely : Prop := chachaTellsRow.holds Try.pinned (OpenSpec.ofChange chachaTellsWrong)

/-- 'strongroomlaw2.ChachaBack': WHATEVER THE INPUT: true; the input reads as it did. -/
def chachaBackSpec : ChangeSpec := { name := "chachaBack", fn := fun _ => fun
  | [d1, d2, d3, d4, d5, d6, d7] => { results := [.lit (.bool true)], args := [d1, d2, d3, d4, d5, d6, d7] }
  | _ => none }
def chachaBackRow : OpenClaim := { program := "ytclabnfngchpfaa", sum := "30e56dd5ce85014dbd8b89b10ac7e1d90b24798fbb8d26e0fca818977eaf1fb0", func := "strongroom/strongroomlaw2.ChachaBack", spec := "chachaBack", apart := false }
def ChachaBackSaid : Prop := chachaBackRow.holds Try.pinned (OpenSpec.ofChange chachaBackSpec)

/-- ITS FALSE NEIGHBOUR: 'it returns false'. Refute it at one input. -/
def chachaBackWrong : ChangeSpec := { name := "chachaBack", fn := fun _ => fun
  | [d1, d2, d3, d4, d5, d6, d7] => { results := [.lit (.bool false)], args := [d1, d2, d3, d4, d5, d6, d7] }
  | _ => none }
def ChachaBackWrongFalsely : Prop := chachaBackRow.holds Try.pinned (OpenSpec.ofChange chachaBackWrong)

/-- 'strongroomlaw2.ChachaBlocks': WHATEVER THE INPUT: true; the input reads as it did. -/
def chachaBlocksSpec : ChangeSpec := { name := "chachaBlocks", fn := fun _ => fun
  | [d1, d2, d3, d4] => { results := [.lit (.bool true)], args := [d1, d2, d3, d4] }
  | _ => none }
def chachaBlocksRow : OpenClaim := { program := "ytclabnfngchpfaa", sum := "30e56dd5ce85014dbd8b89b10ac7e1d90b24798fbb8d26e0fca818977eaf1fb0", func := "strongroom/strongroomlaw2.ChachaBlocks", spec := "chachaBlocks", apart := false }
def ChachaBlocksSaid : Prop := chachaBlocksRow.holds Try.pinned (OpenSpec.ofChange chachaBlocksSpec)

/-- ITS FALSE NEIGHBOUR: 'it returns false'. Refute it at one input. -/
def chachaBlocksWrong : ChangeSpec := { name := "chachaBlocks", fn := fun _ => fun
  | [d1, d2, d3, d4] => { results := [.lit (.bool false)], args := [d1, d2, d3, d4] }
  | _ => none }
def ChachaBlocksWrongFalsely : Prop := chachaBlocksRow.holds Try.pinned (OpenSpec.ofChange chachaBlocksWrong)

/-- 'strongroomlaw2.ChachaSame': WHATEVER THE INPUT: true; the input reads as it did. -/
def chachaSameSpec : ChangeSpec := { name := "chachaSame", fn := fun _ => fun
  | [d1, d2, d3, d4, d5] => { results := [.lit (.bool true)], args := [d1, d2, d3, d4, d5] }
  | _ => none }
def chachaSameRow : OpenClaim := { program := "ytclabnfngchpfaa", sum := "30e56dd5ce85014dbd8b89b10ac7e1d90b24798fbb8d26e0fca818977eaf1fb0", func := "strongroom/strongroomlaw2.ChachaSame", spec := "chachaSame", apart := false }
def ChachaSameSaid : Prop := chachaSameRow.holds Try.pinned (OpenSpec.ofChange chachaSameSpec)

/-- ITS FALSE NEIGHBOUR: 'it returns false'. Refute it at one input. -/
def chachaSameWrong : ChangeSpec := { name := "chachaSame", fn := fun _ => fun
  | [d1, d2, d3, d4, d5] => { results := [.lit (.bool false)], args := [d1, d2, d3, d4, d5] }
  | _ => none }
def ChachaSameWrongFalsely : Prop := chachaSameRow.holds Try.pinned (OpenSpec.ofChange chachaSameWrong)

/-- 'strongroomlaw7.WindowNumbers': WHATEVER THE INPUT: true; the input reads as it did. -/
def windowNumbersSpec : ChangeSpec := { name := "windowNumbers", fn := fun _ => fun
  | [] => { results := [.lit (.bool true)], args := [] }
  | _ => none }
def windowNumbersRow : OpenClaim := { program := "ytclabnfngchpfaa", sum := "30e56dd5ce85014dbd8b89b10ac7e1d90b24798fbb8d26e0fca818977eaf1fb0", func := "strongroom/strongroomlaw7.WindowNumbers", spec := "windowNumbers", inPlace := ["math.archTrunc", "math.Float64bits", "math.Float64frombits"], apart := false }
def WindowNumbersSaid : Prop := windowNumbersRow.holds Try.pinned (OpenSpec.ofChange windowNumbersSpec)

/-- ITS FALSE NEIGHBOUR: 'it returns false'. Refute it at one input. -/
def windowNumbersWrong : ChangeSpec := { name := "windowNumbers", fn := fun _ => fun
  | [] => { results := [.lit (.bool false)], args := [] }
  | _ => none }
def WindowNumbersWrongFalsely : Prop := windowNumbersRow.holds Try.pinned (OpenSpec.ofChange windowNumbersWrong)

/-- 'strongroomlaw7.WindowRules': WHATEVER THE INPUT: true; the input reads as it did. -/
def windowRulesSpec : ChangeSpec := { name := "windowRules", fn := fun _ => fun
  | [d1, d2, d3] => { results := [.lit (.bool true)], args := [d1, d2, d3] }
  | _ => none }
def windowRulesRow : OpenClaim := { program := "ytclabnfngchpfaa", sum := "30e56dd5ce85014dbd8b89b10ac7e1d90b24798fbb8d26e0fca818977eaf1fb0", func := "strongroom/strongroomlaw7.WindowRules", spec := "windowRules", inPlace := ["math.archTrunc", "math.Float64bits", "math.Float64frombits"], apart := false }
def WindowRulesSaid : Prop := windowRulesRow.holds Try.pinned (OpenSpec.ofChange windowRulesSpec)

/-- ITS FALSE NEIGHBOUR: 'it returns false'. Refute it at one input. -/
def windowRulesWrong : ChangeSpec := { name := "windowRules", fn := fun _ => fun
  | [d1, d2, d3] => { results := [.lit (.bool false)], args := [d1, d2, d3] }
  | _ => none }
def WindowRulesWrongFalsely : Prop := windowRulesRow.holds Try.pinned (OpenSpec.ofChange windowRulesWrong)

/-- 'strongroomlaw7.WindowTwice': WHATEVER THE INPUT: true; the input reads as it did. -/
def windowTwiceSpec : ChangeSpec := { name := "windowTwice", fn := fun _ => fun
  | [d1, d2, d3, d4, d5] => { results := [.lit (.bool true)], args := [d1, d2, d3, d4, d5] }
  | _ => none }
def windowTwiceRow : OpenClaim := { program := "ytclabnfngchpfaa", sum := "30e56dd5ce85014dbd8b89b10ac7e1d90b24798fbb8d26e0fca818977eaf1fb0", func := "strongroom/strongroomlaw7.WindowTwice", spec := "windowTwice", inPlace := ["math.archTrunc", "math.Float64bits", "math.Float64frombits"], apart := false }
def WindowTwiceSaid : Prop := windowTwiceRow.holds Try.pinned (OpenSpec.ofChange windowTwiceSpec)

/-- ITS FALSE NEIGHBOUR: 'it returns false'. Refute it at one input. -/
def windowTwiceWrong : ChangeSpec := { name := "windowTwice", fn := fun _ => fun
  | [d1, d2, d3, d4, d5] => { results := [.lit (.bool false)], args := [d1, d2, d3, d4, d5] }
  | _ => none }
def WindowTwiceWrongFalsely : Prop := windowTwiceRow.holds Try.pinned (OpenSpec.ofChange windowTwiceWrong)

/-- 'strongroomlaw7.WindowEnds': WHATEVER THE INPUT: true; the input reads as it did. -/
def windowEndsSpec : ChangeSpec := { name := "windowEnds", fn := fun _ => fun
  | [d1, d2, d3, d4] => { results := [.lit (.bool true)], args := [d1, d2, d3, d4] }
  | _ => none }
def windowEndsRow : OpenClaim := { program := "ytclabnfngchpfaa", sum := "30e56dd5ce85014dbd8b89b10ac7e1d90b24798fbb8d26e0fca818977eaf1fb0", func := "strongroom/strongroomlaw7.WindowEnds", spec := "windowEnds", inPlace := ["math.archTrunc", "math.Float64bits", "math.Float64frombits"], apart := false }
def WindowEndsSaid : Prop := windowEndsRow.holds Try.pinned (OpenSpec.ofChange windowEndsSpec)

/-- ITS FALSE NEIGHBOUR: 'it returns false'. Refute it at one input. -/
def windowEndsWrong : ChangeSpec := { name := "windowEnds", fn := fun _ => fun
  | [d1, d2, d3, d4] => { results := [.lit (.bool false)], args := [d1, d2, d3, d4] }
  | _ => none }
def WindowEndsWrongFalsely : Prop := windowEndsRow.holds Try.pinned (OpenSpec.ofChange windowEndsWrong)

/- THE SECOND FORM. 'bulk': how many values and letters a reading holds, each counted each time it is reached (what is shared counts as often as it is met; a slice's spare places count too). A statement '..UptoSaid' is the law's where the arguments, and the package variables that the reading takes, are together of bulk at most 1048576: NARROWER than '..Said'. Prove '..Said' where nothing that the law and all that it calls make is longer than what came in: it says more and counts as full. Else prove '..UptoSaid'. A law counts once. -/
mutual
def uptoBulk {H : Type} : DataW H → Nat
  | .lit (.string bytes) => bytes.length + 1
  | .lit _ => 1
  | .nil => 1
  | .ptr d => uptoBulk d + 1
  | .slice elems spare => uptoBulkAll elems + uptoBulkAll spare + 1
  | .agg parts => uptoBulkAll parts + 1
  | .iface _ d => uptoBulk d + 1
  | .map entries => uptoBulkEntries entries + 1
  | .held _ => 1
def uptoBulkAll {H : Type} : List (DataW H) → Nat
  | [] => 0
  | d :: r => uptoBulk d + uptoBulkAll r
def uptoBulkEntries {H : Type} : List (Lit × DataW H) → Nat
  | [] => 0
  | x :: r => uptoBulkEntry x + uptoBulkEntries r
def uptoBulkEntry {H : Type} : Lit × DataW H → Nat
  | (.string bytes, d) => bytes.length + uptoBulk d + 1
  | (_, d) => uptoBulk d + 1
 end
def uptoSmall : (H : Type) → List (DataW H) → Bool := fun _ ds => decide (uptoBulkAll ds ≤ 1048576)
def OpenSpec.upto (s : _root_.Go.ChangeSpec) : _root_.Go.OpenSpec := { _root_.Go.OpenSpec.ofChange s with cond := some uptoSmall }

/-- 'strongroomlaw2.ChachaNumbers', WHERE WHAT IT READS IS OF BULK AT MOST 1048576: true; the input reads as it did. -/
def chachaNumbersUptoRow : OpenClaim := { program := "ytclabnfngchpfaa", sum := "30e56dd5ce85014dbd8b89b10ac7e1d90b24798fbb8d26e0fca818977eaf1fb0", func := "strongroom/strongroomlaw2.ChachaNumbers", spec := "chachaNumbers", apart := false, narrowed := true }
def ChachaNumbersUptoSaid : Prop := chachaNumbersUptoRow.holds Try.pinned (OpenSpec.upto chachaNumbersSpec)

/-- 'strongroomlaw2.ChachaTells', WHERE WHAT IT READS IS OF BULK AT MOST 1048576: true; the input reads as it did. -/
def chachaTellsUptoRow : OpenClaim := { program := "ytclabnfngchpfaa", sum := "30e56dd5ce85014dbd8b89b10ac7e1d90b24798fbb8d26e0fca818977eaf1fb0", func := "strongroom/strongroomlaw2.ChachaTells", spec := "chachaTells", apart := false, narrowed := true }
def ChachaTellsUptoSaid : Prop := chachaTellsUptoRow.holds Try.pinned (OpenSpec.upto chachaTellsSpec)

/-- 'strongroomlaw2.ChachaBack', WHERE WHAT IT READS IS OF BULK AT MOST 1048576: true; the input reads as it did. -/
def chachaBackUptoRow : OpenClaim := { program := "ytclabnfngchpfaa", sum := "30e56dd5ce85014dbd8b89b10ac7e1d90b24798fbb8d26e0fca818977eaf1fb0", func := "strongroom/strongroomlaw2.ChachaBack", spec := "chachaBack", apart := false, narrowed := true }
def ChachaBackUptoSaid : Prop := chachaBackUptoRow.holds Try.pinned (OpenSpec.upto chachaBackSpec)

/-- 'strongroomlaw2.ChachaBlocks', WHERE WHAT IT READS IS OF BULK AT MOST 1048576: true; the input reads as it did. -/
def chachaBlocksUptoRow : OpenClaim := { program := "ytclabnfngchpfaa", sum := "30e56dd5ce85014dbd8b89b10ac7e1d90b24798fbb8d26e0fca818977eaf1fb0", func := "strongroom/strongroomlaw2.ChachaBlocks", spec := "chachaBlocks", apart := false, narrowed := true }
def ChachaBlocksUptoSaid : Prop := chachaBlocksUptoRow.holds Try.pinned (OpenSpec.upto chachaBlocksSpec)

/-- 'strongroomlaw2.ChachaSame', WHERE WHAT IT READS IS OF BULK AT MOST 1048576: true; the input reads as it did. -/
def chachaSameUptoRow : OpenClaim := { program := "ytclabnfngchpfaa", sum := "30e56dd5ce85014dbd8b89b10ac7e1d90b24798fbb8d26e0fca818977eaf1fb0", func := "strongroom/strongroomlaw2.ChachaSame", spec := "chachaSame", apart := false, narrowed := true }
def ChachaSameUptoSaid : Prop := chachaSameUptoRow.holds Try.pinned (OpenSpec.upto chachaSameSpec)

/-- 'strongroomlaw7.WindowNumbers', WHERE WHAT IT READS IS OF BULK AT MOST 1048576: true; the input reads as it did. -/
def windowNumbersUptoRow : OpenClaim := { program := "ytclabnfngchpfaa", sum := "30e56dd5ce85014dbd8b89b10ac7e1d90b24798fbb8d26e0fca818977eaf1fb0", func := "strongroom/strongroomlaw7.WindowNumbers", spec := "windowNumbers", inPlace := ["math.archTrunc", "math.Float64bits", "math.Float64frombits"], apart := false, narrowed := true }
def WindowNumbersUptoSaid : Prop := windowNumbersUptoRow.holds Try.pinned (OpenSpec.upto windowNumbersSpec)

/-- 'strongroomlaw7.WindowRules', WHERE WHAT IT READS IS OF BULK AT MOST 1048576: true; the input reads as it did. -/
def windowRulesUptoRow : OpenClaim := { program := "ytclabnfngchpfaa", sum := "30e56dd5ce85014dbd8b89b10ac7e1d90b24798fbb8d26e0fca818977eaf1fb0", func := "strongroom/strongroomlaw7.WindowRules", spec := "windowRules", inPlace := ["math.archTrunc", "math.Float64bits", "math.Float64frombits"], apart := false, narrowed := true }
def WindowRulesUptoSaid : Prop := windowRulesUptoRow.holds Try.pinned (OpenSpec.upto windowRulesSpec)

/-- 'strongroomlaw7.WindowTwice', WHERE WHAT IT READS IS OF BULK AT MOST 1048576: true; the input reads as it did. -/
def windowTwiceUptoRow : OpenClaim := { program := "ytclabnfngchpfaa", sum := "30e56dd5ce85014dbd8b89b10ac7e1d90b24798fbb8d26e0fca818977eaf1fb0", func := "strongroom/strongroomlaw7.WindowTwice", spec := "windowTwice", inPlace := ["math.archTrunc", "math.Float64bits", "math.Float64frombits"], apart := false, narrowed := true }
def WindowTwiceUptoSaid : Prop := windowTwiceUptoRow.holds Try.pinned (OpenSpec.upto windowTwiceSpec)

/-- 'strongroomlaw7.WindowEnds', WHERE WHAT IT READS IS OF BULK AT MOST 1048576: true; the input reads as it did. -/
def windowEndsUptoRow : OpenClaim := { program := "ytclabnfngchpfaa", sum := "30e56dd5ce85014dbd8b89b10ac7e1d90b24798fbb8d26e0fca818977eaf1fb0", func := "strongroom/strongroomlaw7.WindowEnds", spec := "windowEnds", inPlace := ["math.archTrunc", "math.Float64bits", "math.Float64frombits"], apart := false, narrowed := true }
def WindowEndsUptoSaid : Prop := windowEndsUptoRow.holds Try.pinned (OpenSpec.upto windowEndsSpec)

end Rows
end Go.Proofs.Ytclabnfngchpfaa
