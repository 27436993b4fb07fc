/-
  chapter 2's runs ('known' of the statements): reckoned out.
-/
import Derived.Test.YtclabnfngchpfaaChachaX
import Derived.Test.YtclabnfngchpfaaUKnown2x1
namespace Go.Proofs.Ytclabnfngchpfaa
open Go.RowKit Go.Proofs.YtclabnfngchpfaaW.PrintWords

theorem known2 : UKnown2.strongroomlaw2_known.f 40 = some true := by decide +kernel
def strongroomlaw2_known.f : Option Bool := some true
theorem strongroomlaw2_known.calls (r : Bool) (w : World) (h : strongroomlaw2_known.f = some r) :
    Calls Try.prog 16 #[] w fun e w' => e = .returned (.bool r) ∧ Below w.heap.size w w' := by
  obtain rfl := Option.some.inj h
  exact UKnown2.strongroomlaw2_known.calls 40 true w known2
end Go.Proofs.Ytclabnfngchpfaa
