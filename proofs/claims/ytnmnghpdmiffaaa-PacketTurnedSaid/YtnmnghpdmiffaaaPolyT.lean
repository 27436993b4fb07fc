/-
  poly.tag's contract, in the form in which the printed texts call a function.
-/
import Derived.Test.YtnmnghpdmiffaaaPolyH
namespace Go.Proofs.Ytnmnghpdmiffaaa
open Go.RowKit Go.Proofs.YtnmnghpdmiffaaaW.PrintWords Go.Proofs.Ytnmnghpdmiffaaa.Arr
set_option maxRecDepth 100000

def poly_tag.f (l0 l1 : List Int) : Option (List Int) := if l0.length = 32 then some (Pol.tagF l0 l1) else none
theorem poly_tag.calls (A0 : Option Addr) (c0 : Nat) (l0 : List Int) (A1 : Option Addr) (c1 : Nat) (l1 : List Int) (r : List Int) (w : World) (hr0 : Kd.C (Kd.int .u8) w A0 l0.length l0) (hc0 : l0.length ≤ c0) (hr1 : Kd.C (Kd.int .u8) w A1 l1.length l1) (hc1 : l1.length ≤ c1) (h : poly_tag.f l0 l1 = some r) :
    Calls Try.prog 66 #[.slice A0 l0.length c0, .slice A1 l1.length c1] w fun e w' => ∃ v0_ : Value, e = .returned (v0_) ∧ Kd.R (Kd.int .u8) 5 w' w.heap.size (fun _ => True) v0_ r ∧ Below w.heap.size w w' := by
  unfold poly_tag.f at h
  split at h
  case isFalse => cases h
  rename_i hl
  have h := Option.some.inj h
  rw [← h]
  exact Pol.tag_calls A0 A1 c0 c1 l0 l1 w hr0 hc0 hl hr1 hc1
end Go.Proofs.Ytnmnghpdmiffaaa
