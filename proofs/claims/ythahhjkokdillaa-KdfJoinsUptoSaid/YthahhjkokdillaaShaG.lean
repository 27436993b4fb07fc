/-
  kdf.Sum, in the form in which the printed texts call a function.
-/
import Derived.Test.YthahhjkokdillaaShaS
namespace Go.Proofs.Ythahhjkokdillaa
open Go.RowKit Go.Proofs.YthahhjkokdillaaW.PrintWords
def kdf_Sum.f (l0 : List Int) : Option (List Int) := if l0.length ≤ 100000000 then some (Sha.shaF l0) else none
theorem kdf_Sum.calls (A0 : Option Addr) (c0 : Nat) (l0 : List Int) (r : List Int) (w : World) (hr0 : Kd.C (Kd.int .u8) w A0 l0.length l0) (hc0 : l0.length ≤ c0) (h : kdf_Sum.f l0 = some r) :
    Calls Try.prog 15 #[.slice A0 l0.length c0] w fun e w' => ∃ v0_ : Value, e = .returned (v0_) ∧ Kd.R (Kd.int .u8) 5 w' w.heap.size (fun _ => True) v0_ r ∧ Below w.heap.size w w' := by
  unfold kdf_Sum.f at h
  split at h
  · rw [← Option.some.inj h]
    exact Sha.sum_calls A0 c0 l0 w hr0 hc0 (by assumption)
  · cases h
end Go.Proofs.Ythahhjkokdillaa
