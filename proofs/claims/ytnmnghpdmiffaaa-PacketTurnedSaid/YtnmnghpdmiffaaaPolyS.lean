/-
  poly.Sum and poly.Same, in the form in which the printed texts call a function.
-/
import Derived.Test.YtnmnghpdmiffaaaUPSumx1
namespace Go.Proofs.Ytnmnghpdmiffaaa
open Go.RowKit Go.Proofs.YtnmnghpdmiffaaaW.PrintWords Go.Proofs.Ytnmnghpdmiffaaa.Arr
set_option maxRecDepth 100000

/-- What Sum answers. -/
def Pol.sumAns (key b : List Int) : List Int × Int := if key.length = 32 then (Pol.tagF key b, 0) else ([], 1)
def poly_Sum.f (l0 l1 : List Int) : Option (List Int × Int) := some (Pol.sumAns l0 l1)
theorem poly_Sum.calls (A0 : Option Addr) (c0 : Nat) (l0 : List Int) (A1 : Option Addr) (c1 : Nat) (l1 : List Int) (r1 : List Int) (r2 : Int) (w : World) (hr0 : Kd.C (Kd.int .u8) w A0 l0.length l0) (hc0 : l0.length ≤ c0) (hr1 : Kd.C (Kd.int .u8) w A1 l1.length l1) (hc1 : l1.length ≤ c1) (h : poly_Sum.f l0 l1 = some (r1, r2)) :
    Calls Try.prog 57 #[.slice A0 l0.length c0, .slice A1 l1.length c1] w fun e w' => ∃ v0_ : Value, e = .returned (.tuple #[v0_, .int .i64 r2]) ∧ Kd.R (Kd.int .u8) 5 w' w.heap.size (fun _ => True) v0_ r1 ∧ Below w.heap.size w w' := by
  refine UPSum.poly_Sum.calls A0 c0 l0 A1 c1 l1 r1 r2 w hr0 hc0 hr1 hc1 ?_
  unfold UPSum.poly_Sum.f poly_tag.f
  rw [← h]
  unfold poly_Sum.f Pol.sumAns
  by_cases hk : l0.length = 32
  · rw [if_pos (by omega), if_pos hk, if_pos hk]; rfl
  · rw [if_neg (by omega), if_neg hk]
def poly_Same.f (l0 l1 : List Int) : Option (Bool) := some ((strOfNums l0).toList == (strOfNums l1).toList)
theorem poly_Same.calls (A0 : Option Addr) (c0 : Nat) (l0 : List Int) (A1 : Option Addr) (c1 : Nat) (l1 : List Int) (r : Bool) (w : World) (hr0 : Kd.C (Kd.int .u8) w A0 l0.length l0) (hc0 : l0.length ≤ c0) (hr1 : Kd.C (Kd.int .u8) w A1 l1.length l1) (hc1 : l1.length ≤ c1) (h : poly_Same.f l0 l1 = some r) :
    Calls Try.prog 54 #[.slice A0 l0.length c0, .slice A1 l1.length c1] w fun e w' => e = .returned (.bool r) ∧ Drawn0 w w' :=
  UPSum.poly_Same.calls A0 c0 l0 A1 c1 l1 r w hr0 hc0 hr1 hc1 (by unfold UPSum.poly_Same.f UPSum.bytes_Equal.f; exact h)
end Go.Proofs.Ytnmnghpdmiffaaa
