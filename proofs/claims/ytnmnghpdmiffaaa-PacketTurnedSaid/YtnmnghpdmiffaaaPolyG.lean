/-
  math/bits.Add64, as the model has it; poly.tag's parts: bytes of two words.
-/
import Derived.Test.YtnmnghpdmiffaaaPolyD
import Derived.Test.YtnmnghpdmiffaaaPolyF
import Derived.Shelf.Spec.BitsCarry
namespace Go.Proofs.Ytnmnghpdmiffaaa.Pol
open Go.RowKit Go.Proofs.YtnmnghpdmiffaaaW.PrintWords Go.Proofs.Ytnmnghpdmiffaaa.Arr
set_option maxRecDepth 100000

def rhoAdd : Go.Shelf.Ren := ⟨fun _ => 76, fun _ => 28, fun _ => 0⟩
theorem laysAdd : Go.Proofs.Lays7.n25 Try.prog rhoAdd where
  mixed := by kernel_rfl
  f25 := by kernel_rfl
  t22 := by kernel_rfl
  a22 := fun w => by kernel_rfl
  z22 := fun w => by kernel_rfl
  v22 := fun w => by kernel_rfl
  i22 := by kernel_rfl
theorem add64_run (x y c : Int) (hx : 0 ≤ x) (hy : 0 ≤ y) (hc : 0 ≤ c) (hc1 : c ≤ 1) (w : World) :
    (callFunc 76 #[.int .u64 x, .int .u64 y, .int .u64 c]).run Try.prog w = .ok (.value (.tuple #[.int .u64 ((x + y + c) % 18446744073709551616), .int .u64 ((x + y + c) / 18446744073709551616)])) w := by
  obtain ⟨x, rfl⟩ := Int.eq_ofNat_of_zero_le hx
  obtain ⟨y, rfl⟩ := Int.eq_ofNat_of_zero_le hy
  obtain ⟨c, rfl⟩ := Int.eq_ofNat_of_zero_le hc
  have h := Go.Proofs.Any7.bits_Add64 laysAdd x y c (by omega) w
  have e1 : (((x + y + c) % 18446744073709551616 : Nat) : Int) = ((x : Int) + y + c) % 18446744073709551616 := by omega
  have e2 : (((x + y + c) / 18446744073709551616 : Nat) : Int) = ((x : Int) + y + c) / 18446744073709551616 := by omega
  rw [e1, e2] at h
  exact h
end Go.Proofs.Ytnmnghpdmiffaaa.Pol
