/-
  chacha.block and the reference's Block, in the form in which the printed texts call a function.
-/
import Derived.Test.YtnmnghpdmiffaaaChachaR
namespace Go.Proofs.Ytnmnghpdmiffaaa
open Go.RowKit Go.Proofs.YtnmnghpdmiffaaaW.PrintWords
set_option maxRecDepth 100000

def chacha_block.f (l0 : List Int) (a1 : Int) (l2 : List Int) : Option (List Int) := if l0.length = 32 ∧ l2.length = 12 then some (Cha.blockF l0 a1 l2) else none
theorem chacha_block.calls (A0 : Option Addr) (c0 : Nat) (l0 : List Int) (a1 : Int) (A2 : Option Addr) (c2 : Nat) (l2 : List Int) (r : List Int) (w : World) (hr0 : Kd.C (Kd.int .u8) w A0 l0.length l0) (hc0 : l0.length ≤ c0) (hr2 : Kd.C (Kd.int .u8) w A2 l2.length l2) (hc2 : l2.length ≤ c2) (h : chacha_block.f l0 a1 l2 = some r) :
    Calls Try.prog 55 #[.slice A0 l0.length c0, .int .u32 a1, .slice A2 l2.length c2] w fun e w' => ∃ v0_ : Value, e = .returned (v0_) ∧ Kd.R (Kd.int .u8) 5 w' w.heap.size (fun _ => True) v0_ r ∧ Below w.heap.size w w' := by
  unfold chacha_block.f at h
  split at h
  · rename_i hl
    obtain rfl := Option.some.inj h
    exact Cha.block_calls A0 A2 c0 c2 l0 l2 a1 w hr0 hc0 hl.1 hr2 hc2 hl.2
  · cases h

def strongroomref2_Block.f (l0 : List Int) (a1 : Int) (l2 : List Int) : Option (List Int × Int) := some (Cha.refBlockF l0 a1 l2)
theorem strongroomref2_Block.calls (A0 : Option Addr) (c0 : Nat) (l0 : List Int) (a1 : Int) (A2 : Option Addr) (c2 : Nat) (l2 : List Int) (r1 : List Int) (r2 : Int) (w : World) (hr0 : Kd.C (Kd.int .u8) w A0 l0.length l0) (hc0 : l0.length ≤ c0) (hr2 : Kd.C (Kd.int .u8) w A2 l2.length l2) (hc2 : l2.length ≤ c2) (h : strongroomref2_Block.f l0 a1 l2 = some (r1, r2)) :
    Calls Try.prog 59 #[.slice A0 l0.length c0, .int .u32 a1, .slice A2 l2.length c2] w fun e w' => ∃ v0_ : Value, e = .returned (.tuple #[v0_, .int .i64 r2]) ∧ Kd.R (Kd.int .u8) 5 w' w.heap.size (fun _ => True) v0_ r1 ∧ Below w.heap.size w w' := by
  have h := Option.some.inj h
  unfold Cha.refBlockF at h
  by_cases hl : l0.length = 32 ∧ l2.length = 12
  · rw [if_pos hl, Prod.mk.injEq] at h
    obtain ⟨rfl, rfl⟩ := h
    exact Cha.refBlock_yes A0 A2 c0 c2 l0 l2 a1 w hr0 hc0 hl.1 hr2 hc2 hl.2
  · rw [if_neg hl, Prod.mk.injEq] at h
    obtain ⟨rfl, rfl⟩ := h
    refine (Cha.refBlock_no A0 A2 c0 c2 l0 l2 a1 w hl).mono ?_
    rintro e w' ⟨rfl, rfl⟩
    exact ⟨_, rfl, Kd.R_nil _ _ _ _ _, Below.refl _ _⟩
end Go.Proofs.Ytnmnghpdmiffaaa
