/-
  poly's calls on arrays of five limbs, walked: what they leave, as lists of numbers.
-/
import Derived.Test.YtnmnghpdmiffaaaArr2
namespace Go.Proofs.Ytnmnghpdmiffaaa.Pol
open Go.RowKit Go.Proofs.YtnmnghpdmiffaaaW.PrintWords Go.Proofs.Ytnmnghpdmiffaaa.Arr
set_option maxRecDepth 100000

def maskF (xs : List Int) (i : Nat) : List Int := xs.set i (Go.bits .and .u64 (rd xs i) 67108863)
def addAt (xs : List Int) (i : Nat) (c : Int) : List Int := xs.set i (IntKind.u64.wrap (rd xs i + c))
def carryS (xs : List Int) (i : Nat) : List Int := if i < 4 then addAt (maskF xs i) (i + 1) (rd xs i / 67108864) else addAt (maskF xs i) 0 (IntKind.u64.wrap (5 * (rd xs i / 67108864)))
def carryN (xs : List Int) : Nat → List Int
  | 0 => xs
  | i + 1 => carryS (carryN xs i) i
def carryF (xs : List Int) : List Int := carryN xs 5
theorem len_maskF (xs : List Int) (i : Nat) : (maskF xs i).length = xs.length := by simp [maskF]
theorem len_addAt (xs : List Int) (i : Nat) (c : Int) : (addAt xs i c).length = xs.length := by simp [addAt]
theorem len_carryS (xs : List Int) (i : Nat) : (carryS xs i).length = xs.length := by unfold carryS; split <;> simp [len_maskF, len_addAt]
theorem len_carryN (xs : List Int) : ∀ i, (carryN xs i).length = xs.length
  | 0 => rfl
  | i + 1 => by rw [carryN, len_carryS, len_carryN xs i]

set_option maxHeartbeats 1000000 in
theorem carry_calls (T : TypeId) (xs : List Int) (g : Nat) (w : World) (hw : Is w g T .u64 xs) (hl : xs.length = 5) :
    Calls Try.prog 78 #[.pointer (some ⟨g, 0, none⟩)] w fun e w' => e = .returned (.tuple #[]) ∧ To w w' g .u64 (carryF xs) := by
  have L := Aside0.mk hl
  clear hl
  go_enter Try.func78, Try.ntmps78
  go_wp2
  go_loopw [4] (fun v w' => ∃ i : Nat, i ≤ 5 ∧ v = .int .i64 i ∧ To w w' g .u64 (carryN xs i)) (fun v _ => 5 - (intOf v).toNat)
  case atStart => exact ⟨0, by omega, rfl, To.refl hw⟩
  case round =>
    obtain ⟨i, hi, rfl, t0⟩ := hrel
    have ih0 := t0.is hw
    obtain ⟨xh0, q0⟩ : ∃ u, u = carryN xs i := ⟨_, rfl⟩
    rw [← q0] at t0 ih0
    have Lh0 := Aside0.mk (show xh0.length = 5 by rw [q0, len_carryN, L.out])
    have Q0 := Aside0.mk q0
    clear q0

    by_cases h5 : i < 5
    · have h0 : (i : Int) < 5 := by omega
      by_cases h4 : i < 4
      · have h4' : (i : Int) + 1 < 5 := by omega
        have H1 := ih0.cell i (by rw [Lh0.out]; omega)
        have F1 := ih0.free (i)
        go_wp2
        go_still_tail 8, (by kernel_rfl)
        change wpList _ _ _ _ _ wr.drew
        go_wp2_with fail
        rw [put_set ih0]
        change Code.wp _ _ _ _ (put wr g .u64 (maskF xh0 i)).drew
        have t1 := (To.refl ih0).put_dr (zs := maskF xh0 i)
        generalize (put wr g .u64 (maskF xh0 i)).drew = w1 at t1 ⊢
        obtain ⟨xh1, q1⟩ : ∃ u, u = maskF xh0 i := ⟨_, rfl⟩
        rw [← q1] at t1
        have Lh1 := Aside0.mk (show xh1.length = 5 by rw [q1, len_maskF, Lh0.out])
        have Q1 := Aside0.mk q1
        have ih1 := t1.is ih0
        clear q1 H1 F1
        have H2 := ih1.cell (i + 1) (by rw [Lh1.out]; omega)
        have F1 := ih1.free (i + 1)
        have W1 : IntKind.i64.wrap ((i : Int) + 1) = (i : Int) + 1 := by simp [IntKind.wrap, IntKind.bits, IntKind.signed]; omega
        have W2 : (0 : Int) ≤ (i : Int) + 1 := by omega
        have W3 : ((i : Int) + 1).toNat = i + 1 := by omega
        go_wp2
        go_still_tail 10, (by kernel_rfl)
        change wpList _ _ _ _ _ w1.drew
        go_wp2_with fail
        rw [put_set ih1]
        have t2 := (To.refl ih1).put_dr (zs := addAt xh1 (i + 1) (rd xh0 i / 67108864))
        have e2 : carryN xs (i + 1) = addAt xh1 (i + 1) (rd xh0 i / 67108864) := by rw [carryN, ← Q0.out, carryS, if_pos h4, ← Q1.out]
        have t3 := (t0.trans t1).trans t2
        rw [← e2] at t3
        refine ⟨⟨i + 1, by omega, by go_num, ?_⟩, by simp [intOf]; omega⟩
        rw [e2] at t3 ⊢; exact t3

      · have h4' : ¬ (i : Int) + 1 < 5 := by omega
        have H1 := ih0.cell i (by rw [Lh0.out]; omega)
        have F1 := ih0.free (i)
        go_wp2
        go_still_tail 8, (by kernel_rfl)
        change wpList _ _ _ _ _ wr.drew
        go_wp2_with fail
        rw [put_set ih0]
        change Code.wp _ _ _ _ (put wr g .u64 (maskF xh0 i)).drew
        have t1 := (To.refl ih0).put_dr (zs := maskF xh0 i)
        generalize (put wr g .u64 (maskF xh0 i)).drew = w1 at t1 ⊢
        obtain ⟨xh1, q1⟩ : ∃ u, u = maskF xh0 i := ⟨_, rfl⟩
        rw [← q1] at t1
        have Lh1 := Aside0.mk (show xh1.length = 5 by rw [q1, len_maskF, Lh0.out])
        have Q1 := Aside0.mk q1
        have ih1 := t1.is ih0
        clear q1 H1 F1
        have H2 := ih1.cell 0 (by rw [Lh1.out]; omega)
        have F1 := ih1.free (0)
        go_wp2
        go_still_tail 9, (by kernel_rfl)
        change wpList _ _ _ _ _ w1.drew
        go_wp2_with fail
        rw [put_set ih1]
        have t2 := (To.refl ih1).put_dr (zs := addAt xh1 0 (IntKind.u64.wrap (5 * (rd xh0 i / 67108864))))
        have e2 : carryN xs (i + 1) = addAt xh1 0 (IntKind.u64.wrap (5 * (rd xh0 i / 67108864))) := by rw [carryN, ← Q0.out, carryS, if_neg h4, ← Q1.out]
        have t3 := (t0.trans t1).trans t2
        rw [← e2] at t3
        refine ⟨⟨i + 1, by omega, by go_num, ?_⟩, by simp [intOf]; omega⟩
        rw [e2] at t3 ⊢; exact t3

    · obtain rfl : i = 5 := by omega
      rw [show ((5 : Nat) : Int) = 5 from rfl]
      clear h5
      go_wp2
      go_end0
      exact ⟨rfl, by rw [carryF, ← Q0.out]; exact t0⟩
end Go.Proofs.Ytnmnghpdmiffaaa.Pol
