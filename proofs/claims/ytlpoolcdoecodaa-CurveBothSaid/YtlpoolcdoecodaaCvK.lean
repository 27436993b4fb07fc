/-
  What is known of chapter 5.
-/
import Derived.Test.YtlpoolcdoecodaaCvJ
import Derived.Lib.SlBytesConst
import Derived.Test.YtlpoolcdoecodaaStrN
import Derived.Deep.Cut
namespace Go.Proofs.Ytlpoolcdoecodaa.Cv
open Go.RowKit Go.Proofs.YtlpoolcdoecodaaW.PrintWords Go.Proofs.YtlpoolcdoecodaaW.PrintLast Go.Proofs.YtlpoolcdoecodaaW.PrintMore Go.Proofs.Ytlpoolcdoecodaa.Arr
set_option linter.unusedVariables false
set_option maxHeartbeats 8000000
set_option maxRecDepth 100000
def aliceB : List Int := [119, 7, 109, 10, 115, 24, 165, 125, 60, 22, 193, 114, 81, 178, 102, 69, 223, 76, 47, 135, 235, 192, 153, 42, 177, 119, 251, 165, 29, 185, 44, 42]
theorem val_nine : Eqv (val (unpF nineL)) 9 := Eqv.of_eq (by decide +kernel)
theorem bytes_nine : ∀ x ∈ nineL, 0 ≤ x ∧ x < 256 := by decide
theorem bytes_alice : ∀ x ∈ aliceB, 0 ≤ x ∧ x < 256 := by decide
theorem known_num : (curveZ aliceB 9).take 8 = [133, 32, 240, 9, 137, 48, 167, 84] := by decide +kernel
theorem alice_calls (w : World) : Calls Try.prog 9 #[] w fun e w' => ∃ A c, e = .returned (.slice A 32 c) ∧ (Kd.int .u8).C w' A 32 aliceB ∧ 32 ≤ c ∧ Below w.heap.size w w' := by
  have kc := fun (w : World) (C : Array Value) (n c : Nat) => Lib.run_convert_bytes_const (P := Try.prog) w 22 5 C n c Try.underlying22 Try.underlying5
  go_enter Try.func9, Try.ntmps9
  go_wp2_with fail
  go_ret
  exact ⟨_, _, rfl, lit_C w 5 .u8 aliceB (32, 33) 32 rfl (by decide), Nat.le_refl _, (Below.refl _ _).alloc (Nat.le_refl _) _⟩
theorem known5_calls (w : World) : Calls Try.prog 13 #[] w fun e w' => e = .returned (.bool true) ∧ Below w.heap.size w w' := by
  go_enter Try.func13, Try.ntmps13
  go_wp2_with fail
  refine (alice_calls w).mono ?_
  rintro e w1 ⟨A, c, rfl, hC, hc, hB⟩
  have C1 := Aside0.mk hC
  have B1 := Aside0.mk hB
  have HC := Aside0.mk hc
  clear hC hB hc
  go_wp2_with fail
  refine (show Calls Try.prog 10 #[.slice A 32 c] w1 _ from base_calls A c aliceB w1 bytes_alice C1.out HC.out).mono ?_
  rintro e w2 ⟨v, rfl, hR, hB⟩
  obtain ⟨ds, hds⟩ : ∃ d, d = mulV aliceB nineL := ⟨_, rfl⟩
  rw [← hds] at hR
  have hv : ds = curveZ aliceB 9 := by
    rw [hds, mulV, if_pos ⟨rfl, rfl⟩]
    exact curve_eq aliceB nineL bytes_nine 9 val_nine
  have B2 := Aside0.mk (below_step B1.out hB)
  have L := Aside0.mk (show ds.length = 32 by rw [hv, curveZ, outF, len_bytesL, len_dig])
  have T8 := Aside0.mk (show ds.take 8 = [133, 32, 240, 9, 137, 48, 167, 84] by rw [hv]; exact known_num)
  rw [show mulE aliceB nineL = 0 from rfl]
  obtain ⟨Ar, cr, rfl, hcr, hCr⟩ := Kd.R_reads hR
  clear hR hB hds hv
  obtain ⟨I0, hI0⟩ : ∃ i, Try.prog.info? 5 = some i := ⟨_, rfl⟩
  have hcut := cut_to (P := Try.prog) 22 5 .i64 Try.underlying22 hI0 Ar ds.length cr ((8 : Nat) : Int) (by omega) (by rw [L.out]; decide) hcr
  have q0 : (convert 22 9 (.slice Ar 8 cr)).run Try.prog w2 = .ok (.string (strOfNums (ds.take 8))) w2 := by
    have h := Kd.C_string (P := Try.prog) (c := cr) Try.underlying22 Try.underlying5 Try.underlying9 (Kd.C_take hCr (show 8 ≤ ds.length by rw [L.out]; decide))
    rw [show (ds.take 8).length = 8 by rw [List.length_take, L.out]; rfl] at h
    exact h
  have e1 : strOfNums (ds.take 8) = ⟨#[133, 32, 240, 9, 137, 48, 167, 84]⟩ := by rw [T8.out]; decide +kernel
  rw [e1] at q0
  clear e1
  rw [L.out] at hcut hcr ⊢
  clear hI0 hCr
  go_wp2_with fail
  go_ret
  exact ⟨rfl, B2.out⟩
end Go.Proofs.Ytlpoolcdoecodaa.Cv
