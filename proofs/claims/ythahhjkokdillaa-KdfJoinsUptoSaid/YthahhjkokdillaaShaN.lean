/-
  The runs that chapter 6 names (strongroomlaw6.known), walked.
-/
import Derived.Test.YthahhjkokdillaaMac
import Derived.Lib.SlBytesConst
namespace Go.Proofs.Ythahhjkokdillaa
open Go.RowKit Go.Proofs.YthahhjkokdillaaW.PrintWords Go.Proofs.YthahhjkokdillaaW.PrintLast Go.Proofs.YthahhjkokdillaaW.PrintMore Go.Proofs.Ythahhjkokdillaa.Arr
def abcT : List Int := [186, 120, 22, 191, 143, 1, 207, 234, 65, 65, 64, 222, 93, 174, 34, 35, 176, 3, 97, 163, 150, 23, 122, 156, 180, 16, 255, 97, 242, 0, 21, 173]
set_option maxRecDepth 100000 in
theorem sha_abc : Sha.shaF [97, 98, 99] = abcT := by decide +kernel
def abcB : List Int := [97, 98, 99]
theorem sum_abc : kdf_Sum.f abcB = some abcT := by unfold kdf_Sum.f; rw [if_pos (by decide), show abcB = [97, 98, 99] from rfl, sha_abc]
set_option maxHeartbeats 4000000 in
set_option maxRecDepth 100000 in
theorem known6_calls (w : World) : Calls Try.prog 17 #[] w fun e w' => e = .returned (.bool true) ∧ Below w.heap.size w w' := by
  have kc := fun (w : World) (C : Array Value) (n c : Nat) => Lib.run_convert_bytes_const (P := Try.prog) w 22 5 C n c Try.underlying22 Try.underlying5
  go_enter Try.func17, Try.ntmps17
  go_wp2_with fail
  change Calls _ _ _ (w.alloc (.cells (nums .u8 abcB).toArray 5 (3, 4))) _
  have c1 := lit_C w 5 .u8 abcB (3, 4) 3 rfl (by decide)
  have B1 : Below w.heap.size w (w.alloc (.cells (nums .u8 abcB).toArray 5 (3, 4))) := (Below.refl _ _).alloc (Nat.le_refl _) _
  refine (kdf_Sum.calls (some ⟨w.heap.size, 0, none⟩) 3 abcB abcT _ c1 (by decide) sum_abc).mono ?_
  rintro e w3 ⟨v, rfl, hR, hB⟩
  have B3 := Aside0.mk (below_step B1 hB)
  obtain ⟨Ar, cr, rfl, hcr, hCr⟩ := Kd.R_reads hR
  clear hR hB c1 B1 kc
  obtain ⟨I0, hI0⟩ : ∃ i, Try.prog.info? 5 = some i := ⟨_, rfl⟩
  have hcut := cut_to (P := Try.prog) 22 5 .i64 Try.underlying22 hI0 Ar abcT.length cr ((8 : Nat) : Int) (by omega) (by decide) hcr
  have q0 : (convert 22 9 (.slice Ar 8 cr)).run Try.prog w3 = .ok (.string (strOfNums (abcT.take 8))) w3 := Kd.C_string (P := Try.prog) (c := cr) Try.underlying22 Try.underlying5 Try.underlying9 (Kd.C_take hCr (show 8 ≤ abcT.length by decide))
  have e1 : strOfNums (abcT.take 8) = ⟨#[186, 120, 22, 191, 143, 1, 207, 234]⟩ := by decide +kernel
  rw [e1] at q0
  clear e1
  have h32 : abcT.length = 32 := rfl
  rw [h32] at hcut hcr ⊢
  clear hI0 h32 hCr
  go_wp2_with fail
  go_ret
  exact ⟨rfl, B3.out⟩
def strongroomlaw6_known.f : Option Bool := some true
theorem strongroomlaw6_known.calls (r : Bool) (w : World) (h : strongroomlaw6_known.f = some r) :
    Calls Try.prog 17 #[] w fun e w' => e = .returned (.bool r) ∧ Below w.heap.size w w' := by
  obtain rfl := Option.some.inj h
  exact known6_calls w
def kdf_Print.f (l0 : List Int) : Option (List Int) := kdf_Sum.f l0
theorem kdf_Print.calls (A0 : Option Addr) (c0 : Nat) (l0 : List Int) (r : List Int) (w : World) (hr0 : Kd.C (Kd.int .u8) w A0 l0.length l0) (hc0 : l0.length ≤ c0) (h : kdf_Print.f l0 = some r) :
    Calls Try.prog 16 #[.slice A0 l0.length c0] w fun e w' => ∃ v0_ : Value, e = .returned (v0_) ∧ Kd.R (Kd.int .u8) 5 w' w.heap.size (fun _ => True) v0_ r ∧ Below w.heap.size w w' := by
  have CS := Aside0.mk (kdf_Sum.calls A0 c0 l0 r w hr0 hc0 h)
  clear hr0 hc0 h
  go_enter Try.func16, Try.ntmps16
  go_wp2_with fail
  refine CS.out.mono ?_
  rintro e w1 ⟨v1, rfl, hR, hB⟩
  have R1 := Aside0.mk hR
  have B1 := Aside0.mk hB
  clear hR hB CS
  go_wp2_with fail
  go_ret
  exact ⟨_, rfl, R1.out, B1.out⟩
theorem mac_some (k b : List Int) (h1 : k.length ≤ 1000) (h2 : b.length ≤ 1000) : kdf_Mac.f k b = some (Sha.macF k b) := by
  unfold kdf_Mac.f
  rw [if_pos ⟨by omega, by omega⟩]
theorem sum_some (b : List Int) (h : b.length ≤ 1000) : kdf_Sum.f b = some (Sha.shaF b) := by
  unfold kdf_Sum.f
  rw [if_pos (by omega)]
theorem pad_zeros (k : List Int) (z : Nat) (h : k.length + z ≤ 64) : Sha.padF (k ++ List.replicate z 0) = Sha.padF k := by
  unfold Sha.padF Sha.z64
  rw [List.drop_replicate, List.drop_replicate, List.length_append, List.length_replicate, List.append_assoc, List.replicate_append_replicate]
  congr 2
  omega
theorem macF_zeros (k b : List Int) (z : Nat) (h : k.length + z ≤ 64) : Sha.macF (k ++ List.replicate z 0) b = Sha.macF k b := by
  unfold Sha.macF Sha.macS
  rw [if_pos (by rw [List.length_append, List.length_replicate]; exact h), if_pos (by omega), pad_zeros k z h]
theorem macF_long (k b : List Int) (h : 64 < k.length) : Sha.macF (Sha.shaF k) b = Sha.macF k b := by
  unfold Sha.macF
  rw [if_pos (by rw [Sha.len_shaF]; decide), if_neg (by omega)]
end Go.Proofs.Ythahhjkokdillaa
