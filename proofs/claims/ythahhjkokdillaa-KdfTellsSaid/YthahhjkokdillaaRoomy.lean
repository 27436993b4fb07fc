/-
  Roomy (a list of bytes in new memory with 80 more places behind it, all of them a mark), in the form in which the printed texts call a function.
-/
import Derived.Test.YthahhjkokdillaaArr
namespace Go.Proofs.Ythahhjkokdillaa
open Go.RowKit Go.Proofs.YthahhjkokdillaaW.PrintWords

theorem roomy_info : (Try.prog.info? 5).map (fun i => (i.zero, i.size, i.bytes)) = some (some (.int .u8 0), 1, 1) := by kernel_rfl
theorem roomy_size : (Try.prog.info? 5).map (·.size) = some 1 := by kernel_rfl
/-- The list, j marks, the noughts that are still there. -/
def roomyAt (l : List Int) (m : Int) (j : Nat) : List Int := l ++ List.replicate j m ++ List.replicate (80 - j) 0
theorem len_roomyAt (l : List Int) (m : Int) (j : Nat) (hj : j ≤ 80) : (roomyAt l m j).length = l.length + 80 := by simp [roomyAt]; omega
theorem roomyAt_set (l : List Int) (m : Int) (j : Nat) (hj : j < 80) : (roomyAt l m j).set (l.length + j) m = roomyAt l m (j + 1) := by
  have h1 : List.replicate (80 - j) (0 : Int) = 0 :: List.replicate (80 - (j + 1)) 0 := by rw [show 80 - j = (80 - (j + 1)) + 1 by omega, List.replicate_succ]
  rw [roomyAt, roomyAt, h1, List.set_append_right _ _ (by simp)]
  simp [List.replicate_succ', List.append_assoc]
def roomyF (l : List Int) (m : Int) : List Int := l ++ List.replicate 80 m
def strongroombook_Roomy_byte.f (l0 : List Int) (a1 : Int) : Option (List Int) := if l0.length ≤ 140737488351232 then some (roomyF l0 a1) else none

set_option maxHeartbeats 1000000 in
theorem strongroombook_Roomy_byte.calls (A0 : Option Addr) (c0 : Nat) (l0 : List Int) (a1 : Int) (r : List Int) (w : World) (hr0 : Kd.C (Kd.int .u8) w A0 l0.length l0) (_hc0 : l0.length ≤ c0) (h : strongroombook_Roomy_byte.f l0 a1 = some r) :
    Calls Try.prog 31 #[.slice A0 l0.length c0, .int .u8 a1] w fun e w' => ∃ v0_ : Value, e = .returned (v0_) ∧ Kd.R (Kd.int .u8) 5 w' w.heap.size (fun _ => True) v0_ r ∧ Below w.heap.size w w' := by
  have hn : l0.length ≤ 140737488351232 := by
    unfold strongroombook_Roomy_byte.f at h
    split at h
    · assumption
    · cases h
  have hR := Aside0.mk (show r = roomyF l0 a1 by
    unfold strongroombook_Roomy_byte.f at h
    rw [if_pos hn] at h
    exact (Option.some.inj h).symm)
  have HR0 := Aside0.mk hr0
  clear h hr0
  have q0 : (0 : Int) ≤ (l0.length : Int) + 80 := by omega
  have q1 : ((l0.length : Int) + 80).toNat * 1 ≤ 281474976710656 := by omega
  have Q1 := Aside0.mk q1
  clear q1
  go_enter Try.func31, Try.ntmps31
  have HRr : ∀ W, Below w.heap.size w W → (Kd.int .u8).C W A0 l0.length l0 := fun W hb => Kd.C_below HR0.out hb
  have HRR := Aside0.mk HRr
  clear HRr
  go_wp2_with (first
    | (at_make; refine Kd.R_make (Kd.int .u8) w.heap.size 5 rfl (N := 10) rfl 22 _ _ rfl ((l0.length : Int) + 80) rfl rfl Try.underlying22 (.int .u8 0) 1 roomy_info rfl Nat.one_pos Nat.one_pos 0 (ok := fun _ => True) (okp := fun _ => True) rfl (fun _ hk => hk) trivial q0 Q1.out (Below.refl _ _) (Nat.le_refl _) ?_; intro v5 w5 hR5 hB5 _ _; have HR5 := Aside0.mk hR5; have HB5 := Aside0.mk hB5; have HS5 := Aside0.mk hB5.size; clear hR5 hB5)
    | (refine Kd.R_copy (o := ⟨some 13, _, _, _, _, _⟩) (enc := Value.int .u8) (h1 := fun _ => rfl) (0 : Int) w.heap.size rfl (.tmp 11) (.tmp 12) 22 22 5 rfl Try.underlying22 roomy_size v5 _ l0 A0 l0.length c0 (fun _ => True) rfl rfl HR5.out (HRR.out _ HB5.out) HB5.out HS5.out ?_; intro w6 hR6 hB6 _))
  have hz := len_roomyAt l0 a1 0 (by omega)
  have HR6 := Aside0.mk (show (Kd.int .u8).R 5 w6 w.heap.size (fun _ => True) v5 (roomyAt l0 a1 0) by
    have e : l0.take (min l0.length (List.replicate ((l0.length : Int) + 80).toNat (0 : Int)).length) ++ (List.replicate ((l0.length : Int) + 80).toNat (0 : Int)).drop (min l0.length (List.replicate ((l0.length : Int) + 80).toNat (0 : Int)).length) = roomyAt l0 a1 0 := by
      rw [show ((l0.length : Int) + 80).toNat = l0.length + 80 by omega]
      simp [roomyAt]
    rw [← e]
    exact hR6)
  have HB6 := Aside0.mk hB6
  clear hR6 hB6 HR5 HB5 HS5 q0 Q1
  obtain ⟨A5, c5, rfl⟩ := Kd.R_slice HR6.out
  rw [hz] at HR6 ⊢
  clear hz
  go_loopw [6] (fun v w' => ∃ j : Nat, j ≤ 80 ∧ v = .int .i64 ((l0.length : Int) + j) ∧ Aside0 ((Kd.int .u8).R 5 w' w.heap.size (fun _ => True) (.slice A5 (l0.length + 80) c5) (roomyAt l0 a1 j)) ∧ Aside0 (Below w.heap.size w w')) (fun v _ => l0.length + 80 - (intOf v).toNat)
  case atStart => exact ⟨0, by omega, by simp, HR6, HB6⟩
  case round =>
    obtain ⟨j, hj, rfl, HR, HB⟩ := hrel
    by_cases h80 : j < 80
    · have c1 : (l0.length : Int) + j < (l0.length : Int) + 80 := by omega
      have hlr := len_roomyAt l0 a1 j hj
      obtain ⟨g, cap, e5, hg, _⟩ := Kd.R_form HR.out (by rw [hlr]; omega)
      rw [hlr] at e5
      injection e5 with ea _ ec
      subst ea
      have hc := Kd.R_celln (0 : Int) HR.out ((l0.length : Int) + j) (by omega) (by omega)
      obtain ⟨x1, x2⟩ := hc
      rw [show ((l0.length : Int) + j).toNat = l0.length + j by omega] at x1 x2
      have hp := Kd.R_putg HR.out ((l0.length : Int) + j) a1
      rw [show ((l0.length : Int) + j).toNat = l0.length + j by omega, roomyAt_set l0 a1 j h80] at hp
      have HP := Aside0.mk hp
      clear hp hlr ec HR6 HB6 HRR HR0
      go_wp2
      go_roundw
      case rel => exact ⟨j + 1, by omega, by rw [show ((l0.length : Int) + j + 1) = (l0.length : Int) + ((j + 1 : Nat) : Int) by omega], ⟨HP.out.1⟩, ⟨below_set HB.out hg⟩⟩
      case measure => simp [intOf]; omega
    · obtain rfl : j = 80 := by omega
      rw [show ((80 : Nat) : Int) = 80 from rfl]
      clear h80
      go_wp2
      go_ret
      refine ⟨_, rfl, ?_, HB.out⟩
      have e : roomyAt l0 a1 80 = r := by rw [hR.out]; simp [roomyAt, roomyF]
      rw [← e]
      exact HR.out
end Go.Proofs.Ythahhjkokdillaa
