/-
  PolyTells, walked.
-/
import Derived.Test.YthahhjkokdillaaPolyAll
import Derived.Deep.Cut
import Derived.Deep.DeepCutAuto
namespace Go.Proofs.Ythahhjkokdillaa
open Go.RowKit Go.Proofs.YthahhjkokdillaaW.PrintWords Go.Proofs.YthahhjkokdillaaW.PrintLast Go.Proofs.YthahhjkokdillaaW.PrintMore Go.Proofs.Ythahhjkokdillaa.Arr Go.Proofs.Ythahhjkokdillaa.Bits
set_option maxHeartbeats 8000000
set_option maxRecDepth 100000
theorem same_self3 (l : List Int) : poly_Same.f l l = some true := by unfold poly_Same.f; simp
theorem sized_bytes (l : List Int) (hl : Bytes l) (n : Nat) : Bytes (sizedF l n) := by
  intro x hx
  unfold sizedF at hx
  simp only [List.mem_map] at hx
  obtain ⟨i, _, rfl⟩ := hx
  split
  · omega
  · exact hl.rd _
theorem polyTells_calls (A0 : Option Addr) (c0 : Nat) (l0 : List Int) (A1 : Option Addr) (c1 : Nat) (l1 : List Int) (a2 : Bool) (w : World) (hr0 : Kd.C (Kd.int .u8) w A0 l0.length l0) (hc0 : l0.length ≤ c0) (hr1 : Kd.C (Kd.int .u8) w A1 l1.length l1) (hc1 : l1.length ≤ c1) (hb0 : Bytes l0) (hb1 : Bytes l1) :
    Calls Try.prog 11 #[.slice A0 l0.length c0, .slice A1 l1.length c1, .bool a2] w fun e w' => e = .returned (.bool true) ∧ Below w.heap.size w w' := by
  obtain ⟨k0, hk0⟩ : ∃ x, x = l0.take 40 := ⟨_, rfl⟩
  obtain ⟨b, hb⟩ : ∃ b, b = l1.take 400 := ⟨_, rfl⟩
  obtain ⟨key, hkey⟩ : ∃ x, x = (if a2 = true then sizedF k0 32 else k0) := ⟨_, rfl⟩
  have f0 := Aside0.mk (show strongroomkeep_CutR.f l0 40 = some k0 by rw [hk0]; exact cut_some l0 40)
  have f1 := Aside0.mk (show strongroomkeep_CutR.f l1 400 = some b by rw [hb]; exact cut_some l1 400)
  have hbl : b.length ≤ 400 := by rw [hb, List.length_take]; omega
  have hkl : k0.length ≤ 40 := by rw [hk0, List.length_take]; omega
  have fk := Aside0.mk (show strongroomkeep_Sized.f k0 32 = some (sizedF k0 32) from sized_some k0 32 (by decide) (by omega))
  have hk0b : Bytes k0 := by rw [hk0]; exact hb0.take 40
  have hbb : Bytes b := by rw [hb]; exact hb1.take 400
  have hkb : Bytes key := by
    rw [hkey]
    split
    · exact sized_bytes _ hk0b _
    · exact hk0b
  obtain ⟨x1, x2, hx⟩ : ∃ x1 x2, Pol.sumAns key b = (x1, x2) := ⟨_, _, rfl⟩
  have fS := Aside0.mk (show poly_Sum.f key b = some (x1, x2) by unfold poly_Sum.f; rw [hx])
  have fR := Aside0.mk (show strongroomref3_Sum.f key b = some (x1, x2) by unfold strongroomref3_Sum.f; rw [if_pos (by omega), PolR.sum_same key b hkb hbb, hx])
  obtain ⟨full, hfull⟩ : ∃ x, x = roomyF b 165 := ⟨_, rfl⟩
  have fF := Aside0.mk (show strongroombook_Roomy_byte.f b 165 = some full by unfold strongroombook_Roomy_byte.f; rw [if_pos (by omega), hfull])
  have hft : full.take b.length = b := by rw [hfull]; unfold roomyF; exact List.take_left
  have hfl : full.length = b.length + 80 := by rw [hfull]; unfold roomyF; rw [List.length_append, List.length_replicate]
  have FI := Aside0.mk (show strongroombook_Intact_byte.f full b 165 = some true by unfold strongroombook_Intact_byte.f; rw [if_pos ⟨by rw [hfull]; rfl, by omega⟩])
  have C0 := Aside0.mk (And.intro hr0 hc0)
  have C1 := Aside0.mk (And.intro hr1 hc1)
  have D0 := Aside0.mk (And.intro (cutR_C hr0 hc0 f0.out) (cutR_len hc0 f0.out))
  have D1 := Aside0.mk (And.intro (cutR_C hr1 hc1 f1.out) (cutR_len hc1 f1.out))
  have HN := Aside0.mk (And.intro hbl (And.intro hfl hft))
  have HKEY := Aside0.mk hkey
  clear hk0 hb hbl hkl hk0b hbb hkb hx hfull hft hfl hr0 hr1 hc0 hc1 hb0 hb1 hkey
  go_enter Try.func11, Try.ntmps11
  go_wp2_with fail
  refine (strongroomkeep_CutR.calls A0 c0 l0 40 k0 _ C0.out.1 C0.out.2 f0.out).mono ?_
  rintro e w1 ⟨rfl, ⟨n1, rfl⟩⟩
  go_wp2_with fail
  refine (strongroomkeep_CutR.calls A1 c1 l1 400 b _ (Kd.C_drewN C1.out.1 n1) C1.out.2 f1.out).mono ?_
  rintro e w2 ⟨rfl, ⟨n2, rfl⟩⟩
  have B2 := Aside0.mk (pw_below_drewN (Below.refl w.heap.size w) (n1 + n2))
  go_upto_if 16 with (fail)
  go_cut [0] (fun v wx => ∃ (Ak : Option Addr) (ck : Nat), v = .slice Ak key.length ck ∧ Aside0 ((Kd.int .u8).C wx Ak key.length key ∧ key.length ≤ ck) ∧ Aside0 (Below w.heap.size w wx))
  case first =>
    cases a2 with
    | false =>
      have hk : key = k0 := by rw [HKEY.out]; rfl
      go_wp2_with fail
      go_meet
      refine ⟨A0, c0, by rw [hk], ⟨by rw [hk]; exact ⟨Kd.C_drewN D0.out.1 _, D0.out.2⟩⟩, B2⟩
    | true =>
      have hk : key = sizedF k0 32 := by rw [HKEY.out]; rfl
      go_wp2_with fail
      refine (strongroomkeep_Sized.calls A0 c0 k0 32 (sizedF k0 32) _ (Kd.C_drewN D0.out.1 (n1 + n2)) D0.out.2 fk.out).mono ?_
      rintro e w3 ⟨v3, rfl, hR, hB⟩
      obtain ⟨Ak, ck, rfl, hck, hCk⟩ := Kd.R_reads hR
      have HCk := Aside0.mk (And.intro hCk hck)
      have B3 := Aside0.mk (below_step B2.out hB)
      clear hR hB hck hCk
      go_wp2_with fail
      go_meet
      refine ⟨Ak, ck, by rw [hk], ⟨by rw [hk]; exact HCk.out⟩, B3⟩
  case rest =>
    obtain ⟨Ak, ck, rfl, CK, B3⟩ := hcut
    go_wp2_with fail
    refine (strongroombook_Roomy_byte.calls A1 c1 b 165 full _ (Kd.C_below D1.out.1 B3.out) D1.out.2 fF.out).mono ?_
    rintro e w4 ⟨v4, rfl, hR, hB⟩
    obtain ⟨Af, cf, rfl, hcf, hCf⟩ := Kd.R_reads hR
    have CF := Aside0.mk (And.intro hCf hcf)
    have B4 := Aside0.mk (below_step B3.out hB)
    have CK4 := Aside0.mk (And.intro (Kd.C_below CK.out.1 hB) CK.out.2)
    clear hR hB hcf hCf
    obtain ⟨I0, hI0⟩ : ∃ i, Try.prog.info? 5 = some i := ⟨_, rfl⟩
    have hcut := cut_to (P := Try.prog) 22 5 .i64 Try.underlying22 hI0 Af full.length cf (b.length : Int) (by omega) (by have := HN.out.2.1; omega) CF.out.2
    rw [Int.toNat_natCast] at hcut
    clear hI0
    have hCt := Kd.C_take (m := b.length) CF.out.1 (by have := HN.out.2.1; omega)
    rw [HN.out.2.2] at hCt
    have CT := Aside0.mk hCt
    clear hCt
    go_wp2_with fail
    refine (poly_Sum.calls Ak ck key Af cf b x1 x2 _ CK4.out.1 CK4.out.2 CT.out (by have := HN.out.2.1; have := CF.out.2; omega) fS.out).mono ?_
    rintro e w5 ⟨v5, rfl, hR, hB⟩
    obtain ⟨Ax, cx, rfl, hcx, hCx⟩ := Kd.R_reads hR
    have CX := Aside0.mk (And.intro hCx hcx)
    have B5 := Aside0.mk (below_step B4.out hB)
    have CK5 := Aside0.mk (And.intro (Kd.C_below CK4.out.1 hB) CK4.out.2)
    have CF5 := Aside0.mk (And.intro (Kd.C_below CF.out.1 hB) CF.out.2)
    clear hR hB hcx hCx CK CK4 CF CT hcut
    go_wp2_with fail
    refine (strongroomref3_Sum.calls Ak ck key A1 c1 b x1 x2 _ CK5.out.1 CK5.out.2 (Kd.C_below D1.out.1 B5.out) D1.out.2 fR.out).mono ?_
    rintro e w7 ⟨v7, rfl, hR, hB⟩
    obtain ⟨Ay, cy, rfl, hcy, hCy⟩ := Kd.R_reads hR
    have CY := Aside0.mk (And.intro hCy hcy)
    have B7 := Aside0.mk (below_step B5.out hB)
    have CK7 := Aside0.mk (And.intro (Kd.C_below CK5.out.1 hB) CK5.out.2)
    have CF7 := Aside0.mk (And.intro (Kd.C_below CF5.out.1 hB) CF5.out.2)
    have CX7 := Aside0.mk (And.intro (Kd.C_below CX.out.1 hB) CX.out.2)
    have CB7 := Aside0.mk (Kd.C_below D1.out.1 B7.out)
    clear hR hB hcy hCy CK5 CF5 CX
    have Q0 := Aside0.mk (fun (w' : World) (h : Below w7.heap.size w7 w') => Kd.C_string (P := Try.prog) (c := cx) Try.underlying22 Try.underlying5 Try.underlying9 (Kd.C_below CX7.out.1 h))
    have Q1 := Aside0.mk (fun (w' : World) (h : Below w7.heap.size w7 w') => Kd.C_string (P := Try.prog) (c := cy) Try.underlying22 Try.underlying5 Try.underlying9 (Kd.C_below CY.out.1 h))
    have Q2 := Aside0.mk (fun (w' : World) (h : Below w7.heap.size w7 w') => Kd.C_string (P := Try.prog) (c := ck) Try.underlying22 Try.underlying5 Try.underlying9 (Kd.C_below CK7.out.1 h))
    have Q3 := Aside0.mk (fun (w' : World) (h : Below w7.heap.size w7 w') => Kd.C_string (P := Try.prog) (c := c1) Try.underlying22 Try.underlying5 Try.underlying9 (Kd.C_below CB7.out h))
    go_upto_region 8 with (fail)
    change Code.wp _ _ _ _ w7
    refine start_ (n := 37) (S := fun w' => Below w7.heap.size w7 w') (ds := [34]) #[false, false, false, false, false, false, false, false, false, false, false, false, false, false, false, false, false, false, false, false, false, false, false, false, false, false, false, false, false, false, false, false, false, false, false, false, false] (by kernel_rfl) rfl rfl (below_drew1 (Below.refl _ _)) (fun hHeld => ?_)
    refine pure_ (i := 0) (N := some 36) (v := ?_) (a' := ?_) #[true, false, false, false, false, false, false, false, false, false, false, false, false, false, false, false, false, false, false, false, false, false, false, false, false, false, false, false, false, false, false, false, false, false, false, false, false] rfl rfl (by kernel_rfl) (fun _ _ _ h => h) (Or.inl ⟨by rfl, ?_⟩) ?_ ?_
    rotate_left
    · intro w'
      go_simp
      with_reducible rfl
    rotate_left
    · simp only [Act.put, List.setIfInBounds_toArray, List.set_cons_zero, List.set_cons_succ]
      rfl
    refine pure_ (i := 2) (N := some 38) (v := ?_) (a' := ?_) #[true, false, true, false, false, false, false, false, false, false, false, false, false, false, false, false, false, false, false, false, false, false, false, false, false, false, false, false, false, false, false, false, false, false, false, false, false] rfl rfl (by kernel_rfl) (fun _ _ _ h => h) (Or.inl ⟨by rfl, ?_⟩) ?_ ?_
    rotate_left
    · intro w'
      go_simp
      with_reducible rfl
    rotate_left
    · simp only [Act.put, List.setIfInBounds_toArray, List.set_cons_zero, List.set_cons_succ]
      rfl
    refine take_ (i := 1) (N := some 37) (v := ?_) (a' := ?_) #[true, true, true, false, false, false, false, false, false, false, false, false, false, false, false, false, false, false, false, false, false, false, false, false, false, false, false, false, false, false, false, false, false, false, false, false, false] rfl rfl (by kernel_rfl) (fun _ _ _ h => h) (Or.inl ⟨by rfl, ?_⟩) hHeld ?_ ?_
    rotate_left
    · intro w' s0
      have q0_ := Q0.out w' s0
      have q1_ := Q1.out w' s0
      have q2_ := Q2.out w' s0
      have q3_ := Q3.out w' s0
      go_simp
      with_reducible rfl
    rotate_left
    · simp only [Act.put, List.setIfInBounds_toArray, List.set_cons_zero, List.set_cons_succ]
      rfl
    refine take_ (i := 3) (N := some 39) (v := ?_) (a' := ?_) #[true, true, true, true, false, false, false, false, false, false, false, false, false, false, false, false, false, false, false, false, false, false, false, false, false, false, false, false, false, false, false, false, false, false, false, false, false] rfl rfl (by kernel_rfl) (fun _ _ _ h => h) (Or.inl ⟨by rfl, ?_⟩) hHeld ?_ ?_
    rotate_left
    · intro w' s0
      have q0_ := Q0.out w' s0
      have q1_ := Q1.out w' s0
      have q2_ := Q2.out w' s0
      have q3_ := Q3.out w' s0
      go_simp
      with_reducible rfl
    rotate_left
    · simp only [Act.put, List.setIfInBounds_toArray, List.set_cons_zero, List.set_cons_succ]
      rfl
    refine pure_ (i := 4) (N := some 40) (v := ?_) (a' := ?_) #[true, true, true, true, true, false, false, false, false, false, false, false, false, false, false, false, false, false, false, false, false, false, false, false, false, false, false, false, false, false, false, false, false, false, false, false, false] rfl rfl (by kernel_rfl) (fun _ _ _ h => h) (Or.inl ⟨by rfl, ?_⟩) ?_ ?_
    rotate_left
    · intro w'
      go_simp
      with_reducible rfl
    rotate_left
    · simp only [Act.put, List.setIfInBounds_toArray, List.set_cons_zero, List.set_cons_succ]
      rfl
    refine pure_ (i := 5) (N := some 41) (v := ?_) (a' := ?_) #[true, true, true, true, true, true, false, false, false, false, false, false, false, false, false, false, false, false, false, false, false, false, false, false, false, false, false, false, false, false, false, false, false, false, false, false, false] rfl rfl (by kernel_rfl) (fun _ _ _ h => h) (Or.inl ⟨by rfl, ?_⟩) ?_ ?_
    rotate_left
    · intro w'
      go_simp
      with_reducible rfl
    rotate_left
    · simp only [Act.put, List.setIfInBounds_toArray, List.set_cons_zero, List.set_cons_succ]
      rfl
    refine pure_ (i := 6) (N := some 42) (v := ?_) (a' := ?_) #[true, true, true, true, true, true, true, false, false, false, false, false, false, false, false, false, false, false, false, false, false, false, false, false, false, false, false, false, false, false, false, false, false, false, false, false, false] rfl rfl (by kernel_rfl) (fun _ _ _ h => h) (Or.inl ⟨by rfl, ?_⟩) ?_ ?_
    rotate_left
    · intro w'
      go_simp
      with_reducible rfl
    rotate_left
    · simp only [Act.put, List.setIfInBounds_toArray, List.set_cons_zero, List.set_cons_succ]
      rfl
    refine pure_ (i := 7) (N := some 43) (v := ?_) (a' := ?_) #[true, true, true, true, true, true, true, true, false, false, false, false, false, false, false, false, false, false, false, false, false, false, false, false, false, false, false, false, false, false, false, false, false, false, false, false, false] rfl rfl (by kernel_rfl) (fun _ _ _ h => h) (Or.inl ⟨by rfl, ?_⟩) ?_ ?_
    rotate_left
    · intro w'
      go_simp
      with_reducible rfl
    rotate_left
    · simp only [Act.put, List.setIfInBounds_toArray, List.set_cons_zero, List.set_cons_succ]
      rfl
    refine pure_ (i := 8) (N := some 44) (v := ?_) (a' := ?_) #[true, true, true, true, true, true, true, true, true, false, false, false, false, false, false, false, false, false, false, false, false, false, false, false, false, false, false, false, false, false, false, false, false, false, false, false, false] rfl rfl (by kernel_rfl) (fun _ _ _ h => h) (Or.inl ⟨by rfl, ?_⟩) ?_ ?_
    rotate_left
    · intro w'
      go_simp
      with_reducible rfl
    rotate_left
    · simp only [Act.put, List.setIfInBounds_toArray, List.set_cons_zero, List.set_cons_succ]
      rfl
    refine pure_ (i := 9) (N := some 45) (v := ?_) (a' := ?_) #[true, true, true, true, true, true, true, true, true, true, false, false, false, false, false, false, false, false, false, false, false, false, false, false, false, false, false, false, false, false, false, false, false, false, false, false, false] rfl rfl (by kernel_rfl) (fun _ _ _ h => h) (Or.inl ⟨by rfl, ?_⟩) ?_ ?_
    rotate_left
    · intro w'
      go_simp
      with_reducible rfl
    rotate_left
    · simp only [Act.put, List.setIfInBounds_toArray, List.set_cons_zero, List.set_cons_succ]
      rfl
    refine pure_ (i := 10) (N := some 46) (v := ?_) (a' := ?_) #[true, true, true, true, true, true, true, true, true, true, true, false, false, false, false, false, false, false, false, false, false, false, false, false, false, false, false, false, false, false, false, false, false, false, false, false, false] rfl rfl (by kernel_rfl) (fun _ _ _ h => h) (Or.inl ⟨by rfl, ?_⟩) ?_ ?_
    rotate_left
    · intro w'
      go_simp
      with_reducible rfl
    rotate_left
    · simp only [Act.put, List.setIfInBounds_toArray, List.set_cons_zero, List.set_cons_succ]
      rfl
    refine pure_ (i := 11) (N := some 47) (v := ?_) (a' := ?_) #[true, true, true, true, true, true, true, true, true, true, true, true, false, false, false, false, false, false, false, false, false, false, false, false, false, false, false, false, false, false, false, false, false, false, false, false, false] rfl rfl (by kernel_rfl) (fun _ _ _ h => h) (Or.inl ⟨by rfl, ?_⟩) ?_ ?_
    rotate_left
    · intro w'
      go_simp
      with_reducible rfl
    rotate_left
    · simp only [Act.put, List.setIfInBounds_toArray, List.set_cons_zero, List.set_cons_succ]
      rfl
    refine pure_ (i := 12) (N := some 48) (v := ?_) (a' := ?_) #[true, true, true, true, true, true, true, true, true, true, true, true, true, false, false, false, false, false, false, false, false, false, false, false, false, false, false, false, false, false, false, false, false, false, false, false, false] rfl rfl (by kernel_rfl) (fun _ _ _ h => h) (Or.inl ⟨by rfl, ?_⟩) ?_ ?_
    rotate_left
    · intro w'
      go_simp
      with_reducible rfl
    rotate_left
    · simp only [Act.put, List.setIfInBounds_toArray, List.set_cons_zero, List.set_cons_succ]
      rfl
    refine pure_ (i := 14) (N := some 50) (v := ?_) (a' := ?_) #[true, true, true, true, true, true, true, true, true, true, true, true, true, false, true, false, false, false, false, false, false, false, false, false, false, false, false, false, false, false, false, false, false, false, false, false, false] rfl rfl (by kernel_rfl) (fun _ _ _ h => h) (Or.inl ⟨by rfl, ?_⟩) ?_ ?_
    rotate_left
    · intro w'
      go_simp
      with_reducible rfl
    rotate_left
    · simp only [Act.put, List.setIfInBounds_toArray, List.set_cons_zero, List.set_cons_succ]
      rfl
    refine pure_ (i := 16) (N := some 52) (v := ?_) (a' := ?_) #[true, true, true, true, true, true, true, true, true, true, true, true, true, false, true, false, true, false, false, false, false, false, false, false, false, false, false, false, false, false, false, false, false, false, false, false, false] rfl rfl (by kernel_rfl) (fun _ _ _ h => h) (Or.inl ⟨by rfl, ?_⟩) ?_ ?_
    rotate_left
    · intro w'
      go_simp
      with_reducible rfl
    rotate_left
    · simp only [Act.put, List.setIfInBounds_toArray, List.set_cons_zero, List.set_cons_succ]
      rfl
    refine take_ (i := 15) (N := some 51) (v := ?_) (a' := ?_) #[true, true, true, true, true, true, true, true, true, true, true, true, true, false, true, true, true, false, false, false, false, false, false, false, false, false, false, false, false, false, false, false, false, false, false, false, false] rfl rfl (by kernel_rfl) (fun _ _ _ h => h) (Or.inl ⟨by rfl, ?_⟩) hHeld ?_ ?_
    rotate_left
    · intro w' s0
      have q0_ := Q0.out w' s0
      have q1_ := Q1.out w' s0
      have q2_ := Q2.out w' s0
      have q3_ := Q3.out w' s0
      go_simp
      with_reducible rfl
    rotate_left
    · simp only [Act.put, List.setIfInBounds_toArray, List.set_cons_zero, List.set_cons_succ]
      rfl
    refine take_ (i := 17) (N := some 53) (v := ?_) (a' := ?_) #[true, true, true, true, true, true, true, true, true, true, true, true, true, false, true, true, true, true, false, false, false, false, false, false, false, false, false, false, false, false, false, false, false, false, false, false, false] rfl rfl (by kernel_rfl) (fun _ _ _ h => h) (Or.inl ⟨by rfl, ?_⟩) hHeld ?_ ?_
    rotate_left
    · intro w' s0
      have q0_ := Q0.out w' s0
      have q1_ := Q1.out w' s0
      have q2_ := Q2.out w' s0
      have q3_ := Q3.out w' s0
      go_simp
      with_reducible rfl
    rotate_left
    · simp only [Act.put, List.setIfInBounds_toArray, List.set_cons_zero, List.set_cons_succ]
      rfl
    refine pure_ (i := 18) (N := some 54) (v := ?_) (a' := ?_) #[true, true, true, true, true, true, true, true, true, true, true, true, true, false, true, true, true, true, true, false, false, false, false, false, false, false, false, false, false, false, false, false, false, false, false, false, false] rfl rfl (by kernel_rfl) (fun _ _ _ h => h) (Or.inl ⟨by rfl, ?_⟩) ?_ ?_
    rotate_left
    · intro w'
      go_simp
      with_reducible rfl
    rotate_left
    · simp only [Act.put, List.setIfInBounds_toArray, List.set_cons_zero, List.set_cons_succ]
      rfl
    refine one_ (i := 13) (N := some 49) #[true, true, true, true, true, true, true, true, true, true, true, true, true, true, true, true, true, true, true, false, false, false, false, false, false, false, false, false, false, false, false, false, false, false, false, false, false] rfl rfl (by kernel_rfl) (by decide) (fun K hK => ?_)
    refine goes_ Try.func38 (by kernel_rfl) rfl #[.slice Ak key.length ck, .slice A1 b.length c1] (by rfl) rfl rfl (by simp only [List.map_toArray, List.map_cons, List.map_nil]; rfl) ?_
    with_reducible refine (poly_Same.calls Ak ck key A1 c1 b ((strOfNums key).toList == (strOfNums b).toList) _ (Kd.C_below CK7.out.1 hHeld) CK7.out.2 (Kd.C_below CB7.out hHeld) D1.out.2 rfl).mono ?_
    rintro e w8 ⟨rfl, ⟨n8, hw8⟩⟩
    refine ⟨_, rfl, ?_⟩
    have hb8 : Below w7.heap.size w7 w8 := by rw [hw8]; exact pw_below_drewN hHeld n8
    clear hw8
    refine hK.out _ _ (hb8) (fun hHeld => ?_)
    clear hK K
    refine norm_ (a' := ?_) ?_ ?_
    rotate_left
    · show Act.put _ (some 49) _ = _
      simp only [Act.put, List.setIfInBounds_toArray, List.set_cons_zero, List.set_cons_succ]
      rfl
    refine pure_ (i := 19) (N := some 55) (v := ?_) (a' := ?_) #[true, true, true, true, true, true, true, true, true, true, true, true, true, true, true, true, true, true, true, true, false, false, false, false, false, false, false, false, false, false, false, false, false, false, false, false, false] rfl rfl (by kernel_rfl) (fun _ _ _ h => h) (Or.inl ⟨by rfl, ?_⟩) ?_ ?_
    rotate_left
    · intro w'
      go_simp
      with_reducible rfl
    rotate_left
    · simp only [Act.put, List.setIfInBounds_toArray, List.set_cons_zero, List.set_cons_succ]
      rfl
    refine pure_ (i := 20) (N := some 56) (v := ?_) (a' := ?_) #[true, true, true, true, true, true, true, true, true, true, true, true, true, true, true, true, true, true, true, true, true, false, false, false, false, false, false, false, false, false, false, false, false, false, false, false, false] rfl rfl (by kernel_rfl) (fun _ _ _ h => h) (Or.inl ⟨by rfl, ?_⟩) ?_ ?_
    rotate_left
    · intro w'
      go_simp
      with_reducible rfl
    rotate_left
    · simp only [Act.put, List.setIfInBounds_toArray, List.set_cons_zero, List.set_cons_succ]
      rfl
    refine pure_ (i := 21) (N := some 57) (v := ?_) (a' := ?_) #[true, true, true, true, true, true, true, true, true, true, true, true, true, true, true, true, true, true, true, true, true, true, false, false, false, false, false, false, false, false, false, false, false, false, false, false, false] rfl rfl (by kernel_rfl) (fun _ _ _ h => h) (Or.inl ⟨by rfl, ?_⟩) ?_ ?_
    rotate_left
    · intro w'
      go_simp
      with_reducible rfl
    rotate_left
    · simp only [Act.put, List.setIfInBounds_toArray, List.set_cons_zero, List.set_cons_succ]
      rfl
    refine pure_ (i := 22) (N := some 58) (v := ?_) (a' := ?_) #[true, true, true, true, true, true, true, true, true, true, true, true, true, true, true, true, true, true, true, true, true, true, true, false, false, false, false, false, false, false, false, false, false, false, false, false, false] rfl rfl (by kernel_rfl) (fun _ _ _ h => h) (Or.inl ⟨by rfl, ?_⟩) ?_ ?_
    rotate_left
    · intro w'
      go_simp
      with_reducible rfl
    rotate_left
    · simp only [Act.put, List.setIfInBounds_toArray, List.set_cons_zero, List.set_cons_succ]
      rfl
    refine pure_ (i := 24) (N := some 60) (v := ?_) (a' := ?_) #[true, true, true, true, true, true, true, true, true, true, true, true, true, true, true, true, true, true, true, true, true, true, true, false, true, false, false, false, false, false, false, false, false, false, false, false, false] rfl rfl (by kernel_rfl) (fun _ _ _ h => h) (Or.inl ⟨by rfl, ?_⟩) ?_ ?_
    rotate_left
    · intro w'
      go_simp
      with_reducible rfl
    rotate_left
    · simp only [Act.put, List.setIfInBounds_toArray, List.set_cons_zero, List.set_cons_succ]
      rfl
    refine one_ (i := 23) (N := some 59) #[true, true, true, true, true, true, true, true, true, true, true, true, true, true, true, true, true, true, true, true, true, true, true, true, true, false, false, false, false, false, false, false, false, false, false, false, false] rfl rfl (by kernel_rfl) (by decide) (fun K hK => ?_)
    have S23 := Aside0.mk hHeld.size
    refine value_ (w1 := ?_) (v := ?_) (by rfl) rfl ?_ ?_
    rotate_left 2
    · go_simp
      constructor
      · rfl
      · rfl
    refine hK.out _ _ (below_alloc hHeld _) (fun hHeld => ?_)
    clear hK K
    refine norm_ (a' := ?_) ?_ ?_
    rotate_left
    · show Act.put _ (some 59) _ = _
      simp only [Act.put, List.setIfInBounds_toArray, List.set_cons_zero, List.set_cons_succ]
      rfl
    refine one_ (i := 25) (N := some 61) #[true, true, true, true, true, true, true, true, true, true, true, true, true, true, true, true, true, true, true, true, true, true, true, true, true, true, false, false, false, false, false, false, false, false, false, false, false] rfl rfl (by kernel_rfl) (by decide) (fun K hK => ?_)
    refine Kd.R_append_rows_step (Kd.int .u8) (w0 := w7) w7.heap.size (by rfl) (.tmp 59) (.tmp 60) 22 5 (.int .u8 0) 1 rfl Try.underlying22 Pol.info_u8 rfl (by decide) (by omega) _ ([] : List Int) b A1 b.length c1 (fun _ => True) (fun _ => False) rfl rfl ?aO ?aR (fun _ _ h => h) (fun _ h => h.elim) ?aF ?aB ?aS ?aL ?_
    (case aR => exact Kd.C_below CB7.out hHeld)
    (case aF => exact fun _ _ => trivial)
    (case aO => exact lit_R _ _ _ _ .u8 [] 0 rfl S23.out rfl (by decide))
    (case aB => exact hHeld)
    (case aS => exact hHeld.size)
    (case aL => have := HN.out.1; simp only [List.length_nil]; omega)
    intro v25 w25 ho hb _ _
    obtain ⟨Ap, cp, rfl, hcp, hCp⟩ := Kd.R_reads (show Kd.R (Kd.int .u8) 5 w25 w7.heap.size (fun _ => True) v25 b from ho)
    have CP := Aside0.mk (And.intro hCp hcp)
    refine hK.out _ _ (hb) (fun hHeld => ?_)
    clear hK K
    refine norm_ (a' := ?_) ?_ ?_
    rotate_left
    · show Act.put _ (some 61) _ = _
      simp only [Act.put, List.setIfInBounds_toArray, List.set_cons_zero, List.set_cons_succ]
      rfl
    refine one_ (i := 26) (N := some 62) #[true, true, true, true, true, true, true, true, true, true, true, true, true, true, true, true, true, true, true, true, true, true, true, true, true, true, true, false, false, false, false, false, false, false, false, false, false] rfl rfl (by kernel_rfl) (by decide) (fun K hK => ?_)
    refine goes_ Try.func38 (by kernel_rfl) rfl #[.slice A1 b.length c1, .slice Ap b.length cp] (by rfl) rfl rfl (by simp only [List.map_toArray, List.map_cons, List.map_nil]; rfl) ?_
    with_reducible refine (poly_Same.calls A1 c1 b Ap cp b true _ (Kd.C_below CB7.out hHeld) D1.out.2 CP.out.1 CP.out.2 (same_self3 b)).mono ?_
    rintro e w26 ⟨rfl, ⟨n26, hw26⟩⟩
    refine ⟨_, rfl, ?_⟩
    have hb26 : Below w7.heap.size w7 w26 := by rw [hw26]; exact pw_below_drewN hHeld n26
    clear hw26
    refine hK.out _ _ (hb26) (fun hHeld => ?_)
    clear hK K
    refine norm_ (a' := ?_) ?_ ?_
    rotate_left
    · show Act.put _ (some 62) _ = _
      simp only [Act.put, List.setIfInBounds_toArray, List.set_cons_zero, List.set_cons_succ]
      rfl
    refine pure_ (i := 27) (N := some 63) (v := ?_) (a' := ?_) #[true, true, true, true, true, true, true, true, true, true, true, true, true, true, true, true, true, true, true, true, true, true, true, true, true, true, true, true, false, false, false, false, false, false, false, false, false] rfl rfl (by kernel_rfl) (fun _ _ _ h => h) (Or.inl ⟨by rfl, ?_⟩) ?_ ?_
    rotate_left
    · intro w'
      go_simp
      with_reducible rfl
    rotate_left
    · simp only [Act.put, List.setIfInBounds_toArray, List.set_cons_zero, List.set_cons_succ]
      rfl
    refine pure_ (i := 28) (N := some 64) (v := ?_) (a' := ?_) #[true, true, true, true, true, true, true, true, true, true, true, true, true, true, true, true, true, true, true, true, true, true, true, true, true, true, true, true, true, false, false, false, false, false, false, false, false] rfl rfl (by kernel_rfl) (fun _ _ _ h => h) (Or.inl ⟨by rfl, ?_⟩) ?_ ?_
    rotate_left
    · intro w'
      go_simp
      with_reducible rfl
    rotate_left
    · simp only [Act.put, List.setIfInBounds_toArray, List.set_cons_zero, List.set_cons_succ]
      rfl
    refine pure_ (i := 29) (N := some 65) (v := ?_) (a' := ?_) #[true, true, true, true, true, true, true, true, true, true, true, true, true, true, true, true, true, true, true, true, true, true, true, true, true, true, true, true, true, true, false, false, false, false, false, false, false] rfl rfl (by kernel_rfl) (fun _ _ _ h => h) (Or.inl ⟨by rfl, ?_⟩) ?_ ?_
    rotate_left
    · intro w'
      go_simp
      with_reducible rfl
    rotate_left
    · simp only [Act.put, List.setIfInBounds_toArray, List.set_cons_zero, List.set_cons_succ]
      rfl
    refine pure_ (i := 30) (N := some 66) (v := ?_) (a' := ?_) #[true, true, true, true, true, true, true, true, true, true, true, true, true, true, true, true, true, true, true, true, true, true, true, true, true, true, true, true, true, true, true, false, false, false, false, false, false] rfl rfl (by kernel_rfl) (fun _ _ _ h => h) (Or.inl ⟨by rfl, ?_⟩) ?_ ?_
    rotate_left
    · intro w'
      go_simp
      with_reducible rfl
    rotate_left
    · simp only [Act.put, List.setIfInBounds_toArray, List.set_cons_zero, List.set_cons_succ]
      rfl
    refine one_ (i := 31) (N := some 67) #[true, true, true, true, true, true, true, true, true, true, true, true, true, true, true, true, true, true, true, true, true, true, true, true, true, true, true, true, true, true, true, true, false, false, false, false, false] rfl rfl (by kernel_rfl) (by decide) (fun K hK => ?_)
    refine goes_ Try.func34 (by kernel_rfl) rfl #[.slice Af full.length cf, .slice A1 b.length c1, .int .u8 165] (by rfl) rfl rfl (by simp only [List.map_toArray, List.map_cons, List.map_nil]; rfl) ?_
    with_reducible refine (strongroombook_Intact_byte.calls Af cf full A1 c1 b 165 true _ (Kd.C_below CF7.out.1 hHeld) CF7.out.2 (Kd.C_below CB7.out hHeld) D1.out.2 FI.out).mono ?_
    rintro e w31 ⟨rfl, ⟨n31, hw31⟩⟩
    refine ⟨_, rfl, ?_⟩
    have hb31 : Below w7.heap.size w7 w31 := by rw [hw31]; exact pw_below_drewN hHeld n31
    clear hw31
    refine hK.out _ _ (hb31) (fun hHeld => ?_)
    clear hK K
    refine norm_ (a' := ?_) ?_ ?_
    rotate_left
    · show Act.put _ (some 67) _ = _
      simp only [Act.put, List.setIfInBounds_toArray, List.set_cons_zero, List.set_cons_succ]
      rfl
    refine pure_ (i := 32) (N := some 68) (v := ?_) (a' := ?_) #[true, true, true, true, true, true, true, true, true, true, true, true, true, true, true, true, true, true, true, true, true, true, true, true, true, true, true, true, true, true, true, true, true, false, false, false, false] rfl rfl (by kernel_rfl) (fun _ _ _ h => h) (Or.inl ⟨by rfl, ?_⟩) ?_ ?_
    rotate_left
    · intro w'
      go_simp
      with_reducible rfl
    rotate_left
    · simp only [Act.put, List.setIfInBounds_toArray, List.set_cons_zero, List.set_cons_succ]
      rfl
    refine pure_ (i := 33) (N := some 69) (v := ?_) (a' := ?_) #[true, true, true, true, true, true, true, true, true, true, true, true, true, true, true, true, true, true, true, true, true, true, true, true, true, true, true, true, true, true, true, true, true, true, false, false, false] rfl rfl (by kernel_rfl) (fun _ _ _ h => h) (Or.inl ⟨by rfl, ?_⟩) ?_ ?_
    rotate_left
    · intro w'
      go_simp
      with_reducible rfl
    rotate_left
    · simp only [Act.put, List.setIfInBounds_toArray, List.set_cons_zero, List.set_cons_succ]
      rfl
    refine last_ (i := 34) (N := some 70) #[true, true, true, true, true, true, true, true, true, true, true, true, true, true, true, true, true, true, true, true, true, true, true, true, true, true, true, true, true, true, true, true, true, true, true, false, false] rfl rfl (by kernel_rfl) (by decide) (fun K hK => ?_)
    refine goes_ Try.func36 (by kernel_rfl) rfl #[] (by rfl) rfl rfl (by simp only [List.map_toArray, List.map_nil]) ?_
    with_reducible refine (strongroomlaw3_known.calls true _ rfl).mono ?_
    rintro e w34 ⟨rfl, hB34⟩
    refine ⟨_, rfl, ?_⟩
    have B34 := Aside0.mk (show Below w.heap.size w w34 from below_step (below_step B7.out hHeld) hB34)
    clear hB34
    refine hK.out _ _ ?_
    clear hK K
    refine norm_ (a' := ?_) ?_ ?_
    rotate_left
    · show Act.put _ (some 70) _ = _
      simp only [Act.put, List.setIfInBounds_toArray, List.set_cons_zero, List.set_cons_succ]
      rfl
    refine pure_ (i := 35) (N := some 71) (v := ?_) (a' := ?_) #[true, true, true, true, true, true, true, true, true, true, true, true, true, true, true, true, true, true, true, true, true, true, true, true, true, true, true, true, true, true, true, true, true, true, true, true, false] rfl rfl (by kernel_rfl) (fun _ _ _ h => h) (Or.inl ⟨by rfl, ?_⟩) ?_ ?_
    rotate_left
    · intro w'
      go_simp
      with_reducible rfl
    rotate_left
    · simp only [Act.put, List.setIfInBounds_toArray, List.set_cons_zero, List.set_cons_succ]
      rfl
    refine pure_ (i := 36) (N := some 6) (v := ?_) (a' := ?_) #[true, true, true, true, true, true, true, true, true, true, true, true, true, true, true, true, true, true, true, true, true, true, true, true, true, true, true, true, true, true, true, true, true, true, true, true, true] rfl rfl (by kernel_rfl) (fun _ _ _ h => h) (Or.inl ⟨by rfl, ?_⟩) ?_ ?_
    rotate_left
    · intro w'
      go_simp
      with_reducible rfl
    rotate_left
    · simp only [Act.put, List.setIfInBounds_toArray, List.set_cons_zero, List.set_cons_succ]
      rfl
    refine done_ (by kernel_rfl) ?_
    go_wp2_with fail
    go_ret
    exact ⟨rfl, B34.out⟩
end Go.Proofs.Ythahhjkokdillaa
