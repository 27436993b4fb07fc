/-
  KdfMacs, walked.
-/
import Derived.Test.YthahhjkokdillaaShaN
import Derived.Test.YthahhjkokdillaaBook
import Derived.Test.YthahhjkokdillaaCut
import Derived.Deep.Cut
namespace Go.Proofs.Ythahhjkokdillaa
open Go.RowKit Go.Proofs.YthahhjkokdillaaW.PrintWords Go.Proofs.YthahhjkokdillaaW.PrintLast Go.Proofs.YthahhjkokdillaaW.PrintMore Go.Proofs.Ythahhjkokdillaa.Arr
set_option maxHeartbeats 8000000
set_option maxRecDepth 100000
theorem wrapk64 (k : Nat) (h : k ≤ 64) : IntKind.i64.wrap (64 - (k : Int)) = 64 - (k : Int) := by
  rw [i64_w, wrap_id (by omega) (by omega)]
theorem dneq (n : Nat) (h : n = 32) : ((n : Int) != 32) = false := by subst h; rfl
theorem kdfMacs_calls (A0 : Option Addr) (c0 : Nat) (l0 : List Int) (A1 : Option Addr) (c1 : Nat) (l1 : List Int) (a2 : Int) (w : World) (hr0 : Kd.C (Kd.int .u8) w A0 l0.length l0) (hc0 : l0.length ≤ c0) (hr1 : Kd.C (Kd.int .u8) w A1 l1.length l1) (hc1 : l1.length ≤ c1) :
    Calls Try.prog 3 #[.slice A0 l0.length c0, .slice A1 l1.length c1, .int .i64 a2] w fun e w' => e = .returned (.bool true) ∧ Below w.heap.size w w' := by
  obtain ⟨k, hk⟩ : ∃ x, x = l0.take 150 := ⟨_, rfl⟩
  obtain ⟨b, hb⟩ : ∃ x, x = l1.take 300 := ⟨_, rfl⟩
  have hkl : k.length ≤ 150 := by rw [hk, List.length_take]; omega
  have hbl : b.length ≤ 300 := by rw [hb, List.length_take]; omega
  have f0 := Aside0.mk (show strongroomkeep_CutR.f l0 150 = some k by rw [hk]; exact cut_some l0 150)
  have f1 := Aside0.mk (show strongroomkeep_CutR.f l1 300 = some b by rw [hb]; exact cut_some l1 300)
  obtain ⟨m, hm⟩ : ∃ x, x = Sha.macF k b := ⟨_, rfl⟩
  obtain ⟨s, hs⟩ : ∃ x, x = Sha.shaF b := ⟨_, rfl⟩
  obtain ⟨p, hp⟩ : ∃ x, x = Sha.shaF k := ⟨_, rfl⟩
  have fM := Aside0.mk (show kdf_Mac.f k b = some m by rw [hm]; exact mac_some k b (by omega) (by omega))
  have fS := Aside0.mk (show kdf_Sum.f b = some s by rw [hs]; exact sum_some b (by omega))
  have fP := Aside0.mk (show kdf_Sum.f k = some p by rw [hp]; exact sum_some k (by omega))
  have fPr := Aside0.mk (show kdf_Print.f k = some p from fP.out)
  have ML := Aside0.mk (show m.length = 32 by rw [hm, Sha.len_macF])
  have SL := Aside0.mk (show s.length = 32 by rw [hs, Sha.len_shaF])
  have PL := Aside0.mk (show p.length = 32 by rw [hp, Sha.len_shaF])
  have FL := Aside0.mk (show 64 < k.length → kdf_Mac.f p b = some m from fun h => by rw [mac_some p b (by rw [PL.out]; decide) (by omega), hp, macF_long k b h, hm])
  obtain ⟨z, hz⟩ : ∃ z : Nat, z = (withinF a2 0 (64 - (k.length : Int))).toNat := ⟨_, rfl⟩
  have FZ := Aside0.mk (show k.length ≤ 64 → (strongroombook_Within.f a2 0 (64 - (k.length : Int)) = some (z : Int) ∧ k.length + z ≤ 64 ∧ kdf_Mac.f (k ++ List.replicate z 0) b = some m) from fun h => by
    have h1 := withinF_range a2 0 (64 - (k.length : Int)) (by omega)
    have h2 : k.length + z ≤ 64 := by omega
    refine ⟨?_, h2, ?_⟩
    · rw [within_some _ _ _ (by decide) (by omega) (by omega), hz, Int.toNat_of_nonneg h1.1]
    · rw [mac_some _ b (by rw [List.length_append, List.length_replicate]; omega) (by omega), macF_zeros k b z h2, hm])
  have C0 := Aside0.mk (And.intro hr0 hc0)
  have C1 := Aside0.mk (And.intro hr1 hc1)
  have D0 := Aside0.mk (And.intro (cutR_C hr0 hc0 f0.out) (cutR_len hc0 f0.out))
  have D1 := Aside0.mk (And.intro (cutR_C hr1 hc1 f1.out) (cutR_len hc1 f1.out))
  have KL := Aside0.mk (And.intro hkl hbl)
  clear hk hb hkl hbl hm hs hp hz hr0 hr1 hc0 hc1
  go_enter Try.func3, Try.ntmps3
  go_wp2_with fail
  refine (strongroomkeep_CutR.calls A0 c0 l0 150 k _ C0.out.1 C0.out.2 f0.out).mono ?_
  rintro e w1 ⟨rfl, ⟨n1, rfl⟩⟩
  go_wp2_with fail
  refine (strongroomkeep_CutR.calls A1 c1 l1 300 b _ (Kd.C_drewN C1.out.1 n1) C1.out.2 f1.out).mono ?_
  rintro e w2 ⟨rfl, ⟨n2, rfl⟩⟩
  have B2 := Aside0.mk (pw_below_drewN (Below.refl w.heap.size w) (n1 + n2))
  have e12 : (w.drewN n1).drewN n2 = w.drewN (n1 + n2) := World.drewN_drewN ..
  rw [e12]
  clear e12
  generalize w.drewN (n1 + n2) = w2 at B2 ⊢
  go_wp2_with fail
  refine (kdf_Mac.calls A0 c0 k A1 c1 b m _ (Kd.C_below D0.out.1 B2.out) D0.out.2 (Kd.C_below D1.out.1 B2.out) D1.out.2 fM.out).mono ?_
  rintro e w3 ⟨v3, rfl, hR, hB⟩
  obtain ⟨Am, cm, rfl, hcm, hCm⟩ := Kd.R_reads hR
  have CM := Aside0.mk (And.intro hCm hcm)
  have B3 := Aside0.mk (below_step B2.out hB)
  have E0 := Aside0.mk (Kd.C_below D0.out.1 B3.out)
  have E1 := Aside0.mk (Kd.C_below D1.out.1 B3.out)
  clear hR hB hcm hCm
  go_upto_region 4 with (fail)
  change Code.wp _ _ _ _ w3
  have dm := dneq m.length ML.out
  have ds := dneq s.length SL.out
  have dp : ((strOfNums p).toList != (strOfNums p).toList) = false := by simp
  refine start_ (n := 18) (S := fun w' => Below w3.heap.size w3 w') (ds := []) #[false, false, false, false, false, false, false, false, false, false, false, false, false, false, false, false, false, false] (by kernel_rfl) rfl rfl (below_drew1 (Below.refl _ _)) (fun hHeld => ?_)
  refine pure_ (i := 0) (N := some 15) (v := ?_) (a' := ?_) #[true, false, false, false, false, false, false, false, false, false, false, false, false, false, false, false, false, false] rfl rfl (by kernel_rfl) (fun _ _ _ h => h) (Or.inl ⟨by rfl, ?_⟩) ?_ ?_
  rotate_left
  · intro w'
    go_simp
    with_reducible rfl
  rotate_left
  · simp only [Act.put, List.setIfInBounds_toArray, List.set_cons_zero, List.set_cons_succ]
    rfl
  refine pure_ (i := 1) (N := some 16) (v := ?_) (a' := ?_) #[true, true, false, false, false, false, false, false, false, false, false, false, false, false, false, false, false, false] rfl rfl (by kernel_rfl) (fun _ _ _ h => h) (Or.inl ⟨by rfl, ?_⟩) ?_ ?_
  rotate_left
  · intro w'
    go_simp
    with_reducible rfl
  rotate_left
  · simp only [Act.put, List.setIfInBounds_toArray, List.set_cons_zero, List.set_cons_succ]
    rfl
  refine pure_ (i := 2) (N := some 17) (v := ?_) (a' := ?_) #[true, true, true, false, false, false, false, false, false, false, false, false, false, false, false, false, false, false] rfl rfl (by kernel_rfl) (fun _ _ _ h => h) (Or.inl ⟨by rfl, ?_⟩) ?_ ?_
  rotate_left
  · intro w'
    go_simp
    with_reducible rfl
  rotate_left
  · simp only [Act.put, List.setIfInBounds_toArray, List.set_cons_zero, List.set_cons_succ]
    rfl
  refine pure_ (i := 3) (N := some 18) (v := ?_) (a' := ?_) #[true, true, true, true, false, false, false, false, false, false, false, false, false, false, false, false, false, false] rfl rfl (by kernel_rfl) (fun _ _ _ h => h) (Or.inl ⟨by rfl, ?_⟩) ?_ ?_
  rotate_left
  · intro w'
    go_simp
    with_reducible rfl
  rotate_left
  · simp only [Act.put, List.setIfInBounds_toArray, List.set_cons_zero, List.set_cons_succ]
    rfl
  refine pure_ (i := 4) (N := some 19) (v := ?_) (a' := ?_) #[true, true, true, true, true, false, false, false, false, false, false, false, false, false, false, false, false, false] rfl rfl (by kernel_rfl) (fun _ _ _ h => h) (Or.inl ⟨by rfl, ?_⟩) ?_ ?_
  rotate_left
  · intro w'
    go_simp
    with_reducible rfl
  rotate_left
  · simp only [Act.put, List.setIfInBounds_toArray, List.set_cons_zero, List.set_cons_succ]
    rfl
  refine one_ (i := 5) (N := some 20) #[true, true, true, true, true, true, false, false, false, false, false, false, false, false, false, false, false, false] rfl rfl (by kernel_rfl) (by decide) (fun K hK => ?_)
  refine goes_ Try.func15 (by kernel_rfl) rfl #[.slice A1 b.length c1] (by rfl) rfl rfl (by simp only [List.map_toArray, List.map_cons, List.map_nil]; rfl) ?_
  with_reducible refine (kdf_Sum.calls A1 c1 b s _ (Kd.C_below E1.out hHeld) D1.out.2 fS.out).mono ?_
  rintro e w5 ⟨v5, rfl, hR5, hB5⟩
  refine ⟨_, rfl, ?_⟩
  obtain ⟨As, cs, rfl, _, _⟩ := Kd.R_reads hR5
  have hb5 := below_step hHeld hB5
  clear hR5 hB5
  refine hK.out _ _ (hb5) (fun hHeld => ?_)
  clear hK K
  refine norm_ (a' := ?_) ?_ ?_
  rotate_left
  · show Act.put _ (some 20) _ = _
    simp only [Act.put, List.setIfInBounds_toArray, List.set_cons_zero, List.set_cons_succ]
    rfl
  refine pure_ (i := 6) (N := some 21) (v := ?_) (a' := ?_) #[true, true, true, true, true, true, true, false, false, false, false, false, false, false, false, false, false, false] rfl rfl (by kernel_rfl) (fun _ _ _ h => h) (Or.inl ⟨by rfl, ?_⟩) ?_ ?_
  rotate_left
  · intro w'
    go_simp
    with_reducible rfl
  rotate_left
  · simp only [Act.put, List.setIfInBounds_toArray, List.set_cons_zero, List.set_cons_succ]
    rfl
  refine pure_ (i := 7) (N := some 22) (v := ?_) (a' := ?_) #[true, true, true, true, true, true, true, true, false, false, false, false, false, false, false, false, false, false] rfl rfl (by kernel_rfl) (fun _ _ _ h => h) (Or.inl ⟨by rfl, ?_⟩) ?_ ?_
  rotate_left
  · intro w'
    go_simp
    with_reducible rfl
  rotate_left
  · simp only [Act.put, List.setIfInBounds_toArray, List.set_cons_zero, List.set_cons_succ]
    rfl
  refine pure_ (i := 8) (N := some 23) (v := ?_) (a' := ?_) #[true, true, true, true, true, true, true, true, true, false, false, false, false, false, false, false, false, false] rfl rfl (by kernel_rfl) (fun _ _ _ h => h) (Or.inl ⟨by rfl, ?_⟩) ?_ ?_
  rotate_left
  · intro w'
    go_simp
    with_reducible rfl
  rotate_left
  · simp only [Act.put, List.setIfInBounds_toArray, List.set_cons_zero, List.set_cons_succ]
    rfl
  refine pure_ (i := 9) (N := some 24) (v := ?_) (a' := ?_) #[true, true, true, true, true, true, true, true, true, true, false, false, false, false, false, false, false, false] rfl rfl (by kernel_rfl) (fun _ _ _ h => h) (Or.inl ⟨by rfl, ?_⟩) ?_ ?_
  rotate_left
  · intro w'
    go_simp
    with_reducible rfl
  rotate_left
  · simp only [Act.put, List.setIfInBounds_toArray, List.set_cons_zero, List.set_cons_succ]
    rfl
  refine pure_ (i := 10) (N := some 25) (v := ?_) (a' := ?_) #[true, true, true, true, true, true, true, true, true, true, true, false, false, false, false, false, false, false] rfl rfl (by kernel_rfl) (fun _ _ _ h => h) (Or.inl ⟨by rfl, ?_⟩) ?_ ?_
  rotate_left
  · intro w'
    go_simp
    with_reducible rfl
  rotate_left
  · simp only [Act.put, List.setIfInBounds_toArray, List.set_cons_zero, List.set_cons_succ]
    rfl
  refine pure_ (i := 13) (N := some 28) (v := ?_) (a' := ?_) #[true, true, true, true, true, true, true, true, true, true, true, false, false, true, false, false, false, false] rfl rfl (by kernel_rfl) (fun _ _ _ h => h) (Or.inl ⟨by rfl, ?_⟩) ?_ ?_
  rotate_left
  · intro w'
    go_simp
    with_reducible rfl
  rotate_left
  · simp only [Act.put, List.setIfInBounds_toArray, List.set_cons_zero, List.set_cons_succ]
    rfl
  refine one_ (i := 11) (N := some 26) #[true, true, true, true, true, true, true, true, true, true, true, true, false, true, false, false, false, false] rfl rfl (by kernel_rfl) (by decide) (fun K hK => ?_)
  refine goes_ Try.func16 (by kernel_rfl) rfl #[.slice A0 k.length c0] (by rfl) rfl rfl (by simp only [List.map_toArray, List.map_cons, List.map_nil]; rfl) ?_
  with_reducible refine (kdf_Print.calls A0 c0 k p _ (Kd.C_below E0.out hHeld) D0.out.2 fPr.out).mono ?_
  rintro e w11 ⟨v11, rfl, hR11, hB11⟩
  refine ⟨_, rfl, ?_⟩
  obtain ⟨Ap, cp, rfl, hcp, hCp⟩ := Kd.R_reads hR11
  have CP := Aside0.mk hCp
  have hb11 := below_step hHeld hB11
  clear hR11 hB11 hcp hCp
  refine hK.out _ _ (hb11) (fun hHeld => ?_)
  clear hK K
  refine norm_ (a' := ?_) ?_ ?_
  rotate_left
  · show Act.put _ (some 26) _ = _
    simp only [Act.put, List.setIfInBounds_toArray, List.set_cons_zero, List.set_cons_succ]
    rfl
  refine join_ (σ := Value) 2 #[true, true, true, true, true, true, true, true, true, true, true, true, true, true, true, true, false, false] (fun s_ => [(27, .string (strOfNums p)), (29, s_), (30, .string (strOfNums p))]) (fun _ w' => Below w3.heap.size w3 w') ?_ ?_
  rotate_left
  · intro hCont
    refine two_ (i := 12) (j := 14) (Ni := some 27) (Nj := some 29) #[true, true, true, true, true, true, true, true, true, true, true, true, true, true, false, false, false, false] #[true, true, true, true, true, true, true, true, true, true, true, true, false, true, true, false, false, false] rfl rfl rfl rfl (by kernel_rfl) (by decide) (by decide) (fun K hK => ?_) (fun K hK => ?_)
    · skip
      have q12 := Kd.C_string (P := Try.prog) (c := cp) Try.underlying22 Try.underlying5 Try.underlying9 CP.out
      refine value_ (w1 := ?_) (v := ?_) (by rfl) rfl ?_ ?_
      rotate_left 2
      · go_simp
        constructor
        · rfl
        · rfl
      clear q12
      refine hK.out _ _ (hHeld) (fun hHeld => ?_)
      clear hK K
      refine norm_ (a' := ?_) ?_ ?_
      rotate_left
      · show Act.put _ (some 27) _ = _
        simp only [Act.put, List.setIfInBounds_toArray, List.set_cons_zero, List.set_cons_succ]
        rfl
      refine one_ (i := 14) (N := some 29) #[true, true, true, true, true, true, true, true, true, true, true, true, true, true, true, false, false, false] rfl rfl (by kernel_rfl) (by decide) (fun K hK => ?_)
      refine goes_ Try.func15 (by kernel_rfl) rfl #[.slice A0 k.length c0] (by rfl) rfl rfl (by simp only [List.map_toArray, List.map_cons, List.map_nil]; rfl) ?_
      with_reducible refine (kdf_Sum.calls A0 c0 k p _ (Kd.C_below E0.out hHeld) D0.out.2 fP.out).mono ?_
      rintro e w14 ⟨v14, rfl, hR14, hB14⟩
      refine ⟨_, rfl, ?_⟩
      obtain ⟨Aq, cq, rfl, hcq, hCq⟩ := Kd.R_reads hR14
      have CQ := Aside0.mk hCq
      have CPq := Aside0.mk (Kd.C_below CP.out hB14)
      have hb14 := below_step hHeld hB14
      clear hR14 hB14 hcq hCq
      refine hK.out _ _ (hb14) (fun hHeld => ?_)
      clear hK K
      refine norm_ (a' := ?_) ?_ ?_
      rotate_left
      · show Act.put _ (some 29) _ = _
        simp only [Act.put, List.setIfInBounds_toArray, List.set_cons_zero, List.set_cons_succ]
        rfl
      refine one_ (i := 15) (N := some 30) #[true, true, true, true, true, true, true, true, true, true, true, true, true, true, true, true, false, false] rfl rfl (by kernel_rfl) (by decide) (fun K hK => ?_)
      have q15 := Kd.C_string (P := Try.prog) (c := cq) Try.underlying22 Try.underlying5 Try.underlying9 CQ.out
      refine value_ (w1 := ?_) (v := ?_) (by rfl) rfl ?_ ?_
      rotate_left 2
      · go_simp
        constructor
        · rfl
        · rfl
      clear q15
      refine hK.out _ _ (hHeld) (fun hHeld => ?_)
      clear hK K
      refine norm_ (a' := ?_) ?_ ?_
      rotate_left
      · show Act.put _ (some 30) _ = _
        simp only [Act.put, List.setIfInBounds_toArray, List.set_cons_zero, List.set_cons_succ]
        rfl
      exact norm_ (by simp only [putAll, Act.put, List.setIfInBounds_toArray, List.set_cons_zero, List.set_cons_succ]) (hCont (.slice Aq p.length cq) _ hb14)
    · skip
      refine goes_ Try.func15 (by kernel_rfl) rfl #[.slice A0 k.length c0] (by rfl) rfl rfl (by simp only [List.map_toArray, List.map_cons, List.map_nil]; rfl) ?_
      with_reducible refine (kdf_Sum.calls A0 c0 k p _ (Kd.C_below E0.out hHeld) D0.out.2 fP.out).mono ?_
      rintro e w14 ⟨v14, rfl, hR14, hB14⟩
      refine ⟨_, rfl, ?_⟩
      obtain ⟨Aq, cq, rfl, hcq, hCq⟩ := Kd.R_reads hR14
      have CQ := Aside0.mk hCq
      have CPq := Aside0.mk (Kd.C_below CP.out hB14)
      have hb14 := below_step hHeld hB14
      clear hR14 hB14 hcq hCq
      refine hK.out _ _ (hb14) (fun hHeld => ?_)
      clear hK K
      refine norm_ (a' := ?_) ?_ ?_
      rotate_left
      · show Act.put _ (some 29) _ = _
        simp only [Act.put, List.setIfInBounds_toArray, List.set_cons_zero, List.set_cons_succ]
        rfl
      refine two_ (i := 12) (j := 15) (Ni := some 27) (Nj := some 30) #[true, true, true, true, true, true, true, true, true, true, true, true, true, true, true, false, false, false] #[true, true, true, true, true, true, true, true, true, true, true, true, false, true, true, true, false, false] rfl rfl rfl rfl (by kernel_rfl) (by decide) (by decide) (fun K hK => ?_) (fun K hK => ?_)
      · skip
        have q12 := Kd.C_string (P := Try.prog) (c := cp) Try.underlying22 Try.underlying5 Try.underlying9 CPq.out
        refine value_ (w1 := ?_) (v := ?_) (by rfl) rfl ?_ ?_
        rotate_left 2
        · go_simp
          constructor
          · rfl
          · rfl
        clear q12
        refine hK.out _ _ (hHeld) (fun hHeld => ?_)
        clear hK K
        refine norm_ (a' := ?_) ?_ ?_
        rotate_left
        · show Act.put _ (some 27) _ = _
          simp only [Act.put, List.setIfInBounds_toArray, List.set_cons_zero, List.set_cons_succ]
          rfl
        refine one_ (i := 15) (N := some 30) #[true, true, true, true, true, true, true, true, true, true, true, true, true, true, true, true, false, false] rfl rfl (by kernel_rfl) (by decide) (fun K hK => ?_)
        have q15 := Kd.C_string (P := Try.prog) (c := cq) Try.underlying22 Try.underlying5 Try.underlying9 CQ.out
        refine value_ (w1 := ?_) (v := ?_) (by rfl) rfl ?_ ?_
        rotate_left 2
        · go_simp
          constructor
          · rfl
          · rfl
        clear q15
        refine hK.out _ _ (hHeld) (fun hHeld => ?_)
        clear hK K
        refine norm_ (a' := ?_) ?_ ?_
        rotate_left
        · show Act.put _ (some 30) _ = _
          simp only [Act.put, List.setIfInBounds_toArray, List.set_cons_zero, List.set_cons_succ]
          rfl
        exact norm_ (by simp only [putAll, Act.put, List.setIfInBounds_toArray, List.set_cons_zero, List.set_cons_succ]) (hCont (.slice Aq p.length cq) _ hb14)
      · skip
        have q15 := Kd.C_string (P := Try.prog) (c := cq) Try.underlying22 Try.underlying5 Try.underlying9 CQ.out
        refine value_ (w1 := ?_) (v := ?_) (by rfl) rfl ?_ ?_
        rotate_left 2
        · go_simp
          constructor
          · rfl
          · rfl
        clear q15
        refine hK.out _ _ (hHeld) (fun hHeld => ?_)
        clear hK K
        refine norm_ (a' := ?_) ?_ ?_
        rotate_left
        · show Act.put _ (some 30) _ = _
          simp only [Act.put, List.setIfInBounds_toArray, List.set_cons_zero, List.set_cons_succ]
          rfl
        refine one_ (i := 12) (N := some 27) #[true, true, true, true, true, true, true, true, true, true, true, true, true, true, true, true, false, false] rfl rfl (by kernel_rfl) (by decide) (fun K hK => ?_)
        have q12 := Kd.C_string (P := Try.prog) (c := cp) Try.underlying22 Try.underlying5 Try.underlying9 CPq.out
        refine value_ (w1 := ?_) (v := ?_) (by rfl) rfl ?_ ?_
        rotate_left 2
        · go_simp
          constructor
          · rfl
          · rfl
        clear q12
        refine hK.out _ _ (hHeld) (fun hHeld => ?_)
        clear hK K
        refine norm_ (a' := ?_) ?_ ?_
        rotate_left
        · show Act.put _ (some 27) _ = _
          simp only [Act.put, List.setIfInBounds_toArray, List.set_cons_zero, List.set_cons_succ]
          rfl
        exact norm_ (by simp only [putAll, Act.put, List.setIfInBounds_toArray, List.set_cons_zero, List.set_cons_succ]) (hCont (.slice Aq p.length cq) _ hb14)
  rintro s14 w14 hHeld
  refine norm_ (a' := ?_) ?_ ?_
  rotate_left
  · simp only [putAll, Act.put, List.setIfInBounds_toArray, List.set_cons_zero, List.set_cons_succ]
    rfl
  refine pure_ (i := 16) (N := some 31) (v := ?_) (a' := ?_) #[true, true, true, true, true, true, true, true, true, true, true, true, true, true, true, true, true, false] rfl rfl (by kernel_rfl) (fun _ _ _ h => h) (Or.inl ⟨by rfl, ?_⟩) ?_ ?_
  rotate_left
  · intro w'
    go_simp
    with_reducible rfl
  rotate_left
  · simp only [Act.put, List.setIfInBounds_toArray, List.set_cons_zero, List.set_cons_succ]
    rfl
  refine pure_ (i := 17) (N := some 32) (v := ?_) (a' := ?_) #[true, true, true, true, true, true, true, true, true, true, true, true, true, true, true, true, true, true] rfl rfl (by kernel_rfl) (fun _ _ _ h => h) (Or.inl ⟨by rfl, ?_⟩) ?_ ?_
  rotate_left
  · intro w'
    go_simp
    with_reducible rfl
  rotate_left
  · simp only [Act.put, List.setIfInBounds_toArray, List.set_cons_zero, List.set_cons_succ]
    rfl
  refine done_ (by kernel_rfl) ?_
  have B4 := Aside0.mk (below_step B3.out hHeld)
  have E0 := Aside0.mk (Kd.C_below E0.out hHeld)
  have E1 := Aside0.mk (Kd.C_below E1.out hHeld)
  have CM := Aside0.mk (And.intro (Kd.C_below CM.out.1 hHeld) CM.out.2)
  clear hHeld dm ds dp
  by_cases hlt : 64 < k.length
  · have fL := Aside0.mk (FL.out hlt)
    have hq : (64 : Int) < (k.length : Int) := by omega
    have hd : decide (64 < k.length) = true := decide_eq_true hlt
    clear FL FZ
    go_upto_region 7 with (fail)
    change Code.wp _ _ _ _ w14
    have Q0 := Aside0.mk (fun (w' : World) (h : Below w14.heap.size w14 w') => Kd.C_string (P := Try.prog) (c := cm) Try.underlying22 Try.underlying5 Try.underlying9 (Kd.C_below CM.out.1 h))
    refine start_ (n := 12) (S := fun w' => Below w14.heap.size w14 w') (ds := [9]) #[false, false, false, false, false, false, false, false, false, false, false, false] (by kernel_rfl) rfl rfl (below_drew1 (Below.refl _ _)) (fun hHeld => ?_)
    refine pure_ (i := 0) (N := some 36) (v := ?_) (a' := ?_) #[true, false, false, false, false, false, false, false, false, false, false, false] rfl rfl (by kernel_rfl) (fun _ _ _ h => h) (Or.inl ⟨by rfl, ?_⟩) ?_ ?_
    rotate_left
    · intro w'
      go_simp
      with_reducible rfl
    rotate_left
    · simp only [Act.put, List.setIfInBounds_toArray, List.set_cons_zero, List.set_cons_succ]
      rfl
    refine pure_ (i := 2) (N := some 38) (v := ?_) (a' := ?_) #[true, false, true, false, false, false, false, false, false, false, false, false] rfl rfl (by kernel_rfl) (fun _ _ _ h => h) (Or.inl ⟨by rfl, ?_⟩) ?_ ?_
    rotate_left
    · intro w'
      go_simp
      with_reducible rfl
    rotate_left
    · simp only [Act.put, List.setIfInBounds_toArray, List.set_cons_zero, List.set_cons_succ]
      rfl
    refine pure_ (i := 4) (N := some 40) (v := ?_) (a' := ?_) #[true, false, true, false, true, false, false, false, false, false, false, false] rfl rfl (by kernel_rfl) (fun _ _ _ h => h) (Or.inl ⟨by rfl, ?_⟩) ?_ ?_
    rotate_left
    · intro w'
      go_simp
      with_reducible rfl
    rotate_left
    · simp only [Act.put, List.setIfInBounds_toArray, List.set_cons_zero, List.set_cons_succ]
      rfl
    refine take_ (i := 1) (N := some 37) (v := ?_) (a' := ?_) #[true, true, true, false, true, false, false, false, false, false, false, false] rfl rfl (by kernel_rfl) (fun _ _ _ h => h) (Or.inl ⟨by rfl, ?_⟩) hHeld ?_ ?_
    rotate_left
    · intro w' s0
      have q0_ := Q0.out w' s0
      go_simp
      with_reducible rfl
    rotate_left
    · simp only [Act.put, List.setIfInBounds_toArray, List.set_cons_zero, List.set_cons_succ]
      rfl
    refine one_ (i := 3) (N := some 39) #[true, true, true, true, true, false, false, false, false, false, false, false] rfl rfl (by kernel_rfl) (by decide) (fun K hK => ?_)
    refine goes_ Try.func15 (by kernel_rfl) rfl #[.slice A0 k.length c0] (by rfl) rfl rfl (by simp only [List.map_toArray, List.map_cons, List.map_nil]; rfl) ?_
    with_reducible refine (kdf_Sum.calls A0 c0 k p _ (Kd.C_below E0.out hHeld) D0.out.2 fP.out).mono ?_
    rintro e w5 ⟨v5, rfl, hR5, hB5⟩
    refine ⟨_, rfl, ?_⟩
    obtain ⟨Ap, cp, rfl, hcp, hCp⟩ := Kd.R_reads hR5
    have CP := Aside0.mk (And.intro hCp hcp)
    have hb5 := below_step hHeld hB5
    clear hR5 hB5 hcp hCp
    refine hK.out _ _ (hb5) (fun hHeld => ?_)
    clear hK K
    refine norm_ (a' := ?_) ?_ ?_
    rotate_left
    · show Act.put _ (some 39) _ = _
      simp only [Act.put, List.setIfInBounds_toArray, List.set_cons_zero, List.set_cons_succ]
      rfl
    refine one_ (i := 5) (N := some 41) #[true, true, true, true, true, true, false, false, false, false, false, false] rfl rfl (by kernel_rfl) (by decide) (fun K hK => ?_)
    refine goes_ Try.func14 (by kernel_rfl) rfl #[.slice Ap p.length cp, .slice A1 b.length c1] (by rfl) rfl rfl (by simp only [List.map_toArray, List.map_cons, List.map_nil]; rfl) ?_
    with_reducible refine (kdf_Mac.calls Ap cp p A1 c1 b m _ CP.out.1 CP.out.2 (Kd.C_below E1.out hHeld) D1.out.2 fL.out).mono ?_
    rintro e w6 ⟨v6, rfl, hR6, hB6⟩
    refine ⟨_, rfl, ?_⟩
    obtain ⟨An, cn, rfl, hcn, hCn⟩ := Kd.R_reads hR6
    have CN := Aside0.mk hCn
    have hb6 := below_step hHeld hB6
    clear hR6 hB6 hcn hCn
    refine hK.out _ _ (hb6) (fun hHeld => ?_)
    clear hK K
    refine norm_ (a' := ?_) ?_ ?_
    rotate_left
    · show Act.put _ (some 41) _ = _
      simp only [Act.put, List.setIfInBounds_toArray, List.set_cons_zero, List.set_cons_succ]
      rfl
    refine one_ (i := 6) (N := some 42) #[true, true, true, true, true, true, true, false, false, false, false, false] rfl rfl (by kernel_rfl) (by decide) (fun K hK => ?_)
    have q6 := Kd.C_string (P := Try.prog) (c := cn) Try.underlying22 Try.underlying5 Try.underlying9 CN.out
    refine value_ (w1 := ?_) (v := ?_) (by rfl) rfl ?_ ?_
    rotate_left 2
    · go_simp
      constructor
      · rfl
      · rfl
    clear q6
    refine hK.out _ _ (hHeld) (fun hHeld => ?_)
    clear hK K
    refine norm_ (a' := ?_) ?_ ?_
    rotate_left
    · show Act.put _ (some 42) _ = _
      simp only [Act.put, List.setIfInBounds_toArray, List.set_cons_zero, List.set_cons_succ]
      rfl
    refine pure_ (i := 7) (N := some 43) (v := ?_) (a' := ?_) #[true, true, true, true, true, true, true, true, false, false, false, false] rfl rfl (by kernel_rfl) (fun _ _ _ h => h) (Or.inl ⟨by rfl, ?_⟩) ?_ ?_
    rotate_left
    · intro w'
      go_simp
      with_reducible rfl
    rotate_left
    · simp only [Act.put, List.setIfInBounds_toArray, List.set_cons_zero, List.set_cons_succ]
      rfl
    refine pure_ (i := 8) (N := some 44) (v := ?_) (a' := ?_) #[true, true, true, true, true, true, true, true, true, false, false, false] rfl rfl (by kernel_rfl) (fun _ _ _ h => h) (Or.inl ⟨by rfl, ?_⟩) ?_ ?_
    rotate_left
    · intro w'
      go_simp
      with_reducible rfl
    rotate_left
    · simp only [Act.put, List.setIfInBounds_toArray, List.set_cons_zero, List.set_cons_succ]
      rfl
    refine last_ (i := 9) (N := some 45) #[true, true, true, true, true, true, true, true, true, true, false, false] rfl rfl (by kernel_rfl) (by decide) (fun K hK => ?_)
    refine goes_ Try.func17 (by kernel_rfl) rfl #[] (by rfl) rfl rfl (by simp only [List.map_toArray, List.map_nil]) ?_
    with_reducible refine (strongroomlaw6_known.calls true _ rfl).mono ?_
    rintro e w9 ⟨rfl, hB9⟩
    refine ⟨_, rfl, ?_⟩
    have B9 := Aside0.mk (show Below w.heap.size w w9 from below_step (below_step B4.out hHeld) hB9)
    clear hB9
    refine hK.out _ _ ?_
    clear hK K
    refine norm_ (a' := ?_) ?_ ?_
    rotate_left
    · show Act.put _ (some 45) _ = _
      simp only [Act.put, List.setIfInBounds_toArray, List.set_cons_zero, List.set_cons_succ]
      rfl
    refine pure_ (i := 10) (N := some 46) (v := ?_) (a' := ?_) #[true, true, true, true, true, true, true, true, true, true, true, false] rfl rfl (by kernel_rfl) (fun _ _ _ h => h) (Or.inl ⟨by rfl, ?_⟩) ?_ ?_
    rotate_left
    · intro w'
      go_simp
      with_reducible rfl
    rotate_left
    · simp only [Act.put, List.setIfInBounds_toArray, List.set_cons_zero, List.set_cons_succ]
      rfl
    refine pure_ (i := 11) (N := some 6) (v := ?_) (a' := ?_) #[true, true, true, true, true, true, true, true, true, true, true, true] rfl rfl (by kernel_rfl) (fun _ _ _ h => h) (Or.inl ⟨by rfl, ?_⟩) ?_ ?_
    rotate_left
    · intro w'
      go_simp
      with_reducible rfl
    rotate_left
    · simp only [Act.put, List.setIfInBounds_toArray, List.set_cons_zero, List.set_cons_succ]
      rfl
    refine done_ (by kernel_rfl) ?_
    go_wp2_with fail
    go_ret
    exact ⟨rfl, B9.out⟩
  · have fZ := Aside0.mk (FZ.out (Nat.le_of_not_lt hlt))
    have hq : ¬ (64 : Int) < (k.length : Int) := by omega
    have hd : decide (64 < k.length) = false := decide_eq_false hlt
    have fW := Aside0.mk (show strongroombook_Within.f a2 0 (IntKind.i64.wrap (64 - (k.length : Int))) = some (z : Int) by rw [wrapk64 k.length (by omega)]; exact fZ.out.1)
    clear FL FZ
    go_upto_region 8 with (fail)
    change Code.wp _ _ _ _ w14
    have Q0 := Aside0.mk (fun (w' : World) (h : Below w14.heap.size w14 w') => Kd.C_string (P := Try.prog) (c := cm) Try.underlying22 Try.underlying5 Try.underlying9 (Kd.C_below CM.out.1 h))
    refine start_ (n := 19) (S := fun w' => Below w14.heap.size w14 w') (ds := [16]) #[false, false, false, false, false, false, false, false, false, false, false, false, false, false, false, false, false, false, false] (by kernel_rfl) rfl rfl (below_drew1 (Below.refl _ _)) (fun hHeld => ?_)
    refine pure_ (i := 0) (N := some 47) (v := ?_) (a' := ?_) #[true, false, false, false, false, false, false, false, false, false, false, false, false, false, false, false, false, false, false] rfl rfl (by kernel_rfl) (fun _ _ _ h => h) (Or.inl ⟨by rfl, ?_⟩) ?_ ?_
    rotate_left
    · intro w'
      go_simp
      with_reducible rfl
    rotate_left
    · simp only [Act.put, List.setIfInBounds_toArray, List.set_cons_zero, List.set_cons_succ]
      rfl
    refine pure_ (i := 3) (N := some 50) (v := ?_) (a' := ?_) #[true, false, false, true, false, false, false, false, false, false, false, false, false, false, false, false, false, false, false] rfl rfl (by kernel_rfl) (fun _ _ _ h => h) (Or.inl ⟨by rfl, ?_⟩) ?_ ?_
    rotate_left
    · intro w'
      go_simp
      with_reducible rfl
    rotate_left
    · simp only [Act.put, List.setIfInBounds_toArray, List.set_cons_zero, List.set_cons_succ]
      rfl
    refine pure_ (i := 5) (N := some 52) (v := ?_) (a' := ?_) #[true, false, false, true, false, true, false, false, false, false, false, false, false, false, false, false, false, false, false] rfl rfl (by kernel_rfl) (fun _ _ _ h => h) (Or.inl ⟨by rfl, ?_⟩) ?_ ?_
    rotate_left
    · intro w'
      go_simp
      with_reducible rfl
    rotate_left
    · simp only [Act.put, List.setIfInBounds_toArray, List.set_cons_zero, List.set_cons_succ]
      rfl
    refine pure_ (i := 6) (N := some 53) (v := ?_) (a' := ?_) #[true, false, false, true, false, true, true, false, false, false, false, false, false, false, false, false, false, false, false] rfl rfl (by kernel_rfl) (fun _ _ _ h => h) (Or.inl ⟨by rfl, ?_⟩) ?_ ?_
    rotate_left
    · intro w'
      go_simp
      with_reducible rfl
    rotate_left
    · simp only [Act.put, List.setIfInBounds_toArray, List.set_cons_zero, List.set_cons_succ]
      rfl
    refine pure_ (i := 7) (N := some 54) (v := ?_) (a' := ?_) #[true, false, false, true, false, true, true, true, false, false, false, false, false, false, false, false, false, false, false] rfl rfl (by kernel_rfl) (fun _ _ _ h => h) (Or.inl ⟨by rfl, ?_⟩) ?_ ?_
    rotate_left
    · intro w'
      go_simp
      with_reducible rfl
    rotate_left
    · simp only [Act.put, List.setIfInBounds_toArray, List.set_cons_zero, List.set_cons_succ]
      rfl
    refine pure_ (i := 8) (N := some 55) (v := ?_) (a' := ?_) #[true, false, false, true, false, true, true, true, true, false, false, false, false, false, false, false, false, false, false] rfl rfl (by kernel_rfl) (fun _ _ _ h => h) (Or.inl ⟨by rfl, ?_⟩) ?_ ?_
    rotate_left
    · intro w'
      go_simp
      with_reducible rfl
    rotate_left
    · simp only [Act.put, List.setIfInBounds_toArray, List.set_cons_zero, List.set_cons_succ]
      rfl
    refine pure_ (i := 11) (N := some 58) (v := ?_) (a' := ?_) #[true, false, false, true, false, true, true, true, true, false, false, true, false, false, false, false, false, false, false] rfl rfl (by kernel_rfl) (fun _ _ _ h => h) (Or.inl ⟨by rfl, ?_⟩) ?_ ?_
    rotate_left
    · intro w'
      go_simp
      with_reducible rfl
    rotate_left
    · simp only [Act.put, List.setIfInBounds_toArray, List.set_cons_zero, List.set_cons_succ]
      rfl
    refine take_ (i := 1) (N := some 48) (v := ?_) (a' := ?_) #[true, true, false, true, false, true, true, true, true, false, false, true, false, false, false, false, false, false, false] rfl rfl (by kernel_rfl) (fun _ _ _ h => h) (Or.inl ⟨by rfl, ?_⟩) hHeld ?_ ?_
    rotate_left
    · intro w' s0
      have q0_ := Q0.out w' s0
      go_simp
      with_reducible rfl
    rotate_left
    · simp only [Act.put, List.setIfInBounds_toArray, List.set_cons_zero, List.set_cons_succ]
      rfl
    refine one_ (i := 2) (N := some 49) #[true, true, true, true, false, true, true, true, true, false, false, true, false, false, false, false, false, false, false] rfl rfl (by kernel_rfl) (by decide) (fun K hK => ?_)
    have S23 := Aside0.mk hHeld.size
    refine value_ (w1 := ?_) (v := ?_) (by rfl) rfl ?_ ?_
    rotate_left 2
    · go_simp
      constructor
      · rfl
      · rfl
    refine hK.out _ _ (below_alloc hHeld _) (fun hHeld => ?_)
    clear hK K
    refine norm_ (a' := ?_) ?_ ?_
    rotate_left
    · show Act.put _ (some 49) _ = _
      simp only [Act.put, List.setIfInBounds_toArray, List.set_cons_zero, List.set_cons_succ]
      rfl
    refine one_ (i := 4) (N := some 51) #[true, true, true, true, true, true, true, true, true, false, false, true, false, false, false, false, false, false, false] rfl rfl (by kernel_rfl) (by decide) (fun K hK => ?_)
    refine Kd.R_append_rows_step (Kd.int .u8) (w0 := w14) w14.heap.size (by rfl) (.tmp 49) (.tmp 50) 22 5 (.int .u8 0) 1 rfl Try.underlying22 Pol.info_u8 rfl (by decide) (by omega) _ ([] : List Int) k A0 k.length c0 (fun _ => True) (fun _ => False) rfl rfl ?aO ?aR (fun _ _ h => h) (fun _ h => h.elim) ?aF ?aB ?aS ?aL ?_
    (case aR => exact Kd.C_below E0.out hHeld)
    (case aF => exact fun _ _ => trivial)
    (case aO => exact lit_R _ _ _ _ .u8 [] 0 rfl S23.out rfl (by decide))
    (case aB => exact hHeld)
    (case aS => exact hHeld.size)
    (case aL => have := KL.out.1; simp only [List.length_nil]; omega)
    intro v25 w25 ho hb _ _
    have R25 := Aside0.mk (show Kd.R (Kd.int .u8) 5 w25 w14.heap.size (fun _ => True) v25 k from ho)
    clear ho
    refine hK.out _ _ (hb) (fun hHeld => ?_)
    clear hK K
    refine norm_ (a' := ?_) ?_ ?_
    rotate_left
    · show Act.put _ (some 51) _ = _
      simp only [Act.put, List.setIfInBounds_toArray, List.set_cons_zero, List.set_cons_succ]
      rfl
    refine one_ (i := 9) (N := some 56) #[true, true, true, true, true, true, true, true, true, true, false, true, false, false, false, false, false, false, false] rfl rfl (by kernel_rfl) (by decide) (fun K hK => ?_)
    refine goes_ Try.func18 (by kernel_rfl) rfl #[.int .i64 a2, .int .i64 0, .int .i64 (IntKind.i64.wrap (64 - (k.length : Int)))] (by rfl) rfl rfl (by simp only [List.map_toArray, List.map_cons, List.map_nil]; rfl) ?_
    with_reducible refine (strongroombook_Within.calls a2 0 (IntKind.i64.wrap (64 - (k.length : Int))) z _ fW.out).mono ?_
    rintro e w26 ⟨rfl, ⟨n26, hw26⟩⟩
    refine ⟨_, rfl, ?_⟩
    have hb26 : Below w14.heap.size w14 w26 := by rw [hw26]; exact pw_below_drewN hHeld n26
    have R26 := Aside0.mk (show Kd.R (Kd.int .u8) 5 w26 w14.heap.size (fun _ => True) v25 k by rw [hw26]; exact Kd.R_drewN R25.out n26)
    clear hw26
    refine hK.out _ _ (hb26) (fun hHeld => ?_)
    clear hK K
    refine norm_ (a' := ?_) ?_ ?_
    rotate_left
    · show Act.put _ (some 56) _ = _
      simp only [Act.put, List.setIfInBounds_toArray, List.set_cons_zero, List.set_cons_succ]
      rfl
    refine one_ (i := 10) (N := some 57) #[true, true, true, true, true, true, true, true, true, true, true, true, false, false, false, false, false, false, false] rfl rfl (by kernel_rfl) (by decide) (fun K hK => ?_)
    refine Kd.R_append_zeros_step (Kd.int .u8) (w0 := w14) w14.heap.size (by rfl) (.tmp 51) (.tmp 56) 22 3 5 (.int .u8 0) 1 rfl Try.underlying22 Try.underlying3 Pol.info_u8 rfl (by decide) (by omega) v25 k 0 (z : Int) (fun _ => True) rfl rfl rfl ?aF ?aO (Int.natCast_nonneg _) ?aB ?aS ?aL ?_
    (case aF => exact fun _ _ => trivial)
    (case aO => exact R26.out)
    (case aB => exact hHeld)
    (case aS => exact hHeld.size)
    (case aL => have := fZ.out.2.1; rw [Int.toNat_natCast]; omega)
    intro v27 w27 ho hb _ _
    rw [Int.toNat_natCast] at ho
    obtain ⟨y, hy⟩ : ∃ y, y = k ++ List.replicate z (0 : Int) := ⟨_, rfl⟩
    rw [← hy] at ho
    have FY := Aside0.mk (show kdf_Mac.f y b = some m by rw [hy]; exact fZ.out.2.2)
    clear hy
    obtain ⟨Ay, cy, rfl, hcy, hCy⟩ := Kd.R_reads ho
    have CY := Aside0.mk (And.intro hCy hcy)
    clear ho hcy hCy
    refine hK.out _ _ (hb) (fun hHeld => ?_)
    clear hK K
    refine norm_ (a' := ?_) ?_ ?_
    rotate_left
    · show Act.put _ (some 57) _ = _
      simp only [Act.put, List.setIfInBounds_toArray, List.set_cons_zero, List.set_cons_succ]
      rfl
    refine one_ (i := 12) (N := some 59) #[true, true, true, true, true, true, true, true, true, true, true, true, true, false, false, false, false, false, false] rfl rfl (by kernel_rfl) (by decide) (fun K hK => ?_)
    refine goes_ Try.func14 (by kernel_rfl) rfl #[.slice Ay y.length cy, .slice A1 b.length c1] (by rfl) rfl rfl (by simp only [List.map_toArray, List.map_cons, List.map_nil]; rfl) ?_
    with_reducible refine (kdf_Mac.calls Ay cy y A1 c1 b m _ CY.out.1 CY.out.2 (Kd.C_below E1.out hHeld) D1.out.2 FY.out).mono ?_
    rintro e w28 ⟨v28, rfl, hR6, hB6⟩
    refine ⟨_, rfl, ?_⟩
    obtain ⟨An, cn, rfl, hcn, hCn⟩ := Kd.R_reads hR6
    have CN := Aside0.mk hCn
    have hb6 := below_step hHeld hB6
    clear hR6 hB6 hcn hCn
    refine hK.out _ _ (hb6) (fun hHeld => ?_)
    clear hK K
    refine norm_ (a' := ?_) ?_ ?_
    rotate_left
    · show Act.put _ (some 59) _ = _
      simp only [Act.put, List.setIfInBounds_toArray, List.set_cons_zero, List.set_cons_succ]
      rfl
    refine one_ (i := 13) (N := some 60) #[true, true, true, true, true, true, true, true, true, true, true, true, true, true, false, false, false, false, false] rfl rfl (by kernel_rfl) (by decide) (fun K hK => ?_)
    have q6 := Kd.C_string (P := Try.prog) (c := cn) Try.underlying22 Try.underlying5 Try.underlying9 CN.out
    refine value_ (w1 := ?_) (v := ?_) (by rfl) rfl ?_ ?_
    rotate_left 2
    · go_simp
      constructor
      · rfl
      · rfl
    clear q6
    refine hK.out _ _ (hHeld) (fun hHeld => ?_)
    clear hK K
    refine norm_ (a' := ?_) ?_ ?_
    rotate_left
    · show Act.put _ (some 60) _ = _
      simp only [Act.put, List.setIfInBounds_toArray, List.set_cons_zero, List.set_cons_succ]
      rfl
    refine pure_ (i := 14) (N := some 61) (v := ?_) (a' := ?_) #[true, true, true, true, true, true, true, true, true, true, true, true, true, true, true, false, false, false, false] rfl rfl (by kernel_rfl) (fun _ _ _ h => h) (Or.inl ⟨by rfl, ?_⟩) ?_ ?_
    rotate_left
    · intro w'
      go_simp
      with_reducible rfl
    rotate_left
    · simp only [Act.put, List.setIfInBounds_toArray, List.set_cons_zero, List.set_cons_succ]
      rfl
    refine pure_ (i := 15) (N := some 62) (v := ?_) (a' := ?_) #[true, true, true, true, true, true, true, true, true, true, true, true, true, true, true, true, false, false, false] rfl rfl (by kernel_rfl) (fun _ _ _ h => h) (Or.inl ⟨by rfl, ?_⟩) ?_ ?_
    rotate_left
    · intro w'
      go_simp
      with_reducible rfl
    rotate_left
    · simp only [Act.put, List.setIfInBounds_toArray, List.set_cons_zero, List.set_cons_succ]
      rfl
    refine last_ (i := 16) (N := some 63) #[true, true, true, true, true, true, true, true, true, true, true, true, true, true, true, true, true, false, false] rfl rfl (by kernel_rfl) (by decide) (fun K hK => ?_)
    refine goes_ Try.func17 (by kernel_rfl) rfl #[] (by rfl) rfl rfl (by simp only [List.map_toArray, List.map_nil]) ?_
    with_reducible refine (strongroomlaw6_known.calls true _ rfl).mono ?_
    rintro e w16 ⟨rfl, hB16⟩
    refine ⟨_, rfl, ?_⟩
    have B9 := Aside0.mk (show Below w.heap.size w w16 from below_step (below_step B4.out hHeld) hB16)
    clear hB16
    refine hK.out _ _ ?_
    clear hK K
    refine norm_ (a' := ?_) ?_ ?_
    rotate_left
    · show Act.put _ (some 63) _ = _
      simp only [Act.put, List.setIfInBounds_toArray, List.set_cons_zero, List.set_cons_succ]
      rfl
    refine pure_ (i := 17) (N := some 64) (v := ?_) (a' := ?_) #[true, true, true, true, true, true, true, true, true, true, true, true, true, true, true, true, true, true, false] rfl rfl (by kernel_rfl) (fun _ _ _ h => h) (Or.inl ⟨by rfl, ?_⟩) ?_ ?_
    rotate_left
    · intro w'
      go_simp
      with_reducible rfl
    rotate_left
    · simp only [Act.put, List.setIfInBounds_toArray, List.set_cons_zero, List.set_cons_succ]
      rfl
    refine pure_ (i := 18) (N := some 6) (v := ?_) (a' := ?_) #[true, true, true, true, true, true, true, true, true, true, true, true, true, true, true, true, true, true, true] rfl rfl (by kernel_rfl) (fun _ _ _ h => h) (Or.inl ⟨by rfl, ?_⟩) ?_ ?_
    rotate_left
    · intro w'
      go_simp
      with_reducible rfl
    rotate_left
    · simp only [Act.put, List.setIfInBounds_toArray, List.set_cons_zero, List.set_cons_succ]
      rfl
    refine done_ (by kernel_rfl) ?_
    go_wp2_with fail
    go_ret
    exact ⟨rfl, B9.out⟩
end Go.Proofs.Ythahhjkokdillaa
