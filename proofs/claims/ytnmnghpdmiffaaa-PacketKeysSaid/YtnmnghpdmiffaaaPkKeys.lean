/-
  PacketKeys, walked.
-/
import Derived.Test.YtnmnghpdmiffaaaPkP
namespace Go.Proofs.Ytnmnghpdmiffaaa.Pk
open Go.RowKit Go.Proofs.YtnmnghpdmiffaaaW.PrintWords Go.Proofs.YtnmnghpdmiffaaaW.PrintLast Go.Proofs.YtnmnghpdmiffaaaW.PrintMore Go.Proofs.Ytnmnghpdmiffaaa.Arr
set_option linter.unusedVariables false
set_option maxHeartbeats 8000000
set_option maxRecDepth 100000
theorem rows_at {u : World} {A : Option Addr} {n : Nat} {ts : List Tri} {ls : List (List Int)} (hC : KdS.C u A n ts) (hH : HoldsL u ts ls) (i : Nat) (hi : i < ls.length) :
    ∃ ad Ai ci, A = some ad ∧ (∀ W, Below u.heap.size u W → W.cell? (ad.add i) = some (.slice Ai (ls.getD i []).length ci)) ∧ (∀ W, Below u.heap.size u W → (Kd.int .u8).C W Ai (ls.getD i []).length (ls.getD i [])) ∧ (ls.getD i []).length ≤ ci := by
  obtain ⟨e1, _, h3⟩ := Kd.reads_of_C (enc := encS) (d := noS) (h1 := fun _ => rfl) hC
  have hl : ts.length = ls.length := hH.1
  obtain ⟨ad, e, hc⟩ := h3 (by omega)
  have hcell := hc i (by omega)
  obtain ⟨f1, f2, f3⟩ := hH.2 i hi
  obtain ⟨⟨Ai, ni, ci⟩, hx⟩ : ∃ x, ts.getD i noS = x := ⟨_, rfl⟩
  rw [hx] at hcell f1 f2 f3
  change ni = (ls.getD i []).length at f1
  subst f1
  exact ⟨ad, Ai, ci, e, fun W hW => cell_kept hcell hW, fun W hW => Kd.C_below f2 hW, f3⟩
theorem packetKeys_calls (La : Option Addr) (n cl : Nat) (xs : List (List Int)) (A1 : Option Addr) (c1 : Nat) (l1 : List Int) (Ab : Option Addr) (nb cb : Nat) (w : World)
    (hA : ArgL w La n xs) (hn : n ≤ cl) (hbx : ∀ x ∈ xs, ∀ z ∈ x, 0 ≤ z ∧ z < 256) (hr1 : Kd.C (Kd.int .u8) w A1 l1.length l1) (hc1 : l1.length ≤ c1)
    (hbb : ∀ i, i < nb → ∃ (a : Addr) (b : Bool), Ab = some a ∧ w.cell? (a.add i) = some (.bool b)) :
    Calls Try.prog 9 #[.slice La n cl, .slice A1 l1.length c1, .slice Ab nb cb] w fun e w' => e = .returned (.bool true) ∧ Below w.heap.size w w' := by
  have HA := Aside0.mk hA
  have HN := Aside0.mk hn
  have HBX := Aside0.mk hbx
  have HK1 := Aside0.mk (And.intro hr1 hc1)
  have HBB := Aside0.mk hbb
  clear hA hn hbx hr1 hc1 hbb
  go_enter Try.func9, Try.ntmps9
  go_wp2_with fail
  refine (payloads_calls La n cl xs w HA.out HN.out).mono ?_
  rintro e u ⟨v, ts, rfl, hR, hH, hB⟩
  obtain ⟨Ap, cp, rfl, _, hCp⟩ := Kd.R_reads hR
  obtain ⟨ps, hps⟩ : ∃ ps, ps = payS xs (min n 12) := ⟨_, rfl⟩
  rw [← hps] at hH
  have HPM := Aside0.mk (show ∀ x ∈ ps, 1 ≤ x.length ∧ x.length ≤ 200 ∧ ∀ z ∈ x, 0 ≤ z ∧ z < 256 by rw [hps]; exact mem_payS xs HBX.out _)
  have LP := Aside0.mk (show ps.length ≤ 12 by rw [hps]; have := len_payS xs (min n 12); omega)
  have HH := Aside0.mk (hH.below hB)
  have B1 := Aside0.mk hB
  obtain ⟨m, hm⟩ : ∃ m, m = ts.length := ⟨_, rfl⟩
  rw [← hm] at hCp ⊢
  have HM := Aside0.mk (show m = ps.length by rw [hm]; exact hH.1)
  have CP := Aside0.mk hCp
  have CK := Aside0.mk (And.intro (Kd.C_below HK1.out.1 hB) HK1.out.2)
  have HBU := Aside0.mk (fun (i : Nat) (hi : i < nb) => show ∃ (a : Addr) (b : Bool), Ab = some a ∧ (∀ W, Below u.heap.size u W → W.cell? (a.add i) = some (.bool b)) by
    obtain ⟨a, b, e, h⟩ := HBB.out i hi
    exact ⟨a, b, e, fun W hW => cell_kept h (below_step hB hW)⟩)
  have f30 := Aside0.mk (show strongroomkeep_CutR.f l1 30 = some (l1.take 30) from cut_some l1 30)
  clear hR hH hB hCp hps hm HBB HA HN HBX HK1
  go_wp2_with fail
  refine (two_new u).mono ?_
  rintro e w3 ⟨g, rfl, hnext⟩
  have HNX := Aside0.mk hnext
  clear hnext
  go_wp2_with fail
  refine HNX.out.mono ?_
  rintro e w4 ⟨h, rfl, hT⟩
  have T4 := Aside0.mk hT
  clear hT HNX
  go_wp2_with fail
  go_loopw [10] (fun v w' => ∃ i : Nat, i ≤ m ∧ v = .int .i64 (i : Int) ∧ Aside0 (∃ vo k vk vb, Two u w' g h vo k (i : Int) vk vb k (i : Int) [] 0 ∧ ∀ k', k = some k' → k'.length = 32)) (fun v _ => m - (intOf v).toNat)
  case atStart => exact ⟨0, by omega, rfl, ⟨_, none, _, _, T4.out, fun k' h => by cases h⟩⟩
  case round =>
    obtain ⟨i, hi, rfl, HT⟩ := hrel
    by_cases him : i < m
    · have i0 : (i : Int) < (m : Int) := by omega
      have k3 : wrap64 ((i : Int) + 1) = (i : Int) + 1 := by have := LP.out; have := HM.out; rw [wrap_id (by omega) (by omega)]
      have K3 := Aside0.mk k3
      have HI := Aside0.mk him
      clear him hi
      obtain ⟨vo, k, vk, vb, hT, hk⟩ := HT.out
      have T := Aside0.mk hT
      have HK := Aside0.mk hk
      clear hT hk HT
      by_cases hat : i < nb
      · obtain ⟨ab, bt, rfl, hcell⟩ := HBU.out i hat
        have x1 := hcell wr T.out.below
        have i1 : (i : Int) < (nb : Int) := by omega
        have HAT := Aside0.mk hat
        clear hat hcell
        cases bt with
        | false =>
          go_upto_region 13 with fail
          clear x1 i1
          obtain ⟨ad, Ai, ci, rfl, hcell, hC, hci⟩ := rows_at CP.out HH.out i (by have := HI.out; have := HM.out; omega)
          obtain ⟨x, hx⟩ : ∃ x, x = ps.getD i [] := ⟨_, rfl⟩
          rw [← hx] at hcell hC hci
          have hmem : x ∈ ps := by
            rw [hx, List.getD_eq_getElem?_getD, List.getElem?_eq_getElem (by have := HI.out; have := HM.out; omega)]
            exact List.getElem_mem _
          have HX := Aside0.mk (HPM.out x hmem)
          obtain ⟨L, hL⟩ : ∃ L, L = x.length := ⟨_, rfl⟩
          rw [← hL] at hcell
          have HL := Aside0.mk hL
          have HCE := Aside0.mk hcell
          have HCX := Aside0.mk (And.intro hC hci)
          have x1 := HCE.out wr T.out.below
          have i0m : i < m := HI.out
          clear hcell hC hci hx hmem hL
          go_wp2_with fail
          have hpc := two_packet T.out (by have := HI.out; have := HM.out; have := LP.out; omega) (A := Ai) (c := ci) (b := x) (HCX.out.1 wr T.out.below) HCX.out.2 HX.out.1 (by have := HX.out.2.1; omega)
          rw [← HL.out] at hpc
          refine hpc.mono ?_
          rintro e y1 ⟨vx, rfl, hR, hT, _⟩
          clear hpc x1
          have Y1 := Aside0.mk hT
          obtain ⟨P, hP⟩ : ∃ P, P = packetF k (i : Int) x := ⟨_, rfl⟩
          rw [← hP] at hR
          have LPP := Aside0.mk (show P.length ≤ 300 by
            have h1 := len_packetF k (i : Int) x HK.out
            have h2 := padN_ge (headN k) x.length
            have h3 := HX.out.2.1
            have h4 : tagN k ≤ 16 := by cases (k : Option (List Int)) <;> simp [tagN]
            rw [hP, h1]
            omega)
          obtain ⟨Ax, cx, rfl, _, hCx⟩ := Kd.R_reads hR
          obtain ⟨M, hM⟩ : ∃ M, M = P.length := ⟨_, rfl⟩
          rw [← hM] at hCx LPP ⊢
          have CX := Aside0.mk hCx
          have HP := Aside0.mk hP
          have HMP := Aside0.mk hM
          clear hR hT hCx hP hM
          go_wp2_with fail
          refine (two_feed Y1.out (c := cx) CX.out (by have := LPP.out; simp; omega)).mono ?_
          rintro e y2 ⟨rfl, vf, hT, _, _⟩
          rw [List.nil_append] at hT
          have Y2 := Aside0.mk hT
          clear hT
          have EN := Aside0.mk (next_whole k (i : Int) x [] HK.out HX.out.2.2 HX.out.1 (by have := HX.out.2.1; omega))
          rw [← HP.out, List.append_nil] at EN
          go_wp2_with fail
          refine (two_next Y2.out (by have := HI.out; have := HM.out; have := LP.out; omega) (fun z hz => by rw [HP.out] at hz; exact bytes_packetF HK.out HX.out.2.2 z hz) (by rw [← HMP.out]; have := LPP.out; omega) EN.out).mono ?_
          rintro e y3 ⟨v7, vb7, rfl, hR, hT, _, _⟩
          have Y3 := Aside0.mk hT
          obtain ⟨A9, c9, rfl, _, hC9⟩ := Kd.R_reads hR
          rw [← HL.out] at hC9 ⊢
          have C9 := Aside0.mk hC9
          obtain ⟨str, hstr⟩ : ∃ z, z = strOfNums x := ⟨_, rfl⟩
          have Q0 := Aside0.mk (fun (W : World) (hW : Below y3.heap.size y3 W) => HCE.out W (below_step Y3.out.below hW))
          have Q1 := Aside0.mk (fun (W : World) (hW : Below y3.heap.size y3 W) => show (convert 23 9 (.slice A9 L c9)).run Try.prog W = .ok (.string str) W by
            have hh := Kd.C_string (P := Try.prog) (c := c9) Try.underlying23 Try.underlying5 Try.underlying9 (show (Kd.int .u8).C W A9 x.length x by rw [← HL.out]; exact Kd.C_below C9.out hW)
            rw [← HL.out] at hh
            rw [hstr]
            exact hh)
          have Q2 := Aside0.mk (fun (W : World) (hW : Below y3.heap.size y3 W) => show (convert 23 9 (.slice Ai L ci)).run Try.prog W = .ok (.string str) W by
            have hh := Kd.C_string (P := Try.prog) (c := ci) Try.underlying23 Try.underlying5 Try.underlying9 (HCX.out.1 W (below_step Y3.out.below hW))
            rw [← HL.out] at hh
            rw [hstr]
            exact hh)
          clear hR hT hC9 hstr
          go_upto_region 16 with fail
          change Code.wp _ _ _ _ y3
          refine start_ (n := 25) (S := fun w' => Below y3.heap.size y3 w') (ds := []) #[false, false, false, false, false, false, false, false, false, false, false, false, false, false, false, false, false, false, false, false, false, false, false, false, false] (by kernel_rfl) rfl rfl ((below_drew1 (Below.refl y3.heap.size y3))) (fun hHeld => ?_)
          refine pure_ (i := 0) (N := some 78) (v := ?_) (a' := ?_) #[true, false, false, false, false, false, false, false, false, false, false, false, false, false, false, false, false, false, false, false, false, false, false, false, false] rfl rfl (by kernel_rfl) (fun _ _ _ h => h) (Or.inl ⟨by rfl, ?_⟩) ?_ ?_
          rotate_left
          · intro w'
            go_simp
            with_reducible rfl
          rotate_left
          · simp only [Act.put, List.setIfInBounds_toArray, List.set_cons_zero, List.set_cons_succ]
            rfl
          refine pure_ (i := 1) (N := some 79) (v := ?_) (a' := ?_) #[true, true, false, false, false, false, false, false, false, false, false, false, false, false, false, false, false, false, false, false, false, false, false, false, false] rfl rfl (by kernel_rfl) (fun _ _ _ h => h) (Or.inl ⟨by rfl, ?_⟩) ?_ ?_
          rotate_left
          · intro w'
            go_simp
            with_reducible rfl
          rotate_left
          · simp only [Act.put, List.setIfInBounds_toArray, List.set_cons_zero, List.set_cons_succ]
            rfl
          refine pure_ (i := 2) (N := some 80) (v := ?_) (a' := ?_) #[true, true, true, false, false, false, false, false, false, false, false, false, false, false, false, false, false, false, false, false, false, false, false, false, false] rfl rfl (by kernel_rfl) (fun _ _ _ h => h) (Or.inl ⟨by rfl, ?_⟩) ?_ ?_
          rotate_left
          · intro w'
            go_simp
            with_reducible rfl
          rotate_left
          · simp only [Act.put, List.setIfInBounds_toArray, List.set_cons_zero, List.set_cons_succ]
            rfl
          refine pure_ (i := 3) (N := some 81) (v := ?_) (a' := ?_) #[true, true, true, true, false, false, false, false, false, false, false, false, false, false, false, false, false, false, false, false, false, false, false, false, false] rfl rfl (by kernel_rfl) (fun _ _ _ h => h) (Or.inl ⟨by rfl, ?_⟩) ?_ ?_
          rotate_left
          · intro w'
            go_simp
            with_reducible rfl
          rotate_left
          · simp only [Act.put, List.setIfInBounds_toArray, List.set_cons_zero, List.set_cons_succ]
            rfl
          refine pure_ (i := 4) (N := some 82) (v := ?_) (a' := ?_) #[true, true, true, true, true, false, false, false, false, false, false, false, false, false, false, false, false, false, false, false, false, false, false, false, false] rfl rfl (by kernel_rfl) (fun _ _ _ h => h) (Or.inl ⟨by rfl, ?_⟩) ?_ ?_
          rotate_left
          · intro w'
            go_simp
            with_reducible rfl
          rotate_left
          · simp only [Act.put, List.setIfInBounds_toArray, List.set_cons_zero, List.set_cons_succ]
            rfl
          refine pure_ (i := 5) (N := some 83) (v := ?_) (a' := ?_) #[true, true, true, true, true, true, false, false, false, false, false, false, false, false, false, false, false, false, false, false, false, false, false, false, false] rfl rfl (by kernel_rfl) (fun _ _ _ h => h) (Or.inl ⟨by rfl, ?_⟩) ?_ ?_
          rotate_left
          · intro w'
            go_simp
            with_reducible rfl
          rotate_left
          · simp only [Act.put, List.setIfInBounds_toArray, List.set_cons_zero, List.set_cons_succ]
            rfl
          refine pure_ (i := 6) (N := some 84) (v := ?_) (a' := ?_) #[true, true, true, true, true, true, true, false, false, false, false, false, false, false, false, false, false, false, false, false, false, false, false, false, false] rfl rfl (by kernel_rfl) (fun _ _ _ h => h) (Or.inl ⟨by rfl, ?_⟩) ?_ ?_
          rotate_left
          · intro w'
            go_simp
            with_reducible rfl
          rotate_left
          · simp only [Act.put, List.setIfInBounds_toArray, List.set_cons_zero, List.set_cons_succ]
            rfl
          refine pure_ (i := 7) (N := some 85) (v := ?_) (a' := ?_) #[true, true, true, true, true, true, true, true, false, false, false, false, false, false, false, false, false, false, false, false, false, false, false, false, false] rfl rfl (by kernel_rfl) (fun _ _ _ h => h) (Or.inl ⟨by rfl, ?_⟩) ?_ ?_
          rotate_left
          · intro w'
            go_simp
            with_reducible rfl
          rotate_left
          · simp only [Act.put, List.setIfInBounds_toArray, List.set_cons_zero, List.set_cons_succ]
            rfl
          refine pure_ (i := 8) (N := some 86) (v := ?_) (a' := ?_) #[true, true, true, true, true, true, true, true, true, false, false, false, false, false, false, false, false, false, false, false, false, false, false, false, false] rfl rfl (by kernel_rfl) (fun _ _ _ h => h) (Or.inl ⟨by rfl, ?_⟩) ?_ ?_
          rotate_left
          · intro w'
            go_simp
            with_reducible rfl
          rotate_left
          · simp only [Act.put, List.setIfInBounds_toArray, List.set_cons_zero, List.set_cons_succ]
            rfl
          refine pure_ (i := 9) (N := some 87) (v := ?_) (a' := ?_) #[true, true, true, true, true, true, true, true, true, true, false, false, false, false, false, false, false, false, false, false, false, false, false, false, false] rfl rfl (by kernel_rfl) (fun _ _ _ h => h) (Or.inl ⟨by rfl, ?_⟩) ?_ ?_
          rotate_left
          · intro w'
            go_simp
            with_reducible rfl
          rotate_left
          · simp only [Act.put, List.setIfInBounds_toArray, List.set_cons_zero, List.set_cons_succ]
            rfl
          refine pure_ (i := 10) (N := some 88) (v := ?_) (a' := ?_) #[true, true, true, true, true, true, true, true, true, true, true, false, false, false, false, false, false, false, false, false, false, false, false, false, false] rfl rfl (by kernel_rfl) (fun _ _ _ h => h) (Or.inl ⟨by rfl, ?_⟩) ?_ ?_
          rotate_left
          · intro w'
            go_simp
            with_reducible rfl
          rotate_left
          · simp only [Act.put, List.setIfInBounds_toArray, List.set_cons_zero, List.set_cons_succ]
            rfl
          refine pure_ (i := 11) (N := some 89) (v := ?_) (a' := ?_) #[true, true, true, true, true, true, true, true, true, true, true, true, false, false, false, false, false, false, false, false, false, false, false, false, false] rfl rfl (by kernel_rfl) (fun _ _ _ h => h) (Or.inl ⟨by rfl, ?_⟩) ?_ ?_
          rotate_left
          · intro w'
            go_simp
            with_reducible rfl
          rotate_left
          · simp only [Act.put, List.setIfInBounds_toArray, List.set_cons_zero, List.set_cons_succ]
            rfl
          refine pure_ (i := 13) (N := some 91) (v := ?_) (a' := ?_) #[true, true, true, true, true, true, true, true, true, true, true, true, false, true, false, false, false, false, false, false, false, false, false, false, false] rfl rfl (by kernel_rfl) (fun _ _ _ h => h) (Or.inl ⟨by rfl, ?_⟩) ?_ ?_
          rotate_left
          · intro w'
            go_simp
            with_reducible rfl
          rotate_left
          · simp only [Act.put, List.setIfInBounds_toArray, List.set_cons_zero, List.set_cons_succ]
            rfl
          refine pure_ (i := 14) (N := some 92) (v := ?_) (a' := ?_) #[true, true, true, true, true, true, true, true, true, true, true, true, false, true, true, false, false, false, false, false, false, false, false, false, false] rfl rfl (by kernel_rfl) (fun _ _ _ h => h) (Or.inl ⟨by rfl, ?_⟩) ?_ ?_
          rotate_left
          · intro w'
            go_simp
            with_reducible rfl
          rotate_left
          · simp only [Act.put, List.setIfInBounds_toArray, List.set_cons_zero, List.set_cons_succ]
            rfl
          refine pure_ (i := 15) (N := some 93) (v := ?_) (a' := ?_) #[true, true, true, true, true, true, true, true, true, true, true, true, false, true, true, true, false, false, false, false, false, false, false, false, false] rfl rfl (by kernel_rfl) (fun _ _ _ h => h) (Or.inl ⟨by rfl, ?_⟩) ?_ ?_
          rotate_left
          · intro w'
            go_simp
            with_reducible rfl
          rotate_left
          · simp only [Act.put, List.setIfInBounds_toArray, List.set_cons_zero, List.set_cons_succ]
            rfl
          refine take_ (i := 12) (N := some 90) (v := ?_) (a' := ?_) #[true, true, true, true, true, true, true, true, true, true, true, true, true, true, true, true, false, false, false, false, false, false, false, false, false] rfl rfl (by kernel_rfl) (fun _ _ _ h => h) (Or.inl ⟨by rfl, ?_⟩) hHeld ?_ ?_
          rotate_left
          · intro w' s0
            have q0_ := Q0.out w' s0
            have q1_ := Q1.out w' s0
            have q2_ := Q2.out w' s0
            go_simp
            with_reducible rfl
          rotate_left
          · simp only [Act.put, List.setIfInBounds_toArray, List.set_cons_zero, List.set_cons_succ]
            rfl
          refine take_ (i := 16) (N := some 94) (v := ?_) (a' := ?_) #[true, true, true, true, true, true, true, true, true, true, true, true, true, true, true, true, true, false, false, false, false, false, false, false, false] rfl rfl (by kernel_rfl) (fun _ _ _ h => h) (Or.inl ⟨by rfl, ?_⟩) hHeld ?_ ?_
          rotate_left
          · intro w' s0
            have q0_ := Q0.out w' s0
            have q1_ := Q1.out w' s0
            have q2_ := Q2.out w' s0
            go_simp
            with_reducible rfl
          rotate_left
          · simp only [Act.put, List.setIfInBounds_toArray, List.set_cons_zero, List.set_cons_succ]
            rfl
          refine take_ (i := 17) (N := some 95) (v := ?_) (a' := ?_) #[true, true, true, true, true, true, true, true, true, true, true, true, true, true, true, true, true, true, false, false, false, false, false, false, false] rfl rfl (by kernel_rfl) (fun _ _ _ h => h) (Or.inl ⟨by rfl, ?_⟩) hHeld ?_ ?_
          rotate_left
          · intro w' s0
            have q0_ := Q0.out w' s0
            have q1_ := Q1.out w' s0
            have q2_ := Q2.out w' s0
            go_simp
            with_reducible rfl
          rotate_left
          · simp only [Act.put, List.setIfInBounds_toArray, List.set_cons_zero, List.set_cons_succ]
            rfl
          refine pure_ (i := 18) (N := some 96) (v := ?_) (a' := ?_) #[true, true, true, true, true, true, true, true, true, true, true, true, true, true, true, true, true, true, true, false, false, false, false, false, false] rfl rfl (by kernel_rfl) (fun _ _ _ h => h) (Or.inl ⟨by rfl, ?_⟩) ?_ ?_
          rotate_left
          · intro w'
            go_simp
            with_reducible rfl
          rotate_left
          · simp only [Act.put, List.setIfInBounds_toArray, List.set_cons_zero, List.set_cons_succ]
            rfl
          refine pure_ (i := 19) (N := some 97) (v := ?_) (a' := ?_) #[true, true, true, true, true, true, true, true, true, true, true, true, true, true, true, true, true, true, true, true, false, false, false, false, false] rfl rfl (by kernel_rfl) (fun _ _ _ h => h) (Or.inl ⟨by rfl, ?_⟩) ?_ ?_
          rotate_left
          · intro w'
            go_simp
            with_reducible rfl
          rotate_left
          · simp only [Act.put, List.setIfInBounds_toArray, List.set_cons_zero, List.set_cons_succ]
            rfl
          refine pure_ (i := 20) (N := some 98) (v := ?_) (a' := ?_) #[true, true, true, true, true, true, true, true, true, true, true, true, true, true, true, true, true, true, true, true, true, false, false, false, false] rfl rfl (by kernel_rfl) (fun _ _ _ h => h) (Or.inl ⟨by rfl, ?_⟩) ?_ ?_
          rotate_left
          · intro w'
            go_simp
            with_reducible rfl
          rotate_left
          · simp only [Act.put, List.setIfInBounds_toArray, List.set_cons_zero, List.set_cons_succ]
            rfl
          refine pure_ (i := 21) (N := some 99) (v := ?_) (a' := ?_) #[true, true, true, true, true, true, true, true, true, true, true, true, true, true, true, true, true, true, true, true, true, true, false, false, false] rfl rfl (by kernel_rfl) (fun _ _ _ h => h) (Or.inl ⟨by rfl, ?_⟩) ?_ ?_
          rotate_left
          · intro w'
            go_simp
            with_reducible rfl
          rotate_left
          · simp only [Act.put, List.setIfInBounds_toArray, List.set_cons_zero, List.set_cons_succ]
            rfl
          refine one_ (i := 22) (N := some 100) #[true, true, true, true, true, true, true, true, true, true, true, true, true, true, true, true, true, true, true, true, true, true, true, false, false] rfl rfl (by kernel_rfl) (by decide) (fun K hK => ?_)
          refine goes_ Try.func30 (by kernel_rfl) rfl #[.pointer (some ⟨h, 0, none⟩)] (by rfl) rfl rfl (by simp only [List.map_toArray, List.map_cons, List.map_nil]; rfl) ?_
          with_reducible refine ((two_held (Y3.out.fr hHeld))).mono ?_
          rintro e w3 ⟨rfl, rfl⟩
          refine ⟨_, rfl, ?_⟩
          refine hK.out _ _ (hHeld) (fun hHeld => ?_)
          clear hK K
          refine norm_ (a' := ?_) ?_ ?_
          rotate_left
          · show Act.put _ (some 100) _ = _
            simp only [Act.put, List.setIfInBounds_toArray, List.set_cons_zero, List.set_cons_succ]
            rfl
          refine pure_ (i := 23) (N := some 101) (v := ?_) (a' := ?_) #[true, true, true, true, true, true, true, true, true, true, true, true, true, true, true, true, true, true, true, true, true, true, true, true, false] rfl rfl (by kernel_rfl) (fun _ _ _ h => h) (Or.inl ⟨by rfl, ?_⟩) ?_ ?_
          rotate_left
          · intro w'
            go_simp
            with_reducible rfl
          rotate_left
          · simp only [Act.put, List.setIfInBounds_toArray, List.set_cons_zero, List.set_cons_succ]
            rfl
          refine pure_ (i := 24) (N := some 102) (v := ?_) (a' := ?_) #[true, true, true, true, true, true, true, true, true, true, true, true, true, true, true, true, true, true, true, true, true, true, true, true, true] rfl rfl (by kernel_rfl) (fun _ _ _ h => h) (Or.inl ⟨by rfl, ?_⟩) ?_ ?_
          rotate_left
          · intro w'
            go_simp
            with_reducible rfl
          rotate_left
          · simp only [Act.put, List.setIfInBounds_toArray, List.set_cons_zero, List.set_cons_succ]
            rfl
          refine done_ (by kernel_rfl) ?_

          have YZ := Aside0.mk (Y3.out.fr hHeld)
          clear hHeld
          go_wp2_with fail
          refine ⟨⟨i + 1, HI.out, by rw [K3.out]; rfl, ⟨_, k, _, _, YZ.out, HK.out⟩⟩, ?_⟩
          rw [K3.out]
          simp only [intOf]
          have := HI.out
          omega
        | true =>
          have BI := Aside0.mk (show Below wr.heap.size wr (wr.alloc (.cells #[.int .u8 (IntKind.u8.wrap (i : Int))] 5)) from (Below.refl _ _).alloc (Nat.le_refl _) _)
          have k8 : IntKind.u8.wrap (i : Int) = (i : Int) % 256 := by simp [IntKind.wrap, IntKind.bits, IntKind.signed]
          rw [k8] at BI
          go_wp2_with fail
          change Calls _ _ _ (wr.alloc (.cells (nums .u8 [(i : Int) % 256]).toArray 5)) _
          have TB := Aside0.mk (show Two u (wr.alloc (.cells (nums .u8 [(i : Int) % 256]).toArray 5)) g h vo k (i : Int) vk vb k (i : Int) [] 0 from T.out.fr BI.out)
          have RL := Aside0.mk (lit_R wr wr.heap.size wr.heap.size 5 .u8 [(i : Int) % 256] 1 rfl (Nat.le_refl _) rfl (by decide))
          have BL := Aside0.mk (show Below wr.heap.size wr (wr.alloc (.cells (nums .u8 [(i : Int) % 256]).toArray 5)) from BI.out)
          have hws : u.heap.size ≤ wr.heap.size := T.out.size
          have HWS := Aside0.mk hws
          clear BI k8 hws x1
          refine (strongroomkeep_CutR.calls A1 c1 l1 30 (l1.take 30) _ (Kd.C_below CK.out.1 TB.out.below) CK.out.2 f30.out).mono ?_
          rintro e w5 ⟨rfl, ⟨n5, rfl⟩⟩
          have TC := Aside0.mk (TB.out.fr (pw_below_drewN (Below.refl _ _) n5))
          have RL5 := Aside0.mk (Kd.R_drewN RL.out n5)
          have BL5 := Aside0.mk (pw_below_drewN BL.out n5)
          obtain ⟨kt, hkt⟩ : ∃ kt, kt = l1.take 30 := ⟨_, rfl⟩
          have HKT := Aside0.mk (show kt.length ≤ 30 by rw [hkt, List.length_take]; omega)
          have CKT := Aside0.mk (show (Kd.int .u8).C ((wr.alloc (.cells (nums .u8 [(i : Int) % 256]).toArray 5)).drewN n5) A1 kt.length kt by
            rw [hkt]
            exact Kd.C_below (cutR_C CK.out.1 CK.out.2 f30.out) TC.out.below)
          rw [← hkt]
          clear hkt TB RL BL
          generalize (wr.alloc (.cells (nums .u8 [(i : Int) % 256]).toArray 5)).drewN n5 = w5 at TC RL5 BL5 CKT ⊢
          obtain ⟨lk, hlk⟩ : ∃ lk, lk = kt.length := ⟨_, rfl⟩
          rw [← hlk] at HKT CKT ⊢
          clear hlk
          go_wp2_with ((with_reducible refine gate_builtin (b := .append) (xs := #[.tmp 45, .tmp 47]) rfl ?_); at_builtin; (refine Kd.R_append_row (w0 := wr) (Value.int .u8) (0 : Int) (h1 := fun _ => rfl) wr.heap.size rfl (.tmp 45) (.tmp 47) 23 5 (.int .u8 0) 1 rfl Try.underlying23 Pol.info_u8 rfl Nat.one_pos (.slice (some ⟨wr.heap.size, 0, none⟩) 1 1) [(i : Int) % 256] kt A1 lk c1 (fun _ => True) rfl rfl (fun _ _ => trivial) ?q1 ?q2 ?q3 ?q4 ?q5 ?_; (case q1 => exact RL5.out); (case q2 => exact CKT.out); (case q3 => exact BL5.out); (case q4 => exact BL5.out.size); (case q5 => have := HKT.out; simp; omega); intro v6 w6 hR hB _ _; have R6 := Aside0.mk hR; have B6 := Aside0.mk hB; clear hR hB))
          obtain ⟨kz, hkz⟩ : ∃ kz, kz = [(i : Int) % 256] ++ kt := ⟨_, rfl⟩
          rw [← hkz] at R6
          have LKZ := Aside0.mk (show kz.length ≤ 9223372036854775807 by rw [hkz, List.length_append, Kd.C_len CKT.out]; have := HKT.out; simp; omega)
          obtain ⟨A6, c6, rfl, hc6, hC6⟩ := Kd.R_reads R6.out
          have f32 := sized_some kz 32 (by decide) LKZ.out
          have T6 := Aside0.mk (T.out.fr B6.out)
          clear hkz
          refine (strongroomkeep_Sized.calls A6 c6 kz 32 _ w6 hC6 hc6 f32).mono ?_
          rintro e w7 ⟨v7, rfl, hR, hB⟩
          obtain ⟨kk, hkk⟩ : ∃ kk, kk = sizedF kz 32 := ⟨_, rfl⟩
          rw [← hkk] at hR
          obtain ⟨A7, c7, rfl, hc7, hC7⟩ := Kd.R_reads hR
          have LKK := Aside0.mk (show kk.length = 32 by rw [hkk, len_sizedF])
          rw [LKK.out] at hc7 hC7 ⊢
          have T7 := Aside0.mk (T6.out.fr hB)
          have C7 := Aside0.mk (And.intro hC7 hc7)
          have FAR7 := Aside0.mk (show ∀ ad, A7 = some ad → ad.block ≠ g from fun ad e => by
            have h1 := Kd.R_base hR ad.block (by rw [e]; rfl)
            have h2 := T6.out.o.lt
            omega)
          clear hkk hR hB hc7 hC7 hc6 hC6 f32 R6 B6 T6 LKZ
          go_wp2_with fail
          refine (two_outKeys T7.out C7.out.1 C7.out.2).mono ?_
          rintro e w8 ⟨rfl, vo', hT, hG⟩
          have T8 := Aside0.mk hT
          have C8 := Aside0.mk (And.intro (C_gb C7.out.1 hG (fun ad e _ hk => by
            have h1 := FAR7.out ad e
            omega)) C7.out.2)
          clear hT hG
          go_wp2_with fail
          refine (two_inKeys T8.out C8.out.1 C8.out.2).mono ?_
          rintro e w9 ⟨rfl, vk', hT, _⟩
          have T := Aside0.mk hT
          have HK := Aside0.mk (show ∀ k', some kk = some k' → k'.length = 32 from fun k' h => by cases h; exact LKK.out)
          clear hT
          go_upto_region 13 with fail
          obtain ⟨ad, Ai, ci, rfl, hcell, hC, hci⟩ := rows_at CP.out HH.out i (by have := HI.out; have := HM.out; omega)
          obtain ⟨x, hx⟩ : ∃ x, x = ps.getD i [] := ⟨_, rfl⟩
          rw [← hx] at hcell hC hci
          have hmem : x ∈ ps := by
            rw [hx, List.getD_eq_getElem?_getD, List.getElem?_eq_getElem (by have := HI.out; have := HM.out; omega)]
            exact List.getElem_mem _
          have HX := Aside0.mk (HPM.out x hmem)
          obtain ⟨L, hL⟩ : ∃ L, L = x.length := ⟨_, rfl⟩
          rw [← hL] at hcell
          have HL := Aside0.mk hL
          have HCE := Aside0.mk hcell
          have HCX := Aside0.mk (And.intro hC hci)
          have x1 := HCE.out w9 T.out.below
          have i0m : i < m := HI.out
          clear hcell hC hci hx hmem hL
          go_wp2_with fail
          have hpc := two_packet T.out (by have := HI.out; have := HM.out; have := LP.out; omega) (A := Ai) (c := ci) (b := x) (HCX.out.1 w9 T.out.below) HCX.out.2 HX.out.1 (by have := HX.out.2.1; omega)
          rw [← HL.out] at hpc
          refine hpc.mono ?_
          rintro e y1 ⟨vx, rfl, hR, hT, _⟩
          clear hpc x1
          have Y1 := Aside0.mk hT
          obtain ⟨P, hP⟩ : ∃ P, P = packetF (some kk) (i : Int) x := ⟨_, rfl⟩
          rw [← hP] at hR
          have LPP := Aside0.mk (show P.length ≤ 300 by
            have h1 := len_packetF (some kk) (i : Int) x HK.out
            have h2 := padN_ge (headN (some kk)) x.length
            have h3 := HX.out.2.1
            have h4 : tagN (some kk) ≤ 16 := by cases ((some kk) : Option (List Int)) <;> simp [tagN]
            rw [hP, h1]
            omega)
          obtain ⟨Ax, cx, rfl, _, hCx⟩ := Kd.R_reads hR
          obtain ⟨M, hM⟩ : ∃ M, M = P.length := ⟨_, rfl⟩
          rw [← hM] at hCx LPP ⊢
          have CX := Aside0.mk hCx
          have HP := Aside0.mk hP
          have HMP := Aside0.mk hM
          clear hR hT hCx hP hM
          go_wp2_with fail
          refine (two_feed Y1.out (c := cx) CX.out (by have := LPP.out; simp; omega)).mono ?_
          rintro e y2 ⟨rfl, vf, hT, _, _⟩
          rw [List.nil_append] at hT
          have Y2 := Aside0.mk hT
          clear hT
          have EN := Aside0.mk (next_whole (some kk) (i : Int) x [] HK.out HX.out.2.2 HX.out.1 (by have := HX.out.2.1; omega))
          rw [← HP.out, List.append_nil] at EN
          go_wp2_with fail
          refine (two_next Y2.out (by have := HI.out; have := HM.out; have := LP.out; omega) (fun z hz => by rw [HP.out] at hz; exact bytes_packetF HK.out HX.out.2.2 z hz) (by rw [← HMP.out]; have := LPP.out; omega) EN.out).mono ?_
          rintro e y3 ⟨v7, vb7, rfl, hR, hT, _, _⟩
          have Y3 := Aside0.mk hT
          obtain ⟨A9, c9, rfl, _, hC9⟩ := Kd.R_reads hR
          rw [← HL.out] at hC9 ⊢
          have C9 := Aside0.mk hC9
          obtain ⟨str, hstr⟩ : ∃ z, z = strOfNums x := ⟨_, rfl⟩
          have Q0 := Aside0.mk (fun (W : World) (hW : Below y3.heap.size y3 W) => HCE.out W (below_step Y3.out.below hW))
          have Q1 := Aside0.mk (fun (W : World) (hW : Below y3.heap.size y3 W) => show (convert 23 9 (.slice A9 L c9)).run Try.prog W = .ok (.string str) W by
            have hh := Kd.C_string (P := Try.prog) (c := c9) Try.underlying23 Try.underlying5 Try.underlying9 (show (Kd.int .u8).C W A9 x.length x by rw [← HL.out]; exact Kd.C_below C9.out hW)
            rw [← HL.out] at hh
            rw [hstr]
            exact hh)
          have Q2 := Aside0.mk (fun (W : World) (hW : Below y3.heap.size y3 W) => show (convert 23 9 (.slice Ai L ci)).run Try.prog W = .ok (.string str) W by
            have hh := Kd.C_string (P := Try.prog) (c := ci) Try.underlying23 Try.underlying5 Try.underlying9 (HCX.out.1 W (below_step Y3.out.below hW))
            rw [← HL.out] at hh
            rw [hstr]
            exact hh)
          clear hR hT hC9 hstr
          go_upto_region 16 with fail
          change Code.wp _ _ _ _ y3
          refine start_ (n := 25) (S := fun w' => Below y3.heap.size y3 w') (ds := []) #[false, false, false, false, false, false, false, false, false, false, false, false, false, false, false, false, false, false, false, false, false, false, false, false, false] (by kernel_rfl) rfl rfl ((below_drew1 (Below.refl y3.heap.size y3))) (fun hHeld => ?_)
          refine pure_ (i := 0) (N := some 78) (v := ?_) (a' := ?_) #[true, false, false, false, false, false, false, false, false, false, false, false, false, false, false, false, false, false, false, false, false, false, false, false, false] rfl rfl (by kernel_rfl) (fun _ _ _ h => h) (Or.inl ⟨by rfl, ?_⟩) ?_ ?_
          rotate_left
          · intro w'
            go_simp
            with_reducible rfl
          rotate_left
          · simp only [Act.put, List.setIfInBounds_toArray, List.set_cons_zero, List.set_cons_succ]
            rfl
          refine pure_ (i := 1) (N := some 79) (v := ?_) (a' := ?_) #[true, true, false, false, false, false, false, false, false, false, false, false, false, false, false, false, false, false, false, false, false, false, false, false, false] rfl rfl (by kernel_rfl) (fun _ _ _ h => h) (Or.inl ⟨by rfl, ?_⟩) ?_ ?_
          rotate_left
          · intro w'
            go_simp
            with_reducible rfl
          rotate_left
          · simp only [Act.put, List.setIfInBounds_toArray, List.set_cons_zero, List.set_cons_succ]
            rfl
          refine pure_ (i := 2) (N := some 80) (v := ?_) (a' := ?_) #[true, true, true, false, false, false, false, false, false, false, false, false, false, false, false, false, false, false, false, false, false, false, false, false, false] rfl rfl (by kernel_rfl) (fun _ _ _ h => h) (Or.inl ⟨by rfl, ?_⟩) ?_ ?_
          rotate_left
          · intro w'
            go_simp
            with_reducible rfl
          rotate_left
          · simp only [Act.put, List.setIfInBounds_toArray, List.set_cons_zero, List.set_cons_succ]
            rfl
          refine pure_ (i := 3) (N := some 81) (v := ?_) (a' := ?_) #[true, true, true, true, false, false, false, false, false, false, false, false, false, false, false, false, false, false, false, false, false, false, false, false, false] rfl rfl (by kernel_rfl) (fun _ _ _ h => h) (Or.inl ⟨by rfl, ?_⟩) ?_ ?_
          rotate_left
          · intro w'
            go_simp
            with_reducible rfl
          rotate_left
          · simp only [Act.put, List.setIfInBounds_toArray, List.set_cons_zero, List.set_cons_succ]
            rfl
          refine pure_ (i := 4) (N := some 82) (v := ?_) (a' := ?_) #[true, true, true, true, true, false, false, false, false, false, false, false, false, false, false, false, false, false, false, false, false, false, false, false, false] rfl rfl (by kernel_rfl) (fun _ _ _ h => h) (Or.inl ⟨by rfl, ?_⟩) ?_ ?_
          rotate_left
          · intro w'
            go_simp
            with_reducible rfl
          rotate_left
          · simp only [Act.put, List.setIfInBounds_toArray, List.set_cons_zero, List.set_cons_succ]
            rfl
          refine pure_ (i := 5) (N := some 83) (v := ?_) (a' := ?_) #[true, true, true, true, true, true, false, false, false, false, false, false, false, false, false, false, false, false, false, false, false, false, false, false, false] rfl rfl (by kernel_rfl) (fun _ _ _ h => h) (Or.inl ⟨by rfl, ?_⟩) ?_ ?_
          rotate_left
          · intro w'
            go_simp
            with_reducible rfl
          rotate_left
          · simp only [Act.put, List.setIfInBounds_toArray, List.set_cons_zero, List.set_cons_succ]
            rfl
          refine pure_ (i := 6) (N := some 84) (v := ?_) (a' := ?_) #[true, true, true, true, true, true, true, false, false, false, false, false, false, false, false, false, false, false, false, false, false, false, false, false, false] rfl rfl (by kernel_rfl) (fun _ _ _ h => h) (Or.inl ⟨by rfl, ?_⟩) ?_ ?_
          rotate_left
          · intro w'
            go_simp
            with_reducible rfl
          rotate_left
          · simp only [Act.put, List.setIfInBounds_toArray, List.set_cons_zero, List.set_cons_succ]
            rfl
          refine pure_ (i := 7) (N := some 85) (v := ?_) (a' := ?_) #[true, true, true, true, true, true, true, true, false, false, false, false, false, false, false, false, false, false, false, false, false, false, false, false, false] rfl rfl (by kernel_rfl) (fun _ _ _ h => h) (Or.inl ⟨by rfl, ?_⟩) ?_ ?_
          rotate_left
          · intro w'
            go_simp
            with_reducible rfl
          rotate_left
          · simp only [Act.put, List.setIfInBounds_toArray, List.set_cons_zero, List.set_cons_succ]
            rfl
          refine pure_ (i := 8) (N := some 86) (v := ?_) (a' := ?_) #[true, true, true, true, true, true, true, true, true, false, false, false, false, false, false, false, false, false, false, false, false, false, false, false, false] rfl rfl (by kernel_rfl) (fun _ _ _ h => h) (Or.inl ⟨by rfl, ?_⟩) ?_ ?_
          rotate_left
          · intro w'
            go_simp
            with_reducible rfl
          rotate_left
          · simp only [Act.put, List.setIfInBounds_toArray, List.set_cons_zero, List.set_cons_succ]
            rfl
          refine pure_ (i := 9) (N := some 87) (v := ?_) (a' := ?_) #[true, true, true, true, true, true, true, true, true, true, false, false, false, false, false, false, false, false, false, false, false, false, false, false, false] rfl rfl (by kernel_rfl) (fun _ _ _ h => h) (Or.inl ⟨by rfl, ?_⟩) ?_ ?_
          rotate_left
          · intro w'
            go_simp
            with_reducible rfl
          rotate_left
          · simp only [Act.put, List.setIfInBounds_toArray, List.set_cons_zero, List.set_cons_succ]
            rfl
          refine pure_ (i := 10) (N := some 88) (v := ?_) (a' := ?_) #[true, true, true, true, true, true, true, true, true, true, true, false, false, false, false, false, false, false, false, false, false, false, false, false, false] rfl rfl (by kernel_rfl) (fun _ _ _ h => h) (Or.inl ⟨by rfl, ?_⟩) ?_ ?_
          rotate_left
          · intro w'
            go_simp
            with_reducible rfl
          rotate_left
          · simp only [Act.put, List.setIfInBounds_toArray, List.set_cons_zero, List.set_cons_succ]
            rfl
          refine pure_ (i := 11) (N := some 89) (v := ?_) (a' := ?_) #[true, true, true, true, true, true, true, true, true, true, true, true, false, false, false, false, false, false, false, false, false, false, false, false, false] rfl rfl (by kernel_rfl) (fun _ _ _ h => h) (Or.inl ⟨by rfl, ?_⟩) ?_ ?_
          rotate_left
          · intro w'
            go_simp
            with_reducible rfl
          rotate_left
          · simp only [Act.put, List.setIfInBounds_toArray, List.set_cons_zero, List.set_cons_succ]
            rfl
          refine pure_ (i := 13) (N := some 91) (v := ?_) (a' := ?_) #[true, true, true, true, true, true, true, true, true, true, true, true, false, true, false, false, false, false, false, false, false, false, false, false, false] rfl rfl (by kernel_rfl) (fun _ _ _ h => h) (Or.inl ⟨by rfl, ?_⟩) ?_ ?_
          rotate_left
          · intro w'
            go_simp
            with_reducible rfl
          rotate_left
          · simp only [Act.put, List.setIfInBounds_toArray, List.set_cons_zero, List.set_cons_succ]
            rfl
          refine pure_ (i := 14) (N := some 92) (v := ?_) (a' := ?_) #[true, true, true, true, true, true, true, true, true, true, true, true, false, true, true, false, false, false, false, false, false, false, false, false, false] rfl rfl (by kernel_rfl) (fun _ _ _ h => h) (Or.inl ⟨by rfl, ?_⟩) ?_ ?_
          rotate_left
          · intro w'
            go_simp
            with_reducible rfl
          rotate_left
          · simp only [Act.put, List.setIfInBounds_toArray, List.set_cons_zero, List.set_cons_succ]
            rfl
          refine pure_ (i := 15) (N := some 93) (v := ?_) (a' := ?_) #[true, true, true, true, true, true, true, true, true, true, true, true, false, true, true, true, false, false, false, false, false, false, false, false, false] rfl rfl (by kernel_rfl) (fun _ _ _ h => h) (Or.inl ⟨by rfl, ?_⟩) ?_ ?_
          rotate_left
          · intro w'
            go_simp
            with_reducible rfl
          rotate_left
          · simp only [Act.put, List.setIfInBounds_toArray, List.set_cons_zero, List.set_cons_succ]
            rfl
          refine take_ (i := 12) (N := some 90) (v := ?_) (a' := ?_) #[true, true, true, true, true, true, true, true, true, true, true, true, true, true, true, true, false, false, false, false, false, false, false, false, false] rfl rfl (by kernel_rfl) (fun _ _ _ h => h) (Or.inl ⟨by rfl, ?_⟩) hHeld ?_ ?_
          rotate_left
          · intro w' s0
            have q0_ := Q0.out w' s0
            have q1_ := Q1.out w' s0
            have q2_ := Q2.out w' s0
            go_simp
            with_reducible rfl
          rotate_left
          · simp only [Act.put, List.setIfInBounds_toArray, List.set_cons_zero, List.set_cons_succ]
            rfl
          refine take_ (i := 16) (N := some 94) (v := ?_) (a' := ?_) #[true, true, true, true, true, true, true, true, true, true, true, true, true, true, true, true, true, false, false, false, false, false, false, false, false] rfl rfl (by kernel_rfl) (fun _ _ _ h => h) (Or.inl ⟨by rfl, ?_⟩) hHeld ?_ ?_
          rotate_left
          · intro w' s0
            have q0_ := Q0.out w' s0
            have q1_ := Q1.out w' s0
            have q2_ := Q2.out w' s0
            go_simp
            with_reducible rfl
          rotate_left
          · simp only [Act.put, List.setIfInBounds_toArray, List.set_cons_zero, List.set_cons_succ]
            rfl
          refine take_ (i := 17) (N := some 95) (v := ?_) (a' := ?_) #[true, true, true, true, true, true, true, true, true, true, true, true, true, true, true, true, true, true, false, false, false, false, false, false, false] rfl rfl (by kernel_rfl) (fun _ _ _ h => h) (Or.inl ⟨by rfl, ?_⟩) hHeld ?_ ?_
          rotate_left
          · intro w' s0
            have q0_ := Q0.out w' s0
            have q1_ := Q1.out w' s0
            have q2_ := Q2.out w' s0
            go_simp
            with_reducible rfl
          rotate_left
          · simp only [Act.put, List.setIfInBounds_toArray, List.set_cons_zero, List.set_cons_succ]
            rfl
          refine pure_ (i := 18) (N := some 96) (v := ?_) (a' := ?_) #[true, true, true, true, true, true, true, true, true, true, true, true, true, true, true, true, true, true, true, false, false, false, false, false, false] rfl rfl (by kernel_rfl) (fun _ _ _ h => h) (Or.inl ⟨by rfl, ?_⟩) ?_ ?_
          rotate_left
          · intro w'
            go_simp
            with_reducible rfl
          rotate_left
          · simp only [Act.put, List.setIfInBounds_toArray, List.set_cons_zero, List.set_cons_succ]
            rfl
          refine pure_ (i := 19) (N := some 97) (v := ?_) (a' := ?_) #[true, true, true, true, true, true, true, true, true, true, true, true, true, true, true, true, true, true, true, true, false, false, false, false, false] rfl rfl (by kernel_rfl) (fun _ _ _ h => h) (Or.inl ⟨by rfl, ?_⟩) ?_ ?_
          rotate_left
          · intro w'
            go_simp
            with_reducible rfl
          rotate_left
          · simp only [Act.put, List.setIfInBounds_toArray, List.set_cons_zero, List.set_cons_succ]
            rfl
          refine pure_ (i := 20) (N := some 98) (v := ?_) (a' := ?_) #[true, true, true, true, true, true, true, true, true, true, true, true, true, true, true, true, true, true, true, true, true, false, false, false, false] rfl rfl (by kernel_rfl) (fun _ _ _ h => h) (Or.inl ⟨by rfl, ?_⟩) ?_ ?_
          rotate_left
          · intro w'
            go_simp
            with_reducible rfl
          rotate_left
          · simp only [Act.put, List.setIfInBounds_toArray, List.set_cons_zero, List.set_cons_succ]
            rfl
          refine pure_ (i := 21) (N := some 99) (v := ?_) (a' := ?_) #[true, true, true, true, true, true, true, true, true, true, true, true, true, true, true, true, true, true, true, true, true, true, false, false, false] rfl rfl (by kernel_rfl) (fun _ _ _ h => h) (Or.inl ⟨by rfl, ?_⟩) ?_ ?_
          rotate_left
          · intro w'
            go_simp
            with_reducible rfl
          rotate_left
          · simp only [Act.put, List.setIfInBounds_toArray, List.set_cons_zero, List.set_cons_succ]
            rfl
          refine one_ (i := 22) (N := some 100) #[true, true, true, true, true, true, true, true, true, true, true, true, true, true, true, true, true, true, true, true, true, true, true, false, false] rfl rfl (by kernel_rfl) (by decide) (fun K hK => ?_)
          refine goes_ Try.func30 (by kernel_rfl) rfl #[.pointer (some ⟨h, 0, none⟩)] (by rfl) rfl rfl (by simp only [List.map_toArray, List.map_cons, List.map_nil]; rfl) ?_
          with_reducible refine ((two_held (Y3.out.fr hHeld))).mono ?_
          rintro e w3 ⟨rfl, rfl⟩
          refine ⟨_, rfl, ?_⟩
          refine hK.out _ _ (hHeld) (fun hHeld => ?_)
          clear hK K
          refine norm_ (a' := ?_) ?_ ?_
          rotate_left
          · show Act.put _ (some 100) _ = _
            simp only [Act.put, List.setIfInBounds_toArray, List.set_cons_zero, List.set_cons_succ]
            rfl
          refine pure_ (i := 23) (N := some 101) (v := ?_) (a' := ?_) #[true, true, true, true, true, true, true, true, true, true, true, true, true, true, true, true, true, true, true, true, true, true, true, true, false] rfl rfl (by kernel_rfl) (fun _ _ _ h => h) (Or.inl ⟨by rfl, ?_⟩) ?_ ?_
          rotate_left
          · intro w'
            go_simp
            with_reducible rfl
          rotate_left
          · simp only [Act.put, List.setIfInBounds_toArray, List.set_cons_zero, List.set_cons_succ]
            rfl
          refine pure_ (i := 24) (N := some 102) (v := ?_) (a' := ?_) #[true, true, true, true, true, true, true, true, true, true, true, true, true, true, true, true, true, true, true, true, true, true, true, true, true] rfl rfl (by kernel_rfl) (fun _ _ _ h => h) (Or.inl ⟨by rfl, ?_⟩) ?_ ?_
          rotate_left
          · intro w'
            go_simp
            with_reducible rfl
          rotate_left
          · simp only [Act.put, List.setIfInBounds_toArray, List.set_cons_zero, List.set_cons_succ]
            rfl
          refine done_ (by kernel_rfl) ?_

          have YZ := Aside0.mk (Y3.out.fr hHeld)
          clear hHeld
          go_wp2_with fail
          refine ⟨⟨i + 1, HI.out, by rw [K3.out]; rfl, ⟨_, (some kk), _, _, YZ.out, HK.out⟩⟩, ?_⟩
          rw [K3.out]
          simp only [intOf]
          have := HI.out
          omega
      · have i1 : ¬ ((i : Int) < (nb : Int)) := by omega
        clear hat
        go_upto_region 13 with fail
        clear i1
        obtain ⟨ad, Ai, ci, rfl, hcell, hC, hci⟩ := rows_at CP.out HH.out i (by have := HI.out; have := HM.out; omega)
        obtain ⟨x, hx⟩ : ∃ x, x = ps.getD i [] := ⟨_, rfl⟩
        rw [← hx] at hcell hC hci
        have hmem : x ∈ ps := by
          rw [hx, List.getD_eq_getElem?_getD, List.getElem?_eq_getElem (by have := HI.out; have := HM.out; omega)]
          exact List.getElem_mem _
        have HX := Aside0.mk (HPM.out x hmem)
        obtain ⟨L, hL⟩ : ∃ L, L = x.length := ⟨_, rfl⟩
        rw [← hL] at hcell
        have HL := Aside0.mk hL
        have HCE := Aside0.mk hcell
        have HCX := Aside0.mk (And.intro hC hci)
        have x1 := HCE.out wr T.out.below
        have i0m : i < m := HI.out
        clear hcell hC hci hx hmem hL
        go_wp2_with fail
        have hpc := two_packet T.out (by have := HI.out; have := HM.out; have := LP.out; omega) (A := Ai) (c := ci) (b := x) (HCX.out.1 wr T.out.below) HCX.out.2 HX.out.1 (by have := HX.out.2.1; omega)
        rw [← HL.out] at hpc
        refine hpc.mono ?_
        rintro e y1 ⟨vx, rfl, hR, hT, _⟩
        clear hpc x1
        have Y1 := Aside0.mk hT
        obtain ⟨P, hP⟩ : ∃ P, P = packetF k (i : Int) x := ⟨_, rfl⟩
        rw [← hP] at hR
        have LPP := Aside0.mk (show P.length ≤ 300 by
          have h1 := len_packetF k (i : Int) x HK.out
          have h2 := padN_ge (headN k) x.length
          have h3 := HX.out.2.1
          have h4 : tagN k ≤ 16 := by cases (k : Option (List Int)) <;> simp [tagN]
          rw [hP, h1]
          omega)
        obtain ⟨Ax, cx, rfl, _, hCx⟩ := Kd.R_reads hR
        obtain ⟨M, hM⟩ : ∃ M, M = P.length := ⟨_, rfl⟩
        rw [← hM] at hCx LPP ⊢
        have CX := Aside0.mk hCx
        have HP := Aside0.mk hP
        have HMP := Aside0.mk hM
        clear hR hT hCx hP hM
        go_wp2_with fail
        refine (two_feed Y1.out (c := cx) CX.out (by have := LPP.out; simp; omega)).mono ?_
        rintro e y2 ⟨rfl, vf, hT, _, _⟩
        rw [List.nil_append] at hT
        have Y2 := Aside0.mk hT
        clear hT
        have EN := Aside0.mk (next_whole k (i : Int) x [] HK.out HX.out.2.2 HX.out.1 (by have := HX.out.2.1; omega))
        rw [← HP.out, List.append_nil] at EN
        go_wp2_with fail
        refine (two_next Y2.out (by have := HI.out; have := HM.out; have := LP.out; omega) (fun z hz => by rw [HP.out] at hz; exact bytes_packetF HK.out HX.out.2.2 z hz) (by rw [← HMP.out]; have := LPP.out; omega) EN.out).mono ?_
        rintro e y3 ⟨v7, vb7, rfl, hR, hT, _, _⟩
        have Y3 := Aside0.mk hT
        obtain ⟨A9, c9, rfl, _, hC9⟩ := Kd.R_reads hR
        rw [← HL.out] at hC9 ⊢
        have C9 := Aside0.mk hC9
        obtain ⟨str, hstr⟩ : ∃ z, z = strOfNums x := ⟨_, rfl⟩
        have Q0 := Aside0.mk (fun (W : World) (hW : Below y3.heap.size y3 W) => HCE.out W (below_step Y3.out.below hW))
        have Q1 := Aside0.mk (fun (W : World) (hW : Below y3.heap.size y3 W) => show (convert 23 9 (.slice A9 L c9)).run Try.prog W = .ok (.string str) W by
          have hh := Kd.C_string (P := Try.prog) (c := c9) Try.underlying23 Try.underlying5 Try.underlying9 (show (Kd.int .u8).C W A9 x.length x by rw [← HL.out]; exact Kd.C_below C9.out hW)
          rw [← HL.out] at hh
          rw [hstr]
          exact hh)
        have Q2 := Aside0.mk (fun (W : World) (hW : Below y3.heap.size y3 W) => show (convert 23 9 (.slice Ai L ci)).run Try.prog W = .ok (.string str) W by
          have hh := Kd.C_string (P := Try.prog) (c := ci) Try.underlying23 Try.underlying5 Try.underlying9 (HCX.out.1 W (below_step Y3.out.below hW))
          rw [← HL.out] at hh
          rw [hstr]
          exact hh)
        clear hR hT hC9 hstr
        go_upto_region 16 with fail
        change Code.wp _ _ _ _ y3
        refine start_ (n := 25) (S := fun w' => Below y3.heap.size y3 w') (ds := []) #[false, false, false, false, false, false, false, false, false, false, false, false, false, false, false, false, false, false, false, false, false, false, false, false, false] (by kernel_rfl) rfl rfl ((below_drew1 (Below.refl y3.heap.size y3))) (fun hHeld => ?_)
        refine pure_ (i := 0) (N := some 78) (v := ?_) (a' := ?_) #[true, false, false, false, false, false, false, false, false, false, false, false, false, false, false, false, false, false, false, false, false, false, false, false, false] rfl rfl (by kernel_rfl) (fun _ _ _ h => h) (Or.inl ⟨by rfl, ?_⟩) ?_ ?_
        rotate_left
        · intro w'
          go_simp
          with_reducible rfl
        rotate_left
        · simp only [Act.put, List.setIfInBounds_toArray, List.set_cons_zero, List.set_cons_succ]
          rfl
        refine pure_ (i := 1) (N := some 79) (v := ?_) (a' := ?_) #[true, true, false, false, false, false, false, false, false, false, false, false, false, false, false, false, false, false, false, false, false, false, false, false, false] rfl rfl (by kernel_rfl) (fun _ _ _ h => h) (Or.inl ⟨by rfl, ?_⟩) ?_ ?_
        rotate_left
        · intro w'
          go_simp
          with_reducible rfl
        rotate_left
        · simp only [Act.put, List.setIfInBounds_toArray, List.set_cons_zero, List.set_cons_succ]
          rfl
        refine pure_ (i := 2) (N := some 80) (v := ?_) (a' := ?_) #[true, true, true, false, false, false, false, false, false, false, false, false, false, false, false, false, false, false, false, false, false, false, false, false, false] rfl rfl (by kernel_rfl) (fun _ _ _ h => h) (Or.inl ⟨by rfl, ?_⟩) ?_ ?_
        rotate_left
        · intro w'
          go_simp
          with_reducible rfl
        rotate_left
        · simp only [Act.put, List.setIfInBounds_toArray, List.set_cons_zero, List.set_cons_succ]
          rfl
        refine pure_ (i := 3) (N := some 81) (v := ?_) (a' := ?_) #[true, true, true, true, false, false, false, false, false, false, false, false, false, false, false, false, false, false, false, false, false, false, false, false, false] rfl rfl (by kernel_rfl) (fun _ _ _ h => h) (Or.inl ⟨by rfl, ?_⟩) ?_ ?_
        rotate_left
        · intro w'
          go_simp
          with_reducible rfl
        rotate_left
        · simp only [Act.put, List.setIfInBounds_toArray, List.set_cons_zero, List.set_cons_succ]
          rfl
        refine pure_ (i := 4) (N := some 82) (v := ?_) (a' := ?_) #[true, true, true, true, true, false, false, false, false, false, false, false, false, false, false, false, false, false, false, false, false, false, false, false, false] rfl rfl (by kernel_rfl) (fun _ _ _ h => h) (Or.inl ⟨by rfl, ?_⟩) ?_ ?_
        rotate_left
        · intro w'
          go_simp
          with_reducible rfl
        rotate_left
        · simp only [Act.put, List.setIfInBounds_toArray, List.set_cons_zero, List.set_cons_succ]
          rfl
        refine pure_ (i := 5) (N := some 83) (v := ?_) (a' := ?_) #[true, true, true, true, true, true, false, false, false, false, false, false, false, false, false, false, false, false, false, false, false, false, false, false, false] rfl rfl (by kernel_rfl) (fun _ _ _ h => h) (Or.inl ⟨by rfl, ?_⟩) ?_ ?_
        rotate_left
        · intro w'
          go_simp
          with_reducible rfl
        rotate_left
        · simp only [Act.put, List.setIfInBounds_toArray, List.set_cons_zero, List.set_cons_succ]
          rfl
        refine pure_ (i := 6) (N := some 84) (v := ?_) (a' := ?_) #[true, true, true, true, true, true, true, false, false, false, false, false, false, false, false, false, false, false, false, false, false, false, false, false, false] rfl rfl (by kernel_rfl) (fun _ _ _ h => h) (Or.inl ⟨by rfl, ?_⟩) ?_ ?_
        rotate_left
        · intro w'
          go_simp
          with_reducible rfl
        rotate_left
        · simp only [Act.put, List.setIfInBounds_toArray, List.set_cons_zero, List.set_cons_succ]
          rfl
        refine pure_ (i := 7) (N := some 85) (v := ?_) (a' := ?_) #[true, true, true, true, true, true, true, true, false, false, false, false, false, false, false, false, false, false, false, false, false, false, false, false, false] rfl rfl (by kernel_rfl) (fun _ _ _ h => h) (Or.inl ⟨by rfl, ?_⟩) ?_ ?_
        rotate_left
        · intro w'
          go_simp
          with_reducible rfl
        rotate_left
        · simp only [Act.put, List.setIfInBounds_toArray, List.set_cons_zero, List.set_cons_succ]
          rfl
        refine pure_ (i := 8) (N := some 86) (v := ?_) (a' := ?_) #[true, true, true, true, true, true, true, true, true, false, false, false, false, false, false, false, false, false, false, false, false, false, false, false, false] rfl rfl (by kernel_rfl) (fun _ _ _ h => h) (Or.inl ⟨by rfl, ?_⟩) ?_ ?_
        rotate_left
        · intro w'
          go_simp
          with_reducible rfl
        rotate_left
        · simp only [Act.put, List.setIfInBounds_toArray, List.set_cons_zero, List.set_cons_succ]
          rfl
        refine pure_ (i := 9) (N := some 87) (v := ?_) (a' := ?_) #[true, true, true, true, true, true, true, true, true, true, false, false, false, false, false, false, false, false, false, false, false, false, false, false, false] rfl rfl (by kernel_rfl) (fun _ _ _ h => h) (Or.inl ⟨by rfl, ?_⟩) ?_ ?_
        rotate_left
        · intro w'
          go_simp
          with_reducible rfl
        rotate_left
        · simp only [Act.put, List.setIfInBounds_toArray, List.set_cons_zero, List.set_cons_succ]
          rfl
        refine pure_ (i := 10) (N := some 88) (v := ?_) (a' := ?_) #[true, true, true, true, true, true, true, true, true, true, true, false, false, false, false, false, false, false, false, false, false, false, false, false, false] rfl rfl (by kernel_rfl) (fun _ _ _ h => h) (Or.inl ⟨by rfl, ?_⟩) ?_ ?_
        rotate_left
        · intro w'
          go_simp
          with_reducible rfl
        rotate_left
        · simp only [Act.put, List.setIfInBounds_toArray, List.set_cons_zero, List.set_cons_succ]
          rfl
        refine pure_ (i := 11) (N := some 89) (v := ?_) (a' := ?_) #[true, true, true, true, true, true, true, true, true, true, true, true, false, false, false, false, false, false, false, false, false, false, false, false, false] rfl rfl (by kernel_rfl) (fun _ _ _ h => h) (Or.inl ⟨by rfl, ?_⟩) ?_ ?_
        rotate_left
        · intro w'
          go_simp
          with_reducible rfl
        rotate_left
        · simp only [Act.put, List.setIfInBounds_toArray, List.set_cons_zero, List.set_cons_succ]
          rfl
        refine pure_ (i := 13) (N := some 91) (v := ?_) (a' := ?_) #[true, true, true, true, true, true, true, true, true, true, true, true, false, true, false, false, false, false, false, false, false, false, false, false, false] rfl rfl (by kernel_rfl) (fun _ _ _ h => h) (Or.inl ⟨by rfl, ?_⟩) ?_ ?_
        rotate_left
        · intro w'
          go_simp
          with_reducible rfl
        rotate_left
        · simp only [Act.put, List.setIfInBounds_toArray, List.set_cons_zero, List.set_cons_succ]
          rfl
        refine pure_ (i := 14) (N := some 92) (v := ?_) (a' := ?_) #[true, true, true, true, true, true, true, true, true, true, true, true, false, true, true, false, false, false, false, false, false, false, false, false, false] rfl rfl (by kernel_rfl) (fun _ _ _ h => h) (Or.inl ⟨by rfl, ?_⟩) ?_ ?_
        rotate_left
        · intro w'
          go_simp
          with_reducible rfl
        rotate_left
        · simp only [Act.put, List.setIfInBounds_toArray, List.set_cons_zero, List.set_cons_succ]
          rfl
        refine pure_ (i := 15) (N := some 93) (v := ?_) (a' := ?_) #[true, true, true, true, true, true, true, true, true, true, true, true, false, true, true, true, false, false, false, false, false, false, false, false, false] rfl rfl (by kernel_rfl) (fun _ _ _ h => h) (Or.inl ⟨by rfl, ?_⟩) ?_ ?_
        rotate_left
        · intro w'
          go_simp
          with_reducible rfl
        rotate_left
        · simp only [Act.put, List.setIfInBounds_toArray, List.set_cons_zero, List.set_cons_succ]
          rfl
        refine take_ (i := 12) (N := some 90) (v := ?_) (a' := ?_) #[true, true, true, true, true, true, true, true, true, true, true, true, true, true, true, true, false, false, false, false, false, false, false, false, false] rfl rfl (by kernel_rfl) (fun _ _ _ h => h) (Or.inl ⟨by rfl, ?_⟩) hHeld ?_ ?_
        rotate_left
        · intro w' s0
          have q0_ := Q0.out w' s0
          have q1_ := Q1.out w' s0
          have q2_ := Q2.out w' s0
          go_simp
          with_reducible rfl
        rotate_left
        · simp only [Act.put, List.setIfInBounds_toArray, List.set_cons_zero, List.set_cons_succ]
          rfl
        refine take_ (i := 16) (N := some 94) (v := ?_) (a' := ?_) #[true, true, true, true, true, true, true, true, true, true, true, true, true, true, true, true, true, false, false, false, false, false, false, false, false] rfl rfl (by kernel_rfl) (fun _ _ _ h => h) (Or.inl ⟨by rfl, ?_⟩) hHeld ?_ ?_
        rotate_left
        · intro w' s0
          have q0_ := Q0.out w' s0
          have q1_ := Q1.out w' s0
          have q2_ := Q2.out w' s0
          go_simp
          with_reducible rfl
        rotate_left
        · simp only [Act.put, List.setIfInBounds_toArray, List.set_cons_zero, List.set_cons_succ]
          rfl
        refine take_ (i := 17) (N := some 95) (v := ?_) (a' := ?_) #[true, true, true, true, true, true, true, true, true, true, true, true, true, true, true, true, true, true, false, false, false, false, false, false, false] rfl rfl (by kernel_rfl) (fun _ _ _ h => h) (Or.inl ⟨by rfl, ?_⟩) hHeld ?_ ?_
        rotate_left
        · intro w' s0
          have q0_ := Q0.out w' s0
          have q1_ := Q1.out w' s0
          have q2_ := Q2.out w' s0
          go_simp
          with_reducible rfl
        rotate_left
        · simp only [Act.put, List.setIfInBounds_toArray, List.set_cons_zero, List.set_cons_succ]
          rfl
        refine pure_ (i := 18) (N := some 96) (v := ?_) (a' := ?_) #[true, true, true, true, true, true, true, true, true, true, true, true, true, true, true, true, true, true, true, false, false, false, false, false, false] rfl rfl (by kernel_rfl) (fun _ _ _ h => h) (Or.inl ⟨by rfl, ?_⟩) ?_ ?_
        rotate_left
        · intro w'
          go_simp
          with_reducible rfl
        rotate_left
        · simp only [Act.put, List.setIfInBounds_toArray, List.set_cons_zero, List.set_cons_succ]
          rfl
        refine pure_ (i := 19) (N := some 97) (v := ?_) (a' := ?_) #[true, true, true, true, true, true, true, true, true, true, true, true, true, true, true, true, true, true, true, true, false, false, false, false, false] rfl rfl (by kernel_rfl) (fun _ _ _ h => h) (Or.inl ⟨by rfl, ?_⟩) ?_ ?_
        rotate_left
        · intro w'
          go_simp
          with_reducible rfl
        rotate_left
        · simp only [Act.put, List.setIfInBounds_toArray, List.set_cons_zero, List.set_cons_succ]
          rfl
        refine pure_ (i := 20) (N := some 98) (v := ?_) (a' := ?_) #[true, true, true, true, true, true, true, true, true, true, true, true, true, true, true, true, true, true, true, true, true, false, false, false, false] rfl rfl (by kernel_rfl) (fun _ _ _ h => h) (Or.inl ⟨by rfl, ?_⟩) ?_ ?_
        rotate_left
        · intro w'
          go_simp
          with_reducible rfl
        rotate_left
        · simp only [Act.put, List.setIfInBounds_toArray, List.set_cons_zero, List.set_cons_succ]
          rfl
        refine pure_ (i := 21) (N := some 99) (v := ?_) (a' := ?_) #[true, true, true, true, true, true, true, true, true, true, true, true, true, true, true, true, true, true, true, true, true, true, false, false, false] rfl rfl (by kernel_rfl) (fun _ _ _ h => h) (Or.inl ⟨by rfl, ?_⟩) ?_ ?_
        rotate_left
        · intro w'
          go_simp
          with_reducible rfl
        rotate_left
        · simp only [Act.put, List.setIfInBounds_toArray, List.set_cons_zero, List.set_cons_succ]
          rfl
        refine one_ (i := 22) (N := some 100) #[true, true, true, true, true, true, true, true, true, true, true, true, true, true, true, true, true, true, true, true, true, true, true, false, false] rfl rfl (by kernel_rfl) (by decide) (fun K hK => ?_)
        refine goes_ Try.func30 (by kernel_rfl) rfl #[.pointer (some ⟨h, 0, none⟩)] (by rfl) rfl rfl (by simp only [List.map_toArray, List.map_cons, List.map_nil]; rfl) ?_
        with_reducible refine ((two_held (Y3.out.fr hHeld))).mono ?_
        rintro e w3 ⟨rfl, rfl⟩
        refine ⟨_, rfl, ?_⟩
        refine hK.out _ _ (hHeld) (fun hHeld => ?_)
        clear hK K
        refine norm_ (a' := ?_) ?_ ?_
        rotate_left
        · show Act.put _ (some 100) _ = _
          simp only [Act.put, List.setIfInBounds_toArray, List.set_cons_zero, List.set_cons_succ]
          rfl
        refine pure_ (i := 23) (N := some 101) (v := ?_) (a' := ?_) #[true, true, true, true, true, true, true, true, true, true, true, true, true, true, true, true, true, true, true, true, true, true, true, true, false] rfl rfl (by kernel_rfl) (fun _ _ _ h => h) (Or.inl ⟨by rfl, ?_⟩) ?_ ?_
        rotate_left
        · intro w'
          go_simp
          with_reducible rfl
        rotate_left
        · simp only [Act.put, List.setIfInBounds_toArray, List.set_cons_zero, List.set_cons_succ]
          rfl
        refine pure_ (i := 24) (N := some 102) (v := ?_) (a' := ?_) #[true, true, true, true, true, true, true, true, true, true, true, true, true, true, true, true, true, true, true, true, true, true, true, true, true] rfl rfl (by kernel_rfl) (fun _ _ _ h => h) (Or.inl ⟨by rfl, ?_⟩) ?_ ?_
        rotate_left
        · intro w'
          go_simp
          with_reducible rfl
        rotate_left
        · simp only [Act.put, List.setIfInBounds_toArray, List.set_cons_zero, List.set_cons_succ]
          rfl
        refine done_ (by kernel_rfl) ?_

        have YZ := Aside0.mk (Y3.out.fr hHeld)
        clear hHeld
        go_wp2_with fail
        refine ⟨⟨i + 1, HI.out, by rw [K3.out]; rfl, ⟨_, k, _, _, YZ.out, HK.out⟩⟩, ?_⟩
        rw [K3.out]
        simp only [intOf]
        have := HI.out
        omega
    · obtain rfl : i = m := by omega
      have i0 : ¬ ((i : Int) < (i : Int)) := by omega
      clear him hi
      go_wp2_with fail
      obtain ⟨vo, k, vk, vb, hT, _⟩ := HT.out
      have LW := Aside0.mk (B1.out.trans (hT.below.mono B1.out.size))
      clear hT
      refine (known8_calls wr).mono ?_
      rintro e w9 ⟨rfl, hB⟩
      have LZ := Aside0.mk (below_step LW.out hB)
      clear hB
      go_wp2_with fail
      go_ret
      exact ⟨rfl, LZ.out⟩
theorem packetKeys_calls' (La : Option Addr) (n cl : Nat) (A1 : Option Addr) (c1 : Nat) (l1 : List Int) (Ab : Option Addr) (nb cb : Nat) (w : World)
    (hL : ∀ i, i < n → ∃ (a : Addr) (A : Option Addr) (c : Nat) (x : List Int), La = some a ∧ w.cell? (a.add i) = some (.slice A x.length c) ∧ (Kd.int .u8).C w A x.length x ∧ x.length ≤ c ∧ ∀ z ∈ x, 0 ≤ z ∧ z < 256) (hn : n ≤ cl) (hr1 : Kd.C (Kd.int .u8) w A1 l1.length l1) (hc1 : l1.length ≤ c1)
    (hbb : ∀ i, i < nb → ∃ (a : Addr) (b : Bool), Ab = some a ∧ w.cell? (a.add i) = some (.bool b)) :
    Calls Try.prog 9 #[.slice La n cl, .slice A1 l1.length c1, .slice Ab nb cb] w fun e w' => e = .returned (.bool true) ∧ Below w.heap.size w w' := by
  obtain ⟨xs, h1, h2⟩ := argL_of hL
  exact packetKeys_calls La n cl xs A1 c1 l1 Ab nb cb w h1 hn h2 hr1 hc1 hbb
end Go.Proofs.Ytnmnghpdmiffaaa.Pk
