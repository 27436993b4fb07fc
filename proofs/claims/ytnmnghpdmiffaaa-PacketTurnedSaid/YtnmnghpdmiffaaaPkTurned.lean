/-
  PacketTurned, walked.
-/
import Derived.Test.YtnmnghpdmiffaaaPkQ
namespace Go.Proofs.Ytnmnghpdmiffaaa.Pk
open Go.RowKit Go.Proofs.YtnmnghpdmiffaaaW.PrintWords Go.Proofs.YtnmnghpdmiffaaaW.PrintLast Go.Proofs.YtnmnghpdmiffaaaW.PrintMore Go.Proofs.Ytnmnghpdmiffaaa.Arr
set_option linter.unusedVariables false
set_option maxHeartbeats 8000000
set_option maxRecDepth 100000
theorem rows_at {u : World} {A : Option Addr} {n : Nat} {ts : List Tri} {ls : List (List Int)} (hC : KdS.C u A n ts) (hH : HoldsL u ts ls) (i : Nat) (hi : i < ls.length) :
    ∃ ad Ai ci, A = some ad ∧ (∀ W, Below u.heap.size u W → W.cell? (ad.add i) = some (.slice Ai (ls.getD i []).length ci)) ∧ (∀ W, Below u.heap.size u W → (Kd.int .u8).C W Ai (ls.getD i []).length (ls.getD i [])) ∧ (ls.getD i []).length ≤ ci := by
  obtain ⟨e1, _, h3⟩ := Kd.reads_of_C (enc := encS) (d := noS) (h1 := fun _ => rfl) hC
  have hl : ts.length = ls.length := hH.1
  obtain ⟨ad, e, hc⟩ := h3 (by omega)
  have hcell := hc i (by omega)
  obtain ⟨f1, f2, f3⟩ := hH.2 i hi
  obtain ⟨⟨Ai, ni, ci⟩, hx⟩ : ∃ x, ts.getD i noS = x := ⟨_, rfl⟩
  rw [hx] at hcell f1 f2 f3
  change ni = (ls.getD i []).length at f1
  subst f1
  exact ⟨ad, Ai, ci, e, fun W hW => cell_kept hcell hW, fun W hW => Kd.C_below f2 hW, f3⟩
/-- The packets of the payloads, one of them turned. -/
def pkT (k : List Int) (ps : List (List Int)) (q j : Nat) (t : Int) (i : Nat) : List Int :=
  if i = q then turnB (packetF (some k) (i : Int) (ps.getD i [])) j t else packetF (some k) (i : Int) (ps.getD i [])
theorem mem_getD {ps : List (List Int)} {i : Nat} (h : i < ps.length) : ps.getD i [] ∈ ps := by
  rw [List.getD_eq_getElem?_getD, List.getElem?_eq_getElem h]
  exact List.getElem_mem _
theorem len_pk (k : List Int) (hk : k.length = 32) (n : Int) (x : List Int) (h : x.length ≤ 200) : (packetF (some k) n x).length ≤ 240 := by
  have h1 := len_packetF (some k) n x (fun k' h => by cases h; exact hk)
  have h2 := padN_ge (headN (some k)) x.length
  have h3 : tagN (some k) = 16 := rfl
  omega
theorem len_pkT (k : List Int) (hk : k.length = 32) (ps : List (List Int)) (hps : ∀ x ∈ ps, 1 ≤ x.length ∧ x.length ≤ 200 ∧ ∀ z ∈ x, 0 ≤ z ∧ z < 256) (q j : Nat) (t : Int) (i : Nat) (hi : i < ps.length) : (pkT k ps q j t i).length ≤ 240 := by
  have h := len_pk k hk (i : Int) (ps.getD i []) (hps _ (mem_getD hi)).2.1
  unfold pkT
  split
  · unfold turnB
    rw [List.length_set]
    exact h
  · exact h
theorem len_catP {k : List Int} (hk : k.length = 32) {ps : List (List Int)} (hps : ∀ x ∈ ps, 1 ≤ x.length ∧ x.length ≤ 200 ∧ ∀ z ∈ x, 0 ≤ z ∧ z < 256) {m : Nat} (hm : m = ps.length) (q j : Nat) (t : Int) : ∀ i, i ≤ m → (catF (pkT k ps q j t) 0 i).length ≤ i * 240
  | 0, _ => by simp [catF]
  | i + 1, hi => by
    have h1 := len_catP hk hps hm q j t i (by omega)
    have h2 := len_pkT k hk ps hps q j t i (by omega)
    rw [catF_snoc, List.length_append, Nat.zero_add, Nat.add_mul]
    omega
theorem len_catP2 {k : List Int} (hk : k.length = 32) {ps : List (List Int)} (hps : ∀ x ∈ ps, 1 ≤ x.length ∧ x.length ≤ 200 ∧ ∀ z ∈ x, 0 ≤ z ∧ z < 256) {m : Nat} (hm : m = ps.length) (q j : Nat) (t : Int) : ∀ (n a : Nat), a + n ≤ m → (catF (pkT k ps q j t) a n).length ≤ n * 240
  | 0, a, _ => by simp [catF]
  | n + 1, a, hi => by
    have h1 := len_catP2 hk hps hm q j t n (a + 1) (by omega)
    have h2 := len_pkT k hk ps hps q j t a (by omega)
    rw [catF, List.length_append, Nat.add_mul]
    omega
theorem bytes_pkT {k : List Int} (hk : k.length = 32) {ps : List (List Int)} (hps : ∀ x ∈ ps, 1 ≤ x.length ∧ x.length ≤ 200 ∧ ∀ z ∈ x, 0 ≤ z ∧ z < 256) (q j : Nat) (t : Int) (i : Nat) (hi : i < ps.length) : ∀ x ∈ pkT k ps q j t i, 0 ≤ x ∧ x < 256 := by
  intro x hx
  have hb : ∀ x ∈ packetF (some k) (i : Int) (ps.getD i []), 0 ≤ x ∧ x < 256 := fun x hx => bytes_packetF (fun k' h => by cases h; exact hk) (hps _ (mem_getD hi)).2.2 x hx
  unfold pkT at hx
  split at hx
  · unfold turnB at hx
    rcases List.mem_or_eq_of_mem_set hx with hx | rfl
    · exact hb x hx
    · have hr := Go.Proofs.Ytnmnghpdmiffaaa.Bits.xor8_range ((packetF (some k) (i : Int) (ps.getD i [])).getD ((packetF (some k) (i : Int) (ps.getD i [])).length - 16 + j) 0) t
      exact ⟨hr.1, Int.lt_of_le_of_lt hr.2 (by decide)⟩
  · exact hb x hx
theorem bytes_catP2 {k : List Int} (hk : k.length = 32) {ps : List (List Int)} (hps : ∀ x ∈ ps, 1 ≤ x.length ∧ x.length ≤ 200 ∧ ∀ z ∈ x, 0 ≤ z ∧ z < 256) {m : Nat} (hm : m = ps.length) (q j : Nat) (t : Int) (ht : 0 ≤ t ∧ t < 256) : ∀ (n a : Nat), a + n ≤ m → ∀ x ∈ catF (pkT k ps q j t) a n, 0 ≤ x ∧ x < 256
  | 0, a, _, x, hx => by cases hx
  | n + 1, a, hi, x, hx => by
    rw [catF] at hx
    rcases List.mem_append.1 hx with hx | hx
    · exact bytes_pkT hk hps q j t a (by omega) x hx
    · exact bytes_catP2 hk hps hm q j t ht n (a + 1) (by omega) x hx
theorem packetTurned_calls (La : Option Addr) (n cl : Nat) (xs : List (List Int)) (A1 : Option Addr) (c1 : Nat) (l1 : List Int) (a2 a3 a4 : Int) (w : World)
    (hA : ArgL w La n xs) (hn : n ≤ cl) (hbx : ∀ x ∈ xs, ∀ z ∈ x, 0 ≤ z ∧ z < 256) (hr1 : Kd.C (Kd.int .u8) w A1 l1.length l1) (hc1 : l1.length ≤ c1) (hm1 : l1.length ≤ 9223372036854775807) (ha4 : 0 ≤ a4 ∧ a4 < 256) :
    Calls Try.prog 8 #[.slice La n cl, .slice A1 l1.length c1, .int .i64 a2, .int .i64 a3, .int .u8 a4] w fun e w' => e = .returned (.bool true) ∧ Below w.heap.size w w' := by
  have HA := Aside0.mk hA
  have HN := Aside0.mk hn
  have HBX := Aside0.mk hbx
  have HK1 := Aside0.mk (And.intro hr1 hc1)
  have HA4 := Aside0.mk ha4
  have f32 := Aside0.mk (show strongroomkeep_Sized.f l1 32 = some (sizedF l1 32) from sized_some l1 32 (by decide) hm1)
  clear hA hn hbx hr1 hc1 ha4 hm1
  go_enter Try.func8, Try.ntmps8
  go_wp2_with fail
  refine (payloads_calls La n cl xs w HA.out HN.out).mono ?_
  rintro e u0 ⟨v, ts, rfl, hR, hH, hB⟩
  obtain ⟨Ap, cp, rfl, _, hCp⟩ := Kd.R_reads hR
  obtain ⟨ps, hps⟩ : ∃ ps, ps = payS xs (min n 12) := ⟨_, rfl⟩
  rw [← hps] at hH
  have HPM := Aside0.mk (show ∀ x ∈ ps, 1 ≤ x.length ∧ x.length ≤ 200 ∧ ∀ z ∈ x, 0 ≤ z ∧ z < 256 by rw [hps]; exact mem_payS xs HBX.out _)
  have LP := Aside0.mk (show ps.length ≤ 12 by rw [hps]; have := len_payS xs (min n 12); omega)
  have HH0 := Aside0.mk (hH.below hB)
  have B0 := Aside0.mk hB
  obtain ⟨m, hm⟩ : ∃ m, m = ts.length := ⟨_, rfl⟩
  rw [← hm] at hCp ⊢
  have HM := Aside0.mk (show m = ps.length by rw [hm]; exact hH.1)
  have CP0 := Aside0.mk hCp
  have CK0 := Aside0.mk (And.intro (Kd.C_below HK1.out.1 hB) HK1.out.2)
  clear hR hH hB hCp hps hm HA HN HBX HK1
  by_cases hm0 : m = 0
  · have hmi : (m : Int) = 0 := by omega
    go_wp2_with fail
    refine (known8_calls u0).mono ?_
    rintro e w9 ⟨rfl, hB⟩
    have LZ := Aside0.mk (below_step B0.out hB)
    clear hB
    go_wp2_with fail
    go_ret
    exact ⟨rfl, LZ.out⟩
  · have hmi : ((m : Int) == 0) = false := by simp [hm0]
    by_cases ht0 : a4 = 0
    · go_wp2_with fail
      refine (known8_calls u0).mono ?_
      rintro e w9 ⟨rfl, hB⟩
      have LZ := Aside0.mk (below_step B0.out hB)
      clear hB
      go_wp2_with fail
      go_ret
      exact ⟨rfl, LZ.out⟩
    · have ht0b : (a4 == 0) = false := by simp [ht0]
      have HT0 := Aside0.mk ht0
      have HM0 := Aside0.mk (show 1 ≤ m by omega)
      go_wp2_with fail
      refine (strongroomkeep_Sized.calls A1 c1 l1 32 _ u0 CK0.out.1 CK0.out.2 f32.out).mono ?_
      rintro e u ⟨v2, rfl, hR, hB⟩
      obtain ⟨k, hk⟩ : ∃ k, k = sizedF l1 32 := ⟨_, rfl⟩
      rw [← hk] at hR
      have LK := Aside0.mk (show k.length = 32 by rw [hk, len_sizedF])
      obtain ⟨Ak, ck, rfl, hck, hCk⟩ := Kd.R_reads hR
      rw [LK.out] at hck hCk ⊢
      have CK := Aside0.mk (And.intro hCk hck)
      have B1 := Aside0.mk (below_step B0.out hB)
      have HH := Aside0.mk (HH0.out.below hB)
      have CP := Aside0.mk (Kd.C_below CP0.out hB)
      clear hk hR hB hck hCk HH0 CP0 CK0 B0 f32
      go_wp2_with fail
      refine (two_new u).mono ?_
      rintro e w3 ⟨g, rfl, hnext⟩
      have HNX := Aside0.mk hnext
      clear hnext
      go_wp2_with fail
      refine HNX.out.mono ?_
      rintro e w4 ⟨h, rfl, hT⟩
      have T4 := Aside0.mk hT
      clear hT HNX
      go_wp2_with fail
      refine (two_outKeys T4.out (Kd.C_below CK.out.1 T4.out.below) CK.out.2).mono ?_
      rintro e w5 ⟨rfl, vo, hT, _⟩
      have T5 := Aside0.mk hT
      clear hT
      go_wp2_with fail
      refine (two_inKeys T5.out (Kd.C_below CK.out.1 T5.out.below) CK.out.2).mono ?_
      rintro e w6 ⟨rfl, vk, hT, _⟩
      have T6 := Aside0.mk hT
      clear hT
      obtain ⟨q, hq⟩ : ∃ q : Nat, (q : Int) = withinF a2 0 ((m : Int) - 1) := ⟨(withinF a2 0 ((m : Int) - 1)).toNat, Int.toNat_of_nonneg (withinF_range a2 0 ((m : Int) - 1) (by have := HM0.out; omega)).1⟩
      have HQ := Aside0.mk (show q < m by
        have h1 := (withinF_range a2 0 ((m : Int) - 1) (by have := HM0.out; omega)).2
        have := HM0.out
        omega)
      have fW := Aside0.mk (show strongroombook_Within.f a2 0 ((m : Int) - 1) = some (q : Int) by rw [within_some _ _ _ (by decide) (by have := HM0.out; omega) (by have := LP.out; have := HM.out; omega), hq])
      have kM : wrap64 ((m : Int) - 1) = (m : Int) - 1 := by have := LP.out; have := HM.out; rw [wrap_id (by omega) (by omega)]
      obtain ⟨j, hj⟩ : ∃ j : Nat, (j : Int) = withinF a3 0 15 := ⟨(withinF a3 0 15).toNat, Int.toNat_of_nonneg (withinF_range a3 0 15 (by decide)).1⟩
      have HJ := Aside0.mk (show j < 16 by have h1 := (withinF_range a3 0 15 (by decide)).2; omega)
      have fJ := Aside0.mk (show strongroombook_Within.f a3 0 15 = some (j : Int) by rw [within_some _ _ _ (by decide) (by decide) (by decide), hj])
      clear hq hj T4 T5
      go_wp2_with fail
      refine (strongroombook_Within.calls a2 0 ((m : Int) - 1) (q : Int) w6 fW.out).mono ?_
      rintro e w7 ⟨rfl, ⟨n7, rfl⟩⟩
      have T7 := Aside0.mk (T6.out.fr (pw_below_drewN (Below.refl _ _) n7))
      generalize w6.drewN n7 = w7 at T7 ⊢
      clear kM fW T6
      go_wp2_with fail
      go_loopw [14] (fun v w' => ∃ i : Nat, i ≤ m ∧ v = .int .i64 (i : Int) ∧ Aside0 (∃ vb, Two u w' g h vo (some k) (i : Int) vk vb (some k) 0 (catF (pkT k ps q j a4) 0 i) 0)) (fun v _ => m - (intOf v).toNat)
      case atStart => exact ⟨0, by omega, rfl, ⟨_, T7.out⟩⟩
      case round =>
        obtain ⟨i, hi, rfl, HT⟩ := hrel
        by_cases him : i < m
        · have i0 : (i : Int) < (m : Int) := by omega
          have k3 : wrap64 ((i : Int) + 1) = (i : Int) + 1 := by have := LP.out; have := HM.out; rw [wrap_id (by omega) (by omega)]
          have K3 := Aside0.mk k3
          have HI := Aside0.mk him
          obtain ⟨vb, hT⟩ := HT.out
          have T := Aside0.mk hT
          obtain ⟨ad, Ai, ci, rfl, hcell, hC, hci⟩ := rows_at CP.out HH.out i (by have := HI.out; have := HM.out; omega)
          obtain ⟨x, hx⟩ : ∃ x, x = ps.getD i [] := ⟨_, rfl⟩
          rw [← hx] at hcell hC hci
          have HX := Aside0.mk (HPM.out x (by rw [hx]; exact mem_getD (by have := HI.out; have := HM.out; omega)))
          obtain ⟨L, hL⟩ : ∃ L, L = x.length := ⟨_, rfl⟩
          rw [← hL] at hcell
          have HL := Aside0.mk hL
          have HCX := Aside0.mk (And.intro hC hci)
          have HXD := Aside0.mk hx
          have x1 := hcell wr T.out.below
          clear hi him hT HT hcell hC hci hx hL
          go_wp2_with fail
          have hpc := two_packet T.out (by have := HI.out; have := HM.out; have := LP.out; omega) (A := Ai) (c := ci) (b := x) (HCX.out.1 wr T.out.below) HCX.out.2 HX.out.1 (by have := HX.out.2.1; omega)
          rw [← HL.out] at hpc
          refine hpc.mono ?_
          rintro e y1 ⟨vx, rfl, hR, hT, _⟩
          clear hpc x1
          have Y1 := Aside0.mk hT
          obtain ⟨P, hP⟩ : ∃ P, P = packetF (some k) (i : Int) x := ⟨_, rfl⟩
          rw [← hP] at hR
          have LPP := Aside0.mk (show 20 ≤ P.length ∧ P.length ≤ 240 by
            have h1 := len_packetF (some k) (i : Int) x (fun k' h => by cases h; exact LK.out)
            have h2 := len_pk k LK.out (i : Int) x HX.out.2.1
            have h3 : tagN (some k) = 16 := rfl
            rw [hP]
            omega)
          obtain ⟨gx, cx, rfl, hgx, hgxl, _⟩ := Kd.R_form hR (by have := LPP.out; omega)
          obtain ⟨_, hcx, hCx⟩ := Kd.R_reads' hR
          obtain ⟨M, hM⟩ : ∃ M, M = P.length := ⟨_, rfl⟩
          rw [← hM] at hCx hcx LPP hR ⊢
          have CX := Aside0.mk (And.intro hCx hcx)
          have RX := Aside0.mk hR
          have HGX := Aside0.mk hgx
          have HP := Aside0.mk (And.intro hP hM)
          have c16 : ¬ ((M : Int) < 16) := by have := LPP.out; omega
          have LQ := Aside0.mk (show (catF (pkT k ps q j a4) 0 i).length ≤ 12 * 240 by
            have h1 := len_catP LK.out HPM.out HM.out q j a4 i (by have := HI.out; omega)
            have := HI.out
            have := HM.out
            have := LP.out
            have : i * 240 ≤ 12 * 240 := Nat.mul_le_mul_right _ (by omega)
            omega)
          clear hT hgx hgxl hcx hCx hR hP hM
          by_cases hiq : i = q
          · subst hiq
            have i1 : (i : Int) = (i : Int) := rfl
            have kA : wrap64 ((M : Int) - 16) = (M : Int) - 16 := by have := LPP.out; rw [wrap_id (by omega) (by omega)]
            have kB : wrap64 ((M : Int) - 16 + (j : Int)) = (M : Int) - 16 + (j : Int) := by have := LPP.out; have := HJ.out; rw [wrap_id (by omega) (by omega)]
            go_wp2_with fail
            refine (strongroombook_Within.calls a3 0 15 (j : Int) y1 fJ.out).mono ?_
            rintro e y2 ⟨rfl, ⟨n2, rfl⟩⟩
            have Y2 := Aside0.mk (Y1.out.fr (pw_below_drewN (Below.refl _ _) n2))
            have RX2 := Aside0.mk (Kd.R_drewN RX.out n2)
            generalize y1.drewN n2 = y2 at Y2 RX2 ⊢
            obtain ⟨z, hz⟩ : ∃ z : Nat, z = M - 16 + j := ⟨_, rfl⟩
            have hzi : (M : Int) - 16 + (j : Int) = (z : Int) := by have := LPP.out; omega
            have HZ := Aside0.mk (show z < M by have := LPP.out; have := HJ.out; omega)
            have hc := Kd.R_celln (0 : Int) RX2.out (z : Int) (by omega) (by have := HZ.out; omega)
            have hp := Kd.R_putg RX2.out (z : Int) (bits .xor .u8 (rd P (z : Int)) a4)
            rw [Int.toNat_natCast] at hc hp
            obtain ⟨x1, x2⟩ := hc
            replace x1 : y2.cell? ⟨gx, z, none⟩ = some (.int .u8 (rd P (z : Int))) := x1
            have HPT := Aside0.mk hp.1
            have hzM : (z : Int) < (M : Int) := by have := HZ.out; omega
            have hzn : (0 : Int) ≤ (z : Int) := by omega
            have hzd : z < M := HZ.out
            have ET0 := Aside0.mk (show (0:Nat) = 0 from rfl)
            have ET := Aside0.mk (show P.set z (bits .xor .u8 (rd P (z : Int)) a4) = turnB P j a4 by
              unfold turnB
              rw [← HP.out.2, ← hz]
              rfl)
            have HZI := Aside0.mk hzi
            have kC : wrap64 ((M : Int) - 16 + (j : Int)) = (z : Int) := by rw [kB]; exact hzi
            clear hp hz hzi kB
            go_upto_region 19 with fail
            have YS := Aside0.mk (Two.set_far T.out Y2.out (j := z) HGX.out (.int .u8 (bits .xor .u8 (rd P (z : Int)) a4)))
            have CS := Aside0.mk (show (Kd.int .u8).C (y2.setCell ⟨gx, z, none⟩ (.int .u8 (bits .xor .u8 (rd P (z : Int)) a4))) (some ⟨gx, 0, none⟩) M (turnB P j a4) by
              have hh := (Kd.R_reads' HPT.out).2.2
              rw [ET.out] at hh
              rw [show (turnB P j a4).length = M by unfold turnB; rw [List.length_set]; exact HP.out.2.symm] at hh
              exact hh)
            generalize y2.setCell ⟨gx, z, none⟩ (.int .u8 (bits .xor .u8 (rd P (z : Int)) a4)) = y3 at YS CS ⊢
            clear x1 x2 kA kC hzM hzn hzd HPT ET0 RX2 Y2 i1
            go_wp2_with fail
            refine (two_feed YS.out (c := cx) CS.out (by have := LQ.out; have := LPP.out; omega)).mono ?_
            rintro e y4 ⟨rfl, vf, hT, _, _⟩
            have EQ : catF (pkT k ps i j a4) 0 i ++ turnB P j a4 = catF (pkT k ps i j a4) 0 (i + 1) := by
              rw [catF_snoc, Nat.zero_add]
              congr 1
              unfold pkT
              rw [if_pos rfl, HP.out.1, HXD.out]
            rw [EQ] at hT
            have Y4 := Aside0.mk hT
            clear hT EQ
            go_wp2_with fail
            refine ⟨⟨i + 1, HI.out, by rw [K3.out]; rfl, ⟨_, Y4.out⟩⟩, ?_⟩
            rw [K3.out]
            simp only [intOf]
            have := HI.out
            omega
          · have i1 : ¬ ((i : Int) = (q : Int)) := by omega
            have HIQ := Aside0.mk hiq
            clear hiq
            go_wp2_with fail
            refine (two_feed Y1.out (c := cx) CX.out.1 (by have := LQ.out; have := LPP.out; omega)).mono ?_
            rintro e y4 ⟨rfl, vf, hT, _, _⟩
            have EQ : catF (pkT k ps q j a4) 0 i ++ P = catF (pkT k ps q j a4) 0 (i + 1) := by
              rw [catF_snoc, Nat.zero_add]
              congr 1
              unfold pkT
              rw [if_neg HIQ.out, HP.out.1, HXD.out]
            rw [EQ] at hT
            have Y4 := Aside0.mk hT
            clear hT EQ i1 c16
            go_wp2_with fail
            refine ⟨⟨i + 1, HI.out, by rw [K3.out]; rfl, ⟨_, Y4.out⟩⟩, ?_⟩
            rw [K3.out]
            simp only [intOf]
            have := HI.out
            omega
        · obtain rfl : i = m := by omega
          have i0 : ¬ ((i : Int) < (i : Int)) := by omega
          obtain ⟨vb, hT⟩ := HT.out
          have T := Aside0.mk hT
          clear him hi hT HT fJ
          go_wp2_with fail
          go_loopw [18] (fun v w' => ∃ r : Nat, r ≤ q ∧ v = .int .i64 (r : Int) ∧ Aside0 (∃ vb, Two u w' g h vo (some k) (i : Int) vk vb (some k) (r : Int) (catF (pkT k ps q j a4) r (i - r)) 0)) (fun v _ => q - (intOf v).toNat)
          case atStart => exact ⟨0, by omega, rfl, ⟨_, T.out⟩⟩
          case round =>
            obtain ⟨r, hr, rfl, HT⟩ := hrel
            by_cases hrq : r < q
            · have r0 : (r : Int) < (q : Int) := by omega
              have k3 : wrap64 ((r : Int) + 1) = (r : Int) + 1 := by have := LP.out; have := HM.out; have := HQ.out; rw [wrap_id (by omega) (by omega)]
              have K3 := Aside0.mk k3
              have HRQ := Aside0.mk hrq
              obtain ⟨vb1, hT⟩ := HT.out
              have T := Aside0.mk hT
              obtain ⟨ad, Ai, ci, rfl, hcell, hC, hci⟩ := rows_at CP.out HH.out r (by have := HQ.out; have := HM.out; omega)
              obtain ⟨x, hx⟩ : ∃ x, x = ps.getD r [] := ⟨_, rfl⟩
              rw [← hx] at hcell hC hci
              have HX := Aside0.mk (HPM.out x (by rw [hx]; exact mem_getD (by have := HQ.out; have := HM.out; omega)))
              obtain ⟨L, hL⟩ : ∃ L, L = x.length := ⟨_, rfl⟩
              rw [← hL] at hcell
              have HL := Aside0.mk hL
              have HCX := Aside0.mk (And.intro hC hci)
              have HCE := Aside0.mk hcell
              have EC : catF (pkT k ps q j a4) r (i - r) = packetF (some k) (r : Int) x ++ catF (pkT k ps q j a4) (r + 1) (i - (r + 1)) := by
                rw [show i - r = (i - (r + 1)) + 1 by have := HQ.out; omega, catF]
                congr 1
                unfold pkT
                rw [if_neg (by omega), hx]
              have LQ := Aside0.mk (len_catP2 LK.out HPM.out HM.out q j a4 (i - r) r (by have := HQ.out; omega))
              have BQ := Aside0.mk (bytes_catP2 LK.out HPM.out HM.out q j a4 HA4.out (i - r) r (by have := HQ.out; omega))
              have EN := Aside0.mk (next_whole (some k) (r : Int) x (catF (pkT k ps q j a4) (r + 1) (i - (r + 1))) (fun k' h => by cases h; exact LK.out) HX.out.2.2 HX.out.1 (by have := HX.out.2.1; omega))
              rw [← EC] at EN
              have i0m : r < i := by have := HQ.out; omega
              clear hr hrq hT HT hcell hC hci hx hL EC
              go_wp2_with fail
              refine (two_next T.out (by have := HRQ.out; have := HQ.out; have := LP.out; have := HM.out; omega) BQ.out (by have h1 := LQ.out; have h2 := LP.out; have h3 := HM.out; have : (i - r) * 240 ≤ 12 * 240 := Nat.mul_le_mul_right _ (by omega); omega) EN.out).mono ?_
              rintro e y3 ⟨v7, vb7, rfl, hR, hT, _, _⟩
              have Y3 := Aside0.mk hT
              obtain ⟨A9, c9, rfl, _, hC9⟩ := Kd.R_reads hR
              rw [← HL.out] at hC9 ⊢
              have C9 := Aside0.mk hC9
              obtain ⟨str, hstr⟩ : ∃ z, z = strOfNums x := ⟨_, rfl⟩
              have Q0 := Aside0.mk (fun (W : World) (hW : Below y3.heap.size y3 W) => HCE.out W (below_step Y3.out.below hW))
              have Q1 := Aside0.mk (fun (W : World) (hW : Below y3.heap.size y3 W) => show (convert 23 9 (.slice A9 L c9)).run Try.prog W = .ok (.string str) W by
                have hh := Kd.C_string (P := Try.prog) (c := c9) Try.underlying23 Try.underlying5 Try.underlying9 (show (Kd.int .u8).C W A9 x.length x by rw [← HL.out]; exact Kd.C_below C9.out hW)
                rw [← HL.out] at hh
                rw [hstr]
                exact hh)
              have Q2 := Aside0.mk (fun (W : World) (hW : Below y3.heap.size y3 W) => show (convert 23 9 (.slice Ai L ci)).run Try.prog W = .ok (.string str) W by
                have hh := Kd.C_string (P := Try.prog) (c := ci) Try.underlying23 Try.underlying5 Try.underlying9 (HCX.out.1 W (below_step Y3.out.below hW))
                rw [← HL.out] at hh
                rw [hstr]
                exact hh)
              clear hR hT hC9 hstr
              go_upto_region 24 with fail
              change Code.wp _ _ _ _ y3
              refine start_ (n := 16) (S := fun w' => Below y3.heap.size y3 w') (ds := []) #[false, false, false, false, false, false, false, false, false, false, false, false, false, false, false, false] (by kernel_rfl) rfl rfl ((below_drew1 (Below.refl y3.heap.size y3))) (fun hHeld => ?_)
              refine pure_ (i := 0) (N := some 117) (v := ?_) (a' := ?_) #[true, false, false, false, false, false, false, false, false, false, false, false, false, false, false, false] rfl rfl (by kernel_rfl) (fun _ _ _ h => h) (Or.inl ⟨by rfl, ?_⟩) ?_ ?_
              rotate_left
              · intro w'
                go_simp
                with_reducible rfl
              rotate_left
              · simp only [Act.put, List.setIfInBounds_toArray, List.set_cons_zero, List.set_cons_succ]
                rfl
              refine pure_ (i := 1) (N := some 118) (v := ?_) (a' := ?_) #[true, true, false, false, false, false, false, false, false, false, false, false, false, false, false, false] rfl rfl (by kernel_rfl) (fun _ _ _ h => h) (Or.inl ⟨by rfl, ?_⟩) ?_ ?_
              rotate_left
              · intro w'
                go_simp
                with_reducible rfl
              rotate_left
              · simp only [Act.put, List.setIfInBounds_toArray, List.set_cons_zero, List.set_cons_succ]
                rfl
              refine pure_ (i := 2) (N := some 119) (v := ?_) (a' := ?_) #[true, true, true, false, false, false, false, false, false, false, false, false, false, false, false, false] rfl rfl (by kernel_rfl) (fun _ _ _ h => h) (Or.inl ⟨by rfl, ?_⟩) ?_ ?_
              rotate_left
              · intro w'
                go_simp
                with_reducible rfl
              rotate_left
              · simp only [Act.put, List.setIfInBounds_toArray, List.set_cons_zero, List.set_cons_succ]
                rfl
              refine pure_ (i := 3) (N := some 120) (v := ?_) (a' := ?_) #[true, true, true, true, false, false, false, false, false, false, false, false, false, false, false, false] rfl rfl (by kernel_rfl) (fun _ _ _ h => h) (Or.inl ⟨by rfl, ?_⟩) ?_ ?_
              rotate_left
              · intro w'
                go_simp
                with_reducible rfl
              rotate_left
              · simp only [Act.put, List.setIfInBounds_toArray, List.set_cons_zero, List.set_cons_succ]
                rfl
              refine pure_ (i := 4) (N := some 121) (v := ?_) (a' := ?_) #[true, true, true, true, true, false, false, false, false, false, false, false, false, false, false, false] rfl rfl (by kernel_rfl) (fun _ _ _ h => h) (Or.inl ⟨by rfl, ?_⟩) ?_ ?_
              rotate_left
              · intro w'
                go_simp
                with_reducible rfl
              rotate_left
              · simp only [Act.put, List.setIfInBounds_toArray, List.set_cons_zero, List.set_cons_succ]
                rfl
              refine pure_ (i := 5) (N := some 122) (v := ?_) (a' := ?_) #[true, true, true, true, true, true, false, false, false, false, false, false, false, false, false, false] rfl rfl (by kernel_rfl) (fun _ _ _ h => h) (Or.inl ⟨by rfl, ?_⟩) ?_ ?_
              rotate_left
              · intro w'
                go_simp
                with_reducible rfl
              rotate_left
              · simp only [Act.put, List.setIfInBounds_toArray, List.set_cons_zero, List.set_cons_succ]
                rfl
              refine pure_ (i := 6) (N := some 123) (v := ?_) (a' := ?_) #[true, true, true, true, true, true, true, false, false, false, false, false, false, false, false, false] rfl rfl (by kernel_rfl) (fun _ _ _ h => h) (Or.inl ⟨by rfl, ?_⟩) ?_ ?_
              rotate_left
              · intro w'
                go_simp
                with_reducible rfl
              rotate_left
              · simp only [Act.put, List.setIfInBounds_toArray, List.set_cons_zero, List.set_cons_succ]
                rfl
              refine pure_ (i := 7) (N := some 124) (v := ?_) (a' := ?_) #[true, true, true, true, true, true, true, true, false, false, false, false, false, false, false, false] rfl rfl (by kernel_rfl) (fun _ _ _ h => h) (Or.inl ⟨by rfl, ?_⟩) ?_ ?_
              rotate_left
              · intro w'
                go_simp
                with_reducible rfl
              rotate_left
              · simp only [Act.put, List.setIfInBounds_toArray, List.set_cons_zero, List.set_cons_succ]
                rfl
              refine pure_ (i := 9) (N := some 126) (v := ?_) (a' := ?_) #[true, true, true, true, true, true, true, true, false, true, false, false, false, false, false, false] rfl rfl (by kernel_rfl) (fun _ _ _ h => h) (Or.inl ⟨by rfl, ?_⟩) ?_ ?_
              rotate_left
              · intro w'
                go_simp
                with_reducible rfl
              rotate_left
              · simp only [Act.put, List.setIfInBounds_toArray, List.set_cons_zero, List.set_cons_succ]
                rfl
              refine pure_ (i := 10) (N := some 127) (v := ?_) (a' := ?_) #[true, true, true, true, true, true, true, true, false, true, true, false, false, false, false, false] rfl rfl (by kernel_rfl) (fun _ _ _ h => h) (Or.inl ⟨by rfl, ?_⟩) ?_ ?_
              rotate_left
              · intro w'
                go_simp
                with_reducible rfl
              rotate_left
              · simp only [Act.put, List.setIfInBounds_toArray, List.set_cons_zero, List.set_cons_succ]
                rfl
              refine pure_ (i := 11) (N := some 128) (v := ?_) (a' := ?_) #[true, true, true, true, true, true, true, true, false, true, true, true, false, false, false, false] rfl rfl (by kernel_rfl) (fun _ _ _ h => h) (Or.inl ⟨by rfl, ?_⟩) ?_ ?_
              rotate_left
              · intro w'
                go_simp
                with_reducible rfl
              rotate_left
              · simp only [Act.put, List.setIfInBounds_toArray, List.set_cons_zero, List.set_cons_succ]
                rfl
              refine take_ (i := 8) (N := some 125) (v := ?_) (a' := ?_) #[true, true, true, true, true, true, true, true, true, true, true, true, false, false, false, false] rfl rfl (by kernel_rfl) (fun _ _ _ h => h) (Or.inl ⟨by rfl, ?_⟩) hHeld ?_ ?_
              rotate_left
              · intro w' s0
                have q0_ := Q0.out w' s0
                have q1_ := Q1.out w' s0
                have q2_ := Q2.out w' s0
                go_simp
                with_reducible rfl
              rotate_left
              · simp only [Act.put, List.setIfInBounds_toArray, List.set_cons_zero, List.set_cons_succ]
                rfl
              refine take_ (i := 12) (N := some 129) (v := ?_) (a' := ?_) #[true, true, true, true, true, true, true, true, true, true, true, true, true, false, false, false] rfl rfl (by kernel_rfl) (fun _ _ _ h => h) (Or.inl ⟨by rfl, ?_⟩) hHeld ?_ ?_
              rotate_left
              · intro w' s0
                have q0_ := Q0.out w' s0
                have q1_ := Q1.out w' s0
                have q2_ := Q2.out w' s0
                go_simp
                with_reducible rfl
              rotate_left
              · simp only [Act.put, List.setIfInBounds_toArray, List.set_cons_zero, List.set_cons_succ]
                rfl
              refine take_ (i := 13) (N := some 130) (v := ?_) (a' := ?_) #[true, true, true, true, true, true, true, true, true, true, true, true, true, true, false, false] rfl rfl (by kernel_rfl) (fun _ _ _ h => h) (Or.inl ⟨by rfl, ?_⟩) hHeld ?_ ?_
              rotate_left
              · intro w' s0
                have q0_ := Q0.out w' s0
                have q1_ := Q1.out w' s0
                have q2_ := Q2.out w' s0
                go_simp
                with_reducible rfl
              rotate_left
              · simp only [Act.put, List.setIfInBounds_toArray, List.set_cons_zero, List.set_cons_succ]
                rfl
              refine pure_ (i := 14) (N := some 131) (v := ?_) (a' := ?_) #[true, true, true, true, true, true, true, true, true, true, true, true, true, true, true, false] rfl rfl (by kernel_rfl) (fun _ _ _ h => h) (Or.inl ⟨by rfl, ?_⟩) ?_ ?_
              rotate_left
              · intro w'
                go_simp
                with_reducible rfl
              rotate_left
              · simp only [Act.put, List.setIfInBounds_toArray, List.set_cons_zero, List.set_cons_succ]
                rfl
              refine pure_ (i := 15) (N := some 132) (v := ?_) (a' := ?_) #[true, true, true, true, true, true, true, true, true, true, true, true, true, true, true, true] rfl rfl (by kernel_rfl) (fun _ _ _ h => h) (Or.inl ⟨by rfl, ?_⟩) ?_ ?_
              rotate_left
              · intro w'
                go_simp
                with_reducible rfl
              rotate_left
              · simp only [Act.put, List.setIfInBounds_toArray, List.set_cons_zero, List.set_cons_succ]
                rfl
              refine done_ (by kernel_rfl) ?_
              have YZ := Aside0.mk (Y3.out.fr hHeld)
              clear hHeld
              go_wp2_with fail
              refine ⟨⟨r + 1, HRQ.out, by rw [K3.out]; rfl, ⟨_, YZ.out⟩⟩, ?_⟩
              rw [K3.out]
              simp only [intOf]
              have := HRQ.out
              omega
            · obtain rfl : r = q := by omega
              have r0 : ¬ ((r : Int) < (r : Int)) := by omega
              obtain ⟨vb1, hT⟩ := HT.out
              have T := Aside0.mk hT
              clear hrq hr hT HT
              have EC : catF (pkT k ps r j a4) r (i - r) = turnB (packetF (some k) (r : Int) (ps.getD r [])) j a4 ++ catF (pkT k ps r j a4) (r + 1) (i - (r + 1)) := by
                rw [show i - r = (i - (r + 1)) + 1 by have := HQ.out; omega, catF]
                congr 1
                unfold pkT
                rw [if_pos rfl]
              have HX := Aside0.mk (HPM.out _ (mem_getD (show r < ps.length by have := HQ.out; have := HM.out; omega)))
              have EN := Aside0.mk (next_turned k (r : Int) (ps.getD r []) (catF (pkT k ps r j a4) (r + 1) (i - (r + 1))) j a4 LK.out HX.out.2.2 HX.out.1 (by have := HX.out.2.1; omega) HJ.out HA4.out HT0.out)
              rw [← EC] at EN
              have LQ := Aside0.mk (len_catP2 LK.out HPM.out HM.out r j a4 (i - r) r (by have := HQ.out; omega))
              have BQ := Aside0.mk (bytes_catP2 LK.out HPM.out HM.out r j a4 HA4.out (i - r) r (by have := HQ.out; omega))
              obtain ⟨bq, hbq⟩ : ∃ b, b = catF (pkT k ps r j a4) r (i - r) := ⟨_, rfl⟩
              rw [← hbq] at T EN LQ BQ
              have LB := Aside0.mk (show bq.length ≤ 10000 by
                have h1 := LQ.out
                have h2 := LP.out
                have h3 := HM.out
                have : (i - r) * 240 ≤ 12 * 240 := Nat.mul_le_mul_right _ (by omega)
                omega)
              clear EC hbq HX LQ
              go_wp2_with fail
              go_loopw [22] (fun v w' => ∃ s : Nat, s ≤ 3 ∧ v = .int .i64 (s : Int) ∧ Aside0 (∃ vb bs why, Two u w' g h vo (some k) (i : Int) vk vb (some k) (r : Int) bs why ∧ nextF (some k) (r : Int) bs why = ⟨[], false, 14, (r : Int), [], 14⟩ ∧ (∀ x ∈ bs, 0 ≤ x ∧ x < 256) ∧ bs.length ≤ 10000)) (fun v _ => 3 - (intOf v).toNat)
              case atStart => exact ⟨0, by omega, rfl, ⟨_, _, _, T.out, EN.out, BQ.out, LB.out⟩⟩
              case round =>
                obtain ⟨s, hs, rfl, HT⟩ := hrel
                by_cases hs3 : s < 3
                · have s0 : (s : Int) < 3 := by omega
                  have HS3 := Aside0.mk hs3
                  obtain ⟨vb2, bs, why, hT, hN, hby, hle⟩ := HT.out
                  have TT := Aside0.mk hT
                  have HNX := Aside0.mk (And.intro hN (And.intro hby hle))
                  clear hs hs3 hT hN hby hle HT
                  go_wp2_with fail
                  refine (two_next TT.out (by have := HQ.out; have := LP.out; have := HM.out; omega) HNX.out.2.1 (by have := HNX.out.2.2; omega) HNX.out.1).mono ?_
                  rintro e y3 ⟨v7, vb7, rfl, hR, hT, _, _⟩
                  have Y3 := Aside0.mk hT
                  obtain ⟨A9, c9, rfl, _, _⟩ := Kd.R_reads hR
                  rw [show ([] : List Int).length = 0 from rfl]
                  clear hR hT
                  go_wp2_with fail
                  refine (two_held Y3.out).mono ?_
                  rintro e y4 ⟨rfl, rfl⟩
                  rw [show (([] : List Int).length : Int) = 0 from rfl]
                  have B3 := Aside0.mk (show Below y4.heap.size y4 (y4.alloc (.cells (nums .u8 [1, 2, 3]).toArray 5)) from (Below.refl _ _).alloc (Nat.le_refl _) _)
                  have Y5 := Aside0.mk (Y3.out.fr B3.out)
                  clear B3
                  go_wp2_with fail
                  change Calls _ _ _ (y4.alloc (.cells (nums .u8 [1, 2, 3]).toArray 5)) _
                  refine (two_feed_dead Y5.out (by decide) _).mono ?_
                  rintro e y5 ⟨rfl, rfl⟩
                  go_wp2_with fail
                  refine ⟨⟨s + 1, HS3.out, by first | rfl | (rw [wrap_id (by have := HS3.out; omega) (by have := HS3.out; omega)]; rfl), ⟨_, [], 14, Y5.out, rfl, (fun x hx => by cases hx), by decide⟩⟩, ?_⟩
                  have := HS3.out
                  first | (simp only [intOf]; omega) | (rw [wrap_id (by omega) (by omega)]; simp only [intOf]; omega)
                · obtain rfl : s = 3 := by omega
                  obtain ⟨vb2, bs, why, hT, _⟩ := HT.out
                  have LW := Aside0.mk (B1.out.trans (hT.below.mono B1.out.size))
                  clear hs hs3 hT HT
                  rw [show ((3 : Nat) : Int) = 3 from rfl]
                  go_wp2_with fail
                  refine (known8_calls _).mono ?_
                  rintro e w9 ⟨rfl, hB⟩
                  have LZ := Aside0.mk (below_step LW.out hB)
                  clear hB
                  go_wp2_with fail
                  go_ret
                  exact ⟨rfl, LZ.out⟩
theorem packetTurned_calls' (La : Option Addr) (n cl : Nat) (A1 : Option Addr) (c1 : Nat) (l1 : List Int) (a2 a3 a4 : Int) (w : World)
    (hL : ∀ i, i < n → ∃ (a : Addr) (A : Option Addr) (c : Nat) (x : List Int), La = some a ∧ w.cell? (a.add i) = some (.slice A x.length c) ∧ (Kd.int .u8).C w A x.length x ∧ x.length ≤ c ∧ ∀ z ∈ x, 0 ≤ z ∧ z < 256) (hn : n ≤ cl) (hr1 : Kd.C (Kd.int .u8) w A1 l1.length l1) (hc1 : l1.length ≤ c1) (hm1 : l1.length ≤ 9223372036854775807) (ha4 : 0 ≤ a4 ∧ a4 < 256) :
    Calls Try.prog 8 #[.slice La n cl, .slice A1 l1.length c1, .int .i64 a2, .int .i64 a3, .int .u8 a4] w fun e w' => e = .returned (.bool true) ∧ Below w.heap.size w w' := by
  obtain ⟨xs, h1, h2⟩ := argL_of hL
  exact packetTurned_calls La n cl xs A1 c1 l1 a2 a3 a4 w h1 hn h2 hr1 hc1 hm1 ha4
end Go.Proofs.Ytnmnghpdmiffaaa.Pk
