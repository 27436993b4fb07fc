/-
  PacketSizes, walked.
-/
import Derived.Test.YtnmnghpdmiffaaaPkAll
namespace Go.Proofs.Ytnmnghpdmiffaaa.Pk
open Go.RowKit Go.Proofs.YtnmnghpdmiffaaaW.PrintWords Go.Proofs.YtnmnghpdmiffaaaW.PrintLast Go.Proofs.YtnmnghpdmiffaaaW.PrintMore Go.Proofs.Ytnmnghpdmiffaaa.Arr
set_option linter.unusedVariables false
set_option maxHeartbeats 8000000
set_option maxRecDepth 100000
theorem len_packetF (key : Option (List Int)) (n : Int) (b : List Int) (hk : ∀ k, key = some k → k.length = 32) : (packetF key n b).length = 5 + b.length + padN (headN key) b.length + tagN key := by
  rcases key with _ | k
  · unfold packetF sealF
    rw [List.length_append, len_bodyF]
    show 4 + _ = _ + 0
    omega
  · unfold packetF sealF
    rw [List.length_append]
    show _ + (sealAns k (nonceF n) (be32 (bodyF (some k) b).length) (bodyF (some k) b)).1.length = _
    rw [seal_eq (hk k rfl) (show (nonceF n).length = 12 from rfl)]
    show 4 + (hidF k (nonceF n) (bodyF (some k) b) ++ macF k (nonceF n) (be32 (bodyF (some k) b).length) (hidF k (nonceF n) (bodyF (some k) b))).length = _
    rw [List.length_append, len_hidF, len_macF, len_bodyF]
    show _ = _ + 16
    omega
theorem packetSizes_calls (A1 : Option Addr) (c1 : Nat) (l1 : List Int) (A2 : Option Addr) (c2 : Nat) (l2 : List Int) (a3 : Bool) (w : World)
    (hr1 : Kd.C (Kd.int .u8) w A1 l1.length l1) (hc1 : l1.length ≤ c1) (hr2 : Kd.C (Kd.int .u8) w A2 l2.length l2) (hc2 : l2.length ≤ c2) (hm2 : l2.length ≤ 9223372036854775807) :
    Calls Try.prog 4 #[.slice A1 l1.length c1, .slice A2 l2.length c2, .bool a3] w fun e w' => e = .returned (.bool true) ∧ Below w.heap.size w w' := by
  obtain ⟨s, hs⟩ : ∃ x, x = l1.take 400 := ⟨_, rfl⟩
  have f1 := Aside0.mk (show strongroomkeep_CutR.f l1 400 = some s by rw [hs]; exact cut_some l1 400)
  have f2 := Aside0.mk (show strongroomkeep_Sized.f l2 32 = some (sizedF l2 32) from sized_some l2 32 (by decide) hm2)
  have K1 := Aside0.mk (And.intro hr1 hc1)
  have K2 := Aside0.mk (And.intro hr2 hc2)
  have D1 := Aside0.mk (And.intro (cutR_C hr1 hc1 f1.out) (cutR_len hc1 f1.out))
  have LS := Aside0.mk (show s.length ≤ 400 by rw [hs, List.length_take]; omega)
  obtain ⟨k, hk⟩ : ∃ x, x = sizedF l2 32 := ⟨_, rfl⟩
  have LK := Aside0.mk (show k.length = 32 by rw [hk, len_sizedF])
  have HK := Aside0.mk hk
  clear hr1 hc1 hr2 hc2 hm2 hs hk
  go_enter Try.func4, Try.ntmps4
  go_wp2_with fail
  refine (strongroomkeep_CutR.calls A1 c1 l1 400 s w K1.out.1 K1.out.2 f1.out).mono ?_
  rintro e u1 ⟨rfl, ⟨n1, rfl⟩⟩
  have B1 := Aside0.mk (pw_below_drewN (Below.refl w.heap.size w) n1)
  generalize w.drewN n1 = u1 at B1 ⊢
  have E1 := Aside0.mk (And.intro (Kd.C_below D1.out.1 B1.out) D1.out.2)
  have E2 := Aside0.mk (And.intro (Kd.C_below K2.out.1 B1.out) K2.out.2)
  clear K1 K2 D1 f1
  obtain ⟨L, hL⟩ : ∃ L, L = s.length := ⟨_, rfl⟩
  rw [← hL] at E1 LS ⊢
  have HL := Aside0.mk hL
  clear hL
  by_cases h0 : L = 0
  · have h0i : (L : Int) = 0 := by omega
    subst h0
    go_wp2_with fail
    refine (known8_calls u1).mono ?_
    rintro e u2 ⟨rfl, hB⟩
    have LZ := Aside0.mk (below_step B1.out hB)
    clear hB
    go_wp2_with fail
    go_ret
    exact ⟨rfl, LZ.out⟩
  · have h0i : ¬ ((L : Int) = 0) := by omega
    have H0 := Aside0.mk (show 1 ≤ L by omega)
    go_wp2_with fail
    refine (newOut_calls u1).mono ?_
    rintro e u2 ⟨g, rfl, hg, hO, hB⟩
    have HO := Aside0.mk hO
    have HG := Aside0.mk (show w.heap.size ≤ g from Nat.le_trans B1.out.size hg)
    have B2 := Aside0.mk (below_step B1.out hB)
    have FG := Aside0.mk (show u1.heap.size ≤ g from hg)
    have BU := Aside0.mk (show Below u1.heap.size u1 u2 from hB)
    clear hg hO hB
    cases a3 with
    | false =>
      go_wp2_with fail
      have hpc := packet_calls g (.slice none 0 0) none 0 A1 c1 s u2 HO.out (by decide) (by rw [← HL.out]; exact Kd.C_below E1.out.1 BU.out) (by rw [← HL.out]; exact E1.out.2) (by rw [← HL.out]; exact H0.out) (by rw [← HL.out]; have := LS.out; omega)
      rw [← HL.out] at hpc
      refine hpc.mono ?_
      rintro e u5 ⟨v5, rfl, hR, _, hG5⟩
      obtain ⟨P, hP⟩ : ∃ P, P = padN 4 L := ⟨_, rfl⟩
      have hlen : (packetF none 0 s).length = 5 + L + P + 0 := by
        rw [len_packetF none 0 s (fun k h => by cases h), ← HL.out, hP]
        rfl
      obtain ⟨A5, c5, rfl, _, _⟩ := Kd.R_reads hR
      obtain ⟨T, hT⟩ : ∃ T, T = (packetF none 0 s).length := ⟨_, rfl⟩
      rw [← hT]
      have hT2 : T = 5 + L + P + 0 := hT.trans hlen
      have HP := Aside0.mk (And.intro (show 4 ≤ P ∧ P ≤ 11 by rw [hP]; exact padN_ge 4 L) (show (4 + 1 + L + P) % 8 = 0 by rw [hP]; exact padN_is 4 L))
      have hPb := HP.out
      have hLb := LS.out
      have w1 : wrap64 ((T : Int)) = (T : Int) := by rw [wrap_id (by omega) (by omega)]
      have w0 : IntKind.i64.wrap ((T : Int)) = (T : Int) := by rw [i64_w, w1]
      have w2 : wrap64 ((T : Int) - 1) = (T : Int) - 1 := by rw [wrap_id (by omega) (by omega)]
      have w3 : wrap64 ((T : Int) - 1 - (L : Int)) = (T : Int) - 1 - (L : Int) := by rw [wrap_id (by omega) (by omega)]
      have w4 : wrap64 ((T : Int) - 1 - (L : Int) - 4) = (T : Int) - 1 - (L : Int) - 4 := by rw [wrap_id (by omega) (by omega)]
      have w5 : ((T : Int)).tmod 8 = 0 := by rw [Int.tmod_eq_emod_of_nonneg (by omega)]; omega
      have w6 : (4 : Int) ≤ (T : Int) - 1 - (L : Int) - 4 := by omega
      have w7 : (T : Int) - 1 - (L : Int) - 4 < 12 := by omega
      have B5 := Aside0.mk (B2.out.trans (hG5.below (n := w.heap.size) B2.out.size (fun k hk => by rw [hk]; exact HG.out)))
      clear hpc hR hG5 hP hlen hT hT2 hPb hLb
      go_wp2_with fail
      refine (known8_calls u5).mono ?_
      rintro e u6 ⟨rfl, hB⟩
      have LZ := Aside0.mk (below_step B5.out hB)
      clear hB
      go_wp2_with fail
      go_ret
      exact ⟨rfl, LZ.out⟩
    | true =>
      go_wp2_with fail
      refine (strongroomkeep_Sized.calls A2 c2 l2 32 _ u2 (Kd.C_below E2.out.1 BU.out) E2.out.2 f2.out).mono ?_
      rintro e u3 ⟨v3, rfl, hR, hB⟩
      rw [← HK.out] at hR
      obtain ⟨Ak, ck, rfl, hck, hCk⟩ := Kd.R_reads hR
      rw [LK.out] at hck hCk ⊢
      have HO3 := Aside0.mk (HO.out.below hB)
      have CK := Aside0.mk (And.intro hCk hck)
      have B3 := Aside0.mk (below_step B2.out hB)
      have BV := Aside0.mk (below_step BU.out hB)
      clear hR hB hck hCk
      go_wp2_with fail
      refine (outKeys_calls g (.slice none 0 0) none 0 Ak ck k u3 HO3.out CK.out.1 CK.out.2).mono ?_
      rintro e u4 ⟨rfl, vk, hO4, _, hG4⟩
      have HO4 := Aside0.mk hO4
      have B4 := Aside0.mk (B3.out.trans (hG4.below (n := w.heap.size) B3.out.size (fun k hk => by rw [hk]; exact HG.out)))
      have BW := Aside0.mk (BV.out.trans (hG4.below (n := u1.heap.size) BV.out.size (fun k hk => by rw [hk]; exact FG.out)))
      clear hO4 hG4
      go_wp2_with fail
      have hpc := packet_calls g vk (some k) 0 A1 c1 s u4 HO4.out (by decide) (by rw [← HL.out]; exact Kd.C_below E1.out.1 BW.out) (by rw [← HL.out]; exact E1.out.2) (by rw [← HL.out]; exact H0.out) (by rw [← HL.out]; have := LS.out; omega)
      rw [← HL.out] at hpc
      refine hpc.mono ?_
      rintro e u5 ⟨v5, rfl, hR, _, hG5⟩
      obtain ⟨P, hP⟩ : ∃ P, P = padN 0 L := ⟨_, rfl⟩
      have hlen : (packetF (some k) 0 s).length = 5 + L + P + 16 := by
        rw [len_packetF (some k) 0 s (fun k' h => by cases h; exact LK.out), ← HL.out, hP]
        rfl
      obtain ⟨A5, c5, rfl, _, _⟩ := Kd.R_reads hR
      obtain ⟨T, hT⟩ : ∃ T, T = (packetF (some k) 0 s).length := ⟨_, rfl⟩
      rw [← hT]
      have hT2 : T = 5 + L + P + 16 := hT.trans hlen
      have HP := Aside0.mk (And.intro (show 4 ≤ P ∧ P ≤ 11 by rw [hP]; exact padN_ge 0 L) (show (0 + 1 + L + P) % 8 = 0 by rw [hP]; exact padN_is 0 L))
      have hPb := HP.out
      have hLb := LS.out
      have w1 : wrap64 ((T : Int) - 20) = (T : Int) - 20 := by rw [wrap_id (by omega) (by omega)]
      have w0 : IntKind.i64.wrap ((T : Int) - 20) = (T : Int) - 20 := by rw [i64_w, w1]
      have w2 : wrap64 ((T : Int) - 20 - 1) = (T : Int) - 20 - 1 := by rw [wrap_id (by omega) (by omega)]
      have w3 : wrap64 ((T : Int) - 20 - 1 - (L : Int)) = (T : Int) - 20 - 1 - (L : Int) := by rw [wrap_id (by omega) (by omega)]
      have w4 : wrap64 ((T : Int) - 20 - 1 - (L : Int) - 4) = (T : Int) - 20 - 1 - (L : Int) - 4 := by rw [wrap_id (by omega) (by omega)]
      have w5 : ((T : Int) - 20).tmod 8 = 0 := by rw [Int.tmod_eq_emod_of_nonneg (by omega)]; omega
      have w6 : (4 : Int) ≤ (T : Int) - 20 - 1 - (L : Int) := by omega
      have w7 : (T : Int) - 20 - 1 - (L : Int) < 12 := by omega
      have B5 := Aside0.mk (B4.out.trans (hG5.below (n := w.heap.size) B4.out.size (fun k hk => by rw [hk]; exact HG.out)))
      clear hpc hR hG5 hP hlen hT hT2 hPb hLb
      go_wp2_with fail
      refine (known8_calls u5).mono ?_
      rintro e u6 ⟨rfl, hB⟩
      have LZ := Aside0.mk (below_step B5.out hB)
      clear hB
      go_wp2_with fail
      go_ret
      exact ⟨rfl, LZ.out⟩
end Go.Proofs.Ytnmnghpdmiffaaa.Pk
