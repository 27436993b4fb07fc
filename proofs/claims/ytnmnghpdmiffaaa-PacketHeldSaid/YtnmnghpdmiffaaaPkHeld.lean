/-
  PacketHeld, walked.
-/
import Derived.Test.YtnmnghpdmiffaaaPkH
namespace Go.Proofs.Ytnmnghpdmiffaaa.Pk
open Go.RowKit Go.Proofs.YtnmnghpdmiffaaaW.PrintWords Go.Proofs.YtnmnghpdmiffaaaW.PrintLast Go.Proofs.YtnmnghpdmiffaaaW.PrintMore Go.Proofs.Ytnmnghpdmiffaaa.Arr
set_option linter.unusedVariables false
set_option maxHeartbeats 8000000
set_option maxRecDepth 100000
theorem packetHeld_calls (A1 : Option Addr) (c1 : Nat) (l1 : List Int) (A2 : Option Addr) (c2 : Nat) (l2 : List Int) (a3 : Bool) (a4 : Int) (w : World)
    (hr1 : Kd.C (Kd.int .u8) w A1 l1.length l1) (hc1 : l1.length ≤ c1) (hb1 : ∀ x ∈ l1, 0 ≤ x ∧ x < 256) (hr2 : Kd.C (Kd.int .u8) w A2 l2.length l2) (hc2 : l2.length ≤ c2) (hm2 : l2.length ≤ 9223372036854775807) :
    Calls Try.prog 10 #[.slice A1 l1.length c1, .slice A2 l2.length c2, .bool a3, .int .i64 a4] w fun e w' => e = .returned (.bool true) ∧ Below w.heap.size w w' := by
  obtain ⟨s, hs⟩ : ∃ x, x = l1.take 300 := ⟨_, rfl⟩
  have f1 := Aside0.mk (show strongroomkeep_CutR.f l1 300 = some s by rw [hs]; exact cut_some l1 300)
  have f2 := Aside0.mk (show strongroomkeep_Sized.f l2 32 = some (sizedF l2 32) from sized_some l2 32 (by decide) hm2)
  have K1 := Aside0.mk (And.intro hr1 hc1)
  have K2 := Aside0.mk (And.intro hr2 hc2)
  have D1 := Aside0.mk (And.intro (cutR_C hr1 hc1 f1.out) (cutR_len hc1 f1.out))
  have LS := Aside0.mk (show s.length ≤ 300 by rw [hs, List.length_take]; omega)
  have BS := Aside0.mk (show ∀ x ∈ s, 0 ≤ x ∧ x < 256 from fun x hx => hb1 x (List.mem_of_mem_take (hs ▸ hx)))
  obtain ⟨k, hk⟩ : ∃ x, x = sizedF l2 32 := ⟨_, rfl⟩
  have LK := Aside0.mk (show k.length = 32 by rw [hk, len_sizedF])
  have HK := Aside0.mk hk
  clear hr1 hc1 hr2 hc2 hm2 hs hk hb1
  go_enter Try.func10, Try.ntmps10
  go_wp2_with fail
  refine (strongroomkeep_CutR.calls A1 c1 l1 300 s w K1.out.1 K1.out.2 f1.out).mono ?_
  rintro e u1 ⟨rfl, ⟨n1, rfl⟩⟩
  have B1 := Aside0.mk (pw_below_drewN (Below.refl w.heap.size w) n1)
  generalize w.drewN n1 = u1 at B1 ⊢
  have E1 := Aside0.mk (And.intro (Kd.C_below D1.out.1 B1.out) D1.out.2)
  have E2 := Aside0.mk (And.intro (Kd.C_below K2.out.1 B1.out) K2.out.2)
  clear K1 K2 D1 f1
  obtain ⟨L, hL⟩ : ∃ L, L = s.length := ⟨_, rfl⟩
  rw [← hL] at E1 LS ⊢
  have HL := Aside0.mk hL
  clear hL
  by_cases h0 : L = 0
  · have h0i : (L : Int) = 0 := by omega
    subst h0
    go_wp2_with fail
    refine (known8_calls u1).mono ?_
    rintro e u2 ⟨rfl, hB⟩
    have LZ := Aside0.mk (below_step B1.out hB)
    clear hB
    go_wp2_with fail
    go_ret
    exact ⟨rfl, LZ.out⟩
  · have h0i : ¬ ((L : Int) = 0) := by omega
    have H0 := Aside0.mk (show 1 ≤ L by omega)
    go_wp2_with fail
    refine (strongroomkeep_Sized.calls A2 c2 l2 32 _ u1 E2.out.1 E2.out.2 f2.out).mono ?_
    rintro e u ⟨v2, rfl, hR, hB⟩
    rw [← HK.out] at hR
    obtain ⟨Ak, ck, rfl, hck, hCk⟩ := Kd.R_reads hR
    rw [LK.out] at hck hCk ⊢
    have CK := Aside0.mk (And.intro hCk hck)
    have EU := Aside0.mk (And.intro (Kd.C_below E1.out.1 hB) E1.out.2)
    have B2 := Aside0.mk (below_step B1.out hB)
    clear hR hB hck hCk h0 E1 E2 B1
    go_wp2_with fail
    refine (two_new u).mono ?_
    rintro e w3 ⟨g, rfl, hnext⟩
    have HNX := Aside0.mk hnext
    clear hnext
    go_wp2_with fail
    refine HNX.out.mono ?_
    rintro e w4 ⟨h, rfl, hT⟩
    have T4 := Aside0.mk hT
    clear hT HNX
    cases a3 with
    | false =>
      go_wp2_with fail
      have hpc := two_packet T4.out (by decide) (A := A1) (c := c1) (b := s) (by rw [← HL.out]; exact Kd.C_below EU.out.1 T4.out.below) (by rw [← HL.out]; exact EU.out.2) (by rw [← HL.out]; exact H0.out) (by rw [← HL.out]; have := LS.out; omega)
      rw [← HL.out] at hpc
      refine hpc.mono ?_
      rintro e x1 ⟨vx, rfl, hR, hT, _⟩
      clear hpc
      have X1 := Aside0.mk hT
      obtain ⟨P, hP⟩ : ∃ P, P = packetF none 0 s := ⟨_, rfl⟩
      rw [← hP] at hR
      have LP := Aside0.mk (show 10 ≤ P.length ∧ P.length ≤ 400 by
        have h1 := len_packetF none 0 s (fun k h => by cases h)
        have h2 := padN_ge (headN none) s.length
        have h3 := LS.out
        have h4 : tagN none = 0 := rfl
        rw [hP, h1, ← HL.out, h4]
        rw [← HL.out] at h2
        have h5 := H0.out
        omega)
      obtain ⟨gx, cx, rfl, hgx, _, _⟩ := Kd.R_form hR (by have := LP.out; omega)
      obtain ⟨_, hcx, hCx⟩ := Kd.R_reads' hR
      obtain ⟨M, hM⟩ : ∃ M, M = P.length := ⟨_, rfl⟩
      rw [← hM] at hcx hCx LP ⊢
      have CX := Aside0.mk (And.intro hCx hcx)
      have FX := Aside0.mk (show gx ≠ h by have := T4.out.i.lt; omega)
      have HP := Aside0.mk (And.intro hP hM)
      clear hR hT hgx hcx hCx hP hM
      obtain ⟨q, hq⟩ : ∃ q : Nat, (q : Int) = withinF a4 0 ((M : Int) - 1) := ⟨(withinF a4 0 ((M : Int) - 1)).toNat, Int.toNat_of_nonneg (withinF_range a4 0 ((M : Int) - 1) (by have := LP.out; omega)).1⟩
      have HQ := Aside0.mk (show q < M by
        have h1 := (withinF_range a4 0 ((M : Int) - 1) (by have := LP.out; omega)).2
        have := LP.out
        omega)
      have fW := Aside0.mk (show strongroombook_Within.f a4 0 ((M : Int) - 1) = some (q : Int) by rw [within_some _ _ _ (by decide) (by have := LP.out; omega) (by have := LP.out; omega), hq])
      have kM : wrap64 ((M : Int) - 1) = (M : Int) - 1 := by have := LP.out; rw [wrap_id (by omega) (by omega)]
      clear hq
      go_wp2_with fail
      refine (strongroombook_Within.calls a4 0 ((M : Int) - 1) (q : Int) x1 fW.out).mono ?_
      rintro e x2 ⟨rfl, ⟨n2, rfl⟩⟩
      have X2 := Aside0.mk (X1.out.fr (pw_below_drewN (Below.refl _ _) n2))
      have CX := Aside0.mk (And.intro (Kd.C_drewN CX.out.1 n2) CX.out.2)
      generalize x1.drewN n2 = x2 at X2 CX ⊢
      clear kM X1 fW
      obtain ⟨I0, hI0, hsz⟩ : ∃ i, Try.prog.info? 5 = some i ∧ i.size = 1 := ⟨_, rfl, rfl⟩
      have HI0 := Aside0.mk (And.intro hI0 hsz)
      have hcut := cut_to (P := Try.prog) 23 5 .i64 Try.underlying23 hI0 (some ⟨gx, 0, none⟩) M cx (q : Int) (by omega) (by have := HQ.out; omega) CX.out.2
      rw [Int.toNat_natCast] at hcut
      have c1a : (q : Int) ≤ (M : Int) := by have := HQ.out; omega
      clear hI0 hsz
      go_wp2_with fail
      have hct : (Kd.int .u8).C x2 (some ⟨gx, 0, none⟩) q (P.take q) := by
        have hh := Kd.C_take (m := q) (by rw [← HP.out.2]; exact CX.out.1) (by rw [← HP.out.2]; have := HQ.out; omega)
        rw [List.length_take, ← HP.out.2, Nat.min_eq_left (by have := HQ.out; omega)] at hh
        exact hh
      refine (two_feed X2.out (c := cx) hct (by have := LP.out; have := HQ.out; simp; omega)).mono ?_
      rintro e x3 ⟨rfl, v3, hT, hat, hG⟩
      rw [List.nil_append] at hT
      have X3 := Aside0.mk hT
      have FX3 := Aside0.mk (show v3.ownBlock ≠ some gx from fun he => by
        rcases hat with e | ⟨b', e, hle⟩
        · rw [e] at he; cases he
        · rw [e] at he
          cases he
          have h1 : gx < x2.heap.size := C_block CX.out.1 (by have := LP.out; omega)
          omega)
      have CX := Aside0.mk (And.intro (C_gb CX.out.1 hG (fun ad e _ hk => by
        cases e
        rcases hk with e | e
        · exact FX.out e
        · cases e)) CX.out.2)
      clear hT hat hG hct hcut
      have EN := Aside0.mk (next_part none 0 s q (fun k h => by cases h) (by rw [← HL.out]; exact H0.out) (by rw [← HL.out]; have := LS.out; omega) (by rw [← HP.out.1, ← HP.out.2]; exact HQ.out))
      rw [← HP.out.1] at EN
      go_wp2_with fail
      refine (two_next X3.out (by decide) (fun x hx => by rw [HP.out.1] at hx; exact bytes_packetF (fun k h => by cases h) BS.out x (List.mem_of_mem_take hx)) (by rw [List.length_take]; have := LP.out; omega) (rp := []) (rok := false) (re := 0) (rn := 0) (rb := P.take q) (rwhy := 0) EN.out).mono ?_
      rintro e x4 ⟨v4, vb4, rfl, hR, hT, hown, hG⟩
      have X4 := Aside0.mk hT
      obtain ⟨A4, c4, rfl, _⟩ := Kd.R_reads hR
      have FX4 := Aside0.mk (show vb4.ownBlock ≠ some gx from fun he => FX3.out (hown gx he))
      have CX := Aside0.mk (And.intro (C_gb CX.out.1 hG (fun ad e _ hk => by cases e; exact FX.out hk)) CX.out.2)
      clear hR hT hown hG FX3 EN
      have LT := Aside0.mk (show (P.take q).length = q by rw [List.length_take, ← HP.out.2, Nat.min_eq_left (by have := HQ.out; omega)])
      go_wp2_with fail
      have hh := two_held X4.out
      rw [LT.out] at hh
      refine hh.mono ?_
      rintro e x5 ⟨rfl, rfl⟩
      clear hh
      obtain ⟨R, hR⟩ : ∃ R, R + q = M := ⟨M - q, by have := HQ.out; omega⟩
      have hcut2 := cut_from (P := Try.prog) 23 5 .i64 Try.underlying23 HI0.out.1 1 HI0.out.2 (some ⟨gx, 0, none⟩) M cx (q : Int) (by omega) (by have := HQ.out; omega)
      rw [Int.toNat_natCast, if_neg (by have := HQ.out; have := CX.out.2; omega), Option.map_some, add_at, Nat.mul_one, Nat.zero_add, show M - q = R by omega] at hcut2
      have c1a : (q : Int) ≤ (M : Int) := by have := HQ.out; omega
      have HRq := Aside0.mk hR
      clear hR
      go_wp2_with fail
      have hcd : (Kd.int .u8).C x5 (some ⟨gx, q, none⟩) R (P.drop q) := by
        have hh := Kd.C_drop (m := q) (c := cx) (by rw [← HP.out.2]; exact CX.out.1) (by rw [← HP.out.2]; have := HQ.out; omega) (by rw [← HP.out.2]; exact CX.out.2)
        rw [if_neg (by have := HQ.out; have := CX.out.2; omega), Option.map_some, add_at, show (Kd.int .u8).sz = 1 from rfl, Nat.mul_one, Nat.zero_add, List.length_drop, ← HP.out.2, show M - q = R by have := HRq.out; omega] at hh
        exact hh
      refine (two_feed X4.out (c := cx - q) hcd (by rw [LT.out]; have := HRq.out; have := LP.out; omega)).mono ?_
      rintro e x6 ⟨rfl, v6, hT, _, hG⟩
      rw [List.take_append_drop] at hT
      have X6 := Aside0.mk hT
      clear hT hG hcut2 hcd c1a
      have EN := Aside0.mk (next_whole none 0 s [] (fun k h => by cases h) BS.out (by rw [← HL.out]; exact H0.out) (by rw [← HL.out]; have := LS.out; omega))
      rw [← HP.out.1, List.append_nil] at EN
      go_wp2_with fail
      refine (two_next X6.out (by decide) (fun x hx => by rw [HP.out.1] at hx; exact bytes_packetF (fun k h => by cases h) BS.out x hx) (by rw [← HP.out.2]; have := LP.out; omega) EN.out).mono ?_
      rintro e x7 ⟨v7, vb7, rfl, hR, hT, _, _⟩
      have X7 := Aside0.mk hT
      obtain ⟨A7, c7, rfl, _, hC7⟩ := Kd.R_reads hR
      rw [← HL.out] at hC7 ⊢
      obtain ⟨str, hstr⟩ : ∃ z, z = strOfNums s := ⟨_, rfl⟩
      have q1 : (convert 23 9 (.slice A7 L c7)).run Try.prog x7 = .ok (.string str) x7 := by
        have hh := Kd.C_string (P := Try.prog) (c := c7) Try.underlying23 Try.underlying5 Try.underlying9 (show (Kd.int .u8).C x7 A7 s.length s by rw [← HL.out]; exact hC7)
        rw [← HL.out] at hh
        rw [hstr]
        exact hh
      have q2 : (convert 23 9 (.slice A1 L c1)).run Try.prog x7 = .ok (.string str) x7 := by
        have hh := Kd.C_string (P := Try.prog) (c := c1) Try.underlying23 Try.underlying5 Try.underlying9 (show (Kd.int .u8).C x7 A1 s.length s by rw [← HL.out]; exact Kd.C_below EU.out.1 X7.out.below)
        rw [← HL.out] at hh
        rw [hstr]
        exact hh
      clear hR hT hC7 hstr
      go_wp2_with fail
      refine (two_held X7.out).mono ?_
      rintro e x8 ⟨rfl, rfl⟩
      rw [show (([] : List Int).length : Int) = 0 from rfl]
      go_wp2_with fail
      refine (known8_calls x8).mono ?_
      rintro e x9 ⟨rfl, hB⟩
      have LZ := Aside0.mk (below_step (B2.out.trans (X7.out.below.mono B2.out.size)) hB)
      clear hB
      go_wp2_with fail
      go_ret
      exact ⟨rfl, LZ.out⟩
    | true =>
      go_wp2_with fail
      refine (two_outKeys T4.out (Kd.C_below CK.out.1 T4.out.below) CK.out.2).mono ?_
      rintro e w5 ⟨rfl, vo, hT, _⟩
      have T5 := Aside0.mk hT
      clear hT
      go_wp2_with fail
      refine (two_inKeys T5.out (Kd.C_below CK.out.1 T5.out.below) CK.out.2).mono ?_
      rintro e w6 ⟨rfl, vk, hT, _⟩
      have T6 := Aside0.mk hT
      clear hT
      go_wp2_with fail
      have hpc := two_packet T6.out (by decide) (A := A1) (c := c1) (b := s) (by rw [← HL.out]; exact Kd.C_below EU.out.1 T6.out.below) (by rw [← HL.out]; exact EU.out.2) (by rw [← HL.out]; exact H0.out) (by rw [← HL.out]; have := LS.out; omega)
      rw [← HL.out] at hpc
      refine hpc.mono ?_
      rintro e x1 ⟨vx, rfl, hR, hT, _⟩
      clear hpc
      have X1 := Aside0.mk hT
      obtain ⟨P, hP⟩ : ∃ P, P = packetF (some k) 0 s := ⟨_, rfl⟩
      rw [← hP] at hR
      have LP := Aside0.mk (show 10 ≤ P.length ∧ P.length ≤ 400 by
        have h1 := len_packetF (some k) 0 s (fun k' h => by cases h; exact LK.out)
        have h2 := padN_ge (headN (some k)) s.length
        have h3 := LS.out
        have h4 : tagN (some k) = 16 := rfl
        rw [hP, h1, ← HL.out, h4]
        rw [← HL.out] at h2
        have h5 := H0.out
        omega)
      obtain ⟨gx, cx, rfl, hgx, _, _⟩ := Kd.R_form hR (by have := LP.out; omega)
      obtain ⟨_, hcx, hCx⟩ := Kd.R_reads' hR
      obtain ⟨M, hM⟩ : ∃ M, M = P.length := ⟨_, rfl⟩
      rw [← hM] at hcx hCx LP ⊢
      have CX := Aside0.mk (And.intro hCx hcx)
      have FX := Aside0.mk (show gx ≠ h by have := T6.out.i.lt; omega)
      have HP := Aside0.mk (And.intro hP hM)
      clear hR hT hgx hcx hCx hP hM
      obtain ⟨q, hq⟩ : ∃ q : Nat, (q : Int) = withinF a4 0 ((M : Int) - 1) := ⟨(withinF a4 0 ((M : Int) - 1)).toNat, Int.toNat_of_nonneg (withinF_range a4 0 ((M : Int) - 1) (by have := LP.out; omega)).1⟩
      have HQ := Aside0.mk (show q < M by
        have h1 := (withinF_range a4 0 ((M : Int) - 1) (by have := LP.out; omega)).2
        have := LP.out
        omega)
      have fW := Aside0.mk (show strongroombook_Within.f a4 0 ((M : Int) - 1) = some (q : Int) by rw [within_some _ _ _ (by decide) (by have := LP.out; omega) (by have := LP.out; omega), hq])
      have kM : wrap64 ((M : Int) - 1) = (M : Int) - 1 := by have := LP.out; rw [wrap_id (by omega) (by omega)]
      clear hq
      go_wp2_with fail
      refine (strongroombook_Within.calls a4 0 ((M : Int) - 1) (q : Int) x1 fW.out).mono ?_
      rintro e x2 ⟨rfl, ⟨n2, rfl⟩⟩
      have X2 := Aside0.mk (X1.out.fr (pw_below_drewN (Below.refl _ _) n2))
      have CX := Aside0.mk (And.intro (Kd.C_drewN CX.out.1 n2) CX.out.2)
      generalize x1.drewN n2 = x2 at X2 CX ⊢
      clear kM X1 fW
      obtain ⟨I0, hI0, hsz⟩ : ∃ i, Try.prog.info? 5 = some i ∧ i.size = 1 := ⟨_, rfl, rfl⟩
      have HI0 := Aside0.mk (And.intro hI0 hsz)
      have hcut := cut_to (P := Try.prog) 23 5 .i64 Try.underlying23 hI0 (some ⟨gx, 0, none⟩) M cx (q : Int) (by omega) (by have := HQ.out; omega) CX.out.2
      rw [Int.toNat_natCast] at hcut
      have c1a : (q : Int) ≤ (M : Int) := by have := HQ.out; omega
      clear hI0 hsz
      go_wp2_with fail
      have hct : (Kd.int .u8).C x2 (some ⟨gx, 0, none⟩) q (P.take q) := by
        have hh := Kd.C_take (m := q) (by rw [← HP.out.2]; exact CX.out.1) (by rw [← HP.out.2]; have := HQ.out; omega)
        rw [List.length_take, ← HP.out.2, Nat.min_eq_left (by have := HQ.out; omega)] at hh
        exact hh
      refine (two_feed X2.out (c := cx) hct (by have := LP.out; have := HQ.out; simp; omega)).mono ?_
      rintro e x3 ⟨rfl, v3, hT, hat, hG⟩
      rw [List.nil_append] at hT
      have X3 := Aside0.mk hT
      have FX3 := Aside0.mk (show v3.ownBlock ≠ some gx from fun he => by
        rcases hat with e | ⟨b', e, hle⟩
        · rw [e] at he; cases he
        · rw [e] at he
          cases he
          have h1 : gx < x2.heap.size := C_block CX.out.1 (by have := LP.out; omega)
          omega)
      have CX := Aside0.mk (And.intro (C_gb CX.out.1 hG (fun ad e _ hk => by
        cases e
        rcases hk with e | e
        · exact FX.out e
        · cases e)) CX.out.2)
      clear hT hat hG hct hcut
      have EN := Aside0.mk (next_part (some k) 0 s q (fun k' h => by cases h; exact LK.out) (by rw [← HL.out]; exact H0.out) (by rw [← HL.out]; have := LS.out; omega) (by rw [← HP.out.1, ← HP.out.2]; exact HQ.out))
      rw [← HP.out.1] at EN
      go_wp2_with fail
      refine (two_next X3.out (by decide) (fun x hx => by rw [HP.out.1] at hx; exact bytes_packetF (fun k' h => by cases h; exact LK.out) BS.out x (List.mem_of_mem_take hx)) (by rw [List.length_take]; have := LP.out; omega) (rp := []) (rok := false) (re := 0) (rn := 0) (rb := P.take q) (rwhy := 0) EN.out).mono ?_
      rintro e x4 ⟨v4, vb4, rfl, hR, hT, hown, hG⟩
      have X4 := Aside0.mk hT
      obtain ⟨A4, c4, rfl, _⟩ := Kd.R_reads hR
      have FX4 := Aside0.mk (show vb4.ownBlock ≠ some gx from fun he => FX3.out (hown gx he))
      have CX := Aside0.mk (And.intro (C_gb CX.out.1 hG (fun ad e _ hk => by cases e; exact FX.out hk)) CX.out.2)
      clear hR hT hown hG FX3 EN
      have LT := Aside0.mk (show (P.take q).length = q by rw [List.length_take, ← HP.out.2, Nat.min_eq_left (by have := HQ.out; omega)])
      go_wp2_with fail
      have hh := two_held X4.out
      rw [LT.out] at hh
      refine hh.mono ?_
      rintro e x5 ⟨rfl, rfl⟩
      clear hh
      obtain ⟨R, hR⟩ : ∃ R, R + q = M := ⟨M - q, by have := HQ.out; omega⟩
      have hcut2 := cut_from (P := Try.prog) 23 5 .i64 Try.underlying23 HI0.out.1 1 HI0.out.2 (some ⟨gx, 0, none⟩) M cx (q : Int) (by omega) (by have := HQ.out; omega)
      rw [Int.toNat_natCast, if_neg (by have := HQ.out; have := CX.out.2; omega), Option.map_some, add_at, Nat.mul_one, Nat.zero_add, show M - q = R by omega] at hcut2
      have c1a : (q : Int) ≤ (M : Int) := by have := HQ.out; omega
      have HRq := Aside0.mk hR
      clear hR
      go_wp2_with fail
      have hcd : (Kd.int .u8).C x5 (some ⟨gx, q, none⟩) R (P.drop q) := by
        have hh := Kd.C_drop (m := q) (c := cx) (by rw [← HP.out.2]; exact CX.out.1) (by rw [← HP.out.2]; have := HQ.out; omega) (by rw [← HP.out.2]; exact CX.out.2)
        rw [if_neg (by have := HQ.out; have := CX.out.2; omega), Option.map_some, add_at, show (Kd.int .u8).sz = 1 from rfl, Nat.mul_one, Nat.zero_add, List.length_drop, ← HP.out.2, show M - q = R by have := HRq.out; omega] at hh
        exact hh
      refine (two_feed X4.out (c := cx - q) hcd (by rw [LT.out]; have := HRq.out; have := LP.out; omega)).mono ?_
      rintro e x6 ⟨rfl, v6, hT, _, hG⟩
      rw [List.take_append_drop] at hT
      have X6 := Aside0.mk hT
      clear hT hG hcut2 hcd c1a
      have EN := Aside0.mk (next_whole (some k) 0 s [] (fun k' h => by cases h; exact LK.out) BS.out (by rw [← HL.out]; exact H0.out) (by rw [← HL.out]; have := LS.out; omega))
      rw [← HP.out.1, List.append_nil] at EN
      go_wp2_with fail
      refine (two_next X6.out (by decide) (fun x hx => by rw [HP.out.1] at hx; exact bytes_packetF (fun k' h => by cases h; exact LK.out) BS.out x hx) (by rw [← HP.out.2]; have := LP.out; omega) EN.out).mono ?_
      rintro e x7 ⟨v7, vb7, rfl, hR, hT, _, _⟩
      have X7 := Aside0.mk hT
      obtain ⟨A7, c7, rfl, _, hC7⟩ := Kd.R_reads hR
      rw [← HL.out] at hC7 ⊢
      obtain ⟨str, hstr⟩ : ∃ z, z = strOfNums s := ⟨_, rfl⟩
      have q1 : (convert 23 9 (.slice A7 L c7)).run Try.prog x7 = .ok (.string str) x7 := by
        have hh := Kd.C_string (P := Try.prog) (c := c7) Try.underlying23 Try.underlying5 Try.underlying9 (show (Kd.int .u8).C x7 A7 s.length s by rw [← HL.out]; exact hC7)
        rw [← HL.out] at hh
        rw [hstr]
        exact hh
      have q2 : (convert 23 9 (.slice A1 L c1)).run Try.prog x7 = .ok (.string str) x7 := by
        have hh := Kd.C_string (P := Try.prog) (c := c1) Try.underlying23 Try.underlying5 Try.underlying9 (show (Kd.int .u8).C x7 A1 s.length s by rw [← HL.out]; exact Kd.C_below EU.out.1 X7.out.below)
        rw [← HL.out] at hh
        rw [hstr]
        exact hh
      clear hR hT hC7 hstr
      go_wp2_with fail
      refine (two_held X7.out).mono ?_
      rintro e x8 ⟨rfl, rfl⟩
      rw [show (([] : List Int).length : Int) = 0 from rfl]
      go_wp2_with fail
      refine (known8_calls x8).mono ?_
      rintro e x9 ⟨rfl, hB⟩
      have LZ := Aside0.mk (below_step (B2.out.trans (X7.out.below.mono B2.out.size)) hB)
      clear hB
      go_wp2_with fail
      go_ret
      exact ⟨rfl, LZ.out⟩
end Go.Proofs.Ytnmnghpdmiffaaa.Pk
