/-
  AeadTurned, walked.
-/
import Derived.Test.YtjlokmjbblpmoaaAeadAll
namespace Go.Proofs.Ytjlokmjbblpmoaa
open Go.RowKit Go.Proofs.YtjlokmjbblpmoaaW.PrintWords Go.Proofs.YtjlokmjbblpmoaaW.PrintLast Go.Proofs.YtjlokmjbblpmoaaW.PrintMore Go.Proofs.Ytjlokmjbblpmoaa.Arr Go.Proofs.Ytjlokmjbblpmoaa.Bits
set_option maxHeartbeats 8000000
set_option maxRecDepth 100000
theorem wrapk (n j : Nat) (h : n ≤ 300) (hj : j < 16) : wrap64 ((n : Int) + (j : Int)) = ((n + j : Nat) : Int) := by
  rw [wrap_id (by omega) (by omega)]; omega
theorem wrap16 (n : Nat) (h : n ≤ 300) : wrap64 ((n : Int) + 16) = (n : Int) + 16 := wrap_id (by omega) (by omega)
theorem xor8_ne (x t : Int) (h0 : 0 ≤ t) (h1 : t ≤ 255) (ht : t ≠ 0) : Go.bits .xor .u8 x t ≠ x := by
  intro h
  have e := congrArg (BitVec.ofInt 8) h
  rw [ofInt_xor8] at e
  have e2 : BitVec.ofInt 8 t = 0#8 := by
    have := congrArg (fun z => BitVec.ofInt 8 x ^^^ z) e
    simpa [← BitVec.xor_assoc] using this
  have e3 := toNat_ofInt8 t h0 h1
  rw [e2] at e3
  simp at e3
  exact ht e3.symm
theorem set_ne (l : List Int) (j : Nat) (hj : j < l.length) (v : Int) (hv : v ≠ rd l (j : Int)) : l ≠ l.set j v := by
  intro h
  have e := congrArg (fun z : List Int => z.getD j 0) h
  simp [List.getD_eq_getElem?_getD, hj] at e
  apply hv
  rw [← e]
  simp [rd, List.getD_eq_getElem?_getD, hj]
theorem aeadTurned_calls (A0 : Option Addr) (c0 : Nat) (l0 : List Int) (A1 : Option Addr) (c1 : Nat) (l1 : List Int) (A2 : Option Addr) (c2 : Nat) (l2 : List Int) (A3 : Option Addr) (c3 : Nat) (l3 : List Int) (a4 a5 : Int) (w : World) (hr0 : Kd.C (Kd.int .u8) w A0 l0.length l0) (hc0 : l0.length ≤ c0) (hr1 : Kd.C (Kd.int .u8) w A1 l1.length l1) (hc1 : l1.length ≤ c1) (hr2 : Kd.C (Kd.int .u8) w A2 l2.length l2) (hc2 : l2.length ≤ c2) (hr3 : Kd.C (Kd.int .u8) w A3 l3.length l3) (hc3 : l3.length ≤ c3) (hm0 : l0.length ≤ maxLen) (hm1 : l1.length ≤ maxLen) (hb3 : Bytes l3) (ht0 : 0 ≤ a5) (ht1 : a5 ≤ 255) :
    Calls Try.prog 6 #[.slice A0 l0.length c0, .slice A1 l1.length c1, .slice A2 l2.length c2, .slice A3 l3.length c3, .int .i64 a4, .int .u8 a5] w fun e w' => e = .returned (.bool true) ∧ Below w.heap.size w w' := by
  by_cases hz : a5 = 0
  · subst hz
    clear hr0 hr1 hr2 hr3 hc0 hc1 hc2 hc3 hm0 hm1 hb3 ht0 ht1
    go_enter Try.func6, Try.ntmps6
    go_wp2_with fail
    refine (strongroomlaw4_known.calls true _ rfl).mono ?_
    rintro e w1 ⟨rfl, hB⟩
    go_wp2
    go_ret
    exact ⟨rfl, hB⟩
  have hmx : maxLen = 9223372036854775807 := rfl
  obtain ⟨key, hkey⟩ : ∃ key, key = sizedF l0 32 := ⟨_, rfl⟩
  obtain ⟨nonce, hnonce⟩ : ∃ nonce, nonce = sizedF l1 12 := ⟨_, rfl⟩
  obtain ⟨bs, hbs⟩ : ∃ bs, bs = l2.take 100 := ⟨_, rfl⟩
  obtain ⟨b, hb⟩ : ∃ b, b = l3.take 300 := ⟨_, rfl⟩
  have fk := Aside0.mk (show strongroomkeep_Sized.f l0 32 = some key by rw [hkey]; exact sized_some l0 32 (by decide) (by omega))
  have fn := Aside0.mk (show strongroomkeep_Sized.f l1 12 = some nonce by rw [hnonce]; exact sized_some l1 12 (by decide) (by omega))
  have f2 := Aside0.mk (show strongroomkeep_CutR.f l2 100 = some bs by rw [hbs]; exact cut_some l2 100)
  have f3 := Aside0.mk (show strongroomkeep_CutR.f l3 300 = some b by rw [hb]; exact cut_some l3 300)
  have hk : key.length = 32 := by rw [hkey, len_sizedF]
  have hn : nonce.length = 12 := by rw [hnonce, len_sizedF]
  have hbl : b.length ≤ 300 := by rw [hb, List.length_take]; omega
  have hsl : bs.length ≤ 100 := by rw [hbs, List.length_take]; omega
  obtain ⟨hid, hhid⟩ : ∃ x, x = hidF key nonce b := ⟨_, rfl⟩
  obtain ⟨mac, hmac⟩ : ∃ x, x = macF key nonce bs hid := ⟨_, rfl⟩
  have hhl : hid.length = b.length := by rw [hhid, len_hidF]
  have hml : mac.length = 16 := by rw [hmac, len_macF]
  have hmb : Bytes mac := by rw [hmac]; exact bytes_macF _ _ _ _
  obtain ⟨s, hs⟩ : ∃ x, x = hid ++ mac := ⟨_, rfl⟩
  have hsn : s.length = b.length + 16 := by rw [hs, List.length_append, hhl, hml]
  have fS := Aside0.mk (show aead_Seal.f key nonce bs b = some (s, 0) by unfold aead_Seal.f; rw [if_pos (by omega), seal_eq hk hn, hs, hmac, hhid])
  obtain ⟨j, hj, hj16⟩ : ∃ j : Nat, withinF a4 0 15 = (j : Int) ∧ j < 16 := by
    have := withinF_range a4 0 15 (by decide)
    exact ⟨(withinF a4 0 15).toNat, by omega, by omega⟩
  have fW := Aside0.mk (show strongroombook_Within.f a4 0 15 = some (j : Int) by rw [within_some _ _ _ (by decide) (by decide) (by decide), hj])
  obtain ⟨k, hk2⟩ : ∃ k, k = b.length + j := ⟨_, rfl⟩
  obtain ⟨t', ht'⟩ : ∃ x, x = mac.set j (Go.bits .xor .u8 (rd mac (j : Int)) a5) := ⟨_, rfl⟩
  obtain ⟨y, hy⟩ : ∃ y, y = s.set k (Go.bits .xor .u8 (rd s (k : Int)) a5) := ⟨_, rfl⟩
  have hrd : rd s (k : Int) = rd mac (j : Int) := by
    rw [hs, hk2]
    simp only [rd, List.getD_eq_getElem?_getD, Int.toNat_natCast]
    rw [List.getElem?_append_right (by omega), hhl, Nat.add_sub_cancel_left]
  have hy2 : y = hid ++ t' := by
    rw [hy, ht', hrd, hs, hk2, ← hhl, List.set_append_right _ _ (by omega)]
    simp
  have htl : t'.length = 16 := by rw [ht', List.length_set, hml]
  have hyn : y.length = b.length + 16 := by rw [hy, List.length_set, hsn]
  have htb : Bytes t' := by
    intro x hx
    rw [ht'] at hx
    rcases List.mem_or_eq_of_mem_set hx with h | h
    · exact hmb x h
    · rw [h]; exact xor8_range _ _
  have hne : mac ≠ t' := by
    rw [ht']
    exact set_ne mac j (by omega) _ (xor8_ne _ _ ht0 ht1 hz)
  have fO := Aside0.mk (show aead_Open.f key nonce bs y = some ([], 14) by
    unfold aead_Open.f
    rw [if_pos (by omega), hy2, open_eq hk hn bs hid t' htl, ← hmac, same_ne hmb htb hne, if_neg (by simp)])
  have hy15 : (y.take 15).length = 15 := by rw [List.length_take]; omega
  have fO2 := Aside0.mk (show aead_Open.f key nonce bs (y.take 15) = some ([], 10) by
    unfold aead_Open.f
    rw [if_pos (by omega), open_short hk hn bs (y.take 15) (by omega)])
  have HN := Aside0.mk (And.intro hbl (And.intro hsn (And.intro hyn hy15)))
  have HJ := Aside0.mk (And.intro hk2 (And.intro hj16 hy))
  have C0 := Aside0.mk (And.intro hr0 hc0)
  have C1 := Aside0.mk (And.intro hr1 hc1)
  have C2 := Aside0.mk (And.intro hr2 hc2)
  have C3 := Aside0.mk (And.intro hr3 hc3)
  have D2 := Aside0.mk (And.intro (cutR_C hr2 hc2 f2.out) (cutR_len hc2 f2.out))
  have D3 := Aside0.mk (And.intro (cutR_C hr3 hc3 f3.out) (cutR_len hc3 f3.out))
  have hz1 : decide (a5 = 0) = false := decide_eq_false hz
  have hz2 : (a5 == 0) = false := by simpa using hz
  have hw : wrap64 ((b.length : Int) + 16) = (b.length : Int) + 16 := wrap16 _ hbl
  have hw2 : wrap64 ((b.length : Int) + (j : Int)) = (k : Int) := by rw [hk2]; exact wrapk _ _ hbl hj16
  clear hmx hkey hnonce hbs hb hk hn hbl hsl hhid hmac hhl hml hmb hs hsn hj hj16 hk2 ht' hy hrd hy2 htl hyn htb hne hy15 hr0 hr1 hr2 hr3 hc0 hc1 hc2 hc3 hm0 hm1 hb3 ht0 ht1 hz
  go_enter Try.func6, Try.ntmps6
  go_wp2_with fail
  refine (strongroomkeep_Sized.calls A0 c0 l0 32 key _ C0.out.1 C0.out.2 fk.out).mono ?_
  rintro e w1 ⟨v1, rfl, hR, hB⟩
  obtain ⟨Ak, ck, rfl, hck, hCk⟩ := Kd.R_reads hR
  have CK := Aside0.mk (And.intro hCk hck)
  have B1 := Aside0.mk hB
  clear hR hB hck hCk
  go_wp2_with fail
  refine (strongroomkeep_Sized.calls A1 c1 l1 12 nonce w1 (Kd.C_below C1.out.1 B1.out) C1.out.2 fn.out).mono ?_
  rintro e w2 ⟨v2, rfl, hR, hB⟩
  obtain ⟨An, cn, rfl, hcn, hCn⟩ := Kd.R_reads hR
  have CN := Aside0.mk (And.intro hCn hcn)
  have B2 := Aside0.mk (below_step B1.out hB)
  have CK := Aside0.mk (And.intro (Kd.C_below CK.out.1 hB) CK.out.2)
  clear hR hB hcn hCn
  go_wp2_with fail
  refine (strongroomkeep_CutR.calls A2 c2 l2 100 bs w2 (Kd.C_below C2.out.1 B2.out) C2.out.2 f2.out).mono ?_
  rintro e w3 ⟨rfl, ⟨n3, rfl⟩⟩
  have B3 := Aside0.mk (pw_below_drewN B2.out n3)
  go_wp2_with fail
  refine (strongroomkeep_CutR.calls A3 c3 l3 300 b _ (Kd.C_below C3.out.1 B3.out) C3.out.2 f3.out).mono ?_
  rintro e w4 ⟨rfl, ⟨n4, rfl⟩⟩
  have B4 := Aside0.mk (pw_below_drewN B2.out (n3 + n4))
  go_wp2_with fail
  refine (aead_Seal.calls Ak ck key An cn nonce A2 c2 bs A3 c3 b s 0 _ (Kd.C_drewN CK.out.1 (n3 + n4)) CK.out.2 (Kd.C_drewN CN.out.1 (n3 + n4)) CN.out.2 (Kd.C_below D2.out.1 B4.out) D2.out.2 (Kd.C_below D3.out.1 B4.out) D3.out.2 fS.out).mono ?_
  rintro e w5 ⟨v5, rfl, hR, hB⟩
  obtain ⟨g, cs, rfl, hg, hgl, _⟩ := Kd.R_form hR (by have := HN.out.2.1; omega)
  rw [HN.out.2.1] at hR ⊢
  have RS := Aside0.mk hR
  have HG := Aside0.mk (And.intro hg hgl)
  have BS := Aside0.mk hB
  have CK4 := Aside0.mk (And.intro (Kd.C_drewN CK.out.1 (n3 + n4)) CK.out.2)
  have CN4 := Aside0.mk (And.intro (Kd.C_drewN CN.out.1 (n3 + n4)) CN.out.2)
  have B5 := Aside0.mk (below_step B4.out hB)
  have CK := Aside0.mk (And.intro (Kd.C_below (Kd.C_drewN CK.out.1 (n3 + n4)) hB) CK.out.2)
  have CN := Aside0.mk (And.intro (Kd.C_below (Kd.C_drewN CN.out.1 (n3 + n4)) hB) CN.out.2)
  clear hR hB hg hgl
  go_wp2_with fail
  refine (strongroombook_Within.calls a4 0 15 j w5 fW.out).mono ?_
  rintro e w6 ⟨rfl, ⟨n6, rfl⟩⟩
  have RS6 := Aside0.mk (Kd.R_drewN RS.out n6)
  have hc := Kd.R_celln (0 : Int) RS6.out (k : Int) (by omega) (by have := HJ.out.1; have := HJ.out.2.1; omega)
  have hp := Kd.R_putg RS6.out (k : Int) (Go.bits .xor .u8 (rd s (k : Int)) a5)
  rw [Int.toNat_natCast] at hc hp
  obtain ⟨x1, x2⟩ := hc
  replace x1 : (w5.drewN n6).cell? ⟨g, k, none⟩ = some (.int .u8 (rd s (k : Int))) := x1
  have hkl : k < b.length + 16 := by have := HJ.out.1; have := HJ.out.2.1; omega
  have hkd : decide (k < b.length + 16) = true := decide_eq_true hkl
  have hki : (k : Int) < (b.length : Int) + 16 := by omega
  have HP := Aside0.mk hp
  clear hp
  go_wp2_with fail
  have HP1 := Aside0.mk (show (Kd.int .u8).R 5 ((w5.drewN n6).setCell ⟨g, k, none⟩ (.int .u8 (Go.bits .xor .u8 (rd s (k : Int)) a5))) (w2.drewN (n3 + n4)).heap.size (fun _ => True) (.slice (some ⟨g, 0, none⟩) (b.length + 16) cs) y by rw [HJ.out.2.2]; exact HP.out.1)
  have B7 := Aside0.mk (show Below (w2.drewN (n3 + n4)).heap.size (w2.drewN (n3 + n4)) ((w5.drewN n6).setCell ⟨g, k, none⟩ (.int .u8 (Go.bits .xor .u8 (rd s (k : Int)) a5))) from below_set (pw_below_drewN BS.out n6) HG.out.1)
  generalize (w5.drewN n6).setCell ⟨g, k, none⟩ (.int .u8 (Go.bits .xor .u8 (rd s (k : Int)) a5)) = w7 at HP1 B7 ⊢
  have B7w := Aside0.mk (below_step B4.out B7.out)
  have CK := Aside0.mk (And.intro (Kd.C_below CK4.out.1 B7.out) CK4.out.2)
  have CN := Aside0.mk (And.intro (Kd.C_below CN4.out.1 B7.out) CN4.out.2)
  obtain ⟨hyl, hycs, hCy⟩ := Kd.R_reads' HP1.out
  have CY := Aside0.mk hCy
  have hcs : b.length + 16 ≤ cs := hycs
  have FO := Aside0.mk (aead_Open.calls Ak ck key An cn nonce A2 c2 bs (some ⟨g, 0, none⟩) cs y [] 14 w7 CK.out.1 CK.out.2 CN.out.1 CN.out.2 (Kd.C_below D2.out.1 B7w.out) D2.out.2 CY.out (by omega) fO.out)
  rw [← hyl] at FO
  clear hkl hkd hki x1 x2 HP hyl hycs hCy
  refine FO.out.mono ?_
  rintro e w8 ⟨v8, rfl, hR, hB⟩
  obtain ⟨Ax, cx, rfl, hcx, _⟩ := Kd.R_reads hR
  have B8 := Aside0.mk (below_step B7w.out hB)
  have CK := Aside0.mk (And.intro (Kd.C_below CK.out.1 hB) CK.out.2)
  have CN := Aside0.mk (And.intro (Kd.C_below CN.out.1 hB) CN.out.2)
  have CY8 := Aside0.mk (Kd.C_below CY.out hB)
  clear hR hB hcx FO
  obtain ⟨I0, hI0⟩ : ∃ i, Try.prog.info? 5 = some i := ⟨_, rfl⟩
  have hcut := cut_to (P := Try.prog) 22 5 .i64 Try.underlying22 hI0 (some ⟨g, 0, none⟩) (b.length + 16) cs 15 (by decide) (by omega) hcs
  clear hI0
  go_wp2_with fail
  have FO2 := Aside0.mk (aead_Open.calls Ak ck key An cn nonce A2 c2 bs (some ⟨g, 0, none⟩) cs (y.take 15) [] 10 w8 CK.out.1 CK.out.2 CN.out.1 CN.out.2 (Kd.C_below D2.out.1 B8.out) D2.out.2 (Kd.C_take CY8.out (by have := HN.out.2.2.1; omega)) (by have := HN.out.2.2.2; omega) fO2.out)
  rw [HN.out.2.2.2] at FO2
  refine FO2.out.mono ?_
  rintro e w9 ⟨v9, rfl, hR, hB⟩
  obtain ⟨Az, cz, rfl, hcz, _⟩ := Kd.R_reads hR
  have B9 := Aside0.mk (below_step B8.out hB)
  clear hR hB hcz FO2
  go_wp2_with fail
  refine (strongroomlaw4_known.calls true _ rfl).mono ?_
  rintro e w10 ⟨rfl, hB⟩
  have B10 := Aside0.mk (below_step B9.out hB)
  clear hB
  go_wp2_with fail
  go_ret
  exact ⟨rfl, B10.out⟩
end Go.Proofs.Ytjlokmjbblpmoaa
