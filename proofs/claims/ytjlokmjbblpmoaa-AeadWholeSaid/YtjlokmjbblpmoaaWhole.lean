/-
  AeadWhole, walked.
-/
import Derived.Test.YtjlokmjbblpmoaaAeadAll
import Derived.Deep.Cut
namespace Go.Proofs.Ytjlokmjbblpmoaa
open Go.RowKit Go.Proofs.YtjlokmjbblpmoaaW.PrintWords Go.Proofs.YtjlokmjbblpmoaaW.PrintLast Go.Proofs.YtjlokmjbblpmoaaW.PrintMore Go.Proofs.Ytjlokmjbblpmoaa.Arr Go.Proofs.Ytjlokmjbblpmoaa.Bits
set_option maxHeartbeats 8000000
set_option maxRecDepth 100000
theorem wrapm (j : Nat) (hj : j ≤ 20) : wrap64 (1 + (j : Int)) = ((1 + j : Nat) : Int) := by
  rw [wrap_id (by omega) (by omega)]; omega
theorem morel (bs more : List Int) (m j : Nat) (hm : m = 1 + j) (hj : j ≤ 20) (h : bs.length ≤ 100) (hmore : more = ([] ++ bs) ++ List.replicate (m : Int).toNat (0 : Int)) : more.length ≤ 200 := by
  rw [hmore, List.length_append, List.length_append, List.length_replicate, Int.toNat_natCast]
  simp only [List.length_nil]
  omega
theorem dle (n m : Nat) (h : m ≤ n) : decide ((n : Int) < (m : Int)) = false := decide_eq_false (by omega)
theorem dle2 (n m : Nat) (h : m ≤ n) : decide (n < m) = false := decide_eq_false (by omega)
theorem aeadWhole_calls (A0 : Option Addr) (c0 : Nat) (l0 : List Int) (A1 : Option Addr) (c1 : Nat) (l1 : List Int) (A2 : Option Addr) (c2 : Nat) (l2 : List Int) (A3 : Option Addr) (c3 : Nat) (l3 : List Int) (a4 : Int) (w : World) (hr0 : Kd.C (Kd.int .u8) w A0 l0.length l0) (hc0 : l0.length ≤ c0) (hr1 : Kd.C (Kd.int .u8) w A1 l1.length l1) (hc1 : l1.length ≤ c1) (hr2 : Kd.C (Kd.int .u8) w A2 l2.length l2) (hc2 : l2.length ≤ c2) (hr3 : Kd.C (Kd.int .u8) w A3 l3.length l3) (hc3 : l3.length ≤ c3) (hm0 : l0.length ≤ maxLen) (hm1 : l1.length ≤ maxLen) (hb3 : Bytes l3) :
    Calls Try.prog 7 #[.slice A0 l0.length c0, .slice A1 l1.length c1, .slice A2 l2.length c2, .slice A3 l3.length c3, .int .i64 a4] w fun e w' => e = .returned (.bool true) ∧ Below w.heap.size w w' := by
  have hmx : maxLen = 9223372036854775807 := rfl
  obtain ⟨key, hkey⟩ : ∃ key, key = sizedF l0 32 := ⟨_, rfl⟩
  obtain ⟨nonce, hnonce⟩ : ∃ nonce, nonce = sizedF l1 12 := ⟨_, rfl⟩
  obtain ⟨bs, hbs⟩ : ∃ bs, bs = l2.take 100 := ⟨_, rfl⟩
  obtain ⟨b, hb⟩ : ∃ b, b = l3.take 300 := ⟨_, rfl⟩
  have fk := Aside0.mk (show strongroomkeep_Sized.f l0 32 = some key by rw [hkey]; exact sized_some l0 32 (by decide) (by omega))
  have fn := Aside0.mk (show strongroomkeep_Sized.f l1 12 = some nonce by rw [hnonce]; exact sized_some l1 12 (by decide) (by omega))
  have f2 := Aside0.mk (show strongroomkeep_CutR.f l2 100 = some bs by rw [hbs]; exact cut_some l2 100)
  have f3 := Aside0.mk (show strongroomkeep_CutR.f l3 300 = some b by rw [hb]; exact cut_some l3 300)
  have hk : key.length = 32 := by rw [hkey, len_sizedF]
  have hn : nonce.length = 12 := by rw [hnonce, len_sizedF]
  have hbl : b.length ≤ 300 := by rw [hb, List.length_take]; omega
  have hsl : bs.length ≤ 100 := by rw [hbs, List.length_take]; omega
  have hbb : Bytes b := by rw [hb]; exact hb3.take 300
  obtain ⟨j, hj, hj20⟩ : ∃ j : Nat, withinF a4 0 20 = (j : Int) ∧ j ≤ 20 := by
    have := withinF_range a4 0 20 (by decide)
    exact ⟨(withinF a4 0 20).toNat, by omega, by omega⟩
  have fW := Aside0.mk (show strongroombook_Within.f a4 0 20 = some (j : Int) by rw [within_some _ _ _ (by decide) (by decide) (by decide), hj])
  obtain ⟨m, hm⟩ : ∃ m, m = 1 + j := ⟨_, rfl⟩
  have hwm : wrap64 (1 + (j : Int)) = (m : Int) := by rw [hm]; exact wrapm _ hj20
  obtain ⟨more, hmore⟩ : ∃ x, x = ([] ++ bs) ++ List.replicate (m : Int).toNat (0 : Int) := ⟨_, rfl⟩
  have hmol : more.length ≤ 200 := morel bs more m j hm hj20 hsl hmore
  obtain ⟨hid, hhid⟩ : ∃ x, x = hidF key nonce b := ⟨_, rfl⟩
  obtain ⟨m1, hm1'⟩ : ∃ x, x = macF key nonce bs hid := ⟨_, rfl⟩
  obtain ⟨m2, hm2'⟩ : ∃ x, x = macF key nonce more hid := ⟨_, rfl⟩
  have hhl : hid.length = b.length := by rw [hhid, len_hidF]
  have hml1 : m1.length = 16 := by rw [hm1', len_macF]
  have hml2 : m2.length = 16 := by rw [hm2', len_macF]
  have hmb1 : Bytes m1 := by rw [hm1']; exact bytes_macF _ _ _ _
  have hmb2 : Bytes m2 := by rw [hm2']; exact bytes_macF _ _ _ _
  have hhb : Bytes hid := by rw [hhid]; exact Cha.bytes_xorF _ _ _ _
  obtain ⟨x, hx⟩ : ∃ z, z = hid ++ m1 := ⟨_, rfl⟩
  obtain ⟨y, hy⟩ : ∃ z, z = hid ++ m2 := ⟨_, rfl⟩
  have hxn : x.length = b.length + 16 := by rw [hx, List.length_append, hhl, hml1]
  have hyn : y.length = b.length + 16 := by rw [hy, List.length_append, hhl, hml2]
  have hxt : x.take b.length = hid := by rw [hx, ← hhl, List.take_left]
  have hyt : y.take b.length = hid := by rw [hy, ← hhl, List.take_left]
  have fS := Aside0.mk (show aead_Seal.f key nonce bs b = some (x, 0) by unfold aead_Seal.f; rw [if_pos (by omega), seal_eq hk hn, hx, hm1', hhid])
  have fS2 := Aside0.mk (show aead_Seal.f key nonce more b = some (y, 0) by unfold aead_Seal.f; rw [if_pos (by omega), seal_eq hk hn, hy, hm2', hhid])
  have fO2 := Aside0.mk (show aead_Open.f key nonce more y = some (b, 0) by
    unfold aead_Open.f
    rw [if_pos (by omega), hy, open_eq hk hn more hid m2 hml2, ← hm2', same_self, if_pos rfl, hhid, hid_hid _ _ _ hbb])
  have fE := Aside0.mk (show m2 = m1 → x = y ∧ aead_Open.f key nonce more x = some (b, 0) from fun e => by
    have hxy : x = y := by rw [hx, hy, e]
    exact ⟨hxy, by rw [hxy]; exact fO2.out⟩)
  have fN := Aside0.mk (show m2 ≠ m1 → ((strOfNums x).toList == (strOfNums y).toList) = false ∧ aead_Open.f key nonce more x = some ([], 14) from fun e => by
    refine ⟨same_ne (hx ▸ hhb.append hmb1) (hy ▸ hhb.append hmb2) (fun h2 => ?_), ?_⟩
    · rw [hx, hy] at h2
      exact e (List.append_cancel_left h2).symm
    · unfold aead_Open.f
      rw [if_pos (by omega), hx, open_eq hk hn more hid m1 hml1, ← hm2', same_ne hmb2 hmb1 e, if_neg (by simp)])
  have C0 := Aside0.mk (And.intro hr0 hc0)
  have C1 := Aside0.mk (And.intro hr1 hc1)
  have C2 := Aside0.mk (And.intro hr2 hc2)
  have C3 := Aside0.mk (And.intro hr3 hc3)
  have D2 := Aside0.mk (And.intro (cutR_C hr2 hc2 f2.out) (cutR_len hc2 f2.out))
  have D3 := Aside0.mk (And.intro (cutR_C hr3 hc3 f3.out) (cutR_len hc3 f3.out))
  have HN := Aside0.mk (And.intro hbl (And.intro hxn (And.intro hyn (And.intro hxt (And.intro hyt (And.intro hhl (And.intro hsl hmore)))))))
  have HM := Aside0.mk (And.intro hm (And.intro hj20 hmol))
  clear hmx hkey hnonce hbs hb hk hn hbl hsl hbb hj hj20 hm hmore hmol hhid hm1' hm2' hhl hml1 hml2 hmb1 hmb2 hhb hx hy hxn hyn hxt hyt hr0 hr1 hr2 hr3 hc0 hc1 hc2 hc3 hm0 hm1 hb3
  go_enter Try.func7, Try.ntmps7
  go_wp2_with fail
  refine (strongroomkeep_Sized.calls A0 c0 l0 32 key _ C0.out.1 C0.out.2 fk.out).mono ?_
  rintro e w1 ⟨v1, rfl, hR, hB⟩
  obtain ⟨Ak, ck, rfl, hck, hCk⟩ := Kd.R_reads hR
  have CK := Aside0.mk (And.intro hCk hck)
  have B1 := Aside0.mk hB
  clear hR hB hck hCk
  go_wp2_with fail
  refine (strongroomkeep_Sized.calls A1 c1 l1 12 nonce w1 (Kd.C_below C1.out.1 B1.out) C1.out.2 fn.out).mono ?_
  rintro e w2 ⟨v2, rfl, hR, hB⟩
  obtain ⟨An, cn, rfl, hcn, hCn⟩ := Kd.R_reads hR
  have CN := Aside0.mk (And.intro hCn hcn)
  have B2 := Aside0.mk (below_step B1.out hB)
  have CK := Aside0.mk (And.intro (Kd.C_below CK.out.1 hB) CK.out.2)
  clear hR hB hcn hCn
  go_wp2_with fail
  refine (strongroomkeep_CutR.calls A2 c2 l2 100 bs w2 (Kd.C_below C2.out.1 B2.out) C2.out.2 f2.out).mono ?_
  rintro e w3 ⟨rfl, ⟨n3, rfl⟩⟩
  have B3 := Aside0.mk (pw_below_drewN B2.out n3)
  go_wp2_with fail
  refine (strongroomkeep_CutR.calls A3 c3 l3 300 b _ (Kd.C_below C3.out.1 B3.out) C3.out.2 f3.out).mono ?_
  rintro e w4 ⟨rfl, ⟨n4, rfl⟩⟩
  have B4 := Aside0.mk (pw_below_drewN B2.out (n3 + n4))
  have CK := Aside0.mk (And.intro (Kd.C_drewN CK.out.1 (n3 + n4)) CK.out.2)
  have CN := Aside0.mk (And.intro (Kd.C_drewN CN.out.1 (n3 + n4)) CN.out.2)
  have e34 : (w2.drewN n3).drewN n4 = w2.drewN (n3 + n4) := World.drewN_drewN ..
  rw [e34]
  clear e34
  generalize w2.drewN (n3 + n4) = w4 at B4 CK CN ⊢
  have Z1 := Aside0.mk (lit_R w4 w4.heap.size w4.heap.size 5 .u8 [] 0 rfl (Nat.le_refl _) rfl (by decide))
  have BL := Aside0.mk (show Below w4.heap.size w4 (w4.alloc (.cells #[] 5)) from (Below.refl _ _).alloc (Nat.le_refl _) _)
  go_wp2_with ((with_reducible refine gate_builtin (b := .append) (xs := #[.tmp 28, .tmp 29]) rfl ?_); at_builtin; (refine Kd.R_append_row (w0 := w4) (Value.int .u8) (0 : Int) (h1 := fun _ => rfl) w4.heap.size rfl (.tmp 28) (.tmp 29) 22 5 (.int .u8 0) 1 rfl Try.underlying22 Pol.info_u8 rfl Nat.one_pos _ [] bs A2 bs.length c2 (fun _ => True) rfl rfl (fun _ _ => trivial) ?q1 ?q2 ?q3 ?q4 ?q5 ?_; (case q1 => exact Z1.out); (case q2 => exact Kd.C_below (Kd.C_below D2.out.1 B4.out) BL.out); (case q3 => exact BL.out); (case q4 => exact BL.out.size); (case q5 => have h1 := HN.out.2.2.2.2.2.2.1; simp only [List.length_nil]; omega); intro v5 w5 hR hB5 _ _; have R5 := Aside0.mk (show (Kd.int .u8).R 5 w5 w4.heap.size (fun _ => True) v5 ([] ++ bs) from hR); have B5 := Aside0.mk hB5; clear hR hB5))
  refine (strongroombook_Within.calls a4 0 20 j w5 fW.out).mono ?_
  rintro e w6 ⟨rfl, ⟨n6, rfl⟩⟩
  have R6 := Aside0.mk (Kd.R_drewN R5.out n6)
  have B6 := Aside0.mk (pw_below_drewN B5.out n6)
  go_wp2_with (at_builtin; refine Kd.R_append_zeros (Kd.int .u8) (w0 := w4) w4.heap.size rfl (.tmp 30) (.tmp 33) 22 3 5 (.int .u8 0) 1 rfl Try.underlying22 Try.underlying3 UAead.info5 rfl (by decide) (by omega) v5 ([] ++ bs) 0 (m : Int) (fun _ => True) rfl (by first | rfl | (rw [hwm]; rfl)) rfl ?aF ?aO ?a0 ?aB ?aS ?aL ?_; (case aF => exact fun _ _ => trivial); (case aO => exact R6.out); (case a0 => exact Int.natCast_nonneg _); (case aB => exact B6.out); (case aS => exact B6.out.size); (case aL => have h1 := HN.out.2.2.2.2.2.2.1; have h2 := HM.out; simp; omega); intro v7 w7 ho hb _ _; have R7 := Aside0.mk ho; have B7 := Aside0.mk hb; clear ho hb)
  rw [← HN.out.2.2.2.2.2.2.2] at R7
  obtain ⟨Am, cm, rfl, hcm, hCm⟩ := Kd.R_reads R7.out
  have CM := Aside0.mk (And.intro hCm hcm)
  have B7w := Aside0.mk (below_step B4.out B7.out)
  have CK := Aside0.mk (And.intro (Kd.C_below CK.out.1 B7.out) CK.out.2)
  have CN := Aside0.mk (And.intro (Kd.C_below CN.out.1 B7.out) CN.out.2)
  clear hcm hCm hwm Z1 BL R5 R6 B5 B6 R7
  refine (aead_Seal.calls Ak ck key An cn nonce A2 c2 bs A3 c3 b x 0 _ CK.out.1 CK.out.2 CN.out.1 CN.out.2 (Kd.C_below D2.out.1 B7w.out) D2.out.2 (Kd.C_below D3.out.1 B7w.out) D3.out.2 fS.out).mono ?_
  rintro e w8 ⟨v8, rfl, hR, hB⟩
  obtain ⟨Ax, cx, rfl, hcx, hCx⟩ := Kd.R_reads hR
  have CX := Aside0.mk (And.intro hCx hcx)
  have B8 := Aside0.mk (below_step B7w.out hB)
  have CK := Aside0.mk (And.intro (Kd.C_below CK.out.1 hB) CK.out.2)
  have CN := Aside0.mk (And.intro (Kd.C_below CN.out.1 hB) CN.out.2)
  have CM := Aside0.mk (And.intro (Kd.C_below CM.out.1 hB) CM.out.2)
  clear hR hB hcx hCx
  go_wp2_with fail
  refine (aead_Seal.calls Ak ck key An cn nonce Am cm more A3 c3 b y 0 _ CK.out.1 CK.out.2 CN.out.1 CN.out.2 CM.out.1 CM.out.2 (Kd.C_below D3.out.1 B8.out) D3.out.2 fS2.out).mono ?_
  rintro e w9 ⟨v9, rfl, hR, hB⟩
  obtain ⟨Ay, cy, rfl, hcy, hCy⟩ := Kd.R_reads hR
  have CY := Aside0.mk (And.intro hCy hcy)
  have B9 := Aside0.mk (below_step B8.out hB)
  have CK := Aside0.mk (And.intro (Kd.C_below CK.out.1 hB) CK.out.2)
  have CN := Aside0.mk (And.intro (Kd.C_below CN.out.1 hB) CN.out.2)
  have CM := Aside0.mk (And.intro (Kd.C_below CM.out.1 hB) CM.out.2)
  have CX := Aside0.mk (And.intro (Kd.C_below CX.out.1 hB) CX.out.2)
  clear hR hB hcy hCy
  have q0 := Kd.C_string (P := Try.prog) (c := cx) Try.underlying22 Try.underlying5 Try.underlying9 (Kd.C_drew (Kd.C_take CX.out.1 (show b.length ≤ x.length by have := HN.out.2.1; omega)))
  have q1 := Kd.C_string (P := Try.prog) (c := cy) Try.underlying22 Try.underlying5 Try.underlying9 (Kd.C_drew (Kd.C_take CY.out.1 (show b.length ≤ y.length by have := HN.out.2.2.1; omega)))
  rw [HN.out.2.2.2.1, HN.out.2.2.2.2.2.1] at q0
  rw [HN.out.2.2.2.2.1, HN.out.2.2.2.2.2.1] at q1
  have Q0 := Aside0.mk q0
  have Q1 := Aside0.mk q1
  clear q0 q1
  go_upto_region 8 with (fail)
  change Code.wp _ _ _ _ w9
  obtain ⟨I0, hI0⟩ : ∃ i, Try.prog.info? 5 = some i := ⟨_, rfl⟩
  have hcut := cut_to (P := Try.prog) 22 5 .i64 Try.underlying22 hI0 Ax x.length cx (b.length : Int) (by omega) (by have := HN.out.2.1; omega) CX.out.2
  have hcut2 := cut_to (P := Try.prog) 22 5 .i64 Try.underlying22 hI0 Ay y.length cy (b.length : Int) (by omega) (by have := HN.out.2.2.1; omega) CY.out.2
  rw [Int.toNat_natCast] at hcut hcut2
  have d1 := dle x.length b.length (by have := HN.out.2.1; omega)
  have d2 := dle y.length b.length (by have := HN.out.2.2.1; omega)
  have d3 := dle2 x.length b.length (by have := HN.out.2.1; omega)
  have d4 := dle2 y.length b.length (by have := HN.out.2.2.1; omega)
  clear hI0
  refine start_ (n := 33) (S := fun w' => (convert 22 9 (.slice Ax b.length cx)).run Try.prog w' = .ok (.string (strOfNums hid)) w' ∧ (convert 22 9 (.slice Ay b.length cy)).run Try.prog w' = .ok (.string (strOfNums hid)) w') (ds := []) #[false, false, false, false, false, false, false, false, false, false, false, false, false, false, false, false, false, false, false, false, false, false, false, false, false, false, false, false, false, false, false, false, false] (by kernel_rfl) rfl rfl ⟨Q0.out, Q1.out⟩ (fun hHeld => ?_)
  refine pure_ (i := 0) (N := some 51) (v := ?_) (a' := ?_) #[true, false, false, false, false, false, false, false, false, false, false, false, false, false, false, false, false, false, false, false, false, false, false, false, false, false, false, false, false, false, false, false, false] rfl rfl (by kernel_rfl) (fun _ _ _ h => h) (Or.inl ⟨by rfl, ?_⟩) ?_ ?_
  rotate_left
  · intro w'
    go_simp
    with_reducible rfl
  rotate_left
  · simp only [Act.put, List.setIfInBounds_toArray, List.set_cons_zero, List.set_cons_succ]
    rfl
  refine pure_ (i := 1) (N := some 52) (v := ?_) (a' := ?_) #[true, true, false, false, false, false, false, false, false, false, false, false, false, false, false, false, false, false, false, false, false, false, false, false, false, false, false, false, false, false, false, false, false] rfl rfl (by kernel_rfl) (fun _ _ _ h => h) (Or.inl ⟨by rfl, ?_⟩) ?_ ?_
  rotate_left
  · intro w'
    go_simp
    with_reducible rfl
  rotate_left
  · simp only [Act.put, List.setIfInBounds_toArray, List.set_cons_zero, List.set_cons_succ]
    rfl
  refine pure_ (i := 2) (N := some 53) (v := ?_) (a' := ?_) #[true, true, true, false, false, false, false, false, false, false, false, false, false, false, false, false, false, false, false, false, false, false, false, false, false, false, false, false, false, false, false, false, false] rfl rfl (by kernel_rfl) (fun _ _ _ h => h) (Or.inl ⟨by rfl, ?_⟩) ?_ ?_
  rotate_left
  · intro w'
    go_simp
    with_reducible rfl
  rotate_left
  · simp only [Act.put, List.setIfInBounds_toArray, List.set_cons_zero, List.set_cons_succ]
    rfl
  refine pure_ (i := 3) (N := some 54) (v := ?_) (a' := ?_) #[true, true, true, true, false, false, false, false, false, false, false, false, false, false, false, false, false, false, false, false, false, false, false, false, false, false, false, false, false, false, false, false, false] rfl rfl (by kernel_rfl) (fun _ _ _ h => h) (Or.inl ⟨by rfl, ?_⟩) ?_ ?_
  rotate_left
  · intro w'
    go_simp
    with_reducible rfl
  rotate_left
  · simp only [Act.put, List.setIfInBounds_toArray, List.set_cons_zero, List.set_cons_succ]
    rfl
  refine pure_ (i := 4) (N := some 55) (v := ?_) (a' := ?_) #[true, true, true, true, true, false, false, false, false, false, false, false, false, false, false, false, false, false, false, false, false, false, false, false, false, false, false, false, false, false, false, false, false] rfl rfl (by kernel_rfl) (fun _ _ _ h => h) (Or.inl ⟨by rfl, ?_⟩) ?_ ?_
  rotate_left
  · intro w'
    go_simp
    with_reducible rfl
  rotate_left
  · simp only [Act.put, List.setIfInBounds_toArray, List.set_cons_zero, List.set_cons_succ]
    rfl
  refine pure_ (i := 5) (N := some 56) (v := ?_) (a' := ?_) #[true, true, true, true, true, true, false, false, false, false, false, false, false, false, false, false, false, false, false, false, false, false, false, false, false, false, false, false, false, false, false, false, false] rfl rfl (by kernel_rfl) (fun _ _ _ h => h) (Or.inl ⟨by rfl, ?_⟩) ?_ ?_
  rotate_left
  · intro w'
    go_simp
    with_reducible rfl
  rotate_left
  · simp only [Act.put, List.setIfInBounds_toArray, List.set_cons_zero, List.set_cons_succ]
    rfl
  refine pure_ (i := 6) (N := some 57) (v := ?_) (a' := ?_) #[true, true, true, true, true, true, true, false, false, false, false, false, false, false, false, false, false, false, false, false, false, false, false, false, false, false, false, false, false, false, false, false, false] rfl rfl (by kernel_rfl) (fun _ _ _ h => h) (Or.inl ⟨by rfl, ?_⟩) ?_ ?_
  rotate_left
  · intro w'
    go_simp
    with_reducible rfl
  rotate_left
  · simp only [Act.put, List.setIfInBounds_toArray, List.set_cons_zero, List.set_cons_succ]
    rfl
  refine pure_ (i := 7) (N := some 58) (v := ?_) (a' := ?_) #[true, true, true, true, true, true, true, true, false, false, false, false, false, false, false, false, false, false, false, false, false, false, false, false, false, false, false, false, false, false, false, false, false] rfl rfl (by kernel_rfl) (fun _ _ _ h => h) (Or.inl ⟨by rfl, ?_⟩) ?_ ?_
  rotate_left
  · intro w'
    go_simp
    with_reducible rfl
  rotate_left
  · simp only [Act.put, List.setIfInBounds_toArray, List.set_cons_zero, List.set_cons_succ]
    rfl
  refine pure_ (i := 8) (N := some 59) (v := ?_) (a' := ?_) #[true, true, true, true, true, true, true, true, true, false, false, false, false, false, false, false, false, false, false, false, false, false, false, false, false, false, false, false, false, false, false, false, false] rfl rfl (by kernel_rfl) (fun _ _ _ h => h) (Or.inl ⟨by rfl, ?_⟩) ?_ ?_
  rotate_left
  · intro w'
    go_simp
    with_reducible rfl
  rotate_left
  · simp only [Act.put, List.setIfInBounds_toArray, List.set_cons_zero, List.set_cons_succ]
    rfl
  refine pure_ (i := 9) (N := some 60) (v := ?_) (a' := ?_) #[true, true, true, true, true, true, true, true, true, true, false, false, false, false, false, false, false, false, false, false, false, false, false, false, false, false, false, false, false, false, false, false, false] rfl rfl (by kernel_rfl) (fun _ _ _ h => h) (Or.inl ⟨by rfl, ?_⟩) ?_ ?_
  rotate_left
  · intro w'
    go_simp
    with_reducible rfl
  rotate_left
  · simp only [Act.put, List.setIfInBounds_toArray, List.set_cons_zero, List.set_cons_succ]
    rfl
  refine pure_ (i := 10) (N := some 61) (v := ?_) (a' := ?_) #[true, true, true, true, true, true, true, true, true, true, true, false, false, false, false, false, false, false, false, false, false, false, false, false, false, false, false, false, false, false, false, false, false] rfl rfl (by kernel_rfl) (fun _ _ _ h => h) (Or.inl ⟨by rfl, ?_⟩) ?_ ?_
  rotate_left
  · intro w'
    go_simp
    with_reducible rfl
  rotate_left
  · simp only [Act.put, List.setIfInBounds_toArray, List.set_cons_zero, List.set_cons_succ]
    rfl
  refine pure_ (i := 11) (N := some 62) (v := ?_) (a' := ?_) #[true, true, true, true, true, true, true, true, true, true, true, true, false, false, false, false, false, false, false, false, false, false, false, false, false, false, false, false, false, false, false, false, false] rfl rfl (by kernel_rfl) (fun _ _ _ h => h) (Or.inl ⟨by rfl, ?_⟩) ?_ ?_
  rotate_left
  · intro w'
    go_simp
    with_reducible rfl
  rotate_left
  · simp only [Act.put, List.setIfInBounds_toArray, List.set_cons_zero, List.set_cons_succ]
    rfl
  refine pure_ (i := 12) (N := some 63) (v := ?_) (a' := ?_) #[true, true, true, true, true, true, true, true, true, true, true, true, true, false, false, false, false, false, false, false, false, false, false, false, false, false, false, false, false, false, false, false, false] rfl rfl (by kernel_rfl) (fun _ _ _ h => h) (Or.inl ⟨by rfl, ?_⟩) ?_ ?_
  rotate_left
  · intro w'
    go_simp
    with_reducible rfl
  rotate_left
  · simp only [Act.put, List.setIfInBounds_toArray, List.set_cons_zero, List.set_cons_succ]
    rfl
  refine pure_ (i := 13) (N := some 64) (v := ?_) (a' := ?_) #[true, true, true, true, true, true, true, true, true, true, true, true, true, true, false, false, false, false, false, false, false, false, false, false, false, false, false, false, false, false, false, false, false] rfl rfl (by kernel_rfl) (fun _ _ _ h => h) (Or.inl ⟨by rfl, ?_⟩) ?_ ?_
  rotate_left
  · intro w'
    go_simp
    with_reducible rfl
  rotate_left
  · simp only [Act.put, List.setIfInBounds_toArray, List.set_cons_zero, List.set_cons_succ]
    rfl
  refine pure_ (i := 14) (N := some 65) (v := ?_) (a' := ?_) #[true, true, true, true, true, true, true, true, true, true, true, true, true, true, true, false, false, false, false, false, false, false, false, false, false, false, false, false, false, false, false, false, false] rfl rfl (by kernel_rfl) (fun _ _ _ h => h) (Or.inl ⟨by rfl, ?_⟩) ?_ ?_
  rotate_left
  · intro w'
    go_simp
    with_reducible rfl
  rotate_left
  · simp only [Act.put, List.setIfInBounds_toArray, List.set_cons_zero, List.set_cons_succ]
    rfl
  refine pure_ (i := 15) (N := some 66) (v := ?_) (a' := ?_) #[true, true, true, true, true, true, true, true, true, true, true, true, true, true, true, true, false, false, false, false, false, false, false, false, false, false, false, false, false, false, false, false, false] rfl rfl (by kernel_rfl) (fun _ _ _ h => h) (Or.inl ⟨by rfl, ?_⟩) ?_ ?_
  rotate_left
  · intro w'
    go_simp
    with_reducible rfl
  rotate_left
  · simp only [Act.put, List.setIfInBounds_toArray, List.set_cons_zero, List.set_cons_succ]
    rfl
  refine pure_ (i := 16) (N := some 67) (v := ?_) (a' := ?_) #[true, true, true, true, true, true, true, true, true, true, true, true, true, true, true, true, true, false, false, false, false, false, false, false, false, false, false, false, false, false, false, false, false] rfl rfl (by kernel_rfl) (fun _ _ _ h => h) (Or.inl ⟨by rfl, ?_⟩) ?_ ?_
  rotate_left
  · intro w'
    go_simp
    with_reducible rfl
  rotate_left
  · simp only [Act.put, List.setIfInBounds_toArray, List.set_cons_zero, List.set_cons_succ]
    rfl
  refine pure_ (i := 17) (N := some 68) (v := ?_) (a' := ?_) #[true, true, true, true, true, true, true, true, true, true, true, true, true, true, true, true, true, true, false, false, false, false, false, false, false, false, false, false, false, false, false, false, false] rfl rfl (by kernel_rfl) (fun _ _ _ h => h) (Or.inl ⟨by rfl, ?_⟩) ?_ ?_
  rotate_left
  · intro w'
    go_simp
    with_reducible rfl
  rotate_left
  · simp only [Act.put, List.setIfInBounds_toArray, List.set_cons_zero, List.set_cons_succ]
    rfl
  refine pure_ (i := 18) (N := some 69) (v := ?_) (a' := ?_) #[true, true, true, true, true, true, true, true, true, true, true, true, true, true, true, true, true, true, true, false, false, false, false, false, false, false, false, false, false, false, false, false, false] rfl rfl (by kernel_rfl) (fun _ _ _ h => h) (Or.inl ⟨by rfl, ?_⟩) ?_ ?_
  rotate_left
  · intro w'
    go_simp
    with_reducible rfl
  rotate_left
  · simp only [Act.put, List.setIfInBounds_toArray, List.set_cons_zero, List.set_cons_succ]
    rfl
  refine pure_ (i := 19) (N := some 70) (v := ?_) (a' := ?_) #[true, true, true, true, true, true, true, true, true, true, true, true, true, true, true, true, true, true, true, true, false, false, false, false, false, false, false, false, false, false, false, false, false] rfl rfl (by kernel_rfl) (fun _ _ _ h => h) (Or.inl ⟨by rfl, ?_⟩) ?_ ?_
  rotate_left
  · intro w'
    go_simp
    with_reducible rfl
  rotate_left
  · simp only [Act.put, List.setIfInBounds_toArray, List.set_cons_zero, List.set_cons_succ]
    rfl
  refine pure_ (i := 20) (N := some 71) (v := ?_) (a' := ?_) #[true, true, true, true, true, true, true, true, true, true, true, true, true, true, true, true, true, true, true, true, true, false, false, false, false, false, false, false, false, false, false, false, false] rfl rfl (by kernel_rfl) (fun _ _ _ h => h) (Or.inl ⟨by rfl, ?_⟩) ?_ ?_
  rotate_left
  · intro w'
    go_simp
    with_reducible rfl
  rotate_left
  · simp only [Act.put, List.setIfInBounds_toArray, List.set_cons_zero, List.set_cons_succ]
    rfl
  refine pure_ (i := 21) (N := some 72) (v := ?_) (a' := ?_) #[true, true, true, true, true, true, true, true, true, true, true, true, true, true, true, true, true, true, true, true, true, true, false, false, false, false, false, false, false, false, false, false, false] rfl rfl (by kernel_rfl) (fun _ _ _ h => h) (Or.inl ⟨by rfl, ?_⟩) ?_ ?_
  rotate_left
  · intro w'
    go_simp
    with_reducible rfl
  rotate_left
  · simp only [Act.put, List.setIfInBounds_toArray, List.set_cons_zero, List.set_cons_succ]
    rfl
  refine pure_ (i := 22) (N := some 73) (v := ?_) (a' := ?_) #[true, true, true, true, true, true, true, true, true, true, true, true, true, true, true, true, true, true, true, true, true, true, true, false, false, false, false, false, false, false, false, false, false] rfl rfl (by kernel_rfl) (fun _ _ _ h => h) (Or.inl ⟨by rfl, ?_⟩) ?_ ?_
  rotate_left
  · intro w'
    go_simp
    with_reducible rfl
  rotate_left
  · simp only [Act.put, List.setIfInBounds_toArray, List.set_cons_zero, List.set_cons_succ]
    rfl
  refine pure_ (i := 23) (N := some 74) (v := ?_) (a' := ?_) #[true, true, true, true, true, true, true, true, true, true, true, true, true, true, true, true, true, true, true, true, true, true, true, true, false, false, false, false, false, false, false, false, false] rfl rfl (by kernel_rfl) (fun _ _ _ h => h) (Or.inl ⟨by rfl, ?_⟩) ?_ ?_
  rotate_left
  · intro w'
    go_simp
    with_reducible rfl
  rotate_left
  · simp only [Act.put, List.setIfInBounds_toArray, List.set_cons_zero, List.set_cons_succ]
    rfl
  refine pure_ (i := 24) (N := some 75) (v := ?_) (a' := ?_) #[true, true, true, true, true, true, true, true, true, true, true, true, true, true, true, true, true, true, true, true, true, true, true, true, true, false, false, false, false, false, false, false, false] rfl rfl (by kernel_rfl) (fun _ _ _ h => h) (Or.inl ⟨by rfl, ?_⟩) ?_ ?_
  rotate_left
  · intro w'
    go_simp
    with_reducible rfl
  rotate_left
  · simp only [Act.put, List.setIfInBounds_toArray, List.set_cons_zero, List.set_cons_succ]
    rfl
  refine pure_ (i := 26) (N := some 77) (v := ?_) (a' := ?_) #[true, true, true, true, true, true, true, true, true, true, true, true, true, true, true, true, true, true, true, true, true, true, true, true, true, false, true, false, false, false, false, false, false] rfl rfl (by kernel_rfl) (fun _ _ _ h => h) (Or.inl ⟨by rfl, ?_⟩) ?_ ?_
  rotate_left
  · intro w'
    go_simp
    with_reducible rfl
  rotate_left
  · simp only [Act.put, List.setIfInBounds_toArray, List.set_cons_zero, List.set_cons_succ]
    rfl
  refine pure_ (i := 27) (N := some 78) (v := ?_) (a' := ?_) #[true, true, true, true, true, true, true, true, true, true, true, true, true, true, true, true, true, true, true, true, true, true, true, true, true, false, true, true, false, false, false, false, false] rfl rfl (by kernel_rfl) (fun _ _ _ h => h) (Or.inl ⟨by rfl, ?_⟩) ?_ ?_
  rotate_left
  · intro w'
    go_simp
    with_reducible rfl
  rotate_left
  · simp only [Act.put, List.setIfInBounds_toArray, List.set_cons_zero, List.set_cons_succ]
    rfl
  refine pure_ (i := 28) (N := some 79) (v := ?_) (a' := ?_) #[true, true, true, true, true, true, true, true, true, true, true, true, true, true, true, true, true, true, true, true, true, true, true, true, true, false, true, true, true, false, false, false, false] rfl rfl (by kernel_rfl) (fun _ _ _ h => h) (Or.inl ⟨by rfl, ?_⟩) ?_ ?_
  rotate_left
  · intro w'
    go_simp
    with_reducible rfl
  rotate_left
  · simp only [Act.put, List.setIfInBounds_toArray, List.set_cons_zero, List.set_cons_succ]
    rfl
  refine pure_ (i := 29) (N := some 80) (v := ?_) (a' := ?_) #[true, true, true, true, true, true, true, true, true, true, true, true, true, true, true, true, true, true, true, true, true, true, true, true, true, false, true, true, true, true, false, false, false] rfl rfl (by kernel_rfl) (fun _ _ _ h => h) (Or.inl ⟨by rfl, ?_⟩) ?_ ?_
  rotate_left
  · intro w'
    go_simp
    with_reducible rfl
  rotate_left
  · simp only [Act.put, List.setIfInBounds_toArray, List.set_cons_zero, List.set_cons_succ]
    rfl
  refine take_ (i := 25) (N := some 76) (v := ?_) (a' := ?_) #[true, true, true, true, true, true, true, true, true, true, true, true, true, true, true, true, true, true, true, true, true, true, true, true, true, true, true, true, true, true, false, false, false] rfl rfl (by kernel_rfl) (fun _ _ _ h => h) (Or.inl ⟨by rfl, ?_⟩) hHeld ?_ ?_
  rotate_left
  · rintro w' ⟨s0, s1⟩
    go_simp
    with_reducible rfl
  rotate_left
  · simp only [Act.put, List.setIfInBounds_toArray, List.set_cons_zero, List.set_cons_succ]
    rfl
  refine take_ (i := 30) (N := some 81) (v := ?_) (a' := ?_) #[true, true, true, true, true, true, true, true, true, true, true, true, true, true, true, true, true, true, true, true, true, true, true, true, true, true, true, true, true, true, true, false, false] rfl rfl (by kernel_rfl) (fun _ _ _ h => h) (Or.inl ⟨by rfl, ?_⟩) hHeld ?_ ?_
  rotate_left
  · rintro w' ⟨s0, s1⟩
    go_simp
    with_reducible rfl
  rotate_left
  · simp only [Act.put, List.setIfInBounds_toArray, List.set_cons_zero, List.set_cons_succ]
    rfl
  refine pure_ (i := 31) (N := some 82) (v := ?_) (a' := ?_) #[true, true, true, true, true, true, true, true, true, true, true, true, true, true, true, true, true, true, true, true, true, true, true, true, true, true, true, true, true, true, true, true, false] rfl rfl (by kernel_rfl) (fun _ _ _ h => h) (Or.inl ⟨by rfl, ?_⟩) ?_ ?_
  rotate_left
  · intro w'
    go_simp
    with_reducible rfl
  rotate_left
  · simp only [Act.put, List.setIfInBounds_toArray, List.set_cons_zero, List.set_cons_succ]
    rfl
  refine pure_ (i := 32) (N := some 83) (v := ?_) (a' := ?_) #[true, true, true, true, true, true, true, true, true, true, true, true, true, true, true, true, true, true, true, true, true, true, true, true, true, true, true, true, true, true, true, true, true] rfl rfl (by kernel_rfl) (fun _ _ _ h => h) (Or.inl ⟨by rfl, ?_⟩) ?_ ?_
  rotate_left
  · intro w'
    go_simp
    with_reducible rfl
  rotate_left
  · simp only [Act.put, List.setIfInBounds_toArray, List.set_cons_zero, List.set_cons_succ]
    rfl
  refine done_ (by kernel_rfl) ?_
  clear hcut hcut2 d1 d2 d3 d4
  have E9 := Aside0.mk (below_drew1 B9.out)
  have CK := Aside0.mk (And.intro (Kd.C_drew CK.out.1) CK.out.2)
  have CN := Aside0.mk (And.intro (Kd.C_drew CN.out.1) CN.out.2)
  have CM := Aside0.mk (And.intro (Kd.C_drew CM.out.1) CM.out.2)
  have CX := Aside0.mk (And.intro (Kd.C_drew CX.out.1) CX.out.2)
  have CY := Aside0.mk (And.intro (Kd.C_drew CY.out.1) CY.out.2)
  clear Q0 Q1
  go_wp2_with fail
  by_cases hE : m2 = m1
  · have hfe := fE.out hE
    have hxy := hfe.1
    have fO := Aside0.mk hfe.2
    subst hxy
    clear hE hfe
    refine (aead_Open.calls Ak ck key An cn nonce Am cm more Ax cx x b 0 _ CK.out.1 CK.out.2 CN.out.1 CN.out.2 CM.out.1 CM.out.2 CX.out.1 CX.out.2 fO.out).mono ?_
    rintro e w10 ⟨v10, rfl, hR, hB⟩
    obtain ⟨Az, cz, rfl, hcz, hCz⟩ := Kd.R_reads hR
    have B10 := Aside0.mk (below_step E9.out hB)
    have q1 := fun n : Nat => Kd.C_string (P := Try.prog) (c := cx) Try.underlying22 Try.underlying5 Try.underlying9 (Kd.C_drewN (Kd.C_below CX.out.1 hB) n)
    have q2 := fun n : Nat => Kd.C_string (P := Try.prog) (c := cy) Try.underlying22 Try.underlying5 Try.underlying9 (Kd.C_drewN (Kd.C_below CY.out.1 hB) n)
    have q3 := fun n : Nat => Kd.C_string (P := Try.prog) (c := cz) Try.underlying22 Try.underlying5 Try.underlying9 (Kd.C_drewN hCz n)
    have q4 := fun n : Nat => Kd.C_string (P := Try.prog) (c := c3) Try.underlying22 Try.underlying5 Try.underlying9 (Kd.C_drewN (Kd.C_below D3.out.1 B10.out) n)
    have p1 := Kd.C_string (P := Try.prog) (c := cx) Try.underlying22 Try.underlying5 Try.underlying9 (Kd.C_below CX.out.1 hB)
    have p2 := Kd.C_string (P := Try.prog) (c := cy) Try.underlying22 Try.underlying5 Try.underlying9 (Kd.C_below CY.out.1 hB)
    have p3 := Kd.C_string (P := Try.prog) (c := cz) Try.underlying22 Try.underlying5 Try.underlying9 hCz
    have p4 := Kd.C_string (P := Try.prog) (c := c3) Try.underlying22 Try.underlying5 Try.underlying9 (Kd.C_below D3.out.1 B10.out)
    clear hR hB hcz hCz
    go_wp2_with fail
    refine (strongroomlaw4_known.calls true _ rfl).mono ?_
    rintro e w11 ⟨rfl, hB⟩
    have B11 := Aside0.mk (below_step B10.out hB)
    clear hB
    go_wp2_with fail
    go_ret
    exact ⟨rfl, B11.out⟩
  · have hfn := fN.out hE
    have hns := hfn.1
    have fO := Aside0.mk hfn.2
    clear hE hfn
    refine (aead_Open.calls Ak ck key An cn nonce Am cm more Ax cx x [] 14 _ CK.out.1 CK.out.2 CN.out.1 CN.out.2 CM.out.1 CM.out.2 CX.out.1 CX.out.2 fO.out).mono ?_
    rintro e w10 ⟨v10, rfl, hR, hB⟩
    obtain ⟨Az, cz, rfl, hcz, hCz⟩ := Kd.R_reads hR
    have B10 := Aside0.mk (below_step E9.out hB)
    have CK := Aside0.mk (And.intro (Kd.C_below CK.out.1 hB) CK.out.2)
    have CN := Aside0.mk (And.intro (Kd.C_below CN.out.1 hB) CN.out.2)
    have CM := Aside0.mk (And.intro (Kd.C_below CM.out.1 hB) CM.out.2)
    have CY := Aside0.mk (And.intro (Kd.C_below CY.out.1 hB) CY.out.2)
    have p1 := Kd.C_string (P := Try.prog) (c := cx) Try.underlying22 Try.underlying5 Try.underlying9 (Kd.C_below CX.out.1 hB)
    have p2 := Kd.C_string (P := Try.prog) (c := cy) Try.underlying22 Try.underlying5 Try.underlying9 CY.out.1
    clear hR hB hcz hCz
    go_wp2_with fail
    refine (aead_Open.calls Ak ck key An cn nonce Am cm more Ay cy y b 0 _ CK.out.1 CK.out.2 CN.out.1 CN.out.2 CM.out.1 CM.out.2 CY.out.1 CY.out.2 fO2.out).mono ?_
    rintro e w11 ⟨v11, rfl, hR, hB⟩
    obtain ⟨Au, cu, rfl, hcu, hCu⟩ := Kd.R_reads hR
    have B11 := Aside0.mk (below_step B10.out hB)
    have p3 := Kd.C_string (P := Try.prog) (c := cu) Try.underlying22 Try.underlying5 Try.underlying9 hCu
    have p4 := Kd.C_string (P := Try.prog) (c := c3) Try.underlying22 Try.underlying5 Try.underlying9 (Kd.C_below D3.out.1 B11.out)
    clear hR hB hcu hCu
    go_wp2_with fail
    refine (strongroomlaw4_known.calls true _ rfl).mono ?_
    rintro e w12 ⟨rfl, hB⟩
    have B12 := Aside0.mk (below_step B11.out hB)
    clear hB
    go_wp2_with fail
    go_ret
    exact ⟨rfl, B12.out⟩
end Go.Proofs.Ytjlokmjbblpmoaa
