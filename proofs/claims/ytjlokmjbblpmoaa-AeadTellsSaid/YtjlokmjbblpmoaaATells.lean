/-
  AeadTells, walked.
-/
import Derived.Test.YtjlokmjbblpmoaaAeadAllC
import Derived.Deep.Cut
import Derived.Deep.DeepCutAuto
namespace Go.Proofs.Ytjlokmjbblpmoaa
open Go.RowKit Go.Proofs.YtjlokmjbblpmoaaW.PrintWords Go.Proofs.YtjlokmjbblpmoaaW.PrintLast Go.Proofs.YtjlokmjbblpmoaaW.PrintMore Go.Proofs.Ytjlokmjbblpmoaa.Arr Go.Proofs.Ytjlokmjbblpmoaa.Bits
set_option maxHeartbeats 8000000
set_option maxRecDepth 100000
theorem sealAns_bytes (key nonce bs b : List Int) : Bytes (sealAns key nonce bs b).1 := by
  by_cases hk : key.length = 32 ∧ nonce.length = 12
  · rw [seal_eq hk.1 hk.2]
    exact (Cha.bytes_xorF key 1 nonce b).append (bytes_macF _ _ _ _)
  · have e : Cha.xorAns key 1 nonce b = ([], 1) := by unfold Cha.xorAns; rw [if_neg hk]
    unfold sealAns
    rw [e, if_neg (by simp)]
    exact fun x hx => by cases hx
theorem sealAns_len (key nonce bs b : List Int) : (sealAns key nonce bs b).1.length ≤ b.length + 16 := by
  have h1 := xorAns_len key nonce b 1
  have h2 := tagAns_len key nonce bs (Cha.xorAns key 1 nonce b).1
  unfold sealAns
  split
  · rw [List.length_append]; omega
  · simp
theorem wrapl (n : Nat) (h : 0 < n) (hn : n ≤ 1000) : wrap64 ((n : Int) - 1) = (n : Int) - 1 := wrap_id (by omega) (by omega)
theorem aeadTells_calls (A0 : Option Addr) (c0 : Nat) (l0 : List Int) (A1 : Option Addr) (c1 : Nat) (l1 : List Int) (A2 : Option Addr) (c2 : Nat) (l2 : List Int) (A3 : Option Addr) (c3 : Nat) (l3 : List Int) (a4 : Bool) (a5 a6 : Int) (w : World) (hr0 : Kd.C (Kd.int .u8) w A0 l0.length l0) (hc0 : l0.length ≤ c0) (hr1 : Kd.C (Kd.int .u8) w A1 l1.length l1) (hc1 : l1.length ≤ c1) (hr2 : Kd.C (Kd.int .u8) w A2 l2.length l2) (hc2 : l2.length ≤ c2) (hr3 : Kd.C (Kd.int .u8) w A3 l3.length l3) (hc3 : l3.length ≤ c3) (hb2 : Bytes l2) (hb3 : Bytes l3) :
    Calls Try.prog 4 #[.slice A0 l0.length c0, .slice A1 l1.length c1, .slice A2 l2.length c2, .slice A3 l3.length c3, .bool a4, .int .i64 a5, .int .u8 a6] w fun e w' => e = .returned (.bool true) ∧ Below w.heap.size w w' := by
  obtain ⟨k0, hk0⟩ : ∃ x, x = l0.take 40 := ⟨_, rfl⟩
  obtain ⟨n0, hn0⟩ : ∃ x, x = l1.take 20 := ⟨_, rfl⟩
  obtain ⟨bs, hbs⟩ : ∃ bs, bs = l2.take 100 := ⟨_, rfl⟩
  obtain ⟨b, hb⟩ : ∃ b, b = l3.take 300 := ⟨_, rfl⟩
  obtain ⟨key, hkey⟩ : ∃ x, x = (if a4 = true then sizedF k0 32 else k0) := ⟨_, rfl⟩
  obtain ⟨nonce, hnonce⟩ : ∃ x, x = (if a4 = true then sizedF n0 12 else n0) := ⟨_, rfl⟩
  have f0 := Aside0.mk (show strongroomkeep_CutR.f l0 40 = some k0 by rw [hk0]; exact cut_some l0 40)
  have f1 := Aside0.mk (show strongroomkeep_CutR.f l1 20 = some n0 by rw [hn0]; exact cut_some l1 20)
  have f2 := Aside0.mk (show strongroomkeep_CutR.f l2 100 = some bs by rw [hbs]; exact cut_some l2 100)
  have f3 := Aside0.mk (show strongroomkeep_CutR.f l3 300 = some b by rw [hb]; exact cut_some l3 300)
  have hkl : k0.length ≤ 40 := by rw [hk0, List.length_take]; omega
  have hnl : n0.length ≤ 20 := by rw [hn0, List.length_take]; omega
  have fk := Aside0.mk (show strongroomkeep_Sized.f k0 32 = some (sizedF k0 32) from sized_some k0 32 (by decide) (by omega))
  have fn := Aside0.mk (show strongroomkeep_Sized.f n0 12 = some (sizedF n0 12) from sized_some n0 12 (by decide) (by omega))
  have hbl : b.length ≤ 300 := by rw [hb, List.length_take]; omega
  have hsl : bs.length ≤ 100 := by rw [hbs, List.length_take]; omega
  have hbb : Bytes b := by rw [hb]; exact hb3.take 300
  have hbsb : Bytes bs := by rw [hbs]; exact hb2.take 100
  have hxb := sealAns_bytes key nonce bs b
  have hxl := sealAns_len key nonce bs b
  obtain ⟨x1, x2, hx⟩ : ∃ x1 x2, sealAns key nonce bs b = (x1, x2) := ⟨_, _, rfl⟩
  obtain ⟨p1, p2, hp⟩ : ∃ x1 x2, openAns key nonce bs b = (x1, x2) := ⟨_, _, rfl⟩
  rw [hx] at hxb hxl
  simp only at hxb hxl
  have fS := Aside0.mk (show aead_Seal.f key nonce bs b = some (x1, x2) by unfold aead_Seal.f; rw [if_pos (by omega), hx])
  have fR := Aside0.mk (show URef4.strongroomref4_Seal.f 20 key nonce bs b = some (x1, x2) by rw [rseal_val hbsb (by omega) (by omega), hx])
  have fO := Aside0.mk (show aead_Open.f key nonce bs b = some (p1, p2) by unfold aead_Open.f; rw [if_pos (by omega), hp])
  have fQ := Aside0.mk hp
  obtain ⟨full, hfull⟩ : ∃ x, x = roomyF b 165 := ⟨_, rfl⟩
  have fF := Aside0.mk (show strongroombook_Roomy_byte.f b 165 = some full by unfold strongroombook_Roomy_byte.f; rw [if_pos (by omega), hfull])
  have hft : full.take b.length = b := by rw [hfull]; unfold roomyF; exact List.take_left
  have hfl : full.length = b.length + 80 := by rw [hfull]; unfold roomyF; rw [List.length_append, List.length_replicate]
  have FI := Aside0.mk (show strongroombook_Intact_byte.f full b 165 = some true by unfold strongroombook_Intact_byte.f; rw [if_pos ⟨by rw [hfull]; rfl, by omega⟩])
  have C0 := Aside0.mk (And.intro hr0 hc0)
  have C1 := Aside0.mk (And.intro hr1 hc1)
  have C2 := Aside0.mk (And.intro hr2 hc2)
  have C3 := Aside0.mk (And.intro hr3 hc3)
  have D0 := Aside0.mk (And.intro (cutR_C hr0 hc0 f0.out) (cutR_len hc0 f0.out))
  have D1 := Aside0.mk (And.intro (cutR_C hr1 hc1 f1.out) (cutR_len hc1 f1.out))
  have D2 := Aside0.mk (And.intro (cutR_C hr2 hc2 f2.out) (cutR_len hc2 f2.out))
  have D3 := Aside0.mk (And.intro (cutR_C hr3 hc3 f3.out) (cutR_len hc3 f3.out))
  have HN := Aside0.mk (And.intro hbl (And.intro hfl (And.intro hft hsl)))
  have HBY := Aside0.mk (And.intro hbb (And.intro hbsb hxb))
  have HXL := Aside0.mk (show x1.length ≤ 400 by omega)
  have HKEY := Aside0.mk (And.intro hkey hnonce)
  clear hk0 hn0 hbs hb hkl hnl hbl hsl hbb hbsb hxb hxl hx hp hfull hft hfl hr0 hr1 hr2 hr3 hc0 hc1 hc2 hc3 hb2 hb3 hkey hnonce
  go_enter Try.func4, Try.ntmps4
  go_wp2_with fail
  refine (strongroomkeep_CutR.calls A0 c0 l0 40 k0 _ C0.out.1 C0.out.2 f0.out).mono ?_
  rintro e w1 ⟨rfl, ⟨n1, hw1⟩⟩
  have B1 := Aside0.mk (show Below w.heap.size w w1 by rw [hw1]; exact pw_below_drewN (Below.refl _ _) n1)
  clear hw1
  go_wp2_with fail
  refine (strongroomkeep_CutR.calls A1 c1 l1 20 n0 _ (Kd.C_below C1.out.1 B1.out) C1.out.2 f1.out).mono ?_
  rintro e w2 ⟨rfl, ⟨n2, hw2⟩⟩
  have B2 := Aside0.mk (show Below w.heap.size w w2 by rw [hw2]; exact pw_below_drewN B1.out n2)
  clear hw2
  go_wp2_with fail
  refine (strongroomkeep_CutR.calls A2 c2 l2 100 bs _ (Kd.C_below C2.out.1 B2.out) C2.out.2 f2.out).mono ?_
  rintro e w3 ⟨rfl, ⟨n3, hw3⟩⟩
  have B3 := Aside0.mk (show Below w.heap.size w w3 by rw [hw3]; exact pw_below_drewN B2.out n3)
  clear hw3
  go_wp2_with fail
  refine (strongroomkeep_CutR.calls A3 c3 l3 300 b _ (Kd.C_below C3.out.1 B3.out) C3.out.2 f3.out).mono ?_
  rintro e w4 ⟨rfl, ⟨n4, hw4⟩⟩
  have B4 := Aside0.mk (show Below w.heap.size w w4 by rw [hw4]; exact pw_below_drewN B3.out n4)
  clear hw4
  go_upto_if 36 with (fail)
  go_cut [0, 1] (fun v u wx => ∃ (Ak : Option Addr) (ck : Nat) (An : Option Addr) (cn : Nat), v = .slice Ak key.length ck ∧ u = .slice An nonce.length cn ∧ Aside0 ((Kd.int .u8).C wx Ak key.length key ∧ key.length ≤ ck) ∧ Aside0 ((Kd.int .u8).C wx An nonce.length nonce ∧ nonce.length ≤ cn) ∧ Aside0 (Below w.heap.size w wx))
  case first =>
    cases a4 with
    | false =>
      have hk : key = k0 := by rw [HKEY.out.1]; rfl
      have hn : nonce = n0 := by rw [HKEY.out.2]; rfl
      go_wp2_with fail
      go_meet
      exact ⟨A0, c0, A1, c1, by rw [hk], by rw [hn], ⟨by rw [hk]; exact ⟨Kd.C_below D0.out.1 B4.out, D0.out.2⟩⟩, ⟨by rw [hn]; exact ⟨Kd.C_below D1.out.1 B4.out, D1.out.2⟩⟩, B4⟩
    | true =>
      have hk : key = sizedF k0 32 := by rw [HKEY.out.1]; rfl
      have hn : nonce = sizedF n0 12 := by rw [HKEY.out.2]; rfl
      go_wp2_with fail
      refine (strongroomkeep_Sized.calls A0 c0 k0 32 (sizedF k0 32) _ (Kd.C_below D0.out.1 B4.out) D0.out.2 fk.out).mono ?_
      rintro e w5 ⟨v5, rfl, hR, hB⟩
      obtain ⟨Ak, ck, rfl, hck, hCk⟩ := Kd.R_reads hR
      have CK := Aside0.mk (And.intro hCk hck)
      have B5 := Aside0.mk (below_step B4.out hB)
      clear hR hB hck hCk
      go_wp2_with fail
      refine (strongroomkeep_Sized.calls A1 c1 n0 12 (sizedF n0 12) _ (Kd.C_below D1.out.1 B5.out) D1.out.2 fn.out).mono ?_
      rintro e w6 ⟨v6, rfl, hR, hB⟩
      obtain ⟨An, cn, rfl, hcn, hCn⟩ := Kd.R_reads hR
      have CN := Aside0.mk (And.intro hCn hcn)
      have CK := Aside0.mk (And.intro (Kd.C_below CK.out.1 hB) CK.out.2)
      have B6 := Aside0.mk (below_step B5.out hB)
      clear hR hB hcn hCn
      go_wp2_with fail
      go_meet
      exact ⟨Ak, ck, An, cn, by rw [hk], by rw [hn], ⟨by rw [hk]; exact CK.out⟩, ⟨by rw [hn]; exact CN.out⟩, B6⟩
  case rest =>
    obtain ⟨Ak, ck, An, cn, rfl, rfl, CK, CN, B6⟩ := hcut
    clear HKEY fk fn f0 f1 f2 f3 C0 C1 C2 C3 B1 B2 B3 B4
    go_wp2_with fail
    refine (strongroombook_Roomy_byte.calls A3 c3 b 165 full _ (Kd.C_below D3.out.1 B6.out) D3.out.2 fF.out).mono ?_
    rintro e w7 ⟨v7, rfl, hR, hB⟩
    obtain ⟨Af, cf, rfl, hcf, hCf⟩ := Kd.R_reads hR
    have CF := Aside0.mk (And.intro hCf hcf)
    have B7 := Aside0.mk (below_step B6.out hB)
    have CK := Aside0.mk (And.intro (Kd.C_below CK.out.1 hB) CK.out.2)
    have CN := Aside0.mk (And.intro (Kd.C_below CN.out.1 hB) CN.out.2)
    clear hR hB hcf hCf
    obtain ⟨I0, hI0⟩ : ∃ i, Try.prog.info? 5 = some i := ⟨_, rfl⟩
    have hcut := cut_to (P := Try.prog) 22 5 .i64 Try.underlying22 hI0 Af full.length cf (b.length : Int) (by omega) (by have := HN.out.2.1; omega) CF.out.2
    rw [Int.toNat_natCast] at hcut
    clear hI0
    have hCt := Kd.C_take (m := b.length) CF.out.1 (by have := HN.out.2.1; omega)
    rw [HN.out.2.2.1] at hCt
    have CT := Aside0.mk hCt
    clear hCt
    go_wp2_with fail
    refine (aead_Seal.calls Ak ck key An cn nonce A2 c2 bs Af cf b x1 x2 _ CK.out.1 CK.out.2 CN.out.1 CN.out.2 (Kd.C_below D2.out.1 B7.out) D2.out.2 CT.out (by have := HN.out.2.1; have := CF.out.2; omega) fS.out).mono ?_
    rintro e w8 ⟨v8, rfl, hR, hB⟩
    obtain ⟨Ax, cx, rfl, hcx, hCx⟩ := Kd.R_reads hR
    have CX := Aside0.mk hCx
    have B8 := Aside0.mk (below_step B7.out hB)
    have CK := Aside0.mk (And.intro (Kd.C_below CK.out.1 hB) CK.out.2)
    have CN := Aside0.mk (And.intro (Kd.C_below CN.out.1 hB) CN.out.2)
    have CF := Aside0.mk (And.intro (Kd.C_below CF.out.1 hB) CF.out.2)
    clear hR hB hcx hCx CT hcut
    go_wp2_with fail
    refine (URef4.strongroomref4_Seal.calls 20 Ak ck key An cn nonce A2 c2 bs A3 c3 b x1 x2 _ CK.out.1 CK.out.2 CN.out.1 CN.out.2 (Kd.C_below D2.out.1 B8.out) D2.out.2 (Kd.C_below D3.out.1 B8.out) D3.out.2 fR.out).mono ?_
    rintro e w9 ⟨v9, rfl, hR, hB⟩
    have RY := Aside0.mk hR
    have BY := Aside0.mk hB
    obtain ⟨Ay, cy, rfl⟩ := Kd.R_slice hR
    have CK8 := CK
    have CN8 := CN
    have B9 := Aside0.mk (below_step B8.out hB)
    have CK := Aside0.mk (And.intro (Kd.C_below CK.out.1 hB) CK.out.2)
    have CN := Aside0.mk (And.intro (Kd.C_below CN.out.1 hB) CN.out.2)
    have CF := Aside0.mk (And.intro (Kd.C_below CF.out.1 hB) CF.out.2)
    have CX := Aside0.mk (Kd.C_below CX.out hB)
    clear hR hB
    go_wp2_with fail
    refine (aead_Open.calls Ak ck key An cn nonce A2 c2 bs A3 c3 b p1 p2 _ CK.out.1 CK.out.2 CN.out.1 CN.out.2 (Kd.C_below D2.out.1 B9.out) D2.out.2 (Kd.C_below D3.out.1 B9.out) D3.out.2 fO.out).mono ?_
    rintro e w10 ⟨v10, rfl, hR, hB⟩
    obtain ⟨Ap, cp, rfl, hcp, hCp⟩ := Kd.R_reads hR
    have CP := Aside0.mk hCp
    have B10 := Aside0.mk (below_step B9.out hB)
    have BY := Aside0.mk (below_step BY.out hB)
    have RY := Aside0.mk (Kd.R_below RY.out hB)
    have CK := Aside0.mk (And.intro (Kd.C_below CK.out.1 hB) CK.out.2)
    have CN := Aside0.mk (And.intro (Kd.C_below CN.out.1 hB) CN.out.2)
    have CF := Aside0.mk (And.intro (Kd.C_below CF.out.1 hB) CF.out.2)
    have CX := Aside0.mk (Kd.C_below CX.out hB)
    clear hR hB hcp hCp
    go_wp2_with fail
    refine (strongroomref4_Open.calls Ak ck key An cn nonce A2 c2 bs A3 c3 b p1 p2 _ CK.out.1 CK.out.2 CN.out.1 CN.out.2 (Kd.C_below D2.out.1 B10.out) D2.out.2 (Kd.C_below D3.out.1 B10.out) D3.out.2 HBY.out.2.1 HBY.out.1 (by have := HN.out; omega) fQ.out).mono ?_
    rintro e w11 ⟨v11, rfl, hR, hB⟩
    obtain ⟨Aq, cq, rfl, hcq, hCq⟩ := Kd.R_reads hR
    have B11 := Aside0.mk (below_step B10.out hB)
    have BY := Aside0.mk (below_step BY.out hB)
    have RY := Aside0.mk (Kd.R_below RY.out hB)
    have CK := Aside0.mk (And.intro (Kd.C_below CK.out.1 hB) CK.out.2)
    have CN := Aside0.mk (And.intro (Kd.C_below CN.out.1 hB) CN.out.2)
    have CF := Aside0.mk (And.intro (Kd.C_below CF.out.1 hB) CF.out.2)
    have hcY := (Kd.R_reads' RY.out).2.2
    have p1' := Kd.C_string (P := Try.prog) (c := cx) Try.underlying22 Try.underlying5 Try.underlying9 (Kd.C_below CX.out hB)
    have p2' := Kd.C_string (P := Try.prog) (c := cy) Try.underlying22 Try.underlying5 Try.underlying9 hcY
    have p3' := Kd.C_string (P := Try.prog) (c := cp) Try.underlying22 Try.underlying5 Try.underlying9 (Kd.C_below CP.out hB)
    have p4' := Kd.C_string (P := Try.prog) (c := cq) Try.underlying22 Try.underlying5 Try.underlying9 hCq
    clear hR hB hcq hCq hcY CX CP
    go_wp2_with fail
    refine (strongroombook_Intact_byte.calls Af cf full A3 c3 b 165 true _ CF.out.1 CF.out.2 (Kd.C_below D3.out.1 B11.out) D3.out.2 FI.out).mono ?_
    rintro e w12 ⟨rfl, ⟨n12, hw12⟩⟩
    have B12 := Aside0.mk (show Below w.heap.size w w12 by rw [hw12]; exact pw_below_drewN B11.out n12)
    have BY := Aside0.mk (show Below w8.heap.size w8 w12 by rw [hw12]; exact pw_below_drewN BY.out n12)
    have RY := Aside0.mk (show Kd.R (Kd.int .u8) 5 w12 w8.heap.size (fun _ => True) (.slice Ay x1.length cy) x1 by rw [hw12]; exact Kd.R_drewN RY.out n12)
    clear hw12 p1' p2' p3' p4' CF CK CN
    by_cases hx0 : x1.length = 0
    · have d1 : decide ((x1.length : Int) = 0) = true := decide_eq_true (by omega)
      have d2 : ((x1.length : Int) == 0) = true := by simpa using hx0
      rw [hx0]
      go_wp2_with fail
      refine (strongroomlaw4_known.calls true _ rfl).mono ?_
      rintro e w13 ⟨rfl, hB⟩
      have B13 := Aside0.mk (below_step B12.out hB)
      clear hB
      go_wp2_with fail
      go_ret
      exact ⟨rfl, B13.out⟩
    · have d1 : decide ((x1.length : Int) = 0) = false := decide_eq_false (by omega)
      have d2 : ((x1.length : Int) == 0) = false := by simpa using hx0
      have d3 : decide (x1.length = 0) = false := decide_eq_false hx0
      have hw := wrapl x1.length (by omega) (by have := HXL.out; omega)
      obtain ⟨j, hj, hjl⟩ : ∃ j : Nat, withinF a5 0 ((x1.length : Int) - 1) = (j : Int) ∧ j < x1.length := by
        have := withinF_range a5 0 ((x1.length : Int) - 1) (by omega)
        exact ⟨(withinF a5 0 ((x1.length : Int) - 1)).toNat, by omega, by omega⟩
      have fW := Aside0.mk (show strongroombook_Within.f a5 0 ((x1.length : Int) - 1) = some (j : Int) by rw [within_some _ _ _ (by decide) (by omega) (by have := HXL.out; omega), hj])
      obtain ⟨g, cg, hge, hg, hgl, _⟩ := Kd.R_form RY.out (by omega)
      injection hge with q1 q2 q3
      subst q1
      subst q3
      clear q2 hj
      have HG := Aside0.mk (And.intro hg hgl)
      clear hg hgl
      go_wp2_with fail
      refine (strongroombook_Within.calls a5 0 ((x1.length : Int) - 1) j w12 fW.out).mono ?_
      rintro e w13 ⟨rfl, ⟨n13, hw13⟩⟩
      have B13 := Aside0.mk (show Below w.heap.size w w13 by rw [hw13]; exact pw_below_drewN B12.out n13)
      have BY := Aside0.mk (show Below w8.heap.size w8 w13 by rw [hw13]; exact pw_below_drewN BY.out n13)
      have RY := Aside0.mk (show Kd.R (Kd.int .u8) 5 w13 w8.heap.size (fun _ => True) (.slice (some ⟨g, 0, none⟩) x1.length cy) x1 by rw [hw13]; exact Kd.R_drewN RY.out n13)
      clear hw13
      have hc := Kd.R_celln (0 : Int) RY.out (j : Int) (by omega) (by omega)
      have hp := Kd.R_putg RY.out (j : Int) (Go.bits .xor .u8 (rd x1 (j : Int)) a6)
      rw [Int.toNat_natCast] at hc hp
      obtain ⟨z1, z2⟩ := hc
      replace z1 : w13.cell? ⟨g, j, none⟩ = some (.int .u8 (rd x1 (j : Int))) := z1
      obtain ⟨y, hy⟩ : ∃ y, y = x1.set j (Go.bits .xor .u8 (rd x1 (j : Int)) a6) := ⟨_, rfl⟩
      have hyl : y.length = x1.length := by rw [hy, List.length_set]
      have hyb : Bytes y := by
        intro x hx
        rw [hy] at hx
        rcases List.mem_or_eq_of_mem_set hx with h | h
        · exact HBY.out.2.2 x h
        · rw [h]; exact xor8_range _ _
      have HYB := Aside0.mk hyb
      have HYL := Aside0.mk hyl
      obtain ⟨u1, u2, hu⟩ : ∃ x1 x2, openAns key nonce bs y = (x1, x2) := ⟨_, _, rfl⟩
      have fU := Aside0.mk (show aead_Open.f key nonce bs y = some (u1, u2) by unfold aead_Open.f; rw [if_pos (by have := HN.out; have := HXL.out; omega), hu])
      have fV := Aside0.mk hu
      have HP := Aside0.mk (show (Kd.int .u8).R 5 (w13.setCell ⟨g, j, none⟩ (.int .u8 (Go.bits .xor .u8 (rd x1 (j : Int)) a6))) w8.heap.size (fun _ => True) (.slice (some ⟨g, 0, none⟩) x1.length cy) y by rw [hy]; exact hp.1)
      have BZ := Aside0.mk (show Below w8.heap.size w8 (w13.setCell ⟨g, j, none⟩ (.int .u8 (Go.bits .xor .u8 (rd x1 (j : Int)) a6))) from below_set BY.out HG.out.1)
      clear hp hu hy hyl hyb
      have hjd : decide (j < x1.length) = true := decide_eq_true hjl
      have hji : (j : Int) < (x1.length : Int) := by omega
      go_wp2_with fail
      generalize w13.setCell ⟨g, j, none⟩ (.int .u8 (Go.bits .xor .u8 (rd x1 (j : Int)) a6)) = w14 at HP BZ ⊢
      have BW := Aside0.mk (below_step B8.out BZ.out)
      obtain ⟨e1, e2, e3⟩ := Kd.R_reads' HP.out
      have CY := Aside0.mk (And.intro e3 (show y.length ≤ cy by have := HYL.out; omega))
      have CK := Aside0.mk (And.intro (Kd.C_below CK8.out.1 BZ.out) CK8.out.2)
      have CN := Aside0.mk (And.intro (Kd.C_below CN8.out.1 BZ.out) CN8.out.2)
      clear e1 e2 e3 z1 z2 HP d1 d2 d3 hw hx0 hjd hji hjl RY BY HG B13 B12
      rw [← HYL.out]
      refine (aead_Open.calls Ak ck key An cn nonce A2 c2 bs (some ⟨g, 0, none⟩) cy y u1 u2 _ CK.out.1 CK.out.2 CN.out.1 CN.out.2 (Kd.C_below D2.out.1 BW.out) D2.out.2 CY.out.1 CY.out.2 fU.out).mono ?_
      rintro e w15 ⟨v15, rfl, hR, hB⟩
      obtain ⟨Au, cu, rfl, hcu, hCu⟩ := Kd.R_reads hR
      have CU := Aside0.mk hCu
      have B15 := Aside0.mk (below_step BW.out hB)
      have CK := Aside0.mk (And.intro (Kd.C_below CK.out.1 hB) CK.out.2)
      have CN := Aside0.mk (And.intro (Kd.C_below CN.out.1 hB) CN.out.2)
      have CY := Aside0.mk (And.intro (Kd.C_below CY.out.1 hB) CY.out.2)
      clear hR hB hcu hCu
      go_wp2_with fail
      refine (strongroomref4_Open.calls Ak ck key An cn nonce A2 c2 bs (some ⟨g, 0, none⟩) cy y u1 u2 _ CK.out.1 CK.out.2 CN.out.1 CN.out.2 (Kd.C_below D2.out.1 B15.out) D2.out.2 CY.out.1 CY.out.2 HBY.out.2.1 HYB.out (by have := HN.out; have := HYL.out; have := HXL.out; omega) fV.out).mono ?_
      rintro e w16 ⟨v16, rfl, hR, hB⟩
      obtain ⟨Av, cv, rfl, hcv, hCv⟩ := Kd.R_reads hR
      have B16 := Aside0.mk (below_step B15.out hB)
      have p1' := Kd.C_string (P := Try.prog) (c := cu) Try.underlying22 Try.underlying5 Try.underlying9 (Kd.C_below CU.out hB)
      have p2' := Kd.C_string (P := Try.prog) (c := cv) Try.underlying22 Try.underlying5 Try.underlying9 hCv
      clear hR hB hcv hCv
      go_wp2_with fail
      refine (strongroomlaw4_known.calls true _ rfl).mono ?_
      rintro e w17 ⟨rfl, hB⟩
      have B17 := Aside0.mk (below_step B16.out hB)
      clear hB
      go_wp2_with fail
      go_ret
      exact ⟨rfl, B17.out⟩
end Go.Proofs.Ytjlokmjbblpmoaa
