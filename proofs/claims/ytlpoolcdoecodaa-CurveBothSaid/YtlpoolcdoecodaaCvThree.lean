/-
  CurveThree, walked.
-/
import Derived.Test.YtlpoolcdoecodaaCvM8
import Derived.Test.YtlpoolcdoecodaaCvK
import Derived.Test.YtlpoolcdoecodaaSized
import Derived.Test.YtlpoolcdoecodaaWZeros
import Derived.Test.YtlpoolcdoecodaaWTab
namespace Go.Proofs.Ytlpoolcdoecodaa
open Go.RowKit Go.Proofs.YtlpoolcdoecodaaW.PrintWords Go.Proofs.YtlpoolcdoecodaaW.PrintLast Go.Proofs.YtlpoolcdoecodaaW.PrintMore Go.Proofs.Ytlpoolcdoecodaa.Arr Go.Proofs.Ytlpoolcdoecodaa.Cv
set_option linter.unusedVariables false
set_option maxHeartbeats 8000000
set_option maxRecDepth 100000
theorem sized_bytesT (b : List Int) (n : Nat) (h : ∀ x ∈ b, 0 ≤ x ∧ x < 256) : ∀ x ∈ sizedF b n, 0 ≤ x ∧ x < 256 := by
  intro x hx
  unfold sizedF at hx
  obtain ⟨i, _, rfl⟩ := List.mem_map.1 hx
  split
  · exact ⟨by decide, by decide⟩
  · unfold rd
    rw [List.getD_eq_getElem?_getD]
    rcases hj : b[(((i % b.length : Nat) : Int)).toNat]? with _ | y
    · exact ⟨by decide, by decide⟩
    · exact h y (List.mem_of_getElem? hj)
theorem mulT (A0 : Option Addr) (c0 : Nat) (s : List Int) (A1 : Option Addr) (c1 : Nat) (p : List Int) (w : World) (hs : s.length = 32) (hp : p.length = 32) (hbs : ∀ x ∈ s, 0 ≤ x ∧ x < 256) (hbp : ∀ x ∈ p, 0 ≤ x ∧ x < 256)
    (hC0 : (Kd.int .u8).C w A0 32 s ∧ 32 ≤ c0) (hC1 : (Kd.int .u8).C w A1 32 p ∧ 32 ≤ c1) :
    Calls Try.prog 8 #[.slice A0 32 c0, .slice A1 32 c1] w fun e w' => ∃ A c, e = .returned (.tuple #[.slice A 32 c, .int .i64 0]) ∧ (Kd.int .u8).R 5 w' w.heap.size (fun _ => True) (.slice A 32 c) (curveF s p) ∧ ((Kd.int .u8).C w' A 32 (curveF s p) ∧ 32 ≤ c) ∧ Below w.heap.size w w' := by
  have h := mul_calls A0 c0 s A1 c1 p w hbs hbp (by rw [hs]; exact hC0.1) (by rw [hs]; exact hC0.2) (by rw [hp]; exact hC1.1) (by rw [hp]; exact hC1.2)
  rw [hs, hp, show mulE s p = 0 from if_pos ⟨hs, hp⟩, show mulV s p = curveF s p from if_pos ⟨hs, hp⟩] at h
  refine h.mono ?_
  rintro e w' ⟨v, rfl, hR, hB⟩
  have hR0 := hR
  obtain ⟨A, c, rfl, hc, hC⟩ := Kd.R_reads hR
  have hl : (curveF s p).length = 32 := len_curveF s p hbp
  rw [hl] at hC hc hR0 ⊢
  exact ⟨A, c, rfl, hR0, ⟨hC, hc⟩, hB⟩
theorem baseT (A0 : Option Addr) (c0 : Nat) (s : List Int) (w : World) (hs : s.length = 32) (hbs : ∀ x ∈ s, 0 ≤ x ∧ x < 256)
    (hC0 : (Kd.int .u8).C w A0 32 s ∧ 32 ≤ c0) :
    Calls Try.prog 10 #[.slice A0 32 c0] w fun e w' => ∃ A c, e = .returned (.tuple #[.slice A 32 c, .int .i64 0]) ∧ (Kd.int .u8).R 5 w' w.heap.size (fun _ => True) (.slice A 32 c) (curveF s nineZ) ∧ ((Kd.int .u8).C w' A 32 (curveF s nineZ) ∧ 32 ≤ c) ∧ Below w.heap.size w w' := by
  have h := base_calls A0 c0 s w hbs (by rw [hs]; exact hC0.1) (by rw [hs]; exact hC0.2)
  rw [hs, show mulE s nineL = 0 from if_pos ⟨hs, rfl⟩, show mulV s nineL = curveF s nineZ from if_pos ⟨hs, rfl⟩] at h
  refine h.mono ?_
  rintro e w' ⟨v, rfl, hR, hB⟩
  have hR0 := hR
  obtain ⟨A, c, rfl, hc, hC⟩ := Kd.R_reads hR
  have hl : (curveF s nineZ).length = 32 := len_curveF s nineZ nine_bytes
  rw [hl] at hC hc hR0 ⊢
  exact ⟨A, c, rfl, hR0, ⟨hC, hc⟩, hB⟩
theorem curve_bytes (s p : List Int) (hp : ∀ x ∈ p, 0 ≤ x ∧ x < 256) : ∀ x ∈ curveF s p, 0 ≤ x ∧ x < 256 := by
  rw [curve_eq s p hp _ (Eqv.refl _)]
  exact out_bytes _
theorem slice_len {A A' : Option Addr} {n n' c c' : Nat} (h : Value.slice A n c = Value.slice A' n' c') : n = n' := by cases h; rfl
theorem none_bytes' : ∀ x ∈ noneL, 0 ≤ x ∧ x < 256 := by decide
theorem curve_none (s : List Int) : curveF s noneL = noneL := by
  rw [curve_eq s noneL none_bytes' 0 (Eqv.of_eq (by decide +kernel)), low_zero s 0 (Eqv.refl 0)]
theorem curveThree_calls (A1 : Option Addr) (c1 : Nat) (l1 : List Int) (A2 : Option Addr) (c2 : Nat) (l2 : List Int) (A3 : Option Addr) (c3 : Nat) (l3 : List Int) (w : World)
    (hr1 : Kd.C (Kd.int .u8) w A1 l1.length l1) (hc1 : l1.length ≤ c1) (hm1 : l1.length ≤ 9223372036854775807) (hb1 : ∀ x ∈ l1, 0 ≤ x ∧ x < 256)
    (hr2 : Kd.C (Kd.int .u8) w A2 l2.length l2) (hc2 : l2.length ≤ c2) (hm2 : l2.length ≤ 9223372036854775807) (hb2 : ∀ x ∈ l2, 0 ≤ x ∧ x < 256)
    (hr3 : Kd.C (Kd.int .u8) w A3 l3.length l3) (hc3 : l3.length ≤ c3) (hm3 : l3.length ≤ 9223372036854775807) (hb3 : ∀ x ∈ l3, 0 ≤ x ∧ x < 256) :
    Calls Try.prog 6 #[.slice A1 l1.length c1, .slice A2 l2.length c2, .slice A3 l3.length c3] w fun e w' => e = .returned (.bool true) ∧ Below w.heap.size w w' := by
  have f1 := Aside0.mk (show strongroomkeep_Sized.f l1 32 = some (sizedF l1 32) from sized_some l1 32 (by decide) hm1)
  have K1 := Aside0.mk (And.intro hr1 hc1)
  obtain ⟨s1, hs1⟩ : ∃ x, x = sizedF l1 32 := ⟨_, rfl⟩
  have LS1 := Aside0.mk (show s1.length = 32 by rw [hs1, len_sizedF])
  have BS1 := Aside0.mk (show ∀ x ∈ s1, 0 ≤ x ∧ x < 256 by rw [hs1]; exact sized_bytesT l1 32 hb1)
  have HS1 := Aside0.mk hs1
  clear hr1 hc1 hm1 hb1 hs1
  have f2 := Aside0.mk (show strongroomkeep_Sized.f l2 32 = some (sizedF l2 32) from sized_some l2 32 (by decide) hm2)
  have K2 := Aside0.mk (And.intro hr2 hc2)
  obtain ⟨s2, hs2⟩ : ∃ x, x = sizedF l2 32 := ⟨_, rfl⟩
  have LS2 := Aside0.mk (show s2.length = 32 by rw [hs2, len_sizedF])
  have BS2 := Aside0.mk (show ∀ x ∈ s2, 0 ≤ x ∧ x < 256 by rw [hs2]; exact sized_bytesT l2 32 hb2)
  have HS2 := Aside0.mk hs2
  clear hr2 hc2 hm2 hb2 hs2
  have f3 := Aside0.mk (show strongroomkeep_Sized.f l3 32 = some (sizedF l3 32) from sized_some l3 32 (by decide) hm3)
  have K3 := Aside0.mk (And.intro hr3 hc3)
  obtain ⟨s3, hs3⟩ : ∃ x, x = sizedF l3 32 := ⟨_, rfl⟩
  have LS3 := Aside0.mk (show s3.length = 32 by rw [hs3, len_sizedF])
  have BS3 := Aside0.mk (show ∀ x ∈ s3, 0 ≤ x ∧ x < 256 by rw [hs3]; exact sized_bytesT l3 32 hb3)
  have HS3 := Aside0.mk hs3
  clear hr3 hc3 hm3 hb3 hs3
  go_enter Try.func6, Try.ntmps6
  have BW := Aside0.mk (Below.refl w.heap.size w)
  go_wp2_with fail
  refine (strongroomkeep_Sized.calls A1 c1 l1 32 _ w K1.out.1 K1.out.2 f1.out).mono ?_
  rintro e w1 ⟨v, rfl, hR, hB⟩
  rw [← HS1.out] at hR
  obtain ⟨a1, d1, rfl, hc, hC⟩ := Kd.R_reads hR
  rw [LS1.out] at hc hC ⊢
  have BW' := Aside0.mk (below_step BW.out hB)
  clear BW
  have BW := BW'
  clear BW'
  have K2' := Aside0.mk (And.intro (Kd.C_below K2.out.1 hB) K2.out.2)
  clear K2
  have K2 := K2'
  clear K2'
  have K3' := Aside0.mk (And.intro (Kd.C_below K3.out.1 hB) K3.out.2)
  clear K3
  have K3 := K3'
  clear K3'
  have C1 := Aside0.mk (And.intro hC hc)
  clear hR hB hC hc K1 f1 HS1
  go_wp2_with fail
  refine (strongroomkeep_Sized.calls A2 c2 l2 32 _ w1 K2.out.1 K2.out.2 f2.out).mono ?_
  rintro e w2 ⟨v, rfl, hR, hB⟩
  rw [← HS2.out] at hR
  obtain ⟨a2, d2, rfl, hc, hC⟩ := Kd.R_reads hR
  rw [LS2.out] at hc hC ⊢
  have BW' := Aside0.mk (below_step BW.out hB)
  clear BW
  have BW := BW'
  clear BW'
  have K3' := Aside0.mk (And.intro (Kd.C_below K3.out.1 hB) K3.out.2)
  clear K3
  have K3 := K3'
  clear K3'
  have C1' := Aside0.mk (And.intro (Kd.C_below C1.out.1 hB) C1.out.2)
  clear C1
  have C1 := C1'
  clear C1'
  have C2 := Aside0.mk (And.intro hC hc)
  clear hR hB hC hc K2 f2 HS2
  go_wp2_with fail
  refine (strongroomkeep_Sized.calls A3 c3 l3 32 _ w2 K3.out.1 K3.out.2 f3.out).mono ?_
  rintro e w3 ⟨v, rfl, hR, hB⟩
  rw [← HS3.out] at hR
  obtain ⟨a3, d3, rfl, hc, hC⟩ := Kd.R_reads hR
  rw [LS3.out] at hc hC ⊢
  have BW' := Aside0.mk (below_step BW.out hB)
  clear BW
  have BW := BW'
  clear BW'
  have C1' := Aside0.mk (And.intro (Kd.C_below C1.out.1 hB) C1.out.2)
  clear C1
  have C1 := C1'
  clear C1'
  have C2' := Aside0.mk (And.intro (Kd.C_below C2.out.1 hB) C2.out.2)
  clear C2
  have C2 := C2'
  clear C2'
  have C3 := Aside0.mk (And.intro hC hc)
  clear hR hB hC hc K3 f3 HS3
  go_wp2_with fail
  refine (baseT a1 d1 s1 w3 LS1.out BS1.out C1.out).mono ?_
  rintro e w4 ⟨ap, dp, rfl, _, hC, hB⟩
  obtain ⟨sp, hsp⟩ : ∃ x, x = curveF s1 nineZ := ⟨_, rfl⟩
  have LSp := Aside0.mk (show sp.length = 32 by rw [hsp]; exact len_curveF s1 nineZ nine_bytes)
  have BSp := Aside0.mk (show ∀ x ∈ sp, 0 ≤ x ∧ x < 256 by rw [hsp]; exact curve_bytes s1 nineZ nine_bytes)
  rw [← hsp] at hC
  have Ep := Aside0.mk hsp
  have BW' := Aside0.mk (below_step BW.out hB)
  clear BW
  have BW := BW'
  clear BW'
  have C1' := Aside0.mk (And.intro (Kd.C_below C1.out.1 hB) C1.out.2)
  clear C1
  have C1 := C1'
  clear C1'
  have C2' := Aside0.mk (And.intro (Kd.C_below C2.out.1 hB) C2.out.2)
  clear C2
  have C2 := C2'
  clear C2'
  have C3' := Aside0.mk (And.intro (Kd.C_below C3.out.1 hB) C3.out.2)
  clear C3
  have C3 := C3'
  clear C3'
  have Cp := Aside0.mk hC
  clear hC hB hsp
  go_wp2_with fail
  refine (mulT a2 d2 s2 ap dp sp w4 LS2.out LSp.out BS2.out BSp.out C2.out Cp.out).mono ?_
  rintro e w5 ⟨aq, dq, rfl, _, hC, hB⟩
  obtain ⟨sq, hsq⟩ : ∃ x, x = curveF s2 sp := ⟨_, rfl⟩
  have LSq := Aside0.mk (show sq.length = 32 by rw [hsq]; exact len_curveF s2 sp BSp.out)
  have BSq := Aside0.mk (show ∀ x ∈ sq, 0 ≤ x ∧ x < 256 by rw [hsq]; exact curve_bytes s2 sp BSp.out)
  rw [← hsq] at hC
  have Eq := Aside0.mk hsq
  have BW' := Aside0.mk (below_step BW.out hB)
  clear BW
  have BW := BW'
  clear BW'
  have C1' := Aside0.mk (And.intro (Kd.C_below C1.out.1 hB) C1.out.2)
  clear C1
  have C1 := C1'
  clear C1'
  have C2' := Aside0.mk (And.intro (Kd.C_below C2.out.1 hB) C2.out.2)
  clear C2
  have C2 := C2'
  clear C2'
  have C3' := Aside0.mk (And.intro (Kd.C_below C3.out.1 hB) C3.out.2)
  clear C3
  have C3 := C3'
  clear C3'
  have Cp' := Aside0.mk (And.intro (Kd.C_below Cp.out.1 hB) Cp.out.2)
  clear Cp
  have Cp := Cp'
  clear Cp'
  have Cq := Aside0.mk hC
  clear hC hB hsq
  go_wp2_with fail
  refine (mulT a3 d3 s3 aq dq sq w5 LS3.out LSq.out BS3.out BSq.out C3.out Cq.out).mono ?_
  rintro e w6 ⟨ar, dr, rfl, _, hC, hB⟩
  obtain ⟨sr, hsr⟩ : ∃ x, x = curveF s3 sq := ⟨_, rfl⟩
  have LSr := Aside0.mk (show sr.length = 32 by rw [hsr]; exact len_curveF s3 sq BSq.out)
  have BSr := Aside0.mk (show ∀ x ∈ sr, 0 ≤ x ∧ x < 256 by rw [hsr]; exact curve_bytes s3 sq BSq.out)
  rw [← hsr] at hC
  have Er := Aside0.mk hsr
  have BW' := Aside0.mk (below_step BW.out hB)
  clear BW
  have BW := BW'
  clear BW'
  have C1' := Aside0.mk (And.intro (Kd.C_below C1.out.1 hB) C1.out.2)
  clear C1
  have C1 := C1'
  clear C1'
  have C2' := Aside0.mk (And.intro (Kd.C_below C2.out.1 hB) C2.out.2)
  clear C2
  have C2 := C2'
  clear C2'
  have C3' := Aside0.mk (And.intro (Kd.C_below C3.out.1 hB) C3.out.2)
  clear C3
  have C3 := C3'
  clear C3'
  have Cp' := Aside0.mk (And.intro (Kd.C_below Cp.out.1 hB) Cp.out.2)
  clear Cp
  have Cp := Cp'
  clear Cp'
  have Cq' := Aside0.mk (And.intro (Kd.C_below Cq.out.1 hB) Cq.out.2)
  clear Cq
  have Cq := Cq'
  clear Cq'
  have Cr := Aside0.mk hC
  clear hC hB hsr
  go_wp2_with fail
  refine (baseT a3 d3 s3 w6 LS3.out BS3.out C3.out).mono ?_
  rintro e w7 ⟨au, du, rfl, _, hC, hB⟩
  obtain ⟨su, hsu⟩ : ∃ x, x = curveF s3 nineZ := ⟨_, rfl⟩
  have LSu := Aside0.mk (show su.length = 32 by rw [hsu]; exact len_curveF s3 nineZ nine_bytes)
  have BSu := Aside0.mk (show ∀ x ∈ su, 0 ≤ x ∧ x < 256 by rw [hsu]; exact curve_bytes s3 nineZ nine_bytes)
  rw [← hsu] at hC
  have Eu := Aside0.mk hsu
  have BW' := Aside0.mk (below_step BW.out hB)
  clear BW
  have BW := BW'
  clear BW'
  have C1' := Aside0.mk (And.intro (Kd.C_below C1.out.1 hB) C1.out.2)
  clear C1
  have C1 := C1'
  clear C1'
  have C2' := Aside0.mk (And.intro (Kd.C_below C2.out.1 hB) C2.out.2)
  clear C2
  have C2 := C2'
  clear C2'
  have C3' := Aside0.mk (And.intro (Kd.C_below C3.out.1 hB) C3.out.2)
  clear C3
  have C3 := C3'
  clear C3'
  have Cp' := Aside0.mk (And.intro (Kd.C_below Cp.out.1 hB) Cp.out.2)
  clear Cp
  have Cp := Cp'
  clear Cp'
  have Cq' := Aside0.mk (And.intro (Kd.C_below Cq.out.1 hB) Cq.out.2)
  clear Cq
  have Cq := Cq'
  clear Cq'
  have Cr' := Aside0.mk (And.intro (Kd.C_below Cr.out.1 hB) Cr.out.2)
  clear Cr
  have Cr := Cr'
  clear Cr'
  have Cu := Aside0.mk hC
  clear hC hB hsu
  go_wp2_with fail
  refine (mulT a1 d1 s1 au du su w7 LS1.out LSu.out BS1.out BSu.out C1.out Cu.out).mono ?_
  rintro e w8 ⟨av, dv, rfl, _, hC, hB⟩
  obtain ⟨sv, hsv⟩ : ∃ x, x = curveF s1 su := ⟨_, rfl⟩
  have LSv := Aside0.mk (show sv.length = 32 by rw [hsv]; exact len_curveF s1 su BSu.out)
  have BSv := Aside0.mk (show ∀ x ∈ sv, 0 ≤ x ∧ x < 256 by rw [hsv]; exact curve_bytes s1 su BSu.out)
  rw [← hsv] at hC
  have Ev := Aside0.mk hsv
  have BW' := Aside0.mk (below_step BW.out hB)
  clear BW
  have BW := BW'
  clear BW'
  have C1' := Aside0.mk (And.intro (Kd.C_below C1.out.1 hB) C1.out.2)
  clear C1
  have C1 := C1'
  clear C1'
  have C2' := Aside0.mk (And.intro (Kd.C_below C2.out.1 hB) C2.out.2)
  clear C2
  have C2 := C2'
  clear C2'
  have C3' := Aside0.mk (And.intro (Kd.C_below C3.out.1 hB) C3.out.2)
  clear C3
  have C3 := C3'
  clear C3'
  have Cp' := Aside0.mk (And.intro (Kd.C_below Cp.out.1 hB) Cp.out.2)
  clear Cp
  have Cp := Cp'
  clear Cp'
  have Cq' := Aside0.mk (And.intro (Kd.C_below Cq.out.1 hB) Cq.out.2)
  clear Cq
  have Cq := Cq'
  clear Cq'
  have Cr' := Aside0.mk (And.intro (Kd.C_below Cr.out.1 hB) Cr.out.2)
  clear Cr
  have Cr := Cr'
  clear Cr'
  have Cu' := Aside0.mk (And.intro (Kd.C_below Cu.out.1 hB) Cu.out.2)
  clear Cu
  have Cu := Cu'
  clear Cu'
  have Cv := Aside0.mk hC
  clear hC hB hsv
  go_wp2_with fail
  refine (mulT a2 d2 s2 av dv sv w8 LS2.out LSv.out BS2.out BSv.out C2.out Cv.out).mono ?_
  rintro e w9 ⟨ax, dx, rfl, _, hC, hB⟩
  obtain ⟨sx, hsx⟩ : ∃ x, x = curveF s2 sv := ⟨_, rfl⟩
  have LSx := Aside0.mk (show sx.length = 32 by rw [hsx]; exact len_curveF s2 sv BSv.out)
  have BSx := Aside0.mk (show ∀ x ∈ sx, 0 ≤ x ∧ x < 256 by rw [hsx]; exact curve_bytes s2 sv BSv.out)
  rw [← hsx] at hC
  have Ex := Aside0.mk hsx
  have BW' := Aside0.mk (below_step BW.out hB)
  clear BW
  have BW := BW'
  clear BW'
  have C1' := Aside0.mk (And.intro (Kd.C_below C1.out.1 hB) C1.out.2)
  clear C1
  have C1 := C1'
  clear C1'
  have C2' := Aside0.mk (And.intro (Kd.C_below C2.out.1 hB) C2.out.2)
  clear C2
  have C2 := C2'
  clear C2'
  have C3' := Aside0.mk (And.intro (Kd.C_below C3.out.1 hB) C3.out.2)
  clear C3
  have C3 := C3'
  clear C3'
  have Cp' := Aside0.mk (And.intro (Kd.C_below Cp.out.1 hB) Cp.out.2)
  clear Cp
  have Cp := Cp'
  clear Cp'
  have Cq' := Aside0.mk (And.intro (Kd.C_below Cq.out.1 hB) Cq.out.2)
  clear Cq
  have Cq := Cq'
  clear Cq'
  have Cr' := Aside0.mk (And.intro (Kd.C_below Cr.out.1 hB) Cr.out.2)
  clear Cr
  have Cr := Cr'
  clear Cr'
  have Cu' := Aside0.mk (And.intro (Kd.C_below Cu.out.1 hB) Cu.out.2)
  clear Cu
  have Cu := Cu'
  clear Cu'
  have Cv' := Aside0.mk (And.intro (Kd.C_below Cv.out.1 hB) Cv.out.2)
  clear Cv
  have Cv := Cv'
  clear Cv'
  have Cx := Aside0.mk hC
  clear hC hB hsx
  have e32 : madeCells #[.int .u8 0] 32 = (nums .u8 noneL).toArray := by kernel_rfl
  have hmk : ∀ W : World, (Instr.makeSlice 22 (.int .i64 32) (.int .i64 32)).run Try.prog W = .ok (.slice (some ⟨W.heap.size, 0, none⟩) 32 32) (W.alloc (.cells (nums .u8 noneL).toArray 5)) := fun W => by
    have h := run_make_row' (P := Try.prog) 22 5 (.int .u8 0) 1 Try.underlying22 info_u8 rfl .i64 .i64 32 (by decide) (by decide) W
    rw [e32] at h
    exact h
  clear e32
  go_wp2_with fail
  change Calls _ _ _ (w9.alloc (.cells (nums .u8 noneL).toArray 5)) _
  have hB : Below w9.heap.size w9 (w9.alloc (.cells (nums .u8 noneL).toArray 5)) := (Below.refl _ _).alloc (Nat.le_refl _) _
  have hC : (Kd.int .u8).C (w9.alloc (.cells (nums .u8 noneL).toArray 5)) (some ⟨w9.heap.size, 0, none⟩) 32 noneL ∧ 32 ≤ 32 := ⟨C_of_is8 (new_is w9 5 .u8 noneL) (by decide), Nat.le_refl _⟩
  have BW' := Aside0.mk (below_step BW.out hB)
  clear BW
  have BW := BW'
  clear BW'
  have C1' := Aside0.mk (And.intro (Kd.C_below C1.out.1 hB) C1.out.2)
  clear C1
  have C1 := C1'
  clear C1'
  have C2' := Aside0.mk (And.intro (Kd.C_below C2.out.1 hB) C2.out.2)
  clear C2
  have C2 := C2'
  clear C2'
  have C3' := Aside0.mk (And.intro (Kd.C_below C3.out.1 hB) C3.out.2)
  clear C3
  have C3 := C3'
  clear C3'
  have Cp' := Aside0.mk (And.intro (Kd.C_below Cp.out.1 hB) Cp.out.2)
  clear Cp
  have Cp := Cp'
  clear Cp'
  have Cq' := Aside0.mk (And.intro (Kd.C_below Cq.out.1 hB) Cq.out.2)
  clear Cq
  have Cq := Cq'
  clear Cq'
  have Cr' := Aside0.mk (And.intro (Kd.C_below Cr.out.1 hB) Cr.out.2)
  clear Cr
  have Cr := Cr'
  clear Cr'
  have Cu' := Aside0.mk (And.intro (Kd.C_below Cu.out.1 hB) Cu.out.2)
  clear Cu
  have Cu := Cu'
  clear Cu'
  have Cv' := Aside0.mk (And.intro (Kd.C_below Cv.out.1 hB) Cv.out.2)
  clear Cv
  have Cv := Cv'
  clear Cv'
  have Cx' := Aside0.mk (And.intro (Kd.C_below Cx.out.1 hB) Cx.out.2)
  clear Cx
  have Cx := Cx'
  clear Cx'
  have C0 := Aside0.mk hC
  clear hB hC
  generalize w9.alloc (.cells (nums .u8 noneL).toArray 5) = w10 at *
  refine (mulT a1 d1 s1 _ 32 noneL w10 LS1.out rfl BS1.out none_bytes' C1.out C0.out).mono ?_
  rintro e w11 ⟨an, dn, rfl, _, hC, hB⟩
  rw [curve_none] at hC
  have BW' := Aside0.mk (below_step BW.out hB)
  clear BW
  have BW := BW'
  clear BW'
  have C1' := Aside0.mk (And.intro (Kd.C_below C1.out.1 hB) C1.out.2)
  clear C1
  have C1 := C1'
  clear C1'
  have C2' := Aside0.mk (And.intro (Kd.C_below C2.out.1 hB) C2.out.2)
  clear C2
  have C2 := C2'
  clear C2'
  have C3' := Aside0.mk (And.intro (Kd.C_below C3.out.1 hB) C3.out.2)
  clear C3
  have C3 := C3'
  clear C3'
  have Cp' := Aside0.mk (And.intro (Kd.C_below Cp.out.1 hB) Cp.out.2)
  clear Cp
  have Cp := Cp'
  clear Cp'
  have Cq' := Aside0.mk (And.intro (Kd.C_below Cq.out.1 hB) Cq.out.2)
  clear Cq
  have Cq := Cq'
  clear Cq'
  have Cr' := Aside0.mk (And.intro (Kd.C_below Cr.out.1 hB) Cr.out.2)
  clear Cr
  have Cr := Cr'
  clear Cr'
  have Cu' := Aside0.mk (And.intro (Kd.C_below Cu.out.1 hB) Cu.out.2)
  clear Cu
  have Cu := Cu'
  clear Cu'
  have Cv' := Aside0.mk (And.intro (Kd.C_below Cv.out.1 hB) Cv.out.2)
  clear Cv
  have Cv := Cv'
  clear Cv'
  have Cx' := Aside0.mk (And.intro (Kd.C_below Cx.out.1 hB) Cx.out.2)
  clear Cx
  have Cx := Cx'
  clear Cx'
  have Cn := Aside0.mk hC
  clear hC hB C0
  have same : sx = sr := by
    rw [Ex.out, Ev.out, Eu.out, Er.out, Eq.out, Ep.out]
    exact (curve_three s1 s2 s3).symm
  clear C1 C2 C3 Cp Cq Cu Cv LS1 LS2 LS3 BS1 BS2 BS3 Ep Eq Er Eu Ev Ex
  subst same
  obtain ⟨str, hstr⟩ : ∃ s, s = strOfNums sx := ⟨_, rfl⟩
  obtain ⟨ns, hns⟩ : ∃ s, s = strOfNums noneL := ⟨_, rfl⟩
  have q1 : ∀ W, Below w11.heap.size w11 W → (convert 22 9 (.slice ar 32 dr)).run Try.prog W = .ok (.string str) W := fun W h => by
    have h := Kd.C_string (P := Try.prog) (c := dr) Try.underlying22 Try.underlying5 Try.underlying9 (show (Kd.int .u8).C W ar sx.length sx by rw [LSx.out]; exact Kd.C_below Cr.out.1 h)
    rw [LSx.out] at h
    rw [hstr]
    exact h
  have q2 : ∀ W, Below w11.heap.size w11 W → (convert 22 9 (.slice ax 32 dx)).run Try.prog W = .ok (.string str) W := fun W h => by
    have h := Kd.C_string (P := Try.prog) (c := dx) Try.underlying22 Try.underlying5 Try.underlying9 (show (Kd.int .u8).C W ax sx.length sx by rw [LSx.out]; exact Kd.C_below Cx.out.1 h)
    rw [LSx.out] at h
    rw [hstr]
    exact h
  have q3 : ∀ W, Below w11.heap.size w11 W → (convert 22 9 (.slice an 32 dn)).run Try.prog W = .ok (.string ns) W := fun W h => by
    rw [hns]
    exact Kd.C_string (P := Try.prog) (c := dn) Try.underlying22 Try.underlying5 Try.underlying9 (Kd.C_below Cn.out.1 h)
  have q4 : ∀ W W' : World, Below (W.alloc (.cells (nums .u8 noneL).toArray 5)).heap.size (W.alloc (.cells (nums .u8 noneL).toArray 5)) W' → (convert 22 9 (.slice (some ⟨W.heap.size, 0, none⟩) 32 32)).run Try.prog W' = .ok (.string ns) W' := fun W W' h => by
    rw [hns]
    exact Kd.C_string (P := Try.prog) (c := 32) Try.underlying22 Try.underlying5 Try.underlying9 (Kd.C_below (C_of_is8 (new_is W 5 .u8 noneL) (by decide)) h)
  clear hstr hns
  have Q1 := Aside0.mk q1
  have Q2 := Aside0.mk q2
  have Q3 := Aside0.mk q3
  have Q4 := Aside0.mk q4
  have HMK := Aside0.mk hmk
  clear q1 q2 q3 q4 hmk
  go_upto_region 11 with (fail)
  change Code.wp _ _ _ _ w11
  refine start_ (n := 44) (S := fun w' => Below w11.heap.size w11 w') (ds := []) #[false, false, false, false, false, false, false, false, false, false, false, false, false, false, false, false, false, false, false, false, false, false, false, false, false, false, false, false, false, false, false, false, false, false, false, false, false, false, false, false, false, false, false, false] (by kernel_rfl) rfl rfl ((below_drew1 (Below.refl w11.heap.size w11))) (fun hHeld => ?_)
  refine pure_ (i := 0) (N := some 67) (v := ?_) (a' := ?_) #[true, false, false, false, false, false, false, false, false, false, false, false, false, false, false, false, false, false, false, false, false, false, false, false, false, false, false, false, false, false, false, false, false, false, false, false, false, false, false, false, false, false, false, false] rfl rfl (by kernel_rfl) (fun _ _ _ h => h) (Or.inl ⟨by rfl, ?_⟩) ?_ ?_
  rotate_left
  · intro w'
    go_simp
    with_reducible rfl
  rotate_left
  · simp only [Act.put, List.setIfInBounds_toArray, List.set_cons_zero, List.set_cons_succ]
    rfl
  refine pure_ (i := 1) (N := some 68) (v := ?_) (a' := ?_) #[true, true, false, false, false, false, false, false, false, false, false, false, false, false, false, false, false, false, false, false, false, false, false, false, false, false, false, false, false, false, false, false, false, false, false, false, false, false, false, false, false, false, false, false] rfl rfl (by kernel_rfl) (fun _ _ _ h => h) (Or.inl ⟨by rfl, ?_⟩) ?_ ?_
  rotate_left
  · intro w'
    go_simp
    with_reducible rfl
  rotate_left
  · simp only [Act.put, List.setIfInBounds_toArray, List.set_cons_zero, List.set_cons_succ]
    rfl
  refine pure_ (i := 2) (N := some 69) (v := ?_) (a' := ?_) #[true, true, true, false, false, false, false, false, false, false, false, false, false, false, false, false, false, false, false, false, false, false, false, false, false, false, false, false, false, false, false, false, false, false, false, false, false, false, false, false, false, false, false, false] rfl rfl (by kernel_rfl) (fun _ _ _ h => h) (Or.inl ⟨by rfl, ?_⟩) ?_ ?_
  rotate_left
  · intro w'
    go_simp
    with_reducible rfl
  rotate_left
  · simp only [Act.put, List.setIfInBounds_toArray, List.set_cons_zero, List.set_cons_succ]
    rfl
  refine pure_ (i := 3) (N := some 70) (v := ?_) (a' := ?_) #[true, true, true, true, false, false, false, false, false, false, false, false, false, false, false, false, false, false, false, false, false, false, false, false, false, false, false, false, false, false, false, false, false, false, false, false, false, false, false, false, false, false, false, false] rfl rfl (by kernel_rfl) (fun _ _ _ h => h) (Or.inl ⟨by rfl, ?_⟩) ?_ ?_
  rotate_left
  · intro w'
    go_simp
    with_reducible rfl
  rotate_left
  · simp only [Act.put, List.setIfInBounds_toArray, List.set_cons_zero, List.set_cons_succ]
    rfl
  refine pure_ (i := 4) (N := some 71) (v := ?_) (a' := ?_) #[true, true, true, true, true, false, false, false, false, false, false, false, false, false, false, false, false, false, false, false, false, false, false, false, false, false, false, false, false, false, false, false, false, false, false, false, false, false, false, false, false, false, false, false] rfl rfl (by kernel_rfl) (fun _ _ _ h => h) (Or.inl ⟨by rfl, ?_⟩) ?_ ?_
  rotate_left
  · intro w'
    go_simp
    with_reducible rfl
  rotate_left
  · simp only [Act.put, List.setIfInBounds_toArray, List.set_cons_zero, List.set_cons_succ]
    rfl
  refine pure_ (i := 5) (N := some 72) (v := ?_) (a' := ?_) #[true, true, true, true, true, true, false, false, false, false, false, false, false, false, false, false, false, false, false, false, false, false, false, false, false, false, false, false, false, false, false, false, false, false, false, false, false, false, false, false, false, false, false, false] rfl rfl (by kernel_rfl) (fun _ _ _ h => h) (Or.inl ⟨by rfl, ?_⟩) ?_ ?_
  rotate_left
  · intro w'
    go_simp
    with_reducible rfl
  rotate_left
  · simp only [Act.put, List.setIfInBounds_toArray, List.set_cons_zero, List.set_cons_succ]
    rfl
  refine pure_ (i := 6) (N := some 73) (v := ?_) (a' := ?_) #[true, true, true, true, true, true, true, false, false, false, false, false, false, false, false, false, false, false, false, false, false, false, false, false, false, false, false, false, false, false, false, false, false, false, false, false, false, false, false, false, false, false, false, false] rfl rfl (by kernel_rfl) (fun _ _ _ h => h) (Or.inl ⟨by rfl, ?_⟩) ?_ ?_
  rotate_left
  · intro w'
    go_simp
    with_reducible rfl
  rotate_left
  · simp only [Act.put, List.setIfInBounds_toArray, List.set_cons_zero, List.set_cons_succ]
    rfl
  refine pure_ (i := 7) (N := some 74) (v := ?_) (a' := ?_) #[true, true, true, true, true, true, true, true, false, false, false, false, false, false, false, false, false, false, false, false, false, false, false, false, false, false, false, false, false, false, false, false, false, false, false, false, false, false, false, false, false, false, false, false] rfl rfl (by kernel_rfl) (fun _ _ _ h => h) (Or.inl ⟨by rfl, ?_⟩) ?_ ?_
  rotate_left
  · intro w'
    go_simp
    with_reducible rfl
  rotate_left
  · simp only [Act.put, List.setIfInBounds_toArray, List.set_cons_zero, List.set_cons_succ]
    rfl
  refine pure_ (i := 8) (N := some 75) (v := ?_) (a' := ?_) #[true, true, true, true, true, true, true, true, true, false, false, false, false, false, false, false, false, false, false, false, false, false, false, false, false, false, false, false, false, false, false, false, false, false, false, false, false, false, false, false, false, false, false, false] rfl rfl (by kernel_rfl) (fun _ _ _ h => h) (Or.inl ⟨by rfl, ?_⟩) ?_ ?_
  rotate_left
  · intro w'
    go_simp
    with_reducible rfl
  rotate_left
  · simp only [Act.put, List.setIfInBounds_toArray, List.set_cons_zero, List.set_cons_succ]
    rfl
  refine pure_ (i := 9) (N := some 76) (v := ?_) (a' := ?_) #[true, true, true, true, true, true, true, true, true, true, false, false, false, false, false, false, false, false, false, false, false, false, false, false, false, false, false, false, false, false, false, false, false, false, false, false, false, false, false, false, false, false, false, false] rfl rfl (by kernel_rfl) (fun _ _ _ h => h) (Or.inl ⟨by rfl, ?_⟩) ?_ ?_
  rotate_left
  · intro w'
    go_simp
    with_reducible rfl
  rotate_left
  · simp only [Act.put, List.setIfInBounds_toArray, List.set_cons_zero, List.set_cons_succ]
    rfl
  refine pure_ (i := 10) (N := some 77) (v := ?_) (a' := ?_) #[true, true, true, true, true, true, true, true, true, true, true, false, false, false, false, false, false, false, false, false, false, false, false, false, false, false, false, false, false, false, false, false, false, false, false, false, false, false, false, false, false, false, false, false] rfl rfl (by kernel_rfl) (fun _ _ _ h => h) (Or.inl ⟨by rfl, ?_⟩) ?_ ?_
  rotate_left
  · intro w'
    go_simp
    with_reducible rfl
  rotate_left
  · simp only [Act.put, List.setIfInBounds_toArray, List.set_cons_zero, List.set_cons_succ]
    rfl
  refine pure_ (i := 11) (N := some 78) (v := ?_) (a' := ?_) #[true, true, true, true, true, true, true, true, true, true, true, true, false, false, false, false, false, false, false, false, false, false, false, false, false, false, false, false, false, false, false, false, false, false, false, false, false, false, false, false, false, false, false, false] rfl rfl (by kernel_rfl) (fun _ _ _ h => h) (Or.inl ⟨by rfl, ?_⟩) ?_ ?_
  rotate_left
  · intro w'
    go_simp
    with_reducible rfl
  rotate_left
  · simp only [Act.put, List.setIfInBounds_toArray, List.set_cons_zero, List.set_cons_succ]
    rfl
  refine pure_ (i := 12) (N := some 79) (v := ?_) (a' := ?_) #[true, true, true, true, true, true, true, true, true, true, true, true, true, false, false, false, false, false, false, false, false, false, false, false, false, false, false, false, false, false, false, false, false, false, false, false, false, false, false, false, false, false, false, false] rfl rfl (by kernel_rfl) (fun _ _ _ h => h) (Or.inl ⟨by rfl, ?_⟩) ?_ ?_
  rotate_left
  · intro w'
    go_simp
    with_reducible rfl
  rotate_left
  · simp only [Act.put, List.setIfInBounds_toArray, List.set_cons_zero, List.set_cons_succ]
    rfl
  refine pure_ (i := 13) (N := some 80) (v := ?_) (a' := ?_) #[true, true, true, true, true, true, true, true, true, true, true, true, true, true, false, false, false, false, false, false, false, false, false, false, false, false, false, false, false, false, false, false, false, false, false, false, false, false, false, false, false, false, false, false] rfl rfl (by kernel_rfl) (fun _ _ _ h => h) (Or.inl ⟨by rfl, ?_⟩) ?_ ?_
  rotate_left
  · intro w'
    go_simp
    with_reducible rfl
  rotate_left
  · simp only [Act.put, List.setIfInBounds_toArray, List.set_cons_zero, List.set_cons_succ]
    rfl
  refine pure_ (i := 14) (N := some 81) (v := ?_) (a' := ?_) #[true, true, true, true, true, true, true, true, true, true, true, true, true, true, true, false, false, false, false, false, false, false, false, false, false, false, false, false, false, false, false, false, false, false, false, false, false, false, false, false, false, false, false, false] rfl rfl (by kernel_rfl) (fun _ _ _ h => h) (Or.inl ⟨by rfl, ?_⟩) ?_ ?_
  rotate_left
  · intro w'
    go_simp
    with_reducible rfl
  rotate_left
  · simp only [Act.put, List.setIfInBounds_toArray, List.set_cons_zero, List.set_cons_succ]
    rfl
  refine pure_ (i := 15) (N := some 82) (v := ?_) (a' := ?_) #[true, true, true, true, true, true, true, true, true, true, true, true, true, true, true, true, false, false, false, false, false, false, false, false, false, false, false, false, false, false, false, false, false, false, false, false, false, false, false, false, false, false, false, false] rfl rfl (by kernel_rfl) (fun _ _ _ h => h) (Or.inl ⟨by rfl, ?_⟩) ?_ ?_
  rotate_left
  · intro w'
    go_simp
    with_reducible rfl
  rotate_left
  · simp only [Act.put, List.setIfInBounds_toArray, List.set_cons_zero, List.set_cons_succ]
    rfl
  refine pure_ (i := 16) (N := some 83) (v := ?_) (a' := ?_) #[true, true, true, true, true, true, true, true, true, true, true, true, true, true, true, true, true, false, false, false, false, false, false, false, false, false, false, false, false, false, false, false, false, false, false, false, false, false, false, false, false, false, false, false] rfl rfl (by kernel_rfl) (fun _ _ _ h => h) (Or.inl ⟨by rfl, ?_⟩) ?_ ?_
  rotate_left
  · intro w'
    go_simp
    with_reducible rfl
  rotate_left
  · simp only [Act.put, List.setIfInBounds_toArray, List.set_cons_zero, List.set_cons_succ]
    rfl
  refine pure_ (i := 17) (N := some 84) (v := ?_) (a' := ?_) #[true, true, true, true, true, true, true, true, true, true, true, true, true, true, true, true, true, true, false, false, false, false, false, false, false, false, false, false, false, false, false, false, false, false, false, false, false, false, false, false, false, false, false, false] rfl rfl (by kernel_rfl) (fun _ _ _ h => h) (Or.inl ⟨by rfl, ?_⟩) ?_ ?_
  rotate_left
  · intro w'
    go_simp
    with_reducible rfl
  rotate_left
  · simp only [Act.put, List.setIfInBounds_toArray, List.set_cons_zero, List.set_cons_succ]
    rfl
  refine pure_ (i := 18) (N := some 85) (v := ?_) (a' := ?_) #[true, true, true, true, true, true, true, true, true, true, true, true, true, true, true, true, true, true, true, false, false, false, false, false, false, false, false, false, false, false, false, false, false, false, false, false, false, false, false, false, false, false, false, false] rfl rfl (by kernel_rfl) (fun _ _ _ h => h) (Or.inl ⟨by rfl, ?_⟩) ?_ ?_
  rotate_left
  · intro w'
    go_simp
    with_reducible rfl
  rotate_left
  · simp only [Act.put, List.setIfInBounds_toArray, List.set_cons_zero, List.set_cons_succ]
    rfl
  refine pure_ (i := 19) (N := some 86) (v := ?_) (a' := ?_) #[true, true, true, true, true, true, true, true, true, true, true, true, true, true, true, true, true, true, true, true, false, false, false, false, false, false, false, false, false, false, false, false, false, false, false, false, false, false, false, false, false, false, false, false] rfl rfl (by kernel_rfl) (fun _ _ _ h => h) (Or.inl ⟨by rfl, ?_⟩) ?_ ?_
  rotate_left
  · intro w'
    go_simp
    with_reducible rfl
  rotate_left
  · simp only [Act.put, List.setIfInBounds_toArray, List.set_cons_zero, List.set_cons_succ]
    rfl
  refine pure_ (i := 20) (N := some 87) (v := ?_) (a' := ?_) #[true, true, true, true, true, true, true, true, true, true, true, true, true, true, true, true, true, true, true, true, true, false, false, false, false, false, false, false, false, false, false, false, false, false, false, false, false, false, false, false, false, false, false, false] rfl rfl (by kernel_rfl) (fun _ _ _ h => h) (Or.inl ⟨by rfl, ?_⟩) ?_ ?_
  rotate_left
  · intro w'
    go_simp
    with_reducible rfl
  rotate_left
  · simp only [Act.put, List.setIfInBounds_toArray, List.set_cons_zero, List.set_cons_succ]
    rfl
  refine pure_ (i := 21) (N := some 88) (v := ?_) (a' := ?_) #[true, true, true, true, true, true, true, true, true, true, true, true, true, true, true, true, true, true, true, true, true, true, false, false, false, false, false, false, false, false, false, false, false, false, false, false, false, false, false, false, false, false, false, false] rfl rfl (by kernel_rfl) (fun _ _ _ h => h) (Or.inl ⟨by rfl, ?_⟩) ?_ ?_
  rotate_left
  · intro w'
    go_simp
    with_reducible rfl
  rotate_left
  · simp only [Act.put, List.setIfInBounds_toArray, List.set_cons_zero, List.set_cons_succ]
    rfl
  refine pure_ (i := 22) (N := some 89) (v := ?_) (a' := ?_) #[true, true, true, true, true, true, true, true, true, true, true, true, true, true, true, true, true, true, true, true, true, true, true, false, false, false, false, false, false, false, false, false, false, false, false, false, false, false, false, false, false, false, false, false] rfl rfl (by kernel_rfl) (fun _ _ _ h => h) (Or.inl ⟨by rfl, ?_⟩) ?_ ?_
  rotate_left
  · intro w'
    go_simp
    with_reducible rfl
  rotate_left
  · simp only [Act.put, List.setIfInBounds_toArray, List.set_cons_zero, List.set_cons_succ]
    rfl
  refine pure_ (i := 23) (N := some 90) (v := ?_) (a' := ?_) #[true, true, true, true, true, true, true, true, true, true, true, true, true, true, true, true, true, true, true, true, true, true, true, true, false, false, false, false, false, false, false, false, false, false, false, false, false, false, false, false, false, false, false, false] rfl rfl (by kernel_rfl) (fun _ _ _ h => h) (Or.inl ⟨by rfl, ?_⟩) ?_ ?_
  rotate_left
  · intro w'
    go_simp
    with_reducible rfl
  rotate_left
  · simp only [Act.put, List.setIfInBounds_toArray, List.set_cons_zero, List.set_cons_succ]
    rfl
  refine pure_ (i := 24) (N := some 91) (v := ?_) (a' := ?_) #[true, true, true, true, true, true, true, true, true, true, true, true, true, true, true, true, true, true, true, true, true, true, true, true, true, false, false, false, false, false, false, false, false, false, false, false, false, false, false, false, false, false, false, false] rfl rfl (by kernel_rfl) (fun _ _ _ h => h) (Or.inl ⟨by rfl, ?_⟩) ?_ ?_
  rotate_left
  · intro w'
    go_simp
    with_reducible rfl
  rotate_left
  · simp only [Act.put, List.setIfInBounds_toArray, List.set_cons_zero, List.set_cons_succ]
    rfl
  refine pure_ (i := 25) (N := some 92) (v := ?_) (a' := ?_) #[true, true, true, true, true, true, true, true, true, true, true, true, true, true, true, true, true, true, true, true, true, true, true, true, true, true, false, false, false, false, false, false, false, false, false, false, false, false, false, false, false, false, false, false] rfl rfl (by kernel_rfl) (fun _ _ _ h => h) (Or.inl ⟨by rfl, ?_⟩) ?_ ?_
  rotate_left
  · intro w'
    go_simp
    with_reducible rfl
  rotate_left
  · simp only [Act.put, List.setIfInBounds_toArray, List.set_cons_zero, List.set_cons_succ]
    rfl
  refine pure_ (i := 26) (N := some 93) (v := ?_) (a' := ?_) #[true, true, true, true, true, true, true, true, true, true, true, true, true, true, true, true, true, true, true, true, true, true, true, true, true, true, true, false, false, false, false, false, false, false, false, false, false, false, false, false, false, false, false, false] rfl rfl (by kernel_rfl) (fun _ _ _ h => h) (Or.inl ⟨by rfl, ?_⟩) ?_ ?_
  rotate_left
  · intro w'
    go_simp
    with_reducible rfl
  rotate_left
  · simp only [Act.put, List.setIfInBounds_toArray, List.set_cons_zero, List.set_cons_succ]
    rfl
  refine pure_ (i := 27) (N := some 94) (v := ?_) (a' := ?_) #[true, true, true, true, true, true, true, true, true, true, true, true, true, true, true, true, true, true, true, true, true, true, true, true, true, true, true, true, false, false, false, false, false, false, false, false, false, false, false, false, false, false, false, false] rfl rfl (by kernel_rfl) (fun _ _ _ h => h) (Or.inl ⟨by rfl, ?_⟩) ?_ ?_
  rotate_left
  · intro w'
    go_simp
    with_reducible rfl
  rotate_left
  · simp only [Act.put, List.setIfInBounds_toArray, List.set_cons_zero, List.set_cons_succ]
    rfl
  refine pure_ (i := 29) (N := some 96) (v := ?_) (a' := ?_) #[true, true, true, true, true, true, true, true, true, true, true, true, true, true, true, true, true, true, true, true, true, true, true, true, true, true, true, true, false, true, false, false, false, false, false, false, false, false, false, false, false, false, false, false] rfl rfl (by kernel_rfl) (fun _ _ _ h => h) (Or.inl ⟨by rfl, ?_⟩) ?_ ?_
  rotate_left
  · intro w'
    go_simp
    with_reducible rfl
  rotate_left
  · simp only [Act.put, List.setIfInBounds_toArray, List.set_cons_zero, List.set_cons_succ]
    rfl
  refine take_ (i := 28) (N := some 95) (v := ?_) (a' := ?_) #[true, true, true, true, true, true, true, true, true, true, true, true, true, true, true, true, true, true, true, true, true, true, true, true, true, true, true, true, true, true, false, false, false, false, false, false, false, false, false, false, false, false, false, false] rfl rfl (by kernel_rfl) (fun _ _ _ h => h) (Or.inl ⟨by rfl, ?_⟩) hHeld ?_ ?_
  rotate_left
  · intro w' s0
    have q1_ := Q1.out w' s0
    have q2_ := Q2.out w' s0
    have q3_ := Q3.out w' s0
    go_simp
    with_reducible rfl
  rotate_left
  · simp only [Act.put, List.setIfInBounds_toArray, List.set_cons_zero, List.set_cons_succ]
    rfl
  refine take_ (i := 30) (N := some 97) (v := ?_) (a' := ?_) #[true, true, true, true, true, true, true, true, true, true, true, true, true, true, true, true, true, true, true, true, true, true, true, true, true, true, true, true, true, true, true, false, false, false, false, false, false, false, false, false, false, false, false, false] rfl rfl (by kernel_rfl) (fun _ _ _ h => h) (Or.inl ⟨by rfl, ?_⟩) hHeld ?_ ?_
  rotate_left
  · intro w' s0
    have q1_ := Q1.out w' s0
    have q2_ := Q2.out w' s0
    have q3_ := Q3.out w' s0
    go_simp
    with_reducible rfl
  rotate_left
  · simp only [Act.put, List.setIfInBounds_toArray, List.set_cons_zero, List.set_cons_succ]
    rfl
  refine pure_ (i := 31) (N := some 98) (v := ?_) (a' := ?_) #[true, true, true, true, true, true, true, true, true, true, true, true, true, true, true, true, true, true, true, true, true, true, true, true, true, true, true, true, true, true, true, true, false, false, false, false, false, false, false, false, false, false, false, false] rfl rfl (by kernel_rfl) (fun _ _ _ h => h) (Or.inl ⟨by rfl, ?_⟩) ?_ ?_
  rotate_left
  · intro w'
    go_simp
    with_reducible rfl
  rotate_left
  · simp only [Act.put, List.setIfInBounds_toArray, List.set_cons_zero, List.set_cons_succ]
    rfl
  refine pure_ (i := 32) (N := some 99) (v := ?_) (a' := ?_) #[true, true, true, true, true, true, true, true, true, true, true, true, true, true, true, true, true, true, true, true, true, true, true, true, true, true, true, true, true, true, true, true, true, false, false, false, false, false, false, false, false, false, false, false] rfl rfl (by kernel_rfl) (fun _ _ _ h => h) (Or.inl ⟨by rfl, ?_⟩) ?_ ?_
  rotate_left
  · intro w'
    go_simp
    with_reducible rfl
  rotate_left
  · simp only [Act.put, List.setIfInBounds_toArray, List.set_cons_zero, List.set_cons_succ]
    rfl
  refine pure_ (i := 33) (N := some 100) (v := ?_) (a' := ?_) #[true, true, true, true, true, true, true, true, true, true, true, true, true, true, true, true, true, true, true, true, true, true, true, true, true, true, true, true, true, true, true, true, true, true, false, false, false, false, false, false, false, false, false, false] rfl rfl (by kernel_rfl) (fun _ _ _ h => h) (Or.inl ⟨by rfl, ?_⟩) ?_ ?_
  rotate_left
  · intro w'
    go_simp
    with_reducible rfl
  rotate_left
  · simp only [Act.put, List.setIfInBounds_toArray, List.set_cons_zero, List.set_cons_succ]
    rfl
  refine pure_ (i := 34) (N := some 101) (v := ?_) (a' := ?_) #[true, true, true, true, true, true, true, true, true, true, true, true, true, true, true, true, true, true, true, true, true, true, true, true, true, true, true, true, true, true, true, true, true, true, true, false, false, false, false, false, false, false, false, false] rfl rfl (by kernel_rfl) (fun _ _ _ h => h) (Or.inl ⟨by rfl, ?_⟩) ?_ ?_
  rotate_left
  · intro w'
    go_simp
    with_reducible rfl
  rotate_left
  · simp only [Act.put, List.setIfInBounds_toArray, List.set_cons_zero, List.set_cons_succ]
    rfl
  refine take_ (i := 35) (N := some 102) (v := ?_) (a' := ?_) #[true, true, true, true, true, true, true, true, true, true, true, true, true, true, true, true, true, true, true, true, true, true, true, true, true, true, true, true, true, true, true, true, true, true, true, true, false, false, false, false, false, false, false, false] rfl rfl (by kernel_rfl) (fun _ _ _ h => h) (Or.inl ⟨by rfl, ?_⟩) hHeld ?_ ?_
  rotate_left
  · intro w' s0
    have q1_ := Q1.out w' s0
    have q2_ := Q2.out w' s0
    have q3_ := Q3.out w' s0
    go_simp
    with_reducible rfl
  rotate_left
  · simp only [Act.put, List.setIfInBounds_toArray, List.set_cons_zero, List.set_cons_succ]
    rfl
  refine one_ (i := 36) (N := some 103) #[true, true, true, true, true, true, true, true, true, true, true, true, true, true, true, true, true, true, true, true, true, true, true, true, true, true, true, true, true, true, true, true, true, true, true, true, true, false, false, false, false, false, false, false] rfl rfl (by kernel_rfl) (by decide) (fun K hK => ?_)
  have hmk_ := HMK.out
  refine value_ (w1 := ?_) (v := ?_) (by rfl) rfl ?_ ?_
  rotate_left 2
  · go_simp
    constructor
    · rfl
    · rfl
  clear hmk_
  refine hK.out _ _ ((below_alloc hHeld _)) (fun hHeld => ?_)
  clear hK K
  refine norm_ (a' := ?_) ?_ ?_
  rotate_left
  · show Act.put _ (some 103) _ = _
    simp only [Act.put, List.setIfInBounds_toArray, List.set_cons_zero, List.set_cons_succ]
    rfl
  refine one_ (i := 37) (N := some 104) #[true, true, true, true, true, true, true, true, true, true, true, true, true, true, true, true, true, true, true, true, true, true, true, true, true, true, true, true, true, true, true, true, true, true, true, true, true, true, false, false, false, false, false, false] rfl rfl (by kernel_rfl) (by decide) (fun K hK => ?_)
  have q_ := Q4.out _ _ (below_drew1 (Below.refl (w11.alloc (.cells (nums .u8 noneL).toArray 5)).heap.size (w11.alloc (.cells (nums .u8 noneL).toArray 5))))
  refine value_ (w1 := ?_) (v := ?_) (by rfl) rfl ?_ ?_
  rotate_left 2
  · go_simp
    constructor
    · rfl
    · rfl
  clear q_
  refine hK.out _ _ (hHeld) (fun hHeld => ?_)
  clear hK K
  refine norm_ (a' := ?_) ?_ ?_
  rotate_left
  · show Act.put _ (some 104) _ = _
    simp only [Act.put, List.setIfInBounds_toArray, List.set_cons_zero, List.set_cons_succ]
    rfl
  refine pure_ (i := 38) (N := some 105) (v := ?_) (a' := ?_) #[true, true, true, true, true, true, true, true, true, true, true, true, true, true, true, true, true, true, true, true, true, true, true, true, true, true, true, true, true, true, true, true, true, true, true, true, true, true, true, false, false, false, false, false] rfl rfl (by kernel_rfl) (fun _ _ _ h => h) (Or.inl ⟨by rfl, ?_⟩) ?_ ?_
  rotate_left
  · intro w'
    go_simp
    with_reducible rfl
  rotate_left
  · simp only [Act.put, List.setIfInBounds_toArray, List.set_cons_zero, List.set_cons_succ]
    rfl
  refine pure_ (i := 39) (N := some 106) (v := ?_) (a' := ?_) #[true, true, true, true, true, true, true, true, true, true, true, true, true, true, true, true, true, true, true, true, true, true, true, true, true, true, true, true, true, true, true, true, true, true, true, true, true, true, true, true, false, false, false, false] rfl rfl (by kernel_rfl) (fun _ _ _ h => h) (Or.inl ⟨by rfl, ?_⟩) ?_ ?_
  rotate_left
  · intro w'
    go_simp
    with_reducible rfl
  rotate_left
  · simp only [Act.put, List.setIfInBounds_toArray, List.set_cons_zero, List.set_cons_succ]
    rfl
  refine pure_ (i := 40) (N := some 107) (v := ?_) (a' := ?_) #[true, true, true, true, true, true, true, true, true, true, true, true, true, true, true, true, true, true, true, true, true, true, true, true, true, true, true, true, true, true, true, true, true, true, true, true, true, true, true, true, true, false, false, false] rfl rfl (by kernel_rfl) (fun _ _ _ h => h) (Or.inl ⟨by rfl, ?_⟩) ?_ ?_
  rotate_left
  · intro w'
    go_simp
    with_reducible rfl
  rotate_left
  · simp only [Act.put, List.setIfInBounds_toArray, List.set_cons_zero, List.set_cons_succ]
    rfl
  refine one_ (i := 41) (N := some 108) #[true, true, true, true, true, true, true, true, true, true, true, true, true, true, true, true, true, true, true, true, true, true, true, true, true, true, true, true, true, true, true, true, true, true, true, true, true, true, true, true, true, true, false, false] rfl rfl (by kernel_rfl) (by decide) (fun K hK => ?_)
  refine goes_ Try.func13 (by kernel_rfl) rfl #[] (by rfl) rfl rfl (by simp only [List.map_toArray, List.map_nil]) ?_
  with_reducible refine ((known5_calls _)).mono ?_
  rintro e w3 ⟨rfl, hb⟩
  refine ⟨_, rfl, ?_⟩
  refine hK.out _ _ ((below_step hHeld hb)) (fun hHeld => ?_)
  clear hK K
  refine norm_ (a' := ?_) ?_ ?_
  rotate_left
  · show Act.put _ (some 108) _ = _
    simp only [Act.put, List.setIfInBounds_toArray, List.set_cons_zero, List.set_cons_succ]
    rfl
  refine pure_ (i := 42) (N := some 109) (v := ?_) (a' := ?_) #[true, true, true, true, true, true, true, true, true, true, true, true, true, true, true, true, true, true, true, true, true, true, true, true, true, true, true, true, true, true, true, true, true, true, true, true, true, true, true, true, true, true, true, false] rfl rfl (by kernel_rfl) (fun _ _ _ h => h) (Or.inl ⟨by rfl, ?_⟩) ?_ ?_
  rotate_left
  · intro w'
    go_simp
    with_reducible rfl
  rotate_left
  · simp only [Act.put, List.setIfInBounds_toArray, List.set_cons_zero, List.set_cons_succ]
    rfl
  refine pure_ (i := 43) (N := some 6) (v := ?_) (a' := ?_) #[true, true, true, true, true, true, true, true, true, true, true, true, true, true, true, true, true, true, true, true, true, true, true, true, true, true, true, true, true, true, true, true, true, true, true, true, true, true, true, true, true, true, true, true] rfl rfl (by kernel_rfl) (fun _ _ _ h => h) (Or.inl ⟨by rfl, ?_⟩) ?_ ?_
  rotate_left
  · intro w'
    go_simp
    with_reducible rfl
  rotate_left
  · simp only [Act.put, List.setIfInBounds_toArray, List.set_cons_zero, List.set_cons_succ]
    rfl
  refine done_ (by kernel_rfl) ?_

  have LZ := Aside0.mk (below_step BW.out hHeld)
  go_wp2_with fail
  go_ret
  exact ⟨rfl, LZ.out⟩
end Go.Proofs.Ytlpoolcdoecodaa
