/-
  The document's Derive (strongroomref6), walked: it reckons what kdf.Derive reckons.
-/
import Derived.Test.YthahhjkokdillaaRef1
import Derived.Test.YthahhjkokdillaaDer
import Derived.Test.YthahhjkokdillaaRSha
namespace Go.Proofs.Ythahhjkokdillaa.Wire
open Go.RowKit Go.Proofs.YthahhjkokdillaaW.PrintWords Go.Proofs.YthahhjkokdillaaW.PrintLast Go.Proofs.YthahhjkokdillaaW.PrintMore Go.Proofs.Ythahhjkokdillaa.Arr Go.Proofs.Ythahhjkokdillaa.Bits
set_option linter.unusedVariables false
variable {w : World}
theorem take_outD (a m : List Int) (size j : Nat) (h1 : size ≤ 32 * j) (h2 : 32 * j < size + 32 ∨ j = 1) : (outD a m j).take size = (outD a m ((size + 31) / 32)).take size := by
  by_cases h : j = (size + 31) / 32
  · rw [h]
  · have h0 : size = 0 := by omega
    subst h0
    simp
theorem rC_nil (w : World) : (Kd.int .u8).C w none ([] : List Int).length [] :=
  Kd.C_of_reads (enc := Value.int .u8) (d := (0 : Int)) (h1 := fun _ => rfl) ⟨rfl, by simp, fun h => by simp at h⟩
set_option maxHeartbeats 8000000
set_option maxRecDepth 100000
theorem rDerive_calls (A0 : Option Addr) (c0 : Nat) (k : List Int) (A1 : Option Addr) (c1 : Nat) (h : List Int) (a2 : Int) (A3 : Option Addr) (c3 : Nat) (id : List Int) (size : Nat)
    (hr0 : (Kd.int .u8).C w A0 k.length k) (hc0 : k.length ≤ c0) (hB0 : Bytes k) (hl0 : k.length ≤ 10000) (hr1 : (Kd.int .u8).C w A1 h.length h) (hc1 : h.length ≤ c1) (hl1 : h.length ≤ 10000) (hr3 : (Kd.int .u8).C w A3 id.length id) (hc3 : id.length ≤ c3) (hl3 : id.length ≤ 10000) (hsz : size ≤ 256) :
    Calls Try.prog 33 #[.slice A0 k.length c0, .slice A1 h.length c1, .int .u8 a2, .slice A3 id.length c3, .int .i64 (size : Int)] w fun e w' => ∃ v, e = .returned (.tuple #[v, .int .i64 0]) ∧ (Kd.int .u8).R 5 w' w.heap.size (fun _ => True) v (deriveF k h a2 id size) ∧ Below w.heap.size w w' := by
  have C1 := Aside0.mk (And.intro hr1 (And.intro hc1 hl1))
  have C3 := Aside0.mk (And.intro hr3 (And.intro hc3 hl3))
  have CM := Aside0.mk (rMpint_calls none 0 [] A0 c0 k (rC_nil w) (by decide) hr0 hc0 (by omega) hB0)
  have SZ := Aside0.mk hsz
  have HKL := Aside0.mk hl0
  have d0 : ¬ (size : Int) < 0 := by omega
  have d1 : ¬ (256 : Int) < (size : Int) := by omega
  have d2 : decide ((size : Int) < 0) = false := decide_eq_false d0
  have d3 : decide (256 < size) = false := decide_eq_false (by omega)
  clear hr0 hc0 hB0 hl0 hr1 hc1 hl1 hr3 hc3 hl3 hsz
  go_enter Try.func33, Try.ntmps33
  go_wp2_with fail
  refine CM.out.mono ?_
  rintro e w2 ⟨v2, rfl, hR, hB⟩
  obtain ⟨x2, hx2⟩ : ∃ x, x = textF (mpS k) := ⟨_, rfl⟩
  rw [List.nil_append, ← hx2] at hR
  have R2 := Aside0.mk hR
  have B2 := Aside0.mk hB
  have X2 := Aside0.mk (And.intro hx2 (show x2.length ≤ 10005 by rw [hx2, len_textF]; have := len_mpS k; have := HKL.out; omega))
  obtain ⟨x3, hx3⟩ : ∃ x, x = x2 ++ h := ⟨_, rfl⟩
  have X3 := Aside0.mk (And.intro hx3 (show x3.length ≤ 20005 by rw [hx3, List.length_append]; have := X2.out.2; have := C1.out.2.2; omega))
  clear hR hB hx2 hx3 CM d0 d1 d2 d3
  obtain ⟨m0, hm0⟩ : ∃ m, m = [a2] ++ id := ⟨_, rfl⟩
  have M0 := Aside0.mk (And.intro hm0 (show m0.length ≤ 10001 by rw [hm0, List.length_append]; have := C3.out.2.2; simp only [List.length_cons, List.length_nil]; omega))
  obtain ⟨y6, hy6⟩ : ∃ y, y = x3 ++ [a2] ++ id := ⟨_, rfl⟩
  have Y6 := Aside0.mk (And.intro hy6 (show y6 = x3 ++ m0 ∧ y6.length ≤ 40000 by rw [hy6, hm0]; refine ⟨by rw [List.append_assoc], ?_⟩; simp only [List.length_append, List.length_cons, List.length_nil]; have := X3.out.2; have := C3.out.2.2; omega))
  clear hm0 hy6
  go_upto_region 4 with ((with_reducible refine gate_builtin (b := .append) (xs := #[.tmp 21, .tmp 22]) rfl ?_); at_builtin; (refine Kd.R_append_row (w0 := w) (Value.int .u8) (0 : Int) (h1 := fun _ => rfl) w.heap.size rfl (.tmp 21) (.tmp 22) 22 5 (.int .u8 0) 1 rfl Try.underlying22 Pol.info_u8 rfl Nat.one_pos v2 x2 h A1 h.length c1 (fun _ => True) rfl rfl (fun _ _ => trivial) ?q1 ?q2 ?q3 ?q4 ?q5 ?_; (case q1 => exact R2.out); (case q2 => exact Kd.C_below C1.out.1 B2.out); (case q3 => exact B2.out); (case q4 => exact (B2.out).size); (case q5 => have := X2.out.2; have := C1.out.2.2; omega); intro v3 w3 hR hB _ _; have hR := (show (Kd.int .u8).R 5 w3 w.heap.size (fun _ => True) v3 x3 by rw [X3.out.1]; exact hR); obtain ⟨AA, cA, hv3, hcA, hCA⟩ := Kd.R_reads hR; obtain ⟨na, hna⟩ : ∃ n, n = x3.length := ⟨_, rfl⟩; rw [← hna] at hv3; subst hv3; have CA := Aside0.mk (And.intro hCA hna); have B3 := Aside0.mk hB; clear hR hB hcA hCA hna))
  change Code.wp _ _ _ _ w3
  have Z1 := Aside0.mk (lit_R w3 w3.heap.size w3.heap.size 5 .u8 [] 0 rfl (Nat.le_refl _) rfl (by decide))
  have L1 := Aside0.mk (show Below w3.heap.size w3 (w3.alloc (.cells #[] 5)) from (Below.refl _ _).alloc (Nat.le_refl _) _)
  go_wp2_with (first | ((with_reducible refine gate_builtin (b := .append) (xs := #[.tmp 24, .tmp 25]) rfl ?_); at_builtin; (refine Kd.R_append_row (w0 := w3) (Value.int .u8) (0 : Int) (h1 := fun _ => rfl) w3.heap.size rfl (.tmp 24) (.tmp 25) 22 5 (.int .u8 0) 1 rfl Try.underlying22 Pol.info_u8 rfl Nat.one_pos _ [] x3 AA na cA (fun _ => True) rfl rfl (fun _ _ => trivial) ?q1 ?q2 ?q3 ?q4 ?q5 ?_; (case q1 => exact Z1.out); (case q2 => exact (by rw [CA.out.2]; exact Kd.C_below CA.out.1 L1.out)); (case q3 => exact L1.out); (case q4 => exact (L1.out).size); (case q5 => have := X3.out.2; have := CA.out.2; simp only [List.length_nil]; omega); intro v4 w4 hR hB _ _; have R4 := Aside0.mk (show (Kd.int .u8).R 5 w4 w3.heap.size (fun _ => True) v4 x3 from hR); have L4 := Aside0.mk hB; clear hR hB)) | ((with_reducible refine gate_builtin (b := .append) (xs := #[.tmp 26, .tmp 28]) rfl ?_); at_builtin; refine lit_append w3.heap.size rfl (.tmp 26) (.tmp 28) 22 5 .u8 1 rfl Try.underlying22 Pol.info_u8 Nat.one_pos _ x3 [a2] 1 ?q1 rfl ?q3 ?q4 ?q5 ?q6 ?_; (case q1 => rfl); (case q3 => rfl); (case q4 => exact R4.out); (case q5 => exact L4.out.size); (case q6 => have := X3.out.2; omega); intro v5 w5 hR hB; have R5 := Aside0.mk hR; have L5 := Aside0.mk (L4.out.trans hB); clear hR hB) | ((with_reducible refine gate_builtin (b := .append) (xs := #[.tmp 29, .tmp 30]) rfl ?_); at_builtin; (refine Kd.R_append_row (w0 := w3) (Value.int .u8) (0 : Int) (h1 := fun _ => rfl) w3.heap.size rfl (.tmp 29) (.tmp 30) 22 5 (.int .u8 0) 1 rfl Try.underlying22 Pol.info_u8 rfl Nat.one_pos _ (x3 ++ [a2]) id A3 id.length c3 (fun _ => True) rfl rfl (fun _ _ => trivial) ?q1 ?q2 ?q3 ?q4 ?q5 ?_; (case q1 => exact R5.out); (case q2 => exact Kd.C_below C3.out.1 (B3.out.trans (L5.out.mono B3.out.size))); (case q3 => exact L5.out); (case q4 => exact (L5.out).size); (case q5 => have := X3.out.2; have := C3.out.2.2; rw [List.length_append]; simp only [List.length_cons, List.length_nil]; omega); intro v6 w6 hR hB _ _; obtain ⟨A6, c6, hv6, hc6, hC6⟩ := Kd.R_reads (show (Kd.int .u8).R 5 w6 w3.heap.size (fun _ => True) v6 y6 by rw [Y6.out.1]; exact hR); subst hv6; have C6 := Aside0.mk (And.intro hC6 hc6); have B6 := Aside0.mk (B3.out.trans (hB.mono B3.out.size)); have CA6 := Aside0.mk (Kd.C_below CA.out.1 hB); clear hR hB hc6 hC6)))
  refine (Sha.refSum_calls A6 c6 y6 w6 C6.out.1 C6.out.2 (Nat.le_trans Y6.out.2.2 (by decide))).mono ?_
  rintro e w7 ⟨v7, rfl, hR, hB⟩
  have hR := (show (Kd.int .u8).R 5 w7 w6.heap.size (fun _ => True) v7 (outD x3 m0 1) by
    have e : outD x3 m0 1 = Sha.shaF y6 := by rw [show (1 : Nat) = 0 + 1 from rfl, outD, outD, List.nil_append, if_pos rfl, ← Y6.out.2.1]
    rw [e]; exact hR)
  obtain ⟨A7, c7, hv7⟩ := Kd.R_slice hR
  rw [len_outD] at hv7
  subst hv7
  have R7 := Aside0.mk hR
  have B7 := Aside0.mk hB
  clear hR hB Z1 L1 R4 L4 R5 L5
  go_wp2_with fail
  go_loopw [13] (fun v w' => ∃ j : Nat, 1 ≤ j ∧ (32 * j < size + 32 ∨ j = 1) ∧ (∃ (Ao : Option Addr) (q co : Nat), v = .slice Ao q co ∧ q = 32 * j ∧ Aside0 ((Kd.int .u8).R 5 w' w6.heap.size (fun _ => True) (.slice Ao q co) (outD x3 m0 j))) ∧ Aside0 (Below w6.heap.size w6 w')) (fun v _ => 300 - lenV v)
  case atStart => exact ⟨1, by omega, .inr rfl, ⟨A7, _, c7, rfl, rfl, R7⟩, B7⟩
  case round =>
    obtain ⟨j, hj1, hj, ⟨Ao, q, co, rfl, hq, RO⟩, HB⟩ := hrel
    have HQ := Aside0.mk (And.intro hq (And.intro hj1 hj))
    have HQL := Aside0.mk (show q = (outD x3 m0 j).length by rw [len_outD]; exact hq)
    by_cases hlt : q < size
    · have k0 : (q : Int) < (size : Int) := by omega
      have HLT := Aside0.mk hlt
      obtain ⟨hql, hqc, hCO⟩ := Kd.R_reads' RO.out
      have CO := Aside0.mk (show (Kd.int .u8).C wr Ao q (outD x3 m0 j) by rw [hql]; exact hCO)
      have RO2 := Aside0.mk RO.out
      obtain ⟨y8, hy8⟩ : ∃ y, y = x3 ++ outD x3 m0 j := ⟨_, rfl⟩
      have Y8 := Aside0.mk (And.intro hy8 (show y8.length ≤ 40000 by rw [hy8, List.length_append, ← HQL.out]; have := X3.out.2; have := SZ.out; omega))
      have Z1 := Aside0.mk (lit_R wr wr.heap.size wr.heap.size 5 .u8 [] 0 rfl (Nat.le_refl _) rfl (by decide))
      have L1 := Aside0.mk (show Below wr.heap.size wr (wr.alloc (.cells #[] 5)) from (Below.refl _ _).alloc (Nat.le_refl _) _)
      clear hy8 hlt hq hj hj1 RO hql hqc hCO
      go_wp2_with (first | ((with_reducible refine gate_builtin (b := .append) (xs := #[.tmp 38, .tmp 39]) rfl ?_); at_builtin; (refine Kd.R_append_row (w0 := wr) (Value.int .u8) (0 : Int) (h1 := fun _ => rfl) wr.heap.size rfl (.tmp 38) (.tmp 39) 22 5 (.int .u8 0) 1 rfl Try.underlying22 Pol.info_u8 rfl Nat.one_pos _ [] x3 AA na cA (fun _ => True) rfl rfl (fun _ _ => trivial) ?q1 ?q2 ?q3 ?q4 ?q5 ?_; (case q1 => exact Z1.out); (case q2 => exact (by rw [CA.out.2]; exact Kd.C_below (Kd.C_below CA6.out HB.out) L1.out)); (case q3 => exact L1.out); (case q4 => exact (L1.out).size); (case q5 => have := X3.out.2; have := CA.out.2; simp only [List.length_nil]; omega); intro v9 w9 hR hB _ _; have R9 := Aside0.mk (show (Kd.int .u8).R 5 w9 wr.heap.size (fun _ => True) v9 x3 from hR); have L9 := Aside0.mk hB; clear hR hB)) | ((with_reducible refine gate_builtin (b := .append) (xs := #[.tmp 40, .tmp 41]) rfl ?_); at_builtin; (refine Kd.R_append_row (w0 := wr) (Value.int .u8) (0 : Int) (h1 := fun _ => rfl) wr.heap.size rfl (.tmp 40) (.tmp 41) 22 5 (.int .u8 0) 1 rfl Try.underlying22 Pol.info_u8 rfl Nat.one_pos _ x3 (outD x3 m0 j) Ao q co (fun _ => True) rfl rfl (fun _ _ => trivial) ?q1 ?q2 ?q3 ?q4 ?q5 ?_; (case q1 => exact R9.out); (case q2 => exact Kd.C_below CO.out L9.out); (case q3 => exact L9.out); (case q4 => exact (L9.out).size); (case q5 => have := X3.out.2; have := HLT.out; have := SZ.out; omega); intro v10 w10 hR hB _ _; obtain ⟨A10, c10, hv10, hc10, hC10⟩ := Kd.R_reads (show (Kd.int .u8).R 5 w10 wr.heap.size (fun _ => True) v10 y8 by rw [Y8.out.1]; exact hR); subst hv10; have C10 := Aside0.mk (And.intro hC10 hc10); have L10 := Aside0.mk hB; clear hR hB hc10 hC10)))
      refine (Sha.refSum_calls A10 c10 y8 w10 C10.out.1 C10.out.2 (Nat.le_trans Y8.out.2 (by decide))).mono ?_
      rintro e w11 ⟨v11, rfl, hR, hB⟩
      obtain ⟨d8, hd8⟩ : ∃ d, d = Sha.shaF y8 := ⟨_, rfl⟩
      rw [← hd8] at hR
      obtain ⟨A8, c8, rfl, hc8, hC8⟩ := Kd.R_reads hR
      have D8 := Aside0.mk (And.intro hd8 (show d8.length = 32 by rw [hd8, Sha.len_shaF]))
      have C8 := Aside0.mk (And.intro hC8 hc8)
      have BB8 := Aside0.mk (below_step L10.out hB)
      have BW8 := Aside0.mk (HB.out.trans (BB8.out.mono HB.out.size))
      have ED := Aside0.mk (show outD x3 m0 (j + 1) = outD x3 m0 j ++ d8 by rw [outD, if_neg (by have := HQ.out.2.1; omega), ← Y8.out.1, ← D8.out.1])
      clear hR hB hd8 hC8 hc8
      go_wp2_with ((with_reducible refine gate_builtin (b := .append) (xs := #[.tmp 37, .tmp 43]) rfl ?_); at_builtin; (refine Kd.R_append_row (w0 := w6) (Value.int .u8) (0 : Int) (h1 := fun _ => rfl) w6.heap.size rfl (.tmp 37) (.tmp 43) 22 5 (.int .u8 0) 1 rfl Try.underlying22 Pol.info_u8 rfl Nat.one_pos _ (outD x3 m0 j) d8 A8 d8.length c8 (fun _ => True) rfl rfl (fun _ _ => trivial) ?q1 ?q2 ?q3 ?q4 ?q5 ?_; (case q1 => exact Kd.R_below RO2.out BB8.out); (case q2 => exact C8.out.1); (case q3 => exact BW8.out); (case q4 => exact (BW8.out).size); (case q5 => have := D8.out.2; have := HLT.out; have := SZ.out; rw [← HQL.out]; omega); intro v9 w9 hR hB _ _; have hR := (show (Kd.int .u8).R 5 w9 w6.heap.size (fun _ => True) v9 (outD x3 m0 (j + 1)) by rw [ED.out]; exact hR); obtain ⟨A9, c9, hv9⟩ := Kd.R_slice hR; obtain ⟨q9, hq9⟩ : ∃ n, n = (outD x3 m0 (j + 1)).length := ⟨_, rfl⟩; rw [← hq9] at hv9; subst hv9; have R9 := Aside0.mk hR; have Q9 := Aside0.mk hq9; have B9 := Aside0.mk hB; clear hR hB hq9))
      have hq9 : q9 = 32 * (j + 1) := by rw [Q9.out, len_outD]
      refine ⟨⟨j + 1, by omega, .inl (by have := HLT.out; have := HQ.out; omega), ⟨A9, q9, c9, rfl, hq9, R9⟩, B9⟩, ?_⟩
      have := HQ.out
      have := HLT.out
      have := SZ.out
      simp only [lenV]
      omega
    · have k0 : ¬ (q : Int) < (size : Int) := by omega
      obtain ⟨I0, hI0⟩ : ∃ i, Try.prog.info? 5 = some i := ⟨_, rfl⟩
      obtain ⟨hql, hqc, hCO⟩ := Kd.R_reads' RO.out
      have hcut := cut_to (P := Try.prog) 22 5 .i64 Try.underlying22 hI0 Ao q co (size : Int) (by omega) (by omega) hqc
      rw [Int.toNat_natCast] at hcut
      have RT := Aside0.mk (Kd.R_take RO.out (show size ≤ (outD x3 m0 j).length by rw [← HQL.out]; omega))
      have BF := Aside0.mk (B6.out.trans (HB.out.mono B6.out.size))
      have HE := Aside0.mk (show (outD x3 m0 j).take size = deriveF k h a2 id size by rw [take_outD x3 m0 size j (by omega) hj, deriveF, ← X2.out.1, ← X3.out.1, ← M0.out.1])
      clear hI0 hql hqc hCO hlt hq hj hj1 RO
      go_wp2_with fail
      go_ret2
      exact ⟨_, rfl, by rw [← HE.out]; exact Kd.R_lower RT.out B6.out.size, BF.out⟩
end Go.Proofs.Ythahhjkokdillaa.Wire
