/-
  kdf.Derive, walked.
-/
import Derived.Test.YthahhjkokdillaaShaG
import Derived.Test.YthahhjkokdillaaMpi
namespace Go.Proofs.Ythahhjkokdillaa.Wire
open Go.RowKit Go.Proofs.YthahhjkokdillaaW.PrintWords Go.Proofs.YthahhjkokdillaaW.PrintLast Go.Proofs.YthahhjkokdillaaW.PrintMore Go.Proofs.Ythahhjkokdillaa.Arr Go.Proofs.Ythahhjkokdillaa.Bits
set_option linter.unusedVariables false
/-- So many sums, one behind the other; behind the first each is of what stands ahead of it. -/
def outD (ahead m0 : List Int) : Nat → List Int
  | 0 => []
  | j + 1 => outD ahead m0 j ++ Sha.shaF (ahead ++ (if j = 0 then m0 else outD ahead m0 j))
def moreD (ahead m0 : List Int) (j : Nat) : List Int := if j = 0 then m0 else outD ahead m0 j
theorem len_outD (ahead m0 : List Int) : ∀ j, (outD ahead m0 j).length = 32 * j
  | 0 => rfl
  | j + 1 => by rw [outD, List.length_append, len_outD ahead m0 j, Sha.len_shaF]; omega
/-- A key. -/
def deriveF (k h : List Int) (letter : Int) (id : List Int) (size : Nat) : List Int := (outD (textF (mpS k) ++ h) ([letter] ++ id) ((size + 31) / 32)).take size
theorem len_deriveF (k h : List Int) (letter : Int) (id : List Int) (size : Nat) : (deriveF k h letter id size).length = size := by
  rw [deriveF, List.length_take, len_outD]; omega
theorem ws_new (w : World) (g : Nat) (hg : g = w.heap.size) : WS (w.alloc (.cells #[.slice none 0 0] 71)) g w.heap.size (fun k => k ≠ g) (.slice none 0 0) [] := by
  subst hg
  refine ⟨heap_alloc_new w _, Kd.R_mono (Kd.R_nil _ _ _ _ _) (fun _ h => h), fun h => h rfl, fun k hk => ?_, ?_⟩
  · rw [World.size_alloc] at hk; omega
  · rw [World.size_alloc]; omega
set_option maxHeartbeats 8000000
set_option maxRecDepth 100000
theorem derive_calls (A0 : Option Addr) (c0 : Nat) (k : List Int) (A1 : Option Addr) (c1 : Nat) (h : List Int) (a2 : Int) (A3 : Option Addr) (c3 : Nat) (id : List Int) (size : Nat) (w : World)
    (hr0 : (Kd.int .u8).C w A0 k.length k) (hc0 : k.length ≤ c0) (hB0 : Bytes k) (hl0 : k.length ≤ 10000) (hr1 : (Kd.int .u8).C w A1 h.length h) (hc1 : h.length ≤ c1) (hl1 : h.length ≤ 10000) (hr3 : (Kd.int .u8).C w A3 id.length id) (hc3 : id.length ≤ c3) (hl3 : id.length ≤ 10000) (hsz : size ≤ 256) :
    Calls Try.prog 19 #[.slice A0 k.length c0, .slice A1 h.length c1, .int .u8 a2, .slice A3 id.length c3, .int .i64 (size : Int)] w fun e w' => ∃ v, e = .returned (.tuple #[v, .int .i64 0]) ∧ (Kd.int .u8).R 5 w' w.heap.size (fun _ => True) v (deriveF k h a2 id size) ∧ Below w.heap.size w w' := by
  have C0 := Aside0.mk (And.intro hr0 (And.intro hc0 (And.intro hB0 hl0)))
  have C1 := Aside0.mk (And.intro hr1 (And.intro hc1 hl1))
  have C3 := Aside0.mk (And.intro hr3 (And.intro hc3 hl3))
  have SZ := Aside0.mk hsz
  have d0 : ¬ (size : Int) < 0 := by omega
  have d1 : ¬ (256 : Int) < (size : Int) := by omega
  have d2 : decide ((size : Int) < 0) = false := decide_eq_false d0
  have d3 : decide (256 < size) = false := decide_eq_false (by omega)
  obtain ⟨g, hg⟩ : ∃ g, g = w.heap.size := ⟨_, rfl⟩
  have HG := Aside0.mk hg
  clear hr0 hc0 hB0 hl0 hr1 hc1 hl1 hr3 hc3 hl3 hsz
  go_enter Try.func19, Try.ntmps19
  go_wp2_with fail
  refine (newWriter_calls w).mono ?_
  rintro e w1 ⟨rfl, hw1⟩
  rw [← hg]
  have W1 := Aside0.mk (show WS w1 g w.heap.size (fun k => k ≠ g) (.slice none 0 0) [] by rw [hw1]; exact ws_new w g hg)
  have B1 := Aside0.mk (show Below w.heap.size w w1 by rw [hw1]; exact (Below.refl _ _).alloc (Nat.le_refl _) _)
  clear hw1 hg d0 d1 d2 d3
  go_wp2_with fail
  refine (mpint_calls A0 c0 k (Kd.C_below C0.out.1 B1.out) C0.out.2.1 C0.out.2.2.1 (Nat.le_trans C0.out.2.2.2 (by decide)) W1.out (by decide)).mono ?_
  rintro e w2 ⟨rfl, v2, H2, F2⟩
  obtain ⟨x2, hx2⟩ : ∃ x, x = textF (mpS k) := ⟨_, rfl⟩
  rw [List.nil_append, ← hx2] at H2
  have W2 := Aside0.mk H2
  have B2 := Aside0.mk (B1.out.trans (F2.below (by rw [HG.out]; exact Nat.le_refl _) B1.out.size))
  have X2 := Aside0.mk (And.intro hx2 (show x2.length ≤ 10005 by rw [hx2, len_textF]; have := len_mpS k; have := C0.out.2.2.2; omega))
  clear H2 F2 hx2
  go_wp2_with fail
  refine (raw_calls A1 c1 h (Kd.C_below C1.out.1 B2.out) (Nat.le_trans C1.out.2.2 (by decide)) W2.out (Nat.le_trans X2.out.2 (by decide))).mono ?_
  rintro e w3 ⟨rfl, v3, H3, F3⟩
  obtain ⟨x3, hx3⟩ : ∃ x, x = x2 ++ h := ⟨_, rfl⟩
  rw [← hx3] at H3
  have W3 := Aside0.mk H3
  have B3 := Aside0.mk (B2.out.trans (F3.below (by rw [HG.out]; exact Nat.le_refl _) B2.out.size))
  have X3 := Aside0.mk (And.intro hx3 (show x3.length ≤ 20005 by rw [hx3, List.length_append]; have := X2.out.2; have := C1.out.2.2; omega))
  clear H3 F3 hx3
  go_wp2_with fail
  refine (done_calls W3.out (Nat.le_trans X3.out.2 (by decide))).mono ?_
  rintro e w4 ⟨v4, rfl, hR, hB⟩
  obtain ⟨AA, cA, hv4, hcA, hCA⟩ := Kd.R_reads hR
  obtain ⟨na, hna⟩ : ∃ n, n = x3.length := ⟨_, rfl⟩
  rw [← hna] at hv4
  subst hv4
  have CA := Aside0.mk (And.intro hCA (And.intro hcA hna))
  have B4 := Aside0.mk (below_step B3.out hB)
  clear hR hB hcA hCA hna
  have Z4 := Aside0.mk (lit_R w4 w4.heap.size w4.heap.size 5 .u8 [a2] 1 rfl (Nat.le_refl _) rfl (by decide))
  have BL := Aside0.mk (show Below w4.heap.size w4 (w4.alloc (.cells (nums .u8 [a2]).toArray 5)) from (Below.refl _ _).alloc (Nat.le_refl _) _)
  obtain ⟨m0, hm0⟩ : ∃ m, m = [a2] ++ id := ⟨_, rfl⟩
  have M0 := Aside0.mk (And.intro hm0 (show m0.length ≤ 10001 by rw [hm0, List.length_append]; have := C3.out.2.2; simp only [List.length_cons, List.length_nil]; omega))
  clear hm0
  go_wp2_with (at_builtin; (refine Kd.R_append_row (w0 := w4) (Value.int .u8) (0 : Int) (h1 := fun _ => rfl) w4.heap.size rfl (.tmp 32) (.tmp 33) 22 5 (.int .u8 0) 1 rfl Try.underlying22 Pol.info_u8 rfl Nat.one_pos _ [a2] id A3 id.length c3 (fun _ => True) rfl rfl (fun _ _ => trivial) ?q1 ?q2 ?q3 ?q4 ?q5 ?_; (case q1 => exact Z4.out); (case q2 => exact Kd.C_below C3.out.1 (B4.out.trans (BL.out.mono B4.out.size))); (case q3 => exact BL.out); (case q4 => exact BL.out.size); (case q5 => have := C3.out.2.2; simp only [List.length_cons, List.length_nil]; omega); intro v5 w5 hR hB _ _; obtain ⟨A5, c5, hv5, hc5, hC5⟩ := Kd.R_reads (show (Kd.int .u8).R 5 w5 w4.heap.size (fun _ => True) v5 m0 by rw [M0.out.1]; exact hR); obtain ⟨n5, hn5⟩ : ∃ n, n = m0.length := ⟨_, rfl⟩; rw [← hn5] at hv5; subst hv5; have C5 := Aside0.mk (And.intro hC5 (And.intro hc5 hn5)); have B5 := Aside0.mk (below_step B4.out hB); have CA5 := Aside0.mk (Kd.C_below CA.out.1 hB); clear hR hB hc5 hC5 hn5))
  go_loopw [14, 15] (fun v14 v15 w' => ∃ j : Nat, 32 * j < size + 32 ∧ (∃ (Ao : Option Addr) (q co : Nat), v14 = .slice Ao q co ∧ q = 32 * j ∧ Aside0 ((Kd.int .u8).R 5 w' w5.heap.size (fun _ => True) (.slice Ao q co) (outD x3 m0 j))) ∧ (∃ (Am : Option Addr) (mm cm : Nat), v15 = .slice Am mm cm ∧ Aside0 ((Kd.int .u8).C w' Am (moreD x3 m0 j).length (moreD x3 m0 j) ∧ (moreD x3 m0 j).length ≤ cm ∧ mm = (moreD x3 m0 j).length)) ∧ Aside0 (Below w5.heap.size w5 w')) (fun v14 _ _ => 300 - lenV v14)
  case atStart => exact ⟨0, by omega, ⟨none, 0, 0, rfl, rfl, ⟨Kd.R_nil _ _ _ _ _⟩⟩, ⟨A5, n5, c5, rfl, ⟨C5.out⟩⟩, ⟨Below.refl _ _⟩⟩
  case round =>
    obtain ⟨j, hj, ⟨Ao, q, co, rfl, hq, RO⟩, ⟨Am, mm, cm, rfl, CM⟩, HB⟩ := hrel
    have HQ := Aside0.mk (And.intro hq hj)
    have HQL := Aside0.mk (show q = (outD x3 m0 j).length by rw [len_outD]; exact hq)
    by_cases hlt : q < size
    · have k0 : (q : Int) < (size : Int) := by omega
      have HLT := Aside0.mk hlt
      obtain ⟨mo, hmo⟩ : ∃ m, m = moreD x3 m0 j := ⟨_, rfl⟩
      rw [← hmo] at CM
      have ML := Aside0.mk (show mo.length ≤ 10001 by rw [hmo]; unfold moreD; split; (exact M0.out.2); (rw [len_outD]; have := SZ.out; omega))
      have B6 := Aside0.mk (show Below wr.heap.size wr (wr.alloc (.cells #[.slice AA na cA, .slice Am mm cm] 22)) from (Below.refl _ _).alloc (Nat.le_refl _) _)
      have CC := Aside0.mk (concat2 wr.heap.size AA Am cA cm x3 mo (wr.alloc (.cells #[.slice AA na cA, .slice Am mm cm] 22)) (by rw [← CA.out.2.2]; exact World.cell?_alloc_new ..) (by rw [← CM.out.2.2]; exact World.cell?_alloc_new ..) (Kd.C_below (Kd.C_below CA5.out HB.out) B6.out) (Kd.C_below CM.out.1 B6.out) (by have := X3.out.2; have := ML.out; omega))
      have HMO := Aside0.mk hmo
      clear hmo hq hj hlt
      have RO2 := Aside0.mk RO.out
      clear RO
      go_wp2_with fail
      refine CC.out.mono ?_
      rintro e w7 ⟨v7, rfl, hR, hB⟩
      obtain ⟨y7, hy7⟩ : ∃ y, y = x3 ++ mo := ⟨_, rfl⟩
      rw [← hy7] at hR
      obtain ⟨A7, c7, rfl, hc7, hC7⟩ := Kd.R_reads hR
      have Y7 := Aside0.mk (And.intro hy7 (show y7.length ≤ 40000 by rw [hy7, List.length_append]; have := X3.out.2; have := ML.out; omega))
      have C7 := Aside0.mk (And.intro hC7 hc7)
      have BB7 := Aside0.mk (below_step B6.out hB)
      clear hR hB hy7 hC7 hc7 CC B6
      go_wp2_with fail
      refine (Sha.sum_calls A7 c7 y7 w7 C7.out.1 C7.out.2 (Nat.le_trans Y7.out.2 (by decide))).mono ?_
      rintro e w8 ⟨v8, rfl, hR, hB⟩
      obtain ⟨d8, hd8⟩ : ∃ d, d = Sha.shaF y7 := ⟨_, rfl⟩
      rw [← hd8] at hR
      obtain ⟨A8, c8, rfl, hc8, hC8⟩ := Kd.R_reads hR
      have D8 := Aside0.mk (And.intro hd8 (show d8.length = 32 by rw [hd8, Sha.len_shaF]))
      have C8 := Aside0.mk (And.intro hC8 hc8)
      have BB8 := Aside0.mk (below_step BB7.out hB)
      have BW8 := Aside0.mk (HB.out.trans (BB8.out.mono HB.out.size))
      clear hR hB hd8 hC8 hc8
      go_wp2_with ((with_reducible refine gate_builtin (b := .append) (xs := #[.tmp 39, .tmp 44]) rfl ?_); at_builtin; (refine Kd.R_append_row (w0 := w5) (Value.int .u8) (0 : Int) (h1 := fun _ => rfl) w5.heap.size rfl (.tmp 39) (.tmp 44) 22 5 (.int .u8 0) 1 rfl Try.underlying22 Pol.info_u8 rfl Nat.one_pos _ (outD x3 m0 j) d8 A8 d8.length c8 (fun _ => True) rfl rfl (fun _ _ => trivial) ?q1 ?q2 ?q3 ?q4 ?q5 ?_; (case q1 => exact Kd.R_below RO2.out BB8.out); (case q2 => exact C8.out.1); (case q3 => exact BW8.out); (case q4 => exact BW8.out.size); (case q5 => have := D8.out.2; have := HQ.out; have := SZ.out; rw [← HQL.out]; omega); intro v9 w9 hR hB _ _; obtain ⟨A9, c9, hv9, hc9, hC9⟩ := Kd.R_reads (show (Kd.int .u8).R 5 w9 w5.heap.size (fun _ => True) v9 (outD x3 m0 (j + 1)) by rw [outD, show (if j = 0 then m0 else outD x3 m0 j) = mo from HMO.out.symm, ← Y7.out.1, ← D8.out.1]; exact hR); obtain ⟨q9, hq9⟩ : ∃ n, n = (outD x3 m0 (j + 1)).length := ⟨_, rfl⟩; rw [← hq9] at hv9; have R9 := Aside0.mk (show (Kd.int .u8).R 5 w9 w5.heap.size (fun _ => True) v9 (outD x3 m0 (j + 1)) by rw [outD, show (if j = 0 then m0 else outD x3 m0 j) = mo from HMO.out.symm, ← Y7.out.1, ← D8.out.1]; exact hR); subst hv9; have C9 := Aside0.mk (And.intro hC9 hc9); have Q9 := Aside0.mk hq9; have B9 := Aside0.mk hB; clear hR hB hC9 hc9 hq9))
      have hq9 : q9 = 32 * (j + 1) := by rw [Q9.out, len_outD]
      have hm9 : moreD x3 m0 (j + 1) = outD x3 m0 (j + 1) := if_neg (by omega)
      refine ⟨⟨j + 1, by have := HLT.out; have := HQ.out; omega, ⟨A9, q9, c9, rfl, hq9, R9⟩, ⟨A9, q9, c9, rfl, ⟨by rw [hm9]; exact ⟨C9.out.1, C9.out.2, Q9.out⟩⟩⟩, B9⟩, ?_⟩
      have := HQ.out
      simp only [lenV]
      have := HLT.out
      have := SZ.out
      omega
    · have hj2 : j = (size + 31) / 32 := by omega
      have k0 : ¬ (q : Int) < (size : Int) := by omega
      obtain ⟨I0, hI0⟩ : ∃ i, Try.prog.info? 5 = some i := ⟨_, rfl⟩
      obtain ⟨hql, hqc, hCO⟩ := Kd.R_reads' RO.out
      have hcut := cut_to (P := Try.prog) 22 5 .i64 Try.underlying22 hI0 Ao q co (size : Int) (by omega) (by omega) hqc
      rw [Int.toNat_natCast] at hcut
      have hCt := Kd.C_take (m := size) hCO (by rw [← hql]; omega)
      obtain ⟨o12, ho12⟩ : ∃ o, o = (outD x3 m0 j).take size := ⟨_, rfl⟩
      have hol : o12.length = size := by rw [ho12, List.length_take, ← hql]; omega
      rw [← ho12] at hCt
      have CK := slices_Clone.calls Ao co o12 wr hCt (by rw [hol]; omega) (by rw [hol]; have := SZ.out; omega)
      rw [hol] at CK
      replace CK := Aside0.mk CK
      have HO := Aside0.mk (And.intro hol (show o12 = deriveF k h a2 id size by rw [ho12, deriveF, ← X2.out.1, ← X3.out.1, ← M0.out.1, hj2]))
      clear hI0 hCt hCO hql hqc ho12 hol hj2 hq hj hlt RO
      have BF := Aside0.mk (B5.out.trans (HB.out.mono B5.out.size))
      go_wp2_with fail
      refine CK.out.mono ?_
      rintro e w10 ⟨v10, rfl, hR, hB⟩
      have R10 := Aside0.mk hR
      have B10 := Aside0.mk (below_step BF.out hB)
      clear hR hB hcut
      go_wp2_with fail
      go_ret2
      exact ⟨v10, rfl, by rw [← HO.out.2]; exact Kd.R_lower R10.out BF.out.size, B10.out⟩
end Go.Proofs.Ythahhjkokdillaa.Wire
