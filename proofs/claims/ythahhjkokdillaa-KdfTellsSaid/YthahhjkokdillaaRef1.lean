/-
  The document's U32, Text, Bare, Mpint (strongroomref1), walked.
-/
import Derived.Test.YthahhjkokdillaaMpi
namespace Go.Proofs.Ythahhjkokdillaa.Wire
open Go.RowKit Go.Proofs.YthahhjkokdillaaW.PrintWords Go.Proofs.YthahhjkokdillaaW.PrintLast Go.Proofs.YthahhjkokdillaaW.PrintMore Go.Proofs.Ythahhjkokdillaa.Arr Go.Proofs.Ythahhjkokdillaa.Bits
set_option linter.unusedVariables false
variable {w : World}
theorem be4 (n : Int) : beB n 4 = [n / 16777216 % 256, n / 65536 % 256, n / 256 % 256, n % 256] := by
  simp [beB]
set_option maxHeartbeats 8000000
set_option maxRecDepth 100000
theorem rU32_calls (A0 : Option Addr) (c0 : Nat) (l0 : List Int) (n : Int) (hr0 : (Kd.int .u8).C w A0 l0.length l0) (hl0 : l0.length ≤ 4000000) :
    Calls Try.prog 55 #[.slice A0 l0.length c0, .int .u32 n] w fun e w' => ∃ v, e = .returned v ∧ (Kd.int .u8).R 5 w' w.heap.size (fun _ => True) v (l0 ++ beB n 4) ∧ Below w.heap.size w w' := by
  have C0 := Aside0.mk hr0
  have HL := Aside0.mk hl0
  have E4 := Aside0.mk (be4 n)
  clear hr0 hl0
  have Z1 := Aside0.mk (lit_R w w.heap.size w.heap.size 5 .u8 [] 0 rfl (Nat.le_refl _) rfl (by decide))
  have L1 := Aside0.mk (show Below w.heap.size w (w.alloc (.cells #[] 5)) from (Below.refl _ _).alloc (Nat.le_refl _) _)
  go_enter Try.func55, Try.ntmps55
  go_wp2_with (first | ((with_reducible refine gate_builtin (b := .append) (xs := #[.tmp 5, .tmp 6]) rfl ?_); at_builtin; (refine Kd.R_append_row (w0 := w) (Value.int .u8) (0 : Int) (h1 := fun _ => rfl) w.heap.size rfl (.tmp 5) (.tmp 6) 22 5 (.int .u8 0) 1 rfl Try.underlying22 Pol.info_u8 rfl Nat.one_pos _ [] l0 A0 l0.length c0 (fun _ => True) rfl rfl (fun _ _ => trivial) ?q1 ?q2 ?q3 ?q4 ?q5 ?_; (case q1 => exact Z1.out); (case q2 => exact Kd.C_below C0.out L1.out); (case q3 => exact L1.out); (case q4 => exact (L1.out).size); (case q5 => have := HL.out; simp only [List.length_nil]; omega); intro v2 w2 hR hB _ _; have R2 := Aside0.mk (show (Kd.int .u8).R 5 w2 w.heap.size (fun _ => True) v2 l0 from hR); have L2 := Aside0.mk hB; clear hR hB)) | ((with_reducible refine gate_builtin (b := .append) (xs := #[.tmp 7, .tmp 19]) rfl ?_); at_builtin; refine lit_append w.heap.size rfl (.tmp 7) (.tmp 19) 22 5 .u8 1 rfl Try.underlying22 Pol.info_u8 Nat.one_pos _ l0 [n / 16777216 % 256, n / 65536 % 256, n / 256 % 256, n % 256] 4 ?q1 rfl ?q3 ?q4 ?q5 ?q6 ?_; (case q1 => rfl); (case q3 => rfl); (case q4 => exact R2.out); (case q5 => exact L2.out.size); (case q6 => have := HL.out; omega); intro v3 w3 hR hB; have R3 := Aside0.mk (show (Kd.int .u8).R 5 w3 w.heap.size (fun _ => True) v3 (l0 ++ beB n 4) by rw [E4.out]; exact hR); have L3 := Aside0.mk (L2.out.trans hB); clear hR hB))
  go_ret
  exact ⟨_, rfl, R3.out, L3.out⟩
theorem rText_calls (A0 : Option Addr) (c0 : Nat) (l0 : List Int) (s : ByteArray) (hr0 : (Kd.int .u8).C w A0 l0.length l0) (hl0 : l0.length ≤ 2000000) (hs : s.size ≤ 2000000) :
    Calls Try.prog 47 #[.slice A0 l0.length c0, .string s] w fun e w' => ∃ v, e = .returned v ∧ (Kd.int .u8).R 5 w' w.heap.size (fun _ => True) v (l0 ++ textF (bytesOf s)) ∧ Below w.heap.size w w' := by
  have CU := Aside0.mk (rU32_calls A0 c0 l0 (s.size : Int) hr0 (by omega))
  have HL := Aside0.mk (And.intro hl0 hs)
  have k0 : IntKind.u32.wrap (s.size : Int) = (s.size : Int) := by simp [IntKind.wrap, IntKind.bits, IntKind.signed]; omega
  have k1 : (s.size : Int) % 4294967296 = (s.size : Int) := by omega
  clear hr0 hl0 hs
  go_enter Try.func47, Try.ntmps47
  go_wp2_with fail
  refine CU.out.mono ?_
  rintro e w2 ⟨v2, rfl, hR, hB⟩
  obtain ⟨zs, hzs⟩ : ∃ z, z = l0 ++ beB (s.size : Int) 4 := ⟨_, rfl⟩
  rw [← hzs] at hR
  have R2 := Aside0.mk hR
  have B2 := Aside0.mk hB
  have HZ := Aside0.mk (And.intro hzs (show zs.length ≤ 2000004 by rw [hzs, List.length_append, len_beB]; have := HL.out.1; omega))
  clear hR hB hzs k0 k1
  go_wp2_with (at_builtin; refine append_strR w.heap.size rfl (.tmp 9) (.tmp 10) 22 9 5 rfl Try.underlying22 Try.underlying9 Pol.info_u8 v2 zs s (fun _ => True) rfl rfl (fun _ _ => trivial) R2.out B2.out.size (by have := HZ.out.2; have := HL.out.2; omega) ?_; intro v3 w3 hR hg; have R3 := Aside0.mk hR; have B3 := Aside0.mk (B2.out.grown hg B2.out.size (Kd.R_base R2.out)); clear hR hg)
  go_ret
  refine ⟨_, rfl, ?_, B3.out⟩
  have h := R3.out
  rw [HZ.out.1] at h
  rw [textF, bytesOf_length, ← List.append_assoc]
  exact h
theorem rBare_calls (A0 : Option Addr) (c0 : Nat) (l0 : List Int) (hr0 : (Kd.int .u8).C w A0 l0.length l0) (hc0 : l0.length ≤ c0) (hl0 : l0.length ≤ 2000000) :
    Calls Try.prog 56 #[.slice A0 l0.length c0] w fun e w' => ∃ v, e = .returned v ∧ (Kd.int .u8).R 5 w' w.heap.size (fun _ => True) v (bare l0) ∧ Below w.heap.size w w' := by
  have C0 := Aside0.mk (And.intro hr0 hc0)
  obtain ⟨n, hn⟩ : ∃ n, n = l0.length := ⟨_, rfl⟩
  have HL := Aside0.mk (And.intro hn hl0)
  rw [← hn]
  clear hr0 hl0 hc0 hn
  have Z1 := Aside0.mk (lit_R w w.heap.size w.heap.size 5 .u8 [] 0 rfl (Nat.le_refl _) rfl (by decide))
  have L1 := Aside0.mk (show Below w.heap.size w (w.alloc (.cells #[] 5)) from (Below.refl _ _).alloc (Nat.le_refl _) _)
  go_enter Try.func56, Try.ntmps56
  go_wp2_with fail
  go_loopw [3] (fun v w' => ∃ i : Nat, i ≤ n ∧ v = .int .i64 (i : Int) ∧ Aside0 (bare (l0.drop i) = bare l0) ∧ w' = w) (fun v _ => n - (intOf v).toNat)
  case atStart => exact ⟨0, by omega, rfl, ⟨rfl⟩, by first | rfl | trivial⟩
  case round =>
    obtain ⟨i, hi, rfl, HBA, hw⟩ := hrel
    replace hw := hw.symm
    subst hw
    by_cases hlt : i < n
    · have i0 : (i : Int) < (n : Int) := by omega
      have hlen : i < l0.length := by rw [← HL.out.1]; exact hlt
      obtain ⟨ad, hA, hc⟩ := Kd.at_int C0.out.1 (i : Int) (by omega) (by omega)
      subst hA
      rw [Int.toNat_natCast] at hc
      obtain ⟨x, hx⟩ : ∃ x, x = rd l0 (i : Int) := ⟨_, rfl⟩
      rw [← hx] at hc
      have hd : l0.drop i = x :: l0.drop (i + 1) := by rw [List.drop_eq_getElem_cons hlen, hx, rd_nat, List.getD_eq_getElem?_getD, List.getElem?_eq_getElem hlen]; rfl
      have HD := Aside0.mk hd
      have HI := Aside0.mk hlt
      by_cases hz : x = 0
      · have z1 : (x == 0) = true := by simp [hz]
        have HZ := Aside0.mk hz
        have hw1 : wrap64 ((i : Int) + 1) = ((i + 1 : Nat) : Int) := by have := HL.out; rw [wrap_id (by omega) (by omega)]; omega
        have HW1 := Aside0.mk hw1
        clear hd hx hz hlen hlt hw1
        go_wp2_with fail
        rw [HW1.out]
        refine ⟨⟨i + 1, HI.out, congrArg (Value.int .i64) rfl, ⟨?_⟩, trivial⟩, ?_⟩
        · have h := HBA.out
          rw [HD.out, HZ.out, bare, if_pos rfl] at h
          exact h
        · have := HI.out; simp only [intOf]; omega
      · have z1 : (x == 0) = false := by simp [hz]
        have HZ := Aside0.mk hz
        clear hd hx hz hlen hlt
        have hci : ¬ c0 = i := by have := C0.out.2; have := HL.out.1; have := HI.out; omega
        have hci2 : ¬ i = c0 := fun e => hci e.symm
        have hin : i ≤ n := Nat.le_of_lt HI.out
        have CD := Aside0.mk (show (Kd.int .u8).C w (some (ad.add i)) (n - i) (l0.drop i) from by
          have h := Kd.C_drop (m := i) C0.out.1 (by have := HL.out.1; omega) C0.out.2
          rw [if_neg hci, List.length_drop, ← HL.out.1, show i * (Kd.int .u8).sz = i from Nat.mul_one i] at h
          exact h)
        have hnz : ¬ n - i = 0 := by have := HI.out; omega
        go_wp2_with ((with_reducible refine gate_builtin (b := .append) (xs := #[.tmp 17, .tmp 20]) rfl ?_); at_builtin; (refine Kd.R_append_row (w0 := w) (Value.int .u8) (0 : Int) (h1 := fun _ => rfl) w.heap.size rfl (.tmp 17) (.tmp 20) 22 5 (.int .u8 0) 1 rfl Try.underlying22 Pol.info_u8 rfl Nat.one_pos _ [] (l0.drop i) _ _ _ (fun _ => True) rfl rfl (fun _ _ => trivial) ?q1 ?q2 ?q3 ?q4 ?q5 ?_; (case q1 => exact Z1.out); (case q2 => exact Kd.C_below CD.out L1.out); (case q3 => exact L1.out); (case q4 => exact (L1.out).size); (case q5 => have := HL.out; have := HI.out; simp only [List.length_nil]; omega); intro v2 w2 hR hB _ _; have R2 := Aside0.mk (show (Kd.int .u8).R 5 w2 w.heap.size (fun _ => True) v2 (l0.drop i) from hR); have L2 := Aside0.mk hB; clear hR hB))
        go_ret
        refine ⟨_, rfl, ?_, L2.out⟩
        have h := HBA.out
        rw [HD.out, bare, if_neg HZ.out, ← HD.out] at h
        rw [← h]
        exact R2.out
    · obtain rfl : i = n := by omega
      have hnil : l0.drop i = [] := by rw [HL.out.1]; exact List.drop_length
      have HNIL := Aside0.mk hnil
      have CD := Aside0.mk (fun (A : Option Addr) => show (Kd.int .u8).C w A 0 [] from Kd.C_of_reads (enc := Value.int .u8) (d := (0 : Int)) (h1 := fun _ => rfl) ⟨rfl, by simp, fun h => by simp at h⟩)
      clear hnil hlt hi
      by_cases hci : c0 = i
      · subst hci
        go_wp2_with ((with_reducible refine gate_builtin (b := .append) (xs := #[.tmp 17, .tmp 20]) rfl ?_); at_builtin; (refine Kd.R_append_row (w0 := w) (Value.int .u8) (0 : Int) (h1 := fun _ => rfl) w.heap.size rfl (.tmp 17) (.tmp 20) 22 5 (.int .u8 0) 1 rfl Try.underlying22 Pol.info_u8 rfl Nat.one_pos _ [] [] _ 0 _ (fun _ => True) rfl rfl (fun _ _ => trivial) ?q1 ?q2 ?q3 ?q4 ?q5 ?_; (case q1 => exact Z1.out); (case q2 => exact Kd.C_below (CD.out _) L1.out); (case q3 => exact L1.out); (case q4 => exact (L1.out).size); (case q5 => simp); intro v2 w2 hR hB _ _; have R2 := Aside0.mk (show (Kd.int .u8).R 5 w2 w.heap.size (fun _ => True) v2 [] from hR); have L2 := Aside0.mk hB; clear hR hB))
        go_ret
        refine ⟨_, rfl, ?_, L2.out⟩
        rw [← HBA.out, HNIL.out]
        exact R2.out
      · have hci2 : ¬ i = c0 := fun e => hci e.symm
        go_wp2_with ((with_reducible refine gate_builtin (b := .append) (xs := #[.tmp 17, .tmp 20]) rfl ?_); at_builtin; (refine Kd.R_append_row (w0 := w) (Value.int .u8) (0 : Int) (h1 := fun _ => rfl) w.heap.size rfl (.tmp 17) (.tmp 20) 22 5 (.int .u8 0) 1 rfl Try.underlying22 Pol.info_u8 rfl Nat.one_pos _ [] [] _ 0 _ (fun _ => True) rfl rfl (fun _ _ => trivial) ?q1 ?q2 ?q3 ?q4 ?q5 ?_; (case q1 => exact Z1.out); (case q2 => exact Kd.C_below (CD.out _) L1.out); (case q3 => exact L1.out); (case q4 => exact (L1.out).size); (case q5 => simp); intro v2 w2 hR hB _ _; have R2 := Aside0.mk (show (Kd.int .u8).R 5 w2 w.heap.size (fun _ => True) v2 [] from hR); have L2 := Aside0.mk hB; clear hR hB))
        go_ret
        refine ⟨_, rfl, ?_, L2.out⟩
        rw [← HBA.out, HNIL.out]
        exact R2.out
theorem bytes_bare : ∀ l, Bytes l → Bytes (bare l)
  | [], h => h
  | x :: r, h => by
    rw [bare]
    split
    · exact bytes_bare r (fun z hz => h z (List.mem_cons_of_mem _ hz))
    · exact h
theorem rMpint_calls (A0 : Option Addr) (c0 : Nat) (l0 : List Int) (A1 : Option Addr) (c1 : Nat) (l1 : List Int) (hr0 : (Kd.int .u8).C w A0 l0.length l0) (hl0 : l0.length ≤ 2000000) (hr1 : (Kd.int .u8).C w A1 l1.length l1) (hc1 : l1.length ≤ c1) (hl1 : l1.length ≤ 100000) (hb1 : Bytes l1) :
    Calls Try.prog 48 #[.slice A0 l0.length c0, .slice A1 l1.length c1] w fun e w' => ∃ v, e = .returned v ∧ (Kd.int .u8).R 5 w' w.heap.size (fun _ => True) v (l0 ++ textF (mpS l1)) ∧ Below w.heap.size w w' := by
  obtain ⟨y, hy⟩ : ∃ y, y = bare l1 := ⟨_, rfl⟩
  have HY := Aside0.mk (And.intro hy (And.intro (show Bytes y by rw [hy]; exact bytes_bare l1 hb1) (show y.length ≤ 100000 by rw [hy]; have := len_bare l1; omega)))
  have CB := Aside0.mk (rBare_calls A1 c1 l1 hr1 hc1 (by omega))
  have C0 := Aside0.mk (And.intro hr0 hl0)
  clear hr0 hl0 hr1 hc1 hl1 hb1
  go_enter Try.func48, Try.ntmps48
  go_wp2_with fail
  refine CB.out.mono ?_
  rintro e w2 ⟨v2, rfl, hR, hB⟩
  rw [← hy] at hR
  obtain ⟨A2, c2, hv2, hc2, hC2⟩ := Kd.R_reads hR
  obtain ⟨n2, hn2⟩ : ∃ n, n = y.length := ⟨_, rfl⟩
  rw [← hn2] at hv2
  subst hv2
  have C2 := Aside0.mk (And.intro hC2 (And.intro hc2 hn2))
  have B2 := Aside0.mk hB
  have C0 := Aside0.mk (And.intro (Kd.C_below C0.out.1 hB) C0.out.2)
  have q0 : (convert 22 9 (.slice A2 n2 c2)).run Try.prog w2 = .ok (.string (strOfNums y)) w2 := by
    have h := Kd.C_string (P := Try.prog) (c := c2) Try.underlying22 Try.underlying5 Try.underlying9 hC2
    rw [← hn2] at h
    exact h
  clear hR hB hc2 hC2 hy
  have fin : ∀ (z : List Int) (W w3 : World) (v3 : Value), z = mpS l1 → Bytes z → Below w.heap.size w W → (Kd.int .u8).R 5 w3 W.heap.size (fun _ => True) v3 (l0 ++ textF (bytesOf (strOfNums z))) → Below W.heap.size W w3 → (Kd.int .u8).R 5 w3 w.heap.size (fun _ => True) v3 (l0 ++ textF (mpS l1)) ∧ Below w.heap.size w w3 := by
    intro z W w3 v3 hz hzb hb hR hB
    subst hz
    rw [bytesOf_str _ hzb] at hR
    exact ⟨Kd.R_lower hR hb.size, below_step hb hB⟩
  have FN := Aside0.mk fin
  clear fin
  rcases y with _ | ⟨x, r⟩
  · obtain rfl : n2 = 0 := hn2
    have hb : [] = mpS l1 := by unfold mpS; rw [← HY.out.1]
    have CT := Aside0.mk (rText_calls A0 c0 l0 (strOfNums []) C0.out.1 C0.out.2 (by rw [strOfNums_size]; simp))
    have HB := Aside0.mk hb
    clear hb
    go_wp2_with fail
    refine CT.out.mono ?_
    rintro e w3 ⟨v3, rfl, hR, hB⟩
    have F3 := Aside0.mk (FN.out [] w2 w3 v3 HB.out (fun z hz => nomatch hz) B2.out hR hB)
    clear hR hB
    go_wp2_with fail
    go_ret
    exact ⟨_, rfl, F3.out.1, F3.out.2⟩
  · have hn0 : 0 < n2 := by rw [hn2]; simp
    have hn1 : (0 : Int) < (n2 : Int) := by omega
    obtain ⟨ad, hA, hc⟩ := Kd.at_int C2.out.1 0 (by decide) (by simp)
    subst hA
    rw [show (0 : Int).toNat = 0 from rfl, show ad.add 0 = ad by cases ad; simp [Addr.add]] at hc
    have hc' : w2.cell? ad = some (.int .u8 x) := hc
    clear hc hn2
    by_cases h128 : 128 ≤ x
    · have hd : decide (128 ≤ x) = true := decide_eq_true h128
      have hb : 0 :: x :: r = mpS l1 := by unfold mpS; rw [← HY.out.1]; exact (if_pos h128).symm
      have hby : Bytes (0 :: x :: r) := fun z hz => by rcases List.mem_cons.1 hz with rfl | hz; (exact ⟨by decide, by decide⟩); exact HY.out.2.1 z hz
      have HB := Aside0.mk (And.intro hb hby)
      have Z2 := Aside0.mk (lit_R w2 w2.heap.size w2.heap.size 5 .u8 [0] 1 rfl (Nat.le_refl _) rfl (by decide))
      have L2 := Aside0.mk (show Below w2.heap.size w2 (w2.alloc (.cells (nums .u8 [0]).toArray 5)) from (Below.refl _ _).alloc (Nat.le_refl _) _)
      clear hb hby q0
      go_wp2_with ((with_reducible refine gate_builtin (b := .append) (xs := #[.tmp 17, .tmp 18]) rfl ?_); at_builtin; (refine Kd.R_append_row (w0 := w2) (Value.int .u8) (0 : Int) (h1 := fun _ => rfl) w2.heap.size rfl (.tmp 17) (.tmp 18) 22 5 (.int .u8 0) 1 rfl Try.underlying22 Pol.info_u8 rfl Nat.one_pos _ [0] (x :: r) (some ad) n2 c2 (fun _ => True) rfl rfl (fun _ _ => trivial) ?q1 ?q2 ?q3 ?q4 ?q5 ?_; (case q1 => exact Z2.out); (case q2 => exact (by rw [C2.out.2.2]; exact Kd.C_below C2.out.1 L2.out)); (case q3 => exact L2.out); (case q4 => exact (L2.out).size); (case q5 => have := HY.out.2.2; have := C2.out.2.2; simp only [List.length_nil, List.length_cons] at *; omega); intro v3 w3 hR hB _ _; have hR := (show (Kd.int .u8).R 5 w3 w2.heap.size (fun _ => True) v3 (0 :: x :: r) from hR); obtain ⟨A3, c3, hv3, hc3, hC3⟩ := Kd.R_reads hR; obtain ⟨n3, hn3⟩ : ∃ n, n = (0 :: x :: r).length := ⟨_, rfl⟩; rw [← hn3] at hv3; subst hv3; have C3 := Aside0.mk (And.intro hC3 hn3); have B3 := Aside0.mk hB; have q3 := (show (convert 22 9 (.slice A3 n3 c3)).run Try.prog w3 = .ok (.string (strOfNums (0 :: x :: r))) w3 by rw [hn3]; exact Kd.C_string (P := Try.prog) (c := c3) Try.underlying22 Try.underlying5 Try.underlying9 hC3); clear hR hB hc3 hC3 hn3))
      refine (rText_calls A0 c0 l0 (strOfNums (0 :: x :: r)) (Kd.C_below C0.out.1 B3.out) C0.out.2 (by rw [strOfNums_size]; have := HY.out.2.2; simp only [List.length_cons] at *; omega)).mono ?_
      rintro e w4 ⟨v4, rfl, hR, hB⟩
      have F3 := Aside0.mk (FN.out (0 :: x :: r) w3 w4 v4 HB.out.1 HB.out.2 (below_step B2.out B3.out) hR hB)
      clear hR hB
      go_wp2_with fail
      go_ret
      exact ⟨_, rfl, F3.out.1, F3.out.2⟩
    · have hd : decide (128 ≤ x) = false := decide_eq_false h128
      have hb : x :: r = mpS l1 := by unfold mpS; rw [← HY.out.1]; exact (if_neg h128).symm
      have HB := Aside0.mk hb
      clear hb
      go_wp2_with fail
      refine (rText_calls A0 c0 l0 (strOfNums (x :: r)) C0.out.1 C0.out.2 (by rw [strOfNums_size]; have := HY.out.2.2; omega)).mono ?_
      rintro e w4 ⟨v4, rfl, hR, hB⟩
      have F3 := Aside0.mk (FN.out (x :: r) w2 w4 v4 HB.out HY.out.2.1 B2.out hR hB)
      clear hR hB
      go_wp2_with fail
      go_ret
      exact ⟨_, rfl, F3.out.1, F3.out.2⟩
end Go.Proofs.Ythahhjkokdillaa.Wire
