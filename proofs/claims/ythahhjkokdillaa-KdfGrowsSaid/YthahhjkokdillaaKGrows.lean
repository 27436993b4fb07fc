/-
  KdfGrows, walked.
-/
import Derived.Test.YthahhjkokdillaaShaN
import Derived.Test.YthahhjkokdillaaDer
import Derived.Test.YthahhjkokdillaaBook
import Derived.Test.YthahhjkokdillaaCut
import Derived.Test.YthahhjkokdillaaWTab
import Derived.Deep.Cut
namespace Go.Proofs.Ythahhjkokdillaa
open Go.RowKit Go.Proofs.YthahhjkokdillaaW.PrintWords Go.Proofs.YthahhjkokdillaaW.PrintLast Go.Proofs.YthahhjkokdillaaW.PrintMore Go.Proofs.Ythahhjkokdillaa.Arr Go.Proofs.Ythahhjkokdillaa.Bits Go.Proofs.Ythahhjkokdillaa.Wire
set_option maxHeartbeats 8000000
set_option maxRecDepth 100000
set_option linter.unusedVariables false
theorem outD_prefix (a m : List Int) (i : Nat) : ∀ d, ∃ r, outD a m (i + d) = outD a m i ++ r
  | 0 => ⟨[], by simp⟩
  | d + 1 => by
    obtain ⟨r, hr⟩ := outD_prefix a m i d
    exact ⟨r ++ Sha.shaF (a ++ (if i + d = 0 then m else outD a m (i + d))), by rw [← Nat.add_assoc, outD, hr, List.append_assoc]⟩
theorem derive_take (k h : List Int) (l : Int) (id : List Int) (a b : Nat) (hab : b ≤ a) : (deriveF k h l id a).take b = deriveF k h l id b := by
  obtain ⟨d, hd⟩ : ∃ d, (a + 31) / 32 = (b + 31) / 32 + d := ⟨(a + 31) / 32 - (b + 31) / 32, by omega⟩
  obtain ⟨r, hr⟩ := outD_prefix (textF (mpS k) ++ h) ([l] ++ id) ((b + 31) / 32) d
  unfold deriveF
  rw [List.take_take, Nat.min_eq_left hab, hd, hr, List.take_append_of_le_length (by rw [len_outD]; omega)]
theorem bare_zeros (k : List Int) : ∀ n, bare (List.replicate n 0 ++ k) = bare k
  | 0 => rfl
  | n + 1 => by rw [List.replicate_succ, List.cons_append, bare, if_pos rfl, bare_zeros k n]
theorem derive_zeros (k h : List Int) (l : Int) (id : List Int) (a n : Nat) : deriveF (List.replicate n 0 ++ k) h l id a = deriveF k h l id a := by
  unfold deriveF mpS
  rw [bare_zeros]
theorem derive_one (k h : List Int) (l : Int) (id : List Int) : deriveF k (h ++ [l] ++ id) 0 [] 32 = deriveF k h l (id ++ [0]) 32 := by
  unfold deriveF
  rw [show (32 + 31) / 32 = 0 + 1 from rfl]
  simp only [outD, if_pos, List.nil_append, List.append_assoc, List.append_nil]
theorem bytes_shaF (b : List Int) : Bytes (Sha.shaF b) := by
  unfold Sha.shaF
  have h : ∀ (x : List Int) i, Bytes (Sha.outN x i) := fun x i => by
    induction i with
    | zero => exact fun z hz => nomatch hz
    | succ i ih =>
      rw [Sha.outN]
      refine ih.append (fun z hz => ?_)
      simp only [List.mem_cons, List.not_mem_nil, or_false] at hz
      rcases hz with rfl | rfl | rfl | rfl <;> omega
  exact h _ _
theorem C_nil (w : World) : (Kd.int .u8).C w none ([] : List Int).length [] :=
  Kd.C_of_reads (enc := Value.int .u8) (d := (0 : Int)) (h1 := fun _ => rfl) ⟨rfl, by simp, fun h => by simp at h⟩
theorem deq (n m : Nat) (h : n = m) : ((n : Int) == (m : Int)) = true := by subst h; simp
theorem dleS (n m : Nat) (h : m ≤ n) : decide ((n : Int) < (m : Int)) = false := decide_eq_false (by omega)
def kdfGrows.T10 : Bool × List (List Nat × List Nat) := (true, [([], []), ([0], [0]), ([1], [1]), ([2], [2]), ([3, 2], [2, 3]), ([2, 4], [2, 4]), ([5, 2], [5]), ([6], [6]), ([7, 6], [6, 7]), ([6, 8], [6, 8]), ([9, 6], [9]), ([10], [10]), ([11, 10], [10, 11]), ([10, 12], [10, 12]), ([13, 10], [13]), ([14], [14]), ([15, 14], [14, 15]), ([14], [14]), ([16, 17, 14], [14, 16, 17]), ([14, 18], [14, 18]), ([19, 14], [19]), ([20], [20]), ([20], [20]), ([21, 22, 20], [20, 21, 22]), ([23, 20], [20, 23]), ([20], [20]), ([25, 20], [20, 25]), ([24, 26, 20], [20, 24, 26]), ([20, 27], [20, 27]), ([28, 20], [28]), ([29], [29]), ([30, 29], [29, 30]), ([29], [29]), ([32, 29], [29, 32]), ([31, 33, 29], [29, 31, 33]), ([29, 34], [29, 34]), ([35, 29], [35]), ([36, 36], [36]), ([36, 37], [36, 37]), ([38, 37, 0, 1, 2, 3, 4, 5, 6, 7, 8, 9, 10, 11, 12, 13, 14, 15, 16, 17, 18, 19, 20, 21, 22, 23, 24, 25, 26, 27, 28, 29, 30, 31, 32, 33, 34, 35, 36, 37, 38], [38])])
def kdfGrows.B10 : List Nat := [0, 1, 3, 7, 15, 31, 63, 127, 255, 511, 1023, 2047, 4095, 8191, 16383, 32767, 65535, 32767, 262143, 524287, 1048575, 2097151, 2097151, 8388607, 16777215, 2097151, 35651583, 134217727, 268435455, 536870911, 1073741823, 2147483647, 1073741823, 5368709119, 17179869183, 34359738367, 68719476735, 137438953471, 274877906943, 549755813887]
theorem kdfGrows.tab10 : rtab .any (opsOf Try.f4 10) = kdfGrows.T10 := by kernel_rfl
theorem kdfGrows.bits10 : waitsOk kdfGrows.T10.2 kdfGrows.B10 = true := by kernel_rfl
theorem kdfGrows_calls (A0 : Option Addr) (c0 : Nat) (l0 : List Int) (A1 : Option Addr) (c1 : Nat) (l1 : List Int) (A2 : Option Addr) (c2 : Nat) (l2 : List Int) (a3 a4 a5 a6 : Int) (w : World) (hr0 : Kd.C (Kd.int .u8) w A0 l0.length l0) (hc0 : l0.length ≤ c0) (hb0 : Bytes l0) (hr1 : Kd.C (Kd.int .u8) w A1 l1.length l1) (hc1 : l1.length ≤ c1) (hb1 : Bytes l1) (hr2 : Kd.C (Kd.int .u8) w A2 l2.length l2) (hc2 : l2.length ≤ c2) (hb2 : Bytes l2) :
    Calls Try.prog 4 #[.slice A0 l0.length c0, .slice A1 l1.length c1, .slice A2 l2.length c2, .int .u8 a3, .int .i64 a4, .int .i64 a5, .int .i64 a6] w fun e w' => e = .returned (.bool true) ∧ Below w.heap.size w w' := by
  obtain ⟨k, hk⟩ : ∃ x, x = l0.take 60 := ⟨_, rfl⟩
  have hkl : k.length ≤ 60 := by rw [hk, List.length_take]; omega
  have f0 := Aside0.mk (show strongroomkeep_CutR.f l0 60 = some k by rw [hk]; exact cut_some l0 60)
  have hkb : Bytes k := by rw [hk]; exact hb0.take 60
  have C0 := Aside0.mk (And.intro hr0 hc0)
  have D0 := Aside0.mk (And.intro (cutR_C hr0 hc0 f0.out) (cutR_len hc0 f0.out))
  obtain ⟨h, hh⟩ : ∃ x, x = l1.take 60 := ⟨_, rfl⟩
  have hhl : h.length ≤ 60 := by rw [hh, List.length_take]; omega
  have f1 := Aside0.mk (show strongroomkeep_CutR.f l1 60 = some h by rw [hh]; exact cut_some l1 60)
  have hhb : Bytes h := by rw [hh]; exact hb1.take 60
  have C1 := Aside0.mk (And.intro hr1 hc1)
  have D1 := Aside0.mk (And.intro (cutR_C hr1 hc1 f1.out) (cutR_len hc1 f1.out))
  obtain ⟨i, hi⟩ : ∃ x, x = l2.take 60 := ⟨_, rfl⟩
  have hil : i.length ≤ 60 := by rw [hi, List.length_take]; omega
  have f2 := Aside0.mk (show strongroomkeep_CutR.f l2 60 = some i by rw [hi]; exact cut_some l2 60)
  have hib : Bytes i := by rw [hi]; exact hb2.take 60
  have C2 := Aside0.mk (And.intro hr2 hc2)
  have D2 := Aside0.mk (And.intro (cutR_C hr2 hc2 f2.out) (cutR_len hc2 f2.out))
  obtain ⟨a, ha, ha256⟩ : ∃ a : Nat, withinF a4 0 256 = (a : Int) ∧ a ≤ 256 := by
    have := withinF_range a4 0 256 (by decide)
    exact ⟨(withinF a4 0 256).toNat, by omega, by omega⟩
  have fa := Aside0.mk (show strongroombook_Within.f a4 0 256 = some (a : Int) by rw [within_some _ _ _ (by decide) (by decide) (by decide), ha])
  obtain ⟨b, hb, hba⟩ : ∃ b : Nat, withinF a5 0 (a : Int) = (b : Int) ∧ b ≤ a := by
    have := withinF_range a5 0 (a : Int) (by omega)
    exact ⟨(withinF a5 0 (a : Int)).toNat, by omega, by omega⟩
  have fb := Aside0.mk (show strongroombook_Within.f a5 0 (a : Int) = some (b : Int) by rw [within_some _ _ _ (by decide) (by omega) (by omega), hb])
  obtain ⟨n, hn, hn9⟩ : ∃ n : Nat, withinF a6 0 9 = (n : Int) ∧ n ≤ 9 := by
    have := withinF_range a6 0 9 (by decide)
    exact ⟨(withinF a6 0 9).toNat, by omega, by omega⟩
  have fn := Aside0.mk (show strongroombook_Within.f a6 0 9 = some (n : Int) by rw [within_some _ _ _ (by decide) (by decide) (by decide), hn])
  obtain ⟨X, hX⟩ : ∃ x, x = deriveF k h a3 i a := ⟨_, rfl⟩
  obtain ⟨Y, hY⟩ : ∃ x, x = deriveF k h a3 i b := ⟨_, rfl⟩
  obtain ⟨Z, hZ⟩ : ∃ x, x = deriveF k (h ++ [a3] ++ i) 0 [] 32 := ⟨_, rfl⟩
  obtain ⟨kz, hkz⟩ : ∃ x, x = List.replicate n (0 : Int) ++ k := ⟨_, rfl⟩
  obtain ⟨hz, hhz⟩ : ∃ x, x = h ++ [a3] ++ i := ⟨_, rfl⟩
  obtain ⟨iz, hiz⟩ : ∃ x, x = i ++ [(0 : Int)] := ⟨_, rfl⟩
  have XY := Aside0.mk (show X.take b = Y by rw [hX, hY, derive_take _ _ _ _ _ _ hba])
  have XL := Aside0.mk (show X.length = a by rw [hX, len_deriveF])
  have YL := Aside0.mk (show Y.length = b by rw [hY, len_deriveF])
  have ZL := Aside0.mk (show Z.length = 32 by rw [hZ, len_deriveF])
  have HX := Aside0.mk hX
  have HY := Aside0.mk (show Y = deriveF kz h a3 i b by rw [hkz, derive_zeros, hY])
  have HZ := Aside0.mk (show Z = deriveF k hz 0 [] 32 by rw [hhz, hZ])
  have HZ2 := Aside0.mk (show Z = deriveF k h a3 iz 32 by rw [hiz, hZ, derive_one])
  have KZ := Aside0.mk (show Bytes kz ∧ kz.length ≤ 100 from ⟨by rw [hkz]; refine Bytes.append (fun z hz => ?_) hkb; rw [List.mem_replicate] at hz; omega, by rw [hkz, List.length_append, List.length_replicate]; omega⟩)
  have LZ := Aside0.mk (show hz.length ≤ 200 ∧ iz.length ≤ 100 by rw [hhz, hiz]; simp only [List.length_append, List.length_cons, List.length_nil]; omega)
  have EZ := Aside0.mk (And.intro hkz (And.intro hhz hiz))
  have HN := Aside0.mk (show k.length ≤ 60 ∧ h.length ≤ 60 ∧ i.length ≤ 60 ∧ a ≤ 256 ∧ b ≤ a ∧ n ≤ 9 ∧ Bytes k from ⟨hkl, hhl, hil, ha256, hba, hn9, hkb⟩)
  clear hk hh hi hkl hhl hil hkb hhb hib ha ha256 hb hba hn hn9 hX hY hZ hkz hhz hiz hr0 hc0 hb0 hr1 hc1 hb1 hr2 hc2 hb2
  go_enter Try.func4, Try.ntmps4
  go_wp2_with fail
  refine (strongroomkeep_CutR.calls A0 c0 l0 60 k _ C0.out.1 C0.out.2 f0.out).mono ?_
  rintro e w1 ⟨rfl, ⟨n1, hw⟩⟩
  have B1 := Aside0.mk (show Below w.heap.size w w1 by rw [hw]; exact pw_below_drewN (Below.refl _ _) n1)
  clear hw
  go_wp2_with fail
  refine (strongroomkeep_CutR.calls A1 c1 l1 60 h _ (Kd.C_below C1.out.1 B1.out) C1.out.2 f1.out).mono ?_
  rintro e w2 ⟨rfl, ⟨n2, hw⟩⟩
  have B2 := Aside0.mk (show Below w.heap.size w w2 by rw [hw]; exact pw_below_drewN B1.out n2)
  clear hw
  go_wp2_with fail
  refine (strongroomkeep_CutR.calls A2 c2 l2 60 i _ (Kd.C_below C2.out.1 B2.out) C2.out.2 f2.out).mono ?_
  rintro e w3 ⟨rfl, ⟨n3, hw⟩⟩
  have B3 := Aside0.mk (show Below w.heap.size w w3 by rw [hw]; exact pw_below_drewN B2.out n3)
  clear hw
  go_wp2_with fail
  refine (strongroombook_Within.calls a4 0 256 a _ fa.out).mono ?_
  rintro e w4 ⟨rfl, ⟨n4, hw⟩⟩
  have B4 := Aside0.mk (show Below w.heap.size w w4 by rw [hw]; exact pw_below_drewN B3.out n4)
  clear hw
  go_wp2_with fail
  refine (strongroombook_Within.calls a5 0 (a : Int) b _ fb.out).mono ?_
  rintro e w5 ⟨rfl, ⟨n5, hw⟩⟩
  have B5 := Aside0.mk (show Below w.heap.size w w5 by rw [hw]; exact pw_below_drewN B4.out n5)
  clear hw
  have E0 := Aside0.mk (Kd.C_below D0.out.1 B5.out)
  have E1 := Aside0.mk (Kd.C_below D1.out.1 B5.out)
  have E2 := Aside0.mk (Kd.C_below D2.out.1 B5.out)
  go_wp2_with fail
  refine (derive_calls A0 c0 k A1 c1 h a3 A2 c2 i a w5 E0.out D0.out.2 HN.out.2.2.2.2.2.2 (Nat.le_trans HN.out.1 (by decide)) E1.out D1.out.2 (Nat.le_trans HN.out.2.1 (by decide)) E2.out D2.out.2 (Nat.le_trans HN.out.2.2.1 (by decide)) HN.out.2.2.2.1).mono ?_
  rintro e w6 ⟨v6, rfl, hR, hB⟩
  rw [← HX.out] at hR
  obtain ⟨Ax, cx, rfl, hcx, hCx⟩ := Kd.R_reads hR
  have CX := Aside0.mk (And.intro hCx hcx)
  have B6 := Aside0.mk (below_step B5.out hB)
  have E0 := Aside0.mk (Kd.C_below E0.out hB)
  have E1 := Aside0.mk (Kd.C_below E1.out hB)
  have E2 := Aside0.mk (Kd.C_below E2.out hB)
  clear hR hB hcx hCx
  go_wp2_with fail
  refine (strongroombook_Within.calls a6 0 9 n _ fn.out).mono ?_
  rintro e w7 ⟨rfl, ⟨n7, hw⟩⟩
  have hB : Below w6.heap.size w6 w7 := by rw [hw]; exact pw_below_drewN (Below.refl _ _) n7
  clear hw
  have B7 := Aside0.mk (below_step B6.out hB)
  have E0 := Aside0.mk (Kd.C_below E0.out hB)
  have E1 := Aside0.mk (Kd.C_below E1.out hB)
  have E2 := Aside0.mk (Kd.C_below E2.out hB)
  have CX := Aside0.mk (And.intro (Kd.C_below CX.out.1 hB) CX.out.2)
  clear hB
  go_wp2_with (first | (at_make; refine Kd.R_make (Kd.int .u8) w7.heap.size 5 rfl (N := 46) rfl 22 _ _ rfl (n : Int) rfl rfl Try.underlying22 (.int .u8 0) 1 Pol.info_u8 rfl Nat.one_pos Nat.one_pos 0 (ok := fun _ => True) (okp := fun _ => True) rfl (fun _ hk => hk) trivial (Int.natCast_nonneg _) (by rw [Int.toNat_natCast]; have := HN.out.2.2.2.2.2.1; omega) (Below.refl _ _) (Nat.le_refl _) ?_; intro v8 w8 hR8 hB8 _ _; rw [Int.toNat_natCast] at hR8; have R8 := Aside0.mk hR8; have B8 := Aside0.mk hB8; clear hR8 hB8) | ((with_reducible refine gate_builtin (b := .append) (xs := #[.tmp 46, .tmp 47]) rfl ?_); at_builtin; (refine Kd.R_append_row (w0 := w7) (Value.int .u8) (0 : Int) (h1 := fun _ => rfl) w7.heap.size rfl (.tmp 46) (.tmp 47) 22 5 (.int .u8 0) 1 rfl Try.underlying22 Pol.info_u8 rfl Nat.one_pos _ (List.replicate n (0 : Int)) k A0 k.length c0 (fun _ => True) rfl rfl (fun _ _ => trivial) ?q1 ?q2 ?q3 ?q4 ?q5 ?_; (case q1 => exact R8.out); (case q2 => exact Kd.C_below E0.out B8.out); (case q3 => exact B8.out); (case q4 => exact (B8.out).size); (case q5 => have := HN.out; rw [List.length_replicate]; omega); intro v9 w9 hR hB _ _; obtain ⟨Ak, ck, hv9, hck, hCk⟩ := Kd.R_reads (show (Kd.int .u8).R 5 w9 w7.heap.size (fun _ => True) v9 kz by rw [EZ.out.1]; exact hR); have hv10 := hv9; subst hv10; have CZ := Aside0.mk (And.intro hCk hck); have G9 := Aside0.mk hB; clear hR hB hck hCk hv9)))
  have B9 := Aside0.mk (below_step B7.out G9.out)
  have E0 := Aside0.mk (Kd.C_below E0.out G9.out)
  have E1 := Aside0.mk (Kd.C_below E1.out G9.out)
  have E2 := Aside0.mk (Kd.C_below E2.out G9.out)
  have CX := Aside0.mk (And.intro (Kd.C_below CX.out.1 G9.out) CX.out.2)
  clear G9 R8 B8
  refine (derive_calls Ak ck kz A1 c1 h a3 A2 c2 i b w9 CZ.out.1 CZ.out.2 KZ.out.1 (Nat.le_trans KZ.out.2 (by decide)) E1.out D1.out.2 (Nat.le_trans HN.out.2.1 (by decide)) E2.out D2.out.2 (Nat.le_trans HN.out.2.2.1 (by decide)) (Nat.le_trans HN.out.2.2.2.2.1 HN.out.2.2.2.1)).mono ?_
  rintro e w10 ⟨v10, rfl, hR, hB⟩
  rw [← HY.out] at hR
  obtain ⟨Ay, cy, rfl, hcy, hCy⟩ := Kd.R_reads hR
  have CY := Aside0.mk (And.intro hCy hcy)
  have B10 := Aside0.mk (below_step B9.out hB)
  have E0 := Aside0.mk (Kd.C_below E0.out hB)
  have E1 := Aside0.mk (Kd.C_below E1.out hB)
  have E2 := Aside0.mk (Kd.C_below E2.out hB)
  have CX := Aside0.mk (And.intro (Kd.C_below CX.out.1 hB) CX.out.2)
  clear hR hB hcy hCy CZ
  have Z1 := Aside0.mk (lit_R w10 w10.heap.size w10.heap.size 5 .u8 [] 0 rfl (Nat.le_refl _) rfl (by decide))
  have L1 := Aside0.mk (show Below w10.heap.size w10 (w10.alloc (.cells #[] 5)) from (Below.refl _ _).alloc (Nat.le_refl _) _)
  go_wp2_with (first | ((with_reducible refine gate_builtin (b := .append) (xs := #[.tmp 58, .tmp 59]) rfl ?_); at_builtin; (refine Kd.R_append_row (w0 := w10) (Value.int .u8) (0 : Int) (h1 := fun _ => rfl) w10.heap.size rfl (.tmp 58) (.tmp 59) 22 5 (.int .u8 0) 1 rfl Try.underlying22 Pol.info_u8 rfl Nat.one_pos _ [] h A1 h.length c1 (fun _ => True) rfl rfl (fun _ _ => trivial) ?q1 ?q2 ?q3 ?q4 ?q5 ?_; (case q1 => exact Z1.out); (case q2 => exact Kd.C_below E1.out L1.out); (case q3 => exact L1.out); (case q4 => exact (L1.out).size); (case q5 => have := HN.out.2.1; simp only [List.length_nil]; omega); intro v11 w11 hR hB _ _; have R11 := Aside0.mk (show (Kd.int .u8).R 5 w11 w10.heap.size (fun _ => True) v11 h from hR); have L11 := Aside0.mk hB; clear hR hB)) | ((with_reducible refine gate_builtin (b := .append) (xs := #[.tmp 60, .tmp 62]) rfl ?_); at_builtin; refine lit_append w10.heap.size rfl (.tmp 60) (.tmp 62) 22 5 .u8 1 rfl Try.underlying22 Pol.info_u8 Nat.one_pos _ h [a3] 1 ?q1 rfl ?q3 ?q4 ?q5 ?q6 ?_; (case q1 => rfl); (case q3 => rfl); (case q4 => exact R11.out); (case q5 => exact L11.out.size); (case q6 => have := HN.out.2.1; omega); intro v12 w12 hR hB; have R12 := Aside0.mk hR; have L12 := Aside0.mk (L11.out.trans hB); clear hR hB) | ((with_reducible refine gate_builtin (b := .append) (xs := #[.tmp 63, .tmp 64]) rfl ?_); at_builtin; (refine Kd.R_append_row (w0 := w10) (Value.int .u8) (0 : Int) (h1 := fun _ => rfl) w10.heap.size rfl (.tmp 63) (.tmp 64) 22 5 (.int .u8 0) 1 rfl Try.underlying22 Pol.info_u8 rfl Nat.one_pos _ (h ++ [a3]) i A2 i.length c2 (fun _ => True) rfl rfl (fun _ _ => trivial) ?q1 ?q2 ?q3 ?q4 ?q5 ?_; (case q1 => exact R12.out); (case q2 => exact Kd.C_below E2.out L12.out); (case q3 => exact L12.out); (case q4 => exact (L12.out).size); (case q5 => have := HN.out; rw [List.length_append]; simp only [List.length_cons, List.length_nil]; omega); intro v13 w13 hR hB _ _; obtain ⟨Ah, ch, hv13, hch, hCh⟩ := Kd.R_reads (show (Kd.int .u8).R 5 w13 w10.heap.size (fun _ => True) v13 hz by rw [EZ.out.2.1]; exact hR); subst hv13; have CH := Aside0.mk (And.intro hCh hch); have G13 := Aside0.mk hB; clear hR hB hch hCh)))
  have hB := G13.out
  have B13 := Aside0.mk (below_step B10.out hB)
  have E0 := Aside0.mk (Kd.C_below E0.out hB)
  have E1 := Aside0.mk (Kd.C_below E1.out hB)
  have E2 := Aside0.mk (Kd.C_below E2.out hB)
  have CX := Aside0.mk (And.intro (Kd.C_below CX.out.1 hB) CX.out.2)
  have CY := Aside0.mk (And.intro (Kd.C_below CY.out.1 hB) CY.out.2)
  clear hB G13 R11 L11 R12 L12 Z1 L1
  refine (derive_calls A0 c0 k Ah ch hz 0 none 0 [] 32 w13 E0.out D0.out.2 HN.out.2.2.2.2.2.2 (Nat.le_trans HN.out.1 (by decide)) CH.out.1 CH.out.2 (Nat.le_trans LZ.out.1 (by decide)) (C_nil _) (by decide) (by decide) (by decide)).mono ?_
  rintro e w14 ⟨v14, rfl, hR, hB⟩
  rw [← HZ.out] at hR
  obtain ⟨Ao, co, rfl, hco, hCo⟩ := Kd.R_reads hR
  have CO := Aside0.mk (And.intro hCo hco)
  have B14 := Aside0.mk (below_step B13.out hB)
  have E0 := Aside0.mk (Kd.C_below E0.out hB)
  have E1 := Aside0.mk (Kd.C_below E1.out hB)
  have E2 := Aside0.mk (Kd.C_below E2.out hB)
  have CX := Aside0.mk (And.intro (Kd.C_below CX.out.1 hB) CX.out.2)
  have CY := Aside0.mk (And.intro (Kd.C_below CY.out.1 hB) CY.out.2)
  clear hR hB hco hCo CH
  have Z1 := Aside0.mk (lit_R w14 w14.heap.size w14.heap.size 5 .u8 [] 0 rfl (Nat.le_refl _) rfl (by decide))
  have L1 := Aside0.mk (show Below w14.heap.size w14 (w14.alloc (.cells #[] 5)) from (Below.refl _ _).alloc (Nat.le_refl _) _)
  go_wp2_with (first | ((with_reducible refine gate_builtin (b := .append) (xs := #[.tmp 73, .tmp 74]) rfl ?_); at_builtin; (refine Kd.R_append_row (w0 := w14) (Value.int .u8) (0 : Int) (h1 := fun _ => rfl) w14.heap.size rfl (.tmp 73) (.tmp 74) 22 5 (.int .u8 0) 1 rfl Try.underlying22 Pol.info_u8 rfl Nat.one_pos _ [] i A2 i.length c2 (fun _ => True) rfl rfl (fun _ _ => trivial) ?q1 ?q2 ?q3 ?q4 ?q5 ?_; (case q1 => exact Z1.out); (case q2 => exact Kd.C_below E2.out L1.out); (case q3 => exact L1.out); (case q4 => exact (L1.out).size); (case q5 => have := HN.out.2.2.1; simp only [List.length_nil]; omega); intro v15 w15 hR hB _ _; have R15 := Aside0.mk (show (Kd.int .u8).R 5 w15 w14.heap.size (fun _ => True) v15 i from hR); have L15 := Aside0.mk hB; clear hR hB)) | ((with_reducible refine gate_builtin (b := .append) (xs := #[.tmp 75, .tmp 76]) rfl ?_); at_builtin; refine lit_append w14.heap.size rfl (.tmp 75) (.tmp 76) 22 5 .u8 1 rfl Try.underlying22 Pol.info_u8 Nat.one_pos _ i [0] 1 ?q1 rfl ?q3 ?q4 ?q5 ?q6 ?_; (case q1 => rfl); (case q3 => rfl); (case q4 => exact R15.out); (case q5 => exact L15.out.size); (case q6 => have := HN.out.2.2.1; omega); intro v16 w16 hR hB; obtain ⟨Ai, ci, hv16, hci, hCi⟩ := Kd.R_reads (show (Kd.int .u8).R 5 w16 w14.heap.size (fun _ => True) v16 iz by rw [EZ.out.2.2]; exact hR); subst hv16; have CI := Aside0.mk (And.intro hCi hci); have G16 := Aside0.mk (L15.out.trans hB); clear hR hB hci hCi))
  have hB := G16.out
  have B16 := Aside0.mk (below_step B14.out hB)
  have E0 := Aside0.mk (Kd.C_below E0.out hB)
  have E1 := Aside0.mk (Kd.C_below E1.out hB)
  have E2 := Aside0.mk (Kd.C_below E2.out hB)
  have CX := Aside0.mk (And.intro (Kd.C_below CX.out.1 hB) CX.out.2)
  have CY := Aside0.mk (And.intro (Kd.C_below CY.out.1 hB) CY.out.2)
  have CO := Aside0.mk (And.intro (Kd.C_below CO.out.1 hB) CO.out.2)
  clear hB G16 R15 L15 Z1 L1
  refine (derive_calls A0 c0 k A1 c1 h a3 Ai ci iz 32 w16 E0.out D0.out.2 HN.out.2.2.2.2.2.2 (Nat.le_trans HN.out.1 (by decide)) E1.out D1.out.2 (Nat.le_trans HN.out.2.1 (by decide)) CI.out.1 CI.out.2 (Nat.le_trans LZ.out.2 (by decide)) (by decide)).mono ?_
  rintro e w17 ⟨v17, rfl, hR, hB⟩
  rw [← HZ2.out] at hR
  obtain ⟨At, ct, rfl, hct, hCt⟩ := Kd.R_reads hR
  have CT := Aside0.mk (And.intro hCt hct)
  have B17 := Aside0.mk (below_step B16.out hB)
  have E0 := Aside0.mk (Kd.C_below E0.out hB)
  have E1 := Aside0.mk (Kd.C_below E1.out hB)
  have E2 := Aside0.mk (Kd.C_below E2.out hB)
  have CX := Aside0.mk (And.intro (Kd.C_below CX.out.1 hB) CX.out.2)
  have CY := Aside0.mk (And.intro (Kd.C_below CY.out.1 hB) CY.out.2)
  have CO := Aside0.mk (And.intro (Kd.C_below CO.out.1 hB) CO.out.2)
  clear hR hB hct hCt CI
  go_upto_region 10 with (fail)
  change Code.wp _ _ _ _ w17
  have Q0 := Aside0.mk (fun (w' : World) (h : Below w17.heap.size w17 w') => show (convert 22 9 (.slice Ax b cx)).run Try.prog w' = .ok (.string (strOfNums Y)) w' from by
    have h2 := Kd.C_string (P := Try.prog) (c := cx) Try.underlying22 Try.underlying5 Try.underlying9 (Kd.C_take (m := b) (Kd.C_below CX.out.1 h) (by rw [XL.out]; exact HN.out.2.2.2.2.1))
    rw [XY.out, YL.out] at h2
    exact h2)
  have Q1 := Aside0.mk (fun (w' : World) (h : Below w17.heap.size w17 w') => Kd.C_string (P := Try.prog) (c := cy) Try.underlying22 Try.underlying5 Try.underlying9 (Kd.C_below CY.out.1 h))
  have Q2 := Aside0.mk (fun (w' : World) (h : Below w17.heap.size w17 w') => Kd.C_string (P := Try.prog) (c := co) Try.underlying22 Try.underlying5 Try.underlying9 (Kd.C_below CO.out.1 h))
  have Q3 := Aside0.mk (fun (w' : World) (h : Below w17.heap.size w17 w') => Kd.C_string (P := Try.prog) (c := ct) Try.underlying22 Try.underlying5 Try.underlying9 (Kd.C_below CT.out.1 h))
  obtain ⟨I0, hI0⟩ : ∃ i, Try.prog.info? 5 = some i := ⟨_, rfl⟩
  have hcut := cut_to (P := Try.prog) 22 5 .i64 Try.underlying22 hI0 Ax X.length cx (b : Int) (by omega) (by have := XL.out; have := HN.out.2.2.2.2.1; omega) CX.out.2
  rw [Int.toNat_natCast] at hcut
  have d1 := deq X.length a XL.out
  have d2 := dleS X.length b (by have := XL.out; have := HN.out.2.2.2.2.1; omega)
  clear hI0
  refine start_ (n := 40) (S := fun w' => Below w17.heap.size w17 w') (ds := [37]) #[false, false, false, false, false, false, false, false, false, false, false, false, false, false, false, false, false, false, false, false, false, false, false, false, false, false, false, false, false, false, false, false, false, false, false, false, false, false, false, false] (by kernel_rfl) rfl rfl (below_drew1 (Below.refl _ _)) (fun hHeld => ?_)
  refine with_tabW kdfGrows.tab10 kdfGrows.bits10 (fun HT_ HW_ => ?_)
  refine pure_ (i := 0) (N := some 81) (v := ?_) (a' := ?_) #[true, false, false, false, false, false, false, false, false, false, false, false, false, false, false, false, false, false, false, false, false, false, false, false, false, false, false, false, false, false, false, false, false, false, false, false, false, false, false, false] rfl rfl (any_of HT_.out (by kernel_rfl)) (fun _ _ _ h => h) (Or.inl ⟨by rfl, ?_⟩) ?_ ?_
  rotate_left
  · intro w'
    go_simp
    with_reducible rfl
  rotate_left
  · simp only [Act.put, List.setIfInBounds_toArray, List.set_cons_zero, List.set_cons_succ]
    rfl
  refine pure_ (i := 1) (N := some 82) (v := ?_) (a' := ?_) #[true, true, false, false, false, false, false, false, false, false, false, false, false, false, false, false, false, false, false, false, false, false, false, false, false, false, false, false, false, false, false, false, false, false, false, false, false, false, false, false] rfl rfl (any_of HT_.out (by kernel_rfl)) (fun _ _ _ h => h) (Or.inl ⟨by rfl, ?_⟩) ?_ ?_
  rotate_left
  · intro w'
    go_simp
    with_reducible rfl
  rotate_left
  · simp only [Act.put, List.setIfInBounds_toArray, List.set_cons_zero, List.set_cons_succ]
    rfl
  refine pure_ (i := 2) (N := some 83) (v := ?_) (a' := ?_) #[true, true, true, false, false, false, false, false, false, false, false, false, false, false, false, false, false, false, false, false, false, false, false, false, false, false, false, false, false, false, false, false, false, false, false, false, false, false, false, false] rfl rfl (any_of HT_.out (by kernel_rfl)) (fun _ _ _ h => h) (Or.inl ⟨by rfl, ?_⟩) ?_ ?_
  rotate_left
  · intro w'
    go_simp
    with_reducible rfl
  rotate_left
  · simp only [Act.put, List.setIfInBounds_toArray, List.set_cons_zero, List.set_cons_succ]
    rfl
  refine pure_ (i := 3) (N := some 84) (v := ?_) (a' := ?_) #[true, true, true, true, false, false, false, false, false, false, false, false, false, false, false, false, false, false, false, false, false, false, false, false, false, false, false, false, false, false, false, false, false, false, false, false, false, false, false, false] rfl rfl (any_of HT_.out (by kernel_rfl)) (fun _ _ _ h => h) (Or.inl ⟨by rfl, ?_⟩) ?_ ?_
  rotate_left
  · intro w'
    go_simp
    with_reducible rfl
  rotate_left
  · simp only [Act.put, List.setIfInBounds_toArray, List.set_cons_zero, List.set_cons_succ]
    rfl
  refine pure_ (i := 4) (N := some 85) (v := ?_) (a' := ?_) #[true, true, true, true, true, false, false, false, false, false, false, false, false, false, false, false, false, false, false, false, false, false, false, false, false, false, false, false, false, false, false, false, false, false, false, false, false, false, false, false] rfl rfl (any_of HT_.out (by kernel_rfl)) (fun _ _ _ h => h) (Or.inl ⟨by rfl, ?_⟩) ?_ ?_
  rotate_left
  · intro w'
    go_simp
    with_reducible rfl
  rotate_left
  · simp only [Act.put, List.setIfInBounds_toArray, List.set_cons_zero, List.set_cons_succ]
    rfl
  refine pure_ (i := 5) (N := some 86) (v := ?_) (a' := ?_) #[true, true, true, true, true, true, false, false, false, false, false, false, false, false, false, false, false, false, false, false, false, false, false, false, false, false, false, false, false, false, false, false, false, false, false, false, false, false, false, false] rfl rfl (any_of HT_.out (by kernel_rfl)) (fun _ _ _ h => h) (Or.inl ⟨by rfl, ?_⟩) ?_ ?_
  rotate_left
  · intro w'
    go_simp
    with_reducible rfl
  rotate_left
  · simp only [Act.put, List.setIfInBounds_toArray, List.set_cons_zero, List.set_cons_succ]
    rfl
  refine pure_ (i := 6) (N := some 87) (v := ?_) (a' := ?_) #[true, true, true, true, true, true, true, false, false, false, false, false, false, false, false, false, false, false, false, false, false, false, false, false, false, false, false, false, false, false, false, false, false, false, false, false, false, false, false, false] rfl rfl (any_of HT_.out (by kernel_rfl)) (fun _ _ _ h => h) (Or.inl ⟨by rfl, ?_⟩) ?_ ?_
  rotate_left
  · intro w'
    go_simp
    with_reducible rfl
  rotate_left
  · simp only [Act.put, List.setIfInBounds_toArray, List.set_cons_zero, List.set_cons_succ]
    rfl
  refine pure_ (i := 7) (N := some 88) (v := ?_) (a' := ?_) #[true, true, true, true, true, true, true, true, false, false, false, false, false, false, false, false, false, false, false, false, false, false, false, false, false, false, false, false, false, false, false, false, false, false, false, false, false, false, false, false] rfl rfl (any_of HT_.out (by kernel_rfl)) (fun _ _ _ h => h) (Or.inl ⟨by rfl, ?_⟩) ?_ ?_
  rotate_left
  · intro w'
    go_simp
    with_reducible rfl
  rotate_left
  · simp only [Act.put, List.setIfInBounds_toArray, List.set_cons_zero, List.set_cons_succ]
    rfl
  refine pure_ (i := 8) (N := some 89) (v := ?_) (a' := ?_) #[true, true, true, true, true, true, true, true, true, false, false, false, false, false, false, false, false, false, false, false, false, false, false, false, false, false, false, false, false, false, false, false, false, false, false, false, false, false, false, false] rfl rfl (any_of HT_.out (by kernel_rfl)) (fun _ _ _ h => h) (Or.inl ⟨by rfl, ?_⟩) ?_ ?_
  rotate_left
  · intro w'
    go_simp
    with_reducible rfl
  rotate_left
  · simp only [Act.put, List.setIfInBounds_toArray, List.set_cons_zero, List.set_cons_succ]
    rfl
  refine pure_ (i := 9) (N := some 90) (v := ?_) (a' := ?_) #[true, true, true, true, true, true, true, true, true, true, false, false, false, false, false, false, false, false, false, false, false, false, false, false, false, false, false, false, false, false, false, false, false, false, false, false, false, false, false, false] rfl rfl (any_of HT_.out (by kernel_rfl)) (fun _ _ _ h => h) (Or.inl ⟨by rfl, ?_⟩) ?_ ?_
  rotate_left
  · intro w'
    go_simp
    with_reducible rfl
  rotate_left
  · simp only [Act.put, List.setIfInBounds_toArray, List.set_cons_zero, List.set_cons_succ]
    rfl
  refine pure_ (i := 10) (N := some 91) (v := ?_) (a' := ?_) #[true, true, true, true, true, true, true, true, true, true, true, false, false, false, false, false, false, false, false, false, false, false, false, false, false, false, false, false, false, false, false, false, false, false, false, false, false, false, false, false] rfl rfl (any_of HT_.out (by kernel_rfl)) (fun _ _ _ h => h) (Or.inl ⟨by rfl, ?_⟩) ?_ ?_
  rotate_left
  · intro w'
    go_simp
    with_reducible rfl
  rotate_left
  · simp only [Act.put, List.setIfInBounds_toArray, List.set_cons_zero, List.set_cons_succ]
    rfl
  refine pure_ (i := 11) (N := some 92) (v := ?_) (a' := ?_) #[true, true, true, true, true, true, true, true, true, true, true, true, false, false, false, false, false, false, false, false, false, false, false, false, false, false, false, false, false, false, false, false, false, false, false, false, false, false, false, false] rfl rfl (any_of HT_.out (by kernel_rfl)) (fun _ _ _ h => h) (Or.inl ⟨by rfl, ?_⟩) ?_ ?_
  rotate_left
  · intro w'
    go_simp
    with_reducible rfl
  rotate_left
  · simp only [Act.put, List.setIfInBounds_toArray, List.set_cons_zero, List.set_cons_succ]
    rfl
  refine pure_ (i := 12) (N := some 93) (v := ?_) (a' := ?_) #[true, true, true, true, true, true, true, true, true, true, true, true, true, false, false, false, false, false, false, false, false, false, false, false, false, false, false, false, false, false, false, false, false, false, false, false, false, false, false, false] rfl rfl (any_of HT_.out (by kernel_rfl)) (fun _ _ _ h => h) (Or.inl ⟨by rfl, ?_⟩) ?_ ?_
  rotate_left
  · intro w'
    go_simp
    with_reducible rfl
  rotate_left
  · simp only [Act.put, List.setIfInBounds_toArray, List.set_cons_zero, List.set_cons_succ]
    rfl
  refine pure_ (i := 13) (N := some 94) (v := ?_) (a' := ?_) #[true, true, true, true, true, true, true, true, true, true, true, true, true, true, false, false, false, false, false, false, false, false, false, false, false, false, false, false, false, false, false, false, false, false, false, false, false, false, false, false] rfl rfl (any_of HT_.out (by kernel_rfl)) (fun _ _ _ h => h) (Or.inl ⟨by rfl, ?_⟩) ?_ ?_
  rotate_left
  · intro w'
    go_simp
    with_reducible rfl
  rotate_left
  · simp only [Act.put, List.setIfInBounds_toArray, List.set_cons_zero, List.set_cons_succ]
    rfl
  refine pure_ (i := 14) (N := some 95) (v := ?_) (a' := ?_) #[true, true, true, true, true, true, true, true, true, true, true, true, true, true, true, false, false, false, false, false, false, false, false, false, false, false, false, false, false, false, false, false, false, false, false, false, false, false, false, false] rfl rfl (any_of HT_.out (by kernel_rfl)) (fun _ _ _ h => h) (Or.inl ⟨by rfl, ?_⟩) ?_ ?_
  rotate_left
  · intro w'
    go_simp
    with_reducible rfl
  rotate_left
  · simp only [Act.put, List.setIfInBounds_toArray, List.set_cons_zero, List.set_cons_succ]
    rfl
  refine pure_ (i := 15) (N := some 96) (v := ?_) (a' := ?_) #[true, true, true, true, true, true, true, true, true, true, true, true, true, true, true, true, false, false, false, false, false, false, false, false, false, false, false, false, false, false, false, false, false, false, false, false, false, false, false, false] rfl rfl (any_of HT_.out (by kernel_rfl)) (fun _ _ _ h => h) (Or.inl ⟨by rfl, ?_⟩) ?_ ?_
  rotate_left
  · intro w'
    go_simp
    with_reducible rfl
  rotate_left
  · simp only [Act.put, List.setIfInBounds_toArray, List.set_cons_zero, List.set_cons_succ]
    rfl
  refine pure_ (i := 16) (N := some 97) (v := ?_) (a' := ?_) #[true, true, true, true, true, true, true, true, true, true, true, true, true, true, true, true, true, false, false, false, false, false, false, false, false, false, false, false, false, false, false, false, false, false, false, false, false, false, false, false] rfl rfl (any_of HT_.out (by kernel_rfl)) (fun _ _ _ h => h) (Or.inl ⟨by rfl, ?_⟩) ?_ ?_
  rotate_left
  · intro w'
    go_simp
    with_reducible rfl
  rotate_left
  · simp only [Act.put, List.setIfInBounds_toArray, List.set_cons_zero, List.set_cons_succ]
    rfl
  refine pure_ (i := 17) (N := some 98) (v := ?_) (a' := ?_) #[true, true, true, true, true, true, true, true, true, true, true, true, true, true, true, true, true, true, false, false, false, false, false, false, false, false, false, false, false, false, false, false, false, false, false, false, false, false, false, false] rfl rfl (any_of HT_.out (by kernel_rfl)) (fun _ _ _ h => h) (Or.inl ⟨by rfl, ?_⟩) ?_ ?_
  rotate_left
  · intro w'
    go_simp
    with_reducible rfl
  rotate_left
  · simp only [Act.put, List.setIfInBounds_toArray, List.set_cons_zero, List.set_cons_succ]
    rfl
  refine pure_ (i := 18) (N := some 99) (v := ?_) (a' := ?_) #[true, true, true, true, true, true, true, true, true, true, true, true, true, true, true, true, true, true, true, false, false, false, false, false, false, false, false, false, false, false, false, false, false, false, false, false, false, false, false, false] rfl rfl (any_of HT_.out (by kernel_rfl)) (fun _ _ _ h => h) (Or.inl ⟨by rfl, ?_⟩) ?_ ?_
  rotate_left
  · intro w'
    go_simp
    with_reducible rfl
  rotate_left
  · simp only [Act.put, List.setIfInBounds_toArray, List.set_cons_zero, List.set_cons_succ]
    rfl
  refine pure_ (i := 19) (N := some 100) (v := ?_) (a' := ?_) #[true, true, true, true, true, true, true, true, true, true, true, true, true, true, true, true, true, true, true, true, false, false, false, false, false, false, false, false, false, false, false, false, false, false, false, false, false, false, false, false] rfl rfl (any_of HT_.out (by kernel_rfl)) (fun _ _ _ h => h) (Or.inl ⟨by rfl, ?_⟩) ?_ ?_
  rotate_left
  · intro w'
    go_simp
    with_reducible rfl
  rotate_left
  · simp only [Act.put, List.setIfInBounds_toArray, List.set_cons_zero, List.set_cons_succ]
    rfl
  refine pure_ (i := 20) (N := some 101) (v := ?_) (a' := ?_) #[true, true, true, true, true, true, true, true, true, true, true, true, true, true, true, true, true, true, true, true, true, false, false, false, false, false, false, false, false, false, false, false, false, false, false, false, false, false, false, false] rfl rfl (any_of HT_.out (by kernel_rfl)) (fun _ _ _ h => h) (Or.inl ⟨by rfl, ?_⟩) ?_ ?_
  rotate_left
  · intro w'
    go_simp
    with_reducible rfl
  rotate_left
  · simp only [Act.put, List.setIfInBounds_toArray, List.set_cons_zero, List.set_cons_succ]
    rfl
  refine pure_ (i := 21) (N := some 102) (v := ?_) (a' := ?_) #[true, true, true, true, true, true, true, true, true, true, true, true, true, true, true, true, true, true, true, true, true, true, false, false, false, false, false, false, false, false, false, false, false, false, false, false, false, false, false, false] rfl rfl (any_of HT_.out (by kernel_rfl)) (fun _ _ _ h => h) (Or.inl ⟨by rfl, ?_⟩) ?_ ?_
  rotate_left
  · intro w'
    go_simp
    with_reducible rfl
  rotate_left
  · simp only [Act.put, List.setIfInBounds_toArray, List.set_cons_zero, List.set_cons_succ]
    rfl
  refine pure_ (i := 22) (N := some 103) (v := ?_) (a' := ?_) #[true, true, true, true, true, true, true, true, true, true, true, true, true, true, true, true, true, true, true, true, true, true, true, false, false, false, false, false, false, false, false, false, false, false, false, false, false, false, false, false] rfl rfl (any_of HT_.out (by kernel_rfl)) (fun _ _ _ h => h) (Or.inl ⟨by rfl, ?_⟩) ?_ ?_
  rotate_left
  · intro w'
    go_simp
    with_reducible rfl
  rotate_left
  · simp only [Act.put, List.setIfInBounds_toArray, List.set_cons_zero, List.set_cons_succ]
    rfl
  refine pure_ (i := 23) (N := some 104) (v := ?_) (a' := ?_) #[true, true, true, true, true, true, true, true, true, true, true, true, true, true, true, true, true, true, true, true, true, true, true, true, false, false, false, false, false, false, false, false, false, false, false, false, false, false, false, false] rfl rfl (any_of HT_.out (by kernel_rfl)) (fun _ _ _ h => h) (Or.inl ⟨by rfl, ?_⟩) ?_ ?_
  rotate_left
  · intro w'
    go_simp
    with_reducible rfl
  rotate_left
  · simp only [Act.put, List.setIfInBounds_toArray, List.set_cons_zero, List.set_cons_succ]
    rfl
  refine pure_ (i := 25) (N := some 106) (v := ?_) (a' := ?_) #[true, true, true, true, true, true, true, true, true, true, true, true, true, true, true, true, true, true, true, true, true, true, true, true, false, true, false, false, false, false, false, false, false, false, false, false, false, false, false, false] rfl rfl (any_of HT_.out (by kernel_rfl)) (fun _ _ _ h => h) (Or.inl ⟨by rfl, ?_⟩) ?_ ?_
  rotate_left
  · intro w'
    go_simp
    with_reducible rfl
  rotate_left
  · simp only [Act.put, List.setIfInBounds_toArray, List.set_cons_zero, List.set_cons_succ]
    rfl
  refine take_ (i := 24) (N := some 105) (v := ?_) (a' := ?_) #[true, true, true, true, true, true, true, true, true, true, true, true, true, true, true, true, true, true, true, true, true, true, true, true, true, true, false, false, false, false, false, false, false, false, false, false, false, false, false, false] rfl rfl (take_ofW HT_.out HW_.out (by kernel_rfl)) (fun _ _ _ h => h) (Or.inl ⟨by rfl, ?_⟩) hHeld ?_ ?_
  rotate_left
  · intro w' s0
    have q0_ := Q0.out w' s0
    have q1_ := Q1.out w' s0
    have q2_ := Q2.out w' s0
    have q3_ := Q3.out w' s0
    go_simp
    with_reducible rfl
  rotate_left
  · simp only [Act.put, List.setIfInBounds_toArray, List.set_cons_zero, List.set_cons_succ]
    rfl
  refine take_ (i := 26) (N := some 107) (v := ?_) (a' := ?_) #[true, true, true, true, true, true, true, true, true, true, true, true, true, true, true, true, true, true, true, true, true, true, true, true, true, true, true, false, false, false, false, false, false, false, false, false, false, false, false, false] rfl rfl (take_ofW HT_.out HW_.out (by kernel_rfl)) (fun _ _ _ h => h) (Or.inl ⟨by rfl, ?_⟩) hHeld ?_ ?_
  rotate_left
  · intro w' s0
    have q0_ := Q0.out w' s0
    have q1_ := Q1.out w' s0
    have q2_ := Q2.out w' s0
    have q3_ := Q3.out w' s0
    go_simp
    with_reducible rfl
  rotate_left
  · simp only [Act.put, List.setIfInBounds_toArray, List.set_cons_zero, List.set_cons_succ]
    rfl
  refine pure_ (i := 27) (N := some 108) (v := ?_) (a' := ?_) #[true, true, true, true, true, true, true, true, true, true, true, true, true, true, true, true, true, true, true, true, true, true, true, true, true, true, true, true, false, false, false, false, false, false, false, false, false, false, false, false] rfl rfl (any_of HT_.out (by kernel_rfl)) (fun _ _ _ h => h) (Or.inl ⟨by rfl, ?_⟩) ?_ ?_
  rotate_left
  · intro w'
    go_simp
    with_reducible rfl
  rotate_left
  · simp only [Act.put, List.setIfInBounds_toArray, List.set_cons_zero, List.set_cons_succ]
    rfl
  refine pure_ (i := 28) (N := some 109) (v := ?_) (a' := ?_) #[true, true, true, true, true, true, true, true, true, true, true, true, true, true, true, true, true, true, true, true, true, true, true, true, true, true, true, true, true, false, false, false, false, false, false, false, false, false, false, false] rfl rfl (any_of HT_.out (by kernel_rfl)) (fun _ _ _ h => h) (Or.inl ⟨by rfl, ?_⟩) ?_ ?_
  rotate_left
  · intro w'
    go_simp
    with_reducible rfl
  rotate_left
  · simp only [Act.put, List.setIfInBounds_toArray, List.set_cons_zero, List.set_cons_succ]
    rfl
  refine pure_ (i := 29) (N := some 110) (v := ?_) (a' := ?_) #[true, true, true, true, true, true, true, true, true, true, true, true, true, true, true, true, true, true, true, true, true, true, true, true, true, true, true, true, true, true, false, false, false, false, false, false, false, false, false, false] rfl rfl (any_of HT_.out (by kernel_rfl)) (fun _ _ _ h => h) (Or.inl ⟨by rfl, ?_⟩) ?_ ?_
  rotate_left
  · intro w'
    go_simp
    with_reducible rfl
  rotate_left
  · simp only [Act.put, List.setIfInBounds_toArray, List.set_cons_zero, List.set_cons_succ]
    rfl
  refine pure_ (i := 30) (N := some 111) (v := ?_) (a' := ?_) #[true, true, true, true, true, true, true, true, true, true, true, true, true, true, true, true, true, true, true, true, true, true, true, true, true, true, true, true, true, true, true, false, false, false, false, false, false, false, false, false] rfl rfl (any_of HT_.out (by kernel_rfl)) (fun _ _ _ h => h) (Or.inl ⟨by rfl, ?_⟩) ?_ ?_
  rotate_left
  · intro w'
    go_simp
    with_reducible rfl
  rotate_left
  · simp only [Act.put, List.setIfInBounds_toArray, List.set_cons_zero, List.set_cons_succ]
    rfl
  refine pure_ (i := 32) (N := some 113) (v := ?_) (a' := ?_) #[true, true, true, true, true, true, true, true, true, true, true, true, true, true, true, true, true, true, true, true, true, true, true, true, true, true, true, true, true, true, true, false, true, false, false, false, false, false, false, false] rfl rfl (any_of HT_.out (by kernel_rfl)) (fun _ _ _ h => h) (Or.inl ⟨by rfl, ?_⟩) ?_ ?_
  rotate_left
  · intro w'
    go_simp
    with_reducible rfl
  rotate_left
  · simp only [Act.put, List.setIfInBounds_toArray, List.set_cons_zero, List.set_cons_succ]
    rfl
  refine take_ (i := 31) (N := some 112) (v := ?_) (a' := ?_) #[true, true, true, true, true, true, true, true, true, true, true, true, true, true, true, true, true, true, true, true, true, true, true, true, true, true, true, true, true, true, true, true, true, false, false, false, false, false, false, false] rfl rfl (take_ofW HT_.out HW_.out (by kernel_rfl)) (fun _ _ _ h => h) (Or.inl ⟨by rfl, ?_⟩) hHeld ?_ ?_
  rotate_left
  · intro w' s0
    have q0_ := Q0.out w' s0
    have q1_ := Q1.out w' s0
    have q2_ := Q2.out w' s0
    have q3_ := Q3.out w' s0
    go_simp
    with_reducible rfl
  rotate_left
  · simp only [Act.put, List.setIfInBounds_toArray, List.set_cons_zero, List.set_cons_succ]
    rfl
  refine take_ (i := 33) (N := some 114) (v := ?_) (a' := ?_) #[true, true, true, true, true, true, true, true, true, true, true, true, true, true, true, true, true, true, true, true, true, true, true, true, true, true, true, true, true, true, true, true, true, true, false, false, false, false, false, false] rfl rfl (take_ofW HT_.out HW_.out (by kernel_rfl)) (fun _ _ _ h => h) (Or.inl ⟨by rfl, ?_⟩) hHeld ?_ ?_
  rotate_left
  · intro w' s0
    have q0_ := Q0.out w' s0
    have q1_ := Q1.out w' s0
    have q2_ := Q2.out w' s0
    have q3_ := Q3.out w' s0
    go_simp
    with_reducible rfl
  rotate_left
  · simp only [Act.put, List.setIfInBounds_toArray, List.set_cons_zero, List.set_cons_succ]
    rfl
  refine pure_ (i := 34) (N := some 115) (v := ?_) (a' := ?_) #[true, true, true, true, true, true, true, true, true, true, true, true, true, true, true, true, true, true, true, true, true, true, true, true, true, true, true, true, true, true, true, true, true, true, true, false, false, false, false, false] rfl rfl (any_of HT_.out (by kernel_rfl)) (fun _ _ _ h => h) (Or.inl ⟨by rfl, ?_⟩) ?_ ?_
  rotate_left
  · intro w'
    go_simp
    with_reducible rfl
  rotate_left
  · simp only [Act.put, List.setIfInBounds_toArray, List.set_cons_zero, List.set_cons_succ]
    rfl
  refine pure_ (i := 35) (N := some 116) (v := ?_) (a' := ?_) #[true, true, true, true, true, true, true, true, true, true, true, true, true, true, true, true, true, true, true, true, true, true, true, true, true, true, true, true, true, true, true, true, true, true, true, true, false, false, false, false] rfl rfl (any_of HT_.out (by kernel_rfl)) (fun _ _ _ h => h) (Or.inl ⟨by rfl, ?_⟩) ?_ ?_
  rotate_left
  · intro w'
    go_simp
    with_reducible rfl
  rotate_left
  · simp only [Act.put, List.setIfInBounds_toArray, List.set_cons_zero, List.set_cons_succ]
    rfl
  refine pure_ (i := 36) (N := some 117) (v := ?_) (a' := ?_) #[true, true, true, true, true, true, true, true, true, true, true, true, true, true, true, true, true, true, true, true, true, true, true, true, true, true, true, true, true, true, true, true, true, true, true, true, true, false, false, false] rfl rfl (any_of HT_.out (by kernel_rfl)) (fun _ _ _ h => h) (Or.inl ⟨by rfl, ?_⟩) ?_ ?_
  rotate_left
  · intro w'
    go_simp
    with_reducible rfl
  rotate_left
  · simp only [Act.put, List.setIfInBounds_toArray, List.set_cons_zero, List.set_cons_succ]
    rfl
  refine last_ (i := 37) (N := some 118) #[true, true, true, true, true, true, true, true, true, true, true, true, true, true, true, true, true, true, true, true, true, true, true, true, true, true, true, true, true, true, true, true, true, true, true, true, true, true, false, false] rfl rfl (one_of HT_.out (by kernel_rfl)) (by decide) (fun K hK => ?_)
  refine goes_ Try.func17 (by kernel_rfl) rfl #[] (by rfl) rfl rfl (by simp only [List.map_toArray, List.map_nil]) ?_
  with_reducible refine (strongroomlaw6_known.calls true _ rfl).mono ?_
  rintro e w18 ⟨rfl, hB18⟩
  refine ⟨_, rfl, ?_⟩
  have B18 := Aside0.mk (show Below w.heap.size w w18 from below_step (below_step B17.out hHeld) hB18)
  clear hB18
  refine hK.out _ _ ?_
  clear hK K
  refine norm_ (a' := ?_) ?_ ?_
  rotate_left
  · show Act.put _ (some 118) _ = _
    simp only [Act.put, List.setIfInBounds_toArray, List.set_cons_zero, List.set_cons_succ]
    rfl
  refine pure_ (i := 38) (N := some 119) (v := ?_) (a' := ?_) #[true, true, true, true, true, true, true, true, true, true, true, true, true, true, true, true, true, true, true, true, true, true, true, true, true, true, true, true, true, true, true, true, true, true, true, true, true, true, true, false] rfl rfl (any_of HT_.out (by kernel_rfl)) (fun _ _ _ h => h) (Or.inl ⟨by rfl, ?_⟩) ?_ ?_
  rotate_left
  · intro w'
    go_simp
    with_reducible rfl
  rotate_left
  · simp only [Act.put, List.setIfInBounds_toArray, List.set_cons_zero, List.set_cons_succ]
    rfl
  refine pure_ (i := 39) (N := some 14) (v := ?_) (a' := ?_) #[true, true, true, true, true, true, true, true, true, true, true, true, true, true, true, true, true, true, true, true, true, true, true, true, true, true, true, true, true, true, true, true, true, true, true, true, true, true, true, true] rfl rfl (any_of HT_.out (by kernel_rfl)) (fun _ _ _ h => h) (Or.inl ⟨by rfl, ?_⟩) ?_ ?_
  rotate_left
  · intro w'
    go_simp
    with_reducible rfl
  rotate_left
  · simp only [Act.put, List.setIfInBounds_toArray, List.set_cons_zero, List.set_cons_succ]
    rfl
  refine done_ (done_of HT_.out (by kernel_rfl)) ?_
  go_wp2_with fail
  go_ret
  exact ⟨rfl, B18.out⟩
end Go.Proofs.Ythahhjkokdillaa
