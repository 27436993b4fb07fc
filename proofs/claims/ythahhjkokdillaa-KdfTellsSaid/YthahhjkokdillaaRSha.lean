/-
  SHA-256 of the document's answer (strongroomref6.Sum), walked: it reckons what kdf.Sum reckons.
-/
import Derived.Test.YthahhjkokdillaaShaS
import Derived.Test.YthahhjkokdillaaUTurnx1
import Derived.Test.YthahhjkokdillaaWTab
import Derived.Deep.Cut
namespace Go.Proofs.Ythahhjkokdillaa.Sha
open Go.RowKit Go.Proofs.YthahhjkokdillaaW.PrintWords Go.Proofs.YthahhjkokdillaaW.PrintLast Go.Proofs.YthahhjkokdillaaW.PrintMore Go.Proofs.Ythahhjkokdillaa.Arr
set_option linter.unusedVariables false
theorem or32_comm (x y : Int) : Go.bits .or .u32 x y = Go.bits .or .u32 y x := by
  unfold Go.bits
  simp only [BitVec.or_comm]
theorem turn_some (x n s : Int) (hn : 0 ≤ n) (hs : IntKind.u64.wrap (32 - n) = s) (h0 : 0 ≤ s) (h1 : IntKind.u64.wrap (32 - s) = n) : UTurn.strongroomref6_turn.f x n = some (rotL x s) := by
  unfold UTurn.strongroomref6_turn.f rotL
  rw [hs, h1]
  simp only [if_pos hn, if_pos h0]
  rw [or32_comm]
theorem rd_blk (msg : List Int) (j c : Nat) (hc : c < 64) (h : 64 * j + 64 ≤ msg.length) : rd (blk msg j) ((c : Nat) : Int) = rd msg ((64 * j + c : Nat) : Int) := by
  unfold blk
  rw [rd_nat, rd_nat, List.getD_eq_getElem?_getD, List.getD_eq_getElem?_getD, List.getElem?_drop, List.getElem?_take, if_pos (by omega)]
theorem mod3 (a b c d : Int) : (((a + b) % 4294967296 + c) % 4294967296 + d) % 4294967296 = (a + b + c + d) % 4294967296 := by omega
theorem u32w (x : Int) : IntKind.u32.wrap x = x % 4294967296 := by simp [IntKind.wrap, IntKind.bits, IntKind.signed]
theorem u8w (x : Int) : IntKind.u8.wrap x = x % 256 := by simp [IntKind.wrap, IntKind.bits, IntKind.signed]
theorem C_block {w w' : World} {gm n : Nat} {k : IntKind} {xs : List Int} (h : w'.heap[gm]? = w.heap[gm]?) (hC : (Kd.int k).C w (some ⟨gm, 0, none⟩) n xs) : (Kd.int k).C w' (some ⟨gm, 0, none⟩) n xs := by
  have hR := Kd.reads_of_C (enc := Value.int k) (d := (0 : Int)) (h1 := fun _ => rfl) hC
  refine Kd.C_of_reads (enc := Value.int k) (d := (0 : Int)) (h1 := fun _ => rfl) ⟨hR.1, hR.2.1, fun hp => ?_⟩
  obtain ⟨ad, hA, hc⟩ := hR.2.2 hp
  cases hA
  refine ⟨_, rfl, fun j hj => ?_⟩
  rw [← hc j hj]
  exact World.cell?_of_block (by rw [add_plain]; exact h)
set_option maxHeartbeats 8000000
set_option maxRecDepth 100000
theorem const_calls (w : World) : Calls Try.prog 45 #[] w fun e w' => e = .returned (.agg (nums .u32 frac).toArray) ∧ Below w.heap.size w w' := by
  have HI64 := Aside0.mk (show (Try.prog.info? 75).map (·.size) = some frac.length from info_a64)
  have N1 := Aside0.mk (new_is w 75 .u32 z64)
  have HLK := Aside0.mk (show z64.length = frac.length from rfl)
  go_enter Try.func45, Try.ntmps45
  go_upto_region 1 with (fail)
  change Code.wp _ _ _ _ (w.alloc (.cells (nums .u32 z64).toArray 75))
  go_wp2_with (first | ((with_reducible refine gate_dst (N := 1) rfl ?_); refine Kd.event_run (v := .agg (nums .u32 frac).toArray) (w1 := w.alloc (.cells (nums .u32 z64).toArray 75)) rfl (by kernel_rfl) ?_) | ((with_reducible refine gate_store (t := 75) (p := 0) rfl ?_); refine storeL_is (b := w.heap.size) (e := 75) (k := .u32) (xs := z64) 75 (.tmp 0) (.tmp 1) rfl rfl rfl frac rfl rfl N1.out HLK.out HI64.out ?_))
  refine bodyPost_ret (v := .agg (nums .u32 frac).toArray) (results_is (b := w.heap.size) (e := 75) Try.results45 _ rfl (put_heap N1.out) Try.underlying75 info_a64) rfl ?_
  exact ⟨rfl, below_put ((Below.refl _ _).alloc (Nat.le_refl _) _) (Nat.le_refl _)⟩
def refSum.T25 : Bool × List (List Nat × List Nat) := (true, [([], []), ([], []), ([1], [1]), ([2], [2]), ([3], [3]), ([], []), ([5], [5]), ([], []), ([7, 6], [7]), ([6, 8], [6, 8]), ([], []), ([10], [10]), ([9, 11], [9, 11]), ([4, 12], [4, 12]), ([], []), ([14], [14]), ([15], [15]), ([16], [16]), ([13, 17], [13, 17]), ([], []), ([19, 8], [19]), ([], []), ([21, 20], [21]), ([20, 22], [20, 22]), ([], []), ([24], [24]), ([23, 25], [23, 25]), ([18, 26], [18, 26]), ([0, 0, 1, 2, 3, 4, 5, 6, 7, 8, 9, 10, 11, 12, 13, 14, 15, 16, 17, 18, 19, 20, 21, 22, 23, 24, 25, 26, 27], [0]), ([28, 27, 22, 0, 1, 2, 3, 4, 5, 6, 7, 8, 9, 10, 11, 12, 13, 14, 15, 16, 17, 18, 19, 20, 21, 22, 23, 24, 25, 26, 27], [27, 28])])
def refSum.B25 : List Nat := [0, 0, 2, 6, 14, 0, 32, 0, 224, 480, 0, 1024, 4064, 8190, 0, 16384, 49152, 114688, 262142, 0, 524768, 0, 3670496, 7864800, 0, 16777216, 66585056, 134217726, 268435455, 536870911]
theorem refSum.tab25 : rtab .any (opsOf Try.f28 25) = refSum.T25 := by kernel_rfl
theorem refSum.bits25 : waitsOk refSum.T25.2 refSum.B25 = true := by kernel_rfl
def refSum.T32 : Bool × List (List Nat × List Nat) := (true, [([], []), ([0], [0]), ([], []), ([2], [2]), ([], []), ([4, 3], [4]), ([3, 5], [3, 5]), ([], []), ([7, 5], [7]), ([6, 8], [6, 8]), ([1, 9], [1, 9]), ([], []), ([], []), ([12], [12]), ([11, 13], [11, 13]), ([], []), ([15], [15]), ([], []), ([17], [17]), ([16, 18], [16, 18]), ([14, 19], [14, 19]), ([10, 20], [10, 20]), ([], []), ([22], [22]), ([23], [23]), ([21, 24], [21, 24]), ([], []), ([26], [26]), ([27], [27]), ([25, 28], [25, 28]), ([29, 8, 0, 1, 2, 3, 4, 5, 6, 7, 8, 9, 10, 11, 12, 13, 14, 15, 16, 17, 18, 19, 20, 21, 22, 23, 24, 25, 26, 27, 28, 29], [29])])
def refSum.B32 : List Nat := [0, 1, 0, 4, 0, 28, 60, 0, 188, 508, 1023, 0, 0, 4096, 14336, 0, 32768, 0, 131072, 491520, 1046528, 2097151, 0, 4194304, 12582912, 33554431, 0, 67108864, 201326592, 536870911, 1073741823]
theorem refSum.tab32 : rtab .any (opsOf Try.f28 32) = refSum.T32 := by kernel_rfl
theorem refSum.bits32 : waitsOk refSum.T32.2 refSum.B32 = true := by kernel_rfl
def refSum.T33 : Bool × List (List Nat × List Nat) := (true, [([], []), ([0], [0]), ([], []), ([2, 1], [2]), ([1, 3], [1, 3]), ([], []), ([5, 3], [5]), ([4, 6], [4, 6]), ([], []), ([], []), ([9], [9]), ([8, 10], [8, 10]), ([], []), ([], []), ([13], [13]), ([12, 14], [12, 14]), ([11, 15], [11, 15]), ([], []), ([17], [17]), ([], []), ([19], [19]), ([18, 20], [18, 20]), ([16, 21], [16, 21]), ([7, 22], [7, 22]), ([23, 6, 0, 1, 2, 3, 4, 5, 6, 7, 8, 9, 10, 11, 12, 13, 14, 15, 16, 17, 18, 19, 20, 21, 22, 23], [23])])
def refSum.B33 : List Nat := [0, 1, 0, 7, 15, 0, 47, 127, 0, 0, 512, 1792, 0, 0, 8192, 28672, 65280, 0, 131072, 0, 524288, 1966080, 4194048, 8388607, 16777215]
theorem refSum.tab33 : rtab .any (opsOf Try.f28 33) = refSum.T33 := by kernel_rfl
theorem refSum.bits33 : waitsOk refSum.T33.2 refSum.B33 = true := by kernel_rfl
def refSum.T43 : Bool × List (List Nat × List Nat) := (true, [([], []), ([], []), ([1], [1]), ([2], [2]), ([3], [3]), ([4], [4]), ([], []), ([6], [6]), ([7], [7]), ([8], [8]), ([9], [9]), ([], []), ([11], [11]), ([12], [12]), ([13], [13]), ([14], [14]), ([], []), ([16], [16]), ([17], [17]), ([18], [18]), ([5, 10, 15, 19], [5, 10, 15, 19]), ([0, 20], [0, 20]), ([21, 21, 0, 1, 2, 3, 4, 5, 6, 7, 8, 9, 10, 11, 12, 13, 14, 15, 16, 17, 18, 19, 20, 21], [0, 21])])
def refSum.B43 : List Nat := [0, 0, 2, 6, 14, 30, 0, 64, 192, 448, 960, 0, 2048, 6144, 14336, 30720, 0, 65536, 196608, 458752, 1048574, 2097151, 4194303]
theorem refSum.tab43 : rtab .any (opsOf Try.f28 43) = refSum.T43 := by kernel_rfl
theorem refSum.bits43 : waitsOk refSum.T43.2 refSum.B43 = true := by kernel_rfl
theorem refSum_calls (A : Option Addr) (cA : Nat) (b : List Int) (w : World) (hb : (Kd.int .u8).C w A b.length b) (hcA : b.length ≤ cA) (hbl : b.length ≤ 100000000) :
    Calls Try.prog 28 #[.slice A b.length cA] w fun e w' => ∃ v, e = .returned v ∧ (Kd.int .u8).R 5 w' w.heap.size (fun _ => True) v (shaF b) ∧ Below w.heap.size w w' := by
  have HB := Aside0.mk hb
  have HL := Aside0.mk hbl
  clear hb hbl
  go_enter Try.func28, Try.ntmps28
  go_wp2_with fail
  refine (const_calls w).mono ?_
  rintro e w1 ⟨rfl, hB1⟩
  have B1 := Aside0.mk hB1
  clear hB1
  have HI64 := Aside0.mk (show (Try.prog.info? 75).map (·.size) = some frac.length from info_a64)
  have N1 := Aside0.mk (new_is w1 75 .u32 z64)
  have HLK := Aside0.mk (show z64.length = frac.length from rfl)
  go_upto_region 2 with ((with_reducible refine gate_store (t := 75) (p := 3) rfl ?_); refine storeL_is (b := w1.heap.size) (e := 75) (k := .u32) (xs := z64) 75 (.tmp 3) (.tmp 24) rfl rfl rfl frac rfl rfl N1.out HLK.out HI64.out ?_)
  change Code.wp _ _ _ _ (put (w1.alloc (.cells (nums .u32 z64).toArray 75)) w1.heap.size .u32 frac)
  have ik := put_heap (ys := frac) N1.out
  have bk := below_put (b := w1.heap.size) (k := .u32) (ys := frac) (show Below w1.heap.size w1 (w1.alloc (.cells (nums .u32 z64).toArray 75)) from (Below.refl _ _).alloc (Nat.le_refl _) _) (Nat.le_refl _)
  generalize put (w1.alloc (.cells (nums .u32 z64).toArray 75)) w1.heap.size .u32 frac = w2 at ik bk ⊢
  obtain ⟨bK, hbK⟩ : ∃ b, b = w1.heap.size := ⟨_, rfl⟩
  rw [← hbK] at ik ⊢
  have IK := Aside0.mk ik
  have B2 := Aside0.mk (below_step B1.out bk)
  have HBK := Aside0.mk (show w.heap.size ≤ bK ∧ bK < w2.heap.size from ⟨by rw [hbK]; exact B1.out.size, ik.lt⟩)
  clear ik bk hbK N1 HLK HI64
  have HI8 := Aside0.mk (show (Try.prog.info? 64).map (·.size) = some hI.length from info_a8)
  have HLL := Aside0.mk (show z8.length = hI.length from rfl)
  have N4 := Aside0.mk (show Is (w2.alloc (.cells #[.int .u32 0, .int .u32 0, .int .u32 0, .int .u32 0, .int .u32 0, .int .u32 0, .int .u32 0, .int .u32 0] 64)) w2.heap.size 64 .u32 z8 from new_is w2 64 .u32 z8)
  go_upto_region 3 with ((with_reducible refine gate_store (t := 64) (p := 4) rfl ?_); refine storeL_is (b := w2.heap.size) (e := 64) (k := .u32) (xs := z8) 64 (.tmp 4) (.tmp 25) rfl rfl rfl hI rfl rfl N4.out HLL.out HI8.out ?_)
  change Code.wp _ _ _ _ (put (w2.alloc (.cells (nums .u32 z8).toArray 64)) w2.heap.size .u32 hI)
  have ig : Is (put (w2.alloc (.cells (nums .u32 z8).toArray 64)) w2.heap.size .u32 hI) w2.heap.size 64 .u32 hI := put_heap (ys := hI) N4.out
  have bg := below_put (b := w2.heap.size) (k := .u32) (ys := hI) (show Below w2.heap.size w2 (w2.alloc (.cells (nums .u32 z8).toArray 64)) from (Below.refl _ _).alloc (Nat.le_refl _) _) (Nat.le_refl _)
  generalize put (w2.alloc (.cells (nums .u32 z8).toArray 64)) w2.heap.size .u32 hI = w3 at ig bg ⊢
  obtain ⟨bH, hbH⟩ : ∃ b, b = w2.heap.size := ⟨_, rfl⟩
  rw [← hbH] at ig ⊢
  have IH := Aside0.mk ig
  have IK := Aside0.mk (IK.out.below bg)
  have B3 := Aside0.mk (below_step B2.out bg)
  have HBH := Aside0.mk (show w.heap.size ≤ bH ∧ bH < w3.heap.size ∧ bK < bH from ⟨by rw [hbH]; exact B2.out.size, ig.lt, by rw [hbH]; exact HBK.out.2⟩)
  clear ig bg hbH N4 HLL HI8
  have Z1 := Aside0.mk (lit_R w3 w3.heap.size w3.heap.size 5 .u8 [] 0 rfl (Nat.le_refl _) rfl (by decide))
  have L1 := Aside0.mk (show Below w3.heap.size w3 (w3.alloc (.cells #[] 5)) from (Below.refl _ _).alloc (Nat.le_refl _) _)
  go_wp2_with (first | ((with_reducible refine gate_builtin (b := .append) (xs := #[.tmp 26, .tmp 27]) rfl ?_); at_builtin; (refine Kd.R_append_row (w0 := w3) (Value.int .u8) (0 : Int) (h1 := fun _ => rfl) w3.heap.size rfl (.tmp 26) (.tmp 27) 22 5 (.int .u8 0) 1 rfl Try.underlying22 Pol.info_u8 rfl Nat.one_pos _ [] b A b.length cA (fun _ => True) rfl rfl (fun _ _ => trivial) ?q1 ?q2 ?q3 ?q4 ?q5 ?_; (case q1 => exact Z1.out); (case q2 => exact Kd.C_below HB.out (B3.out.trans (L1.out.mono B3.out.size))); (case q3 => exact L1.out); (case q4 => exact L1.out.size); (case q5 => have := HL.out; simp only [List.length_nil]; omega); intro v4 w4 hR hB _ _; have R4 := Aside0.mk (show (Kd.int .u8).R 5 w4 w3.heap.size (fun _ => True) v4 b from hR); have L4 := Aside0.mk hB; clear hR hB)) | ((with_reducible refine gate_builtin (b := .append) (xs := #[.tmp 28, .tmp 29]) rfl ?_); at_builtin; refine lit_append w3.heap.size rfl (.tmp 28) (.tmp 29) 22 5 .u8 1 rfl Try.underlying22 Pol.info_u8 Nat.one_pos _ b [128] 1 ?q1 rfl ?q3 ?q4 ?q5 ?q6 ?_; (case q1 => rfl); (case q3 => rfl); (case q4 => exact R4.out); (case q5 => exact L4.out.size); (case q6 => have := HL.out; omega); intro v5 w5 hR1 hB1; have R5 := Aside0.mk hR1; have L5 := Aside0.mk (L4.out.trans hB1); clear hR1 hB1))
  obtain ⟨d, hd⟩ : ∃ d, d = padN b.length := ⟨_, rfl⟩
  have HD := Aside0.mk (And.intro hd (show d < 64 by rw [hd]; unfold padN; omega))
  clear hd
  go_loopw [5] (fun v w' => ∃ j : Nat, j ≤ d ∧ Aside0 ((Kd.int .u8).R 5 w' w3.heap.size (fun _ => True) v (b ++ [128] ++ List.replicate j 0)) ∧ Aside0 (Below w3.heap.size w3 w')) (fun v _ => b.length + 1 + d - lenV v)
  case atStart => exact ⟨0, by omega, ⟨by rw [List.replicate_zero, List.append_nil]; exact R5.out⟩, L5⟩
  case round =>
    obtain ⟨j, hj, HR, HB⟩ := hrel
    obtain ⟨Av, cv, rfl, hcv, _⟩ := Kd.R_reads HR.out
    obtain ⟨n, hn⟩ : ∃ n : Nat, n = (b ++ [128] ++ List.replicate j 0).length := ⟨_, rfl⟩
    have hnl : n = b.length + 1 + j := by rw [hn, List.length_append, List.length_append, List.length_replicate]; rfl
    have HNN := Aside0.mk hnl
    rw [← hn] at HR ⊢
    by_cases hlt : j < d
    · have hm : n % 64 ≠ 56 := by rw [hnl]; exact padN_lt _ _ (by rw [← HD.out.1]; exact hlt)
      have d1 : ((n : Int) % 64 != 56) = true := by simp; omega
      have d2 : decide ((n : Int) % 64 = 56) = false := decide_eq_false (by omega)
      have E1 := Aside0.mk (show b ++ [128] ++ List.replicate (j + 1) 0 = (b ++ [128] ++ List.replicate j (0 : Int)) ++ [0] by rw [List.replicate_succ', List.append_assoc, List.append_assoc, List.append_assoc])
      have HN2 := Aside0.mk hn
      have HLT := Aside0.mk hlt
      clear hm hn hnl hcv hlt
      go_wp2_with ((with_reducible refine gate_builtin (b := .append) (xs := #[.tmp 35, .tmp 36]) rfl ?_); at_builtin; refine lit_append w3.heap.size rfl (.tmp 35) (.tmp 36) 22 5 .u8 1 rfl Try.underlying22 Pol.info_u8 Nat.one_pos _ (b ++ [128] ++ List.replicate j 0) [0] 1 ?q1 rfl ?q3 ?q4 ?q5 ?q6 ?_; (case q1 => rfl); (case q3 => rfl); (case q4 => exact HR.out); (case q5 => exact HB.out.size); (case q6 => have := HL.out; have := HD.out.2; have := HNN.out; have := HLT.out; rw [← HN2.out]; omega); intro v6 w6 hR1 hB1; have R6 := Aside0.mk hR1; have L6 := Aside0.mk (HB.out.trans hB1); clear hR1 hB1)
      obtain ⟨A6, c6, rfl⟩ := Kd.R_slice R6.out
      refine ⟨⟨j + 1, by have := HLT.out; omega, ⟨by rw [E1.out]; exact R6.out⟩, L6⟩, ?_⟩
      simp only [lenV]
      rw [List.length_append, ← HN2.out]
      have h1 := HNN.out
      have h2 := HLT.out
      simp only [List.length_cons, List.length_nil]
      omega
    · obtain rfl : j = d := by omega
      have hm : n % 64 = 56 := by rw [hnl, HD.out.1]; exact padN_mod _
      have d1 : ((n : Int) % 64 != 56) = false := by simp; omega
      have d2 : decide ((n : Int) % 64 = 56) = true := decide_eq_true (by omega)
      have HN2 := Aside0.mk hn
      clear hm hn hnl hcv hlt
      obtain ⟨m0, hm0⟩ : ∃ m0, m0 = b ++ [128] ++ List.replicate j (0 : Int) := ⟨_, rfl⟩
      rw [← hm0] at HR HN2
      have HM0 := Aside0.mk hm0
      clear hm0
      obtain ⟨u, hu⟩ : ∃ u, u = IntKind.u64.wrap (IntKind.u64.wrap (b.length : Int) * 8) := ⟨_, rfl⟩
      have HU := Aside0.mk hu
      go_wp2_with fail
      rw [← hu]
      clear hu d1 d2
      go_loopw [5, 7] (fun v k w' => ∃ i : Nat, i ≤ 8 ∧ k = .int .i64 (i : Int) ∧ Aside0 ((Kd.int .u8).R 5 w' w3.heap.size (fun _ => True) v (m0 ++ lenB u i)) ∧ Aside0 (Below w3.heap.size w3 w')) (fun _ k _ => 8 - (intOf k).toNat)
      case atStart => exact ⟨0, by omega, rfl, ⟨by rw [lenB, List.append_nil]; exact HR.out⟩, HB⟩
      case round =>
        obtain ⟨i, hi, rfl, HR, HB⟩ := hrel
        by_cases h8 : i < 8
        · have k0 : (i : Int) < 8 := by omega
          have LI := Aside0.mk (show (m0 ++ lenB u i).length ≤ 100000200 by rw [List.length_append, len_lenB, ← HN2.out, HNN.out]; have := HL.out; have := HD.out.2; omega)
          have H8 := Aside0.mk h8
          clear h8
          go_wp2_with ((with_reducible refine gate_builtin (b := .append) (xs := #[.tmp 46, .tmp 54]) rfl ?_); at_builtin; refine lit_append w3.heap.size rfl (.tmp 46) (.tmp 54) 22 5 .u8 1 rfl Try.underlying22 Pol.info_u8 Nat.one_pos _ (m0 ++ lenB u i) [u / 2 ^ (56 - 8 * i) % 256] 1 ?q1 rfl ?q3 ?q4 ?q5 ?q6 ?_; (case q1 => rfl); (case q3 => rfl); (case q4 => exact HR.out); (case q5 => exact HB.out.size); (case q6 => have := LI.out; omega); intro v6 w6 hR1 hB1; have R6 := Aside0.mk hR1; have L6 := Aside0.mk (HB.out.trans hB1); clear hR1 hB1)
          refine ⟨⟨i + 1, by have := H8.out; omega, congrArg (Value.int .i64) rfl, ⟨by rw [lenB, ← List.append_assoc]; exact R6.out⟩, L6⟩, meas8 i H8.out⟩
        · obtain rfl : i = 8 := by omega
          rw [show ((8 : Nat) : Int) = 8 from rfl]
          clear h8
          obtain ⟨msg, hmsg⟩ : ∃ x, x = m0 ++ lenB u 8 := ⟨_, rfl⟩
          have hml : msg.length % 64 = 0 ∧ msg.length = n + 8 := by
            have h1 : msg.length = n + 8 := by rw [hmsg, List.length_append, len_lenB, ← HN2.out]
            have h2 := HNN.out
            have h3 := HD.out.1
            have h4 := padN_mod b.length
            omega
          have HMM := Aside0.mk (And.intro hmsg hml)
          have MF := Aside0.mk (show msg = msgF b by rw [hmsg, HM0.out, HU.out, HD.out.1]; rfl)
          have M64 := Aside0.mk hml.1
          have ML := Aside0.mk (show msg.length ≤ 200000000 ∧ 0 < msg.length by have h1 := HNN.out; have h3 := HL.out; have h4 := HD.out.2; omega)
          rw [← hmsg] at HR
          obtain ⟨gm, cm, hv, hgm, hgl, _⟩ := Kd.R_form HR.out ML.out.2
          have hCm := (Kd.R_reads' (show (Kd.int .u8).R 5 wr w3.heap.size (fun _ => True) (.slice (some ⟨gm, 0, none⟩) msg.length cm) msg by rw [← hv]; exact HR.out))
          subst hv
          obtain ⟨wk, rfl⟩ : ∃ z : World, z = wr := ⟨_, rfl⟩
          have CM := Aside0.mk (And.intro hCm.2.2 hCm.2.1)
          have GM := Aside0.mk (show gm ≠ bH ∧ gm ≠ bK ∧ gm < wk.heap.size from ⟨by have := HBH.out; omega, by have := HBH.out; omega, hgl⟩)
          have IHk := Aside0.mk (IH.out.below HB.out)
          have IKk := Aside0.mk (IK.out.below HB.out)
          have BK := Aside0.mk (B3.out.trans (HB.out.mono B3.out.size))
          have NK := Aside0.mk (show bK ≠ bH by have := HBH.out; omega)
          clear hmsg hml hgm hgl hCm HR HB HM0 HU HMM HN2 HNN
          go_wp2_with fail
          go_loopw [8] (fun v w' => ∃ j : Nat, 64 * j ≤ msg.length ∧ v = .int .i64 ((64 * j : Nat) : Int) ∧ Aside0 (Into wk w' bH .u32 (hS msg j))) (fun v _ => msg.length + 64 - (intOf v).toNat)
          case atStart => exact ⟨0, by omega, rfl, ⟨Into.refl IHk.out⟩⟩
          case round =>
            obtain ⟨j, hj, rfl, HT⟩ := hrel
            have hm64 : msg.length % 64 = 0 := M64.out
            by_cases hlt : 64 * j < msg.length
            · have h64 : 64 * j + 64 ≤ msg.length := by omega
              obtain ⟨q, hq⟩ : ∃ q, q = 64 * j := ⟨_, rfl⟩
              obtain ⟨r, hr⟩ : ∃ r, r = q + 64 := ⟨_, rfl⟩
              have hq2 : (q : Int) < (msg.length : Int) := by omega
              have hq3 : decide (q < msg.length) = true := decide_eq_true (by omega)
              have HRR := Aside0.mk hr
              have HQ := Aside0.mk (And.intro hq (And.intro h64 hlt))
              rw [← hq]
              clear hr hq h64 hlt hm64 hj
              go_upto_region 15 with (fail)
              change Code.wp _ _ _ _ (wr.alloc (.cells (nums .u32 z64).toArray 75))
              have iw := new_is wr 75 .u32 z64
              have bw : Below wr.heap.size wr (wr.alloc (.cells (nums .u32 z64).toArray 75)) := (Below.refl _ _).alloc (Nat.le_refl _) _
              generalize wr.alloc (.cells (nums .u32 z64).toArray 75) = wa at iw bw ⊢
              obtain ⟨bW, hbW⟩ : ∃ z, z = wr.heap.size := ⟨_, rfl⟩
              have HTa := Aside0.mk (HT.out.belowS bw)
              have CMa := Aside0.mk (C_block ((bw.block gm (Nat.lt_of_lt_of_le GM.out.2.2 HT.out.size)).trans (HT.out.heap gm GM.out.1 GM.out.2.2)) CM.out.1)
              have IHa := Aside0.mk ((HT.out.is IHk.out).below bw)
              have IKa := Aside0.mk ((HT.out.other NK.out IKk.out).below bw)
              have NW := Aside0.mk (show bH ≠ bW ∧ bK ≠ bW ∧ gm ≠ bW ∧ wk.heap.size ≤ bW from ⟨by have := (HT.out.is IHk.out).lt; omega, by have := (HT.out.other NK.out IKk.out).lt; omega, by have := HT.out.size; have := GM.out.2.2; omega, by rw [hbW]; exact HT.out.size⟩)
              rw [← hbW] at iw ⊢
              have IW := Aside0.mk iw
              have HBW := Aside0.mk hbW
              clear iw bw hbW HT
              obtain ⟨bb, hbb⟩ : ∃ z, z = blk msg j := ⟨_, rfl⟩
              have HBB := Aside0.mk hbb
              clear hbb
              go_wp2
              go_loopw [10] (fun v w' => ∃ i : Nat, i ≤ 16 ∧ v = .int .i64 i ∧ Aside0 (To wa w' bW .u32 (wA bb i))) (fun v _ => 16 - (intOf v).toNat)
              case atStart => exact ⟨0, by omega, rfl, ⟨To.refl IW.out⟩⟩
              case round =>
                obtain ⟨i, hi, rfl, HT⟩ := hrel
                obtain ⟨x, q0⟩ : ∃ y_, y_ = wA bb i := ⟨_, rfl⟩
                rw [← q0] at HT
                have Lx := Aside0.mk (show x.length = 64 by rw [q0, len_wA])
                have Q0 := Aside0.mk q0
                clear q0
                have ix := HT.out.is IW.out
                by_cases h16 : i < 16
                · have i0 : (i : Int) < 16 := by omega
                  obtain ⟨a, ha⟩ : ∃ a : Nat, a = q + 4 * i := ⟨_, rfl⟩
                  have haL : a + 4 ≤ msg.length := by have := HQ.out; omega
                  have hcm := CM.out.2
                  have hw1 : wrap64 ((q : Int) + 4 * (i : Int)) = (a : Int) := by have := ML.out.1; rw [wrap_id (by omega) (by omega)]; omega
                  have k1 : a ≤ msg.length := by omega
                  have k2 : ¬ cm = a := by omega
                  have HA4 := Aside0.mk (And.intro ha haL)
                  clear ha haL
                  go_upto_region 19 with (fail)
                  have CMr := C_block (HT.out.heap gm NW.out.2.2.1) CMa.out
                  have cl : ∀ c : Nat, c < 4 → wr.cell? ⟨gm, a + c, none⟩ = some (.int .u8 (rd bb ((4 * i + c : Nat) : Int))) := by
                    intro c hc
                    have h1 := HA4.out
                    have h2 := HQ.out
                    obtain ⟨ad, hA, h⟩ := Kd.at_int CMr ((a + c : Nat) : Int) (by omega) (by omega)
                    cases hA
                    rw [Int.toNat_natCast, add_plain] at h
                    rw [HBB.out, rd_blk msg j (4 * i + c) (by omega) (by omega)]
                    rw [show 64 * j + (4 * i + c) = a + c by omega]
                    exact h
                  obtain ⟨y0, hy0⟩ : ∃ y, y = rd bb ((4 * i : Nat) : Int) := ⟨_, rfl⟩
                  obtain ⟨y1, hy1⟩ : ∃ y, y = rd bb ((4 * i + 1 : Nat) : Int) := ⟨_, rfl⟩
                  obtain ⟨y2, hy2⟩ : ∃ y, y = rd bb ((4 * i + 2 : Nat) : Int) := ⟨_, rfl⟩
                  obtain ⟨y3, hy3⟩ : ∃ y, y = rd bb ((4 * i + 3 : Nat) : Int) := ⟨_, rfl⟩
                  have l0 := cl 0 (by decide)
                  have l1 := cl 1 (by decide)
                  have l2 := cl 2 (by decide)
                  have l3 := cl 3 (by decide)
                  rw [Nat.add_zero, Nat.add_zero, ← hy0] at l0
                  rw [← hy1] at l1
                  rw [← hy2] at l2
                  rw [← hy3] at l3
                  have HY := Aside0.mk (And.intro hy0 (And.intro hy1 (And.intro hy2 hy3)))
                  obtain ⟨L, hL⟩ : ∃ L, L = msg.length - a := ⟨_, rfl⟩
                  have hL4 : 4 ≤ L := by have := HA4.out; omega
                  rw [← hL]
                  have u0 : 0 < L := by omega
                  have u1 : 1 < L := by omega
                  have u2 : 2 < L := by omega
                  have u3 : 3 < L := by omega
                  have v0 : (0 : Int) < (L : Int) := by omega
                  have v1 : (1 : Int) < (L : Int) := by omega
                  have v2 : (2 : Int) < (L : Int) := by omega
                  have v3 : (3 : Int) < (L : Int) := by omega
                  have i64 : (i : Int) < 64 := by omega
                  have H1 := ix.cell i (by rw [Lx.out]; omega)
                  have F1 := ix.free i
                  clear CMr cl hy0 hy1 hy2 hy3 hL hL4 hw1 k1 k2 hcm
                  go_still_tail 24, (by kernel_rfl)
                  change wpList _ _ _ _ _ wr.drew
                  go_wp2_with fail
                  rw [put_set ix]
                  have e0 : beW bb i = Go.bits .or .u32 (Go.bits .or .u32 (Go.bits .or .u32 (y0 % 4294967296 * 16777216 % 4294967296) (y1 % 4294967296 * 65536 % 4294967296)) (y2 % 4294967296 * 256 % 4294967296)) (y3 % 4294967296) := by
                    rw [beW, HY.out.1, HY.out.2.1, HY.out.2.2.1, HY.out.2.2.2]
                  rw [← e0]
                  have e1 : wA bb (i + 1) = x.set i (beW bb i) := by rw [wA, ← Q0.out]
                  rw [← e1]
                  have t1 := HT.out.put_dr (zs := wA bb (i + 1))
                  go_roundw
                  case rel => exact ⟨i + 1, by omega, by go_num, ⟨t1⟩⟩
                  case measure => simp [intOf]; omega
                · obtain rfl : i = 16 := by omega
                  rw [show ((16 : Nat) : Int) = 16 from rfl]
                  clear h16
                  have XA := Aside0.mk (show x = wB bb 0 by rw [wB]; exact Q0.out)
                  have FR := Aside0.mk (show wr.heap[gm]? = wa.heap[gm]? from HT.out.heap gm NW.out.2.2.1)
                  have IA := Aside0.mk ix
                  have BA := Aside0.mk (To.below (Below.refl wk.heap.size wa) HT.out NW.out.2.2.2)
                  have TA := Aside0.mk HT.out
                  clear ix Q0
                  go_wp2
                  rw [XA.out] at IA
                  obtain ⟨wo, rfl⟩ : ∃ wo : World, wo = wr := ⟨_, rfl⟩
                  go_loopw [12] (fun v w' => ∃ j : Nat, j ≤ 48 ∧ v = .int .i64 ((16 + j : Nat) : Int) ∧ Aside0 (To wo w' bW .u32 (wB bb j))) (fun v _ => 64 - (intOf v).toNat)
                  case atStart => exact ⟨0, by omega, rfl, ⟨To.refl IA.out⟩⟩
                  case round =>
                    obtain ⟨j2, hj2, rfl, HT⟩ := hrel
                    obtain ⟨y, q0⟩ : ∃ y_, y_ = wB bb j2 := ⟨_, rfl⟩
                    rw [← q0] at HT
                    have Ly := Aside0.mk (show y.length = 64 by rw [q0, len_wB])
                    have Q0 := Aside0.mk q0
                    clear q0
                    have iy := HT.out.is IA.out
                    by_cases h48 : j2 < 48
                    · have j0 : ((16 + j2 : Nat) : Int) < 64 := by omega
                      obtain ⟨m, hm⟩ : ∃ m : Nat, m = 16 + j2 := ⟨_, rfl⟩
                      obtain ⟨m1, hm1⟩ : ∃ m : Nat, m = j2 + 1 := ⟨_, rfl⟩
                      obtain ⟨m9, hm9⟩ : ∃ m : Nat, m = j2 + 9 := ⟨_, rfl⟩
                      obtain ⟨m14, hm14⟩ : ∃ m : Nat, m = j2 + 14 := ⟨_, rfl⟩
                      rw [← hm] at j0 ⊢
                      have W15 : IntKind.i64.wrap ((m : Int) - 15) = (m1 : Int) := by simp [IntKind.wrap, IntKind.bits, IntKind.signed]; omega
                      have W2 : IntKind.i64.wrap ((m : Int) - 2) = (m14 : Int) := by simp [IntKind.wrap, IntKind.bits, IntKind.signed]; omega
                      have W16 : IntKind.i64.wrap ((m : Int) - 16) = (j2 : Int) := by simp [IntKind.wrap, IntKind.bits, IntKind.signed]; omega
                      have W7 : IntKind.i64.wrap ((m : Int) - 7) = (m9 : Int) := by simp [IntKind.wrap, IntKind.bits, IntKind.signed]; omega
                      have w15 : wrap64 ((m : Int) - 15) = (m1 : Int) := (i64_w _).symm.trans W15
                      have w2 : wrap64 ((m : Int) - 2) = (m14 : Int) := (i64_w _).symm.trans W2
                      have V1 : (m1 : Int) < 64 := by omega
                      have V14 : (m14 : Int) < 64 := by omega
                      have V9 : (m9 : Int) < 64 := by omega
                      have Vj : (j2 : Int) < 64 := by omega
                      have H1 := iy.cell m1 (by rw [Ly.out]; omega)
                      have H14 := iy.cell m14 (by rw [Ly.out]; omega)
                      have HM := Aside0.mk (And.intro hm (And.intro hm1 (And.intro hm9 hm14)))
                      clear hm hm1 hm9 hm14
                      go_upto_region 25 with (fail)
                      change Code.wp _ _ _ _ wr
                      obtain ⟨p1, hp1⟩ : ∃ p, p = rd y (m1 : Int) := ⟨_, rfl⟩
                      obtain ⟨p2, hp2⟩ : ∃ p, p = rd y (m14 : Int) := ⟨_, rfl⟩
                      rw [← hp1, ← hp2]
                      have HP := Aside0.mk (And.intro hp1 hp2)
                      have LM := Aside0.mk (show j2 < y.length ∧ m9 < y.length ∧ m < y.length by rw [Ly.out]; have := HM.out; omega)
                      have QL := Aside0.mk (fun (w' : World) (h : To wo w' bW .u32 y) => And.intro ((h.is IA.out).cell j2 LM.out.1) ((h.is IA.out).cell m9 LM.out.2.1))
                      clear hp1 hp2 H1 H14 iy W15 W2 w15 w2 V1 V14
                      refine start_ (n := 30) (S := fun w' => To wo w' bW .u32 y) (ds := [29]) #[false, false, false, false, false, false, false, false, false, false, false, false, false, false, false, false, false, false, false, false, false, false, false, false, false, false, false, false, false, false] (by kernel_rfl) rfl rfl ((HT.out.drewN 1)) (fun hHeld => ?_)
                      refine with_tabW refSum.tab25 refSum.bits25 (fun HT_ HW_ => ?_)
                      refine pure_ (i := 0) (N := some 108) (v := ?_) (a' := ?_) #[true, false, false, false, false, false, false, false, false, false, false, false, false, false, false, false, false, false, false, false, false, false, false, false, false, false, false, false, false, false] rfl rfl (any_of HT_.out (by kernel_rfl)) (fun _ _ _ h => h) (Or.inl ⟨by rfl, ?_⟩) ?_ ?_
                      rotate_left
                      · intro w'
                        go_simp
                        with_reducible rfl
                      rotate_left
                      · simp only [Act.put, List.setIfInBounds_toArray, List.set_cons_zero, List.set_cons_succ]
                        rfl
                      refine pure_ (i := 1) (N := some 109) (v := ?_) (a' := ?_) #[true, true, false, false, false, false, false, false, false, false, false, false, false, false, false, false, false, false, false, false, false, false, false, false, false, false, false, false, false, false] rfl rfl (any_of HT_.out (by kernel_rfl)) (fun _ _ _ h => h) (Or.inl ⟨by rfl, ?_⟩) ?_ ?_
                      rotate_left
                      · intro w'
                        go_simp
                        with_reducible rfl
                      rotate_left
                      · simp only [Act.put, List.setIfInBounds_toArray, List.set_cons_zero, List.set_cons_succ]
                        rfl
                      refine pure_ (i := 2) (N := some 110) (v := ?_) (a' := ?_) #[true, true, true, false, false, false, false, false, false, false, false, false, false, false, false, false, false, false, false, false, false, false, false, false, false, false, false, false, false, false] rfl rfl (any_of HT_.out (by kernel_rfl)) (fun _ _ _ h => h) (Or.inl ⟨by rfl, ?_⟩) ?_ ?_
                      rotate_left
                      · intro w'
                        go_simp
                        with_reducible rfl
                      rotate_left
                      · simp only [Act.put, List.setIfInBounds_toArray, List.set_cons_zero, List.set_cons_succ]
                        rfl
                      refine pure_ (i := 3) (N := some 111) (v := ?_) (a' := ?_) #[true, true, true, true, false, false, false, false, false, false, false, false, false, false, false, false, false, false, false, false, false, false, false, false, false, false, false, false, false, false] rfl rfl (any_of HT_.out (by kernel_rfl)) (fun _ _ _ h => h) (Or.inl ⟨by rfl, ?_⟩) ?_ ?_
                      rotate_left
                      · intro w'
                        go_simp
                        with_reducible rfl
                      rotate_left
                      · simp only [Act.put, List.setIfInBounds_toArray, List.set_cons_zero, List.set_cons_succ]
                        rfl
                      refine pure_ (i := 5) (N := some 113) (v := ?_) (a' := ?_) #[true, true, true, true, false, true, false, false, false, false, false, false, false, false, false, false, false, false, false, false, false, false, false, false, false, false, false, false, false, false] rfl rfl (any_of HT_.out (by kernel_rfl)) (fun _ _ _ h => h) (Or.inl ⟨by rfl, ?_⟩) ?_ ?_
                      rotate_left
                      · intro w'
                        go_simp
                        with_reducible rfl
                      rotate_left
                      · simp only [Act.put, List.setIfInBounds_toArray, List.set_cons_zero, List.set_cons_succ]
                        rfl
                      refine pure_ (i := 7) (N := some 115) (v := ?_) (a' := ?_) #[true, true, true, true, false, true, false, true, false, false, false, false, false, false, false, false, false, false, false, false, false, false, false, false, false, false, false, false, false, false] rfl rfl (any_of HT_.out (by kernel_rfl)) (fun _ _ _ h => h) (Or.inl ⟨by rfl, ?_⟩) ?_ ?_
                      rotate_left
                      · intro w'
                        go_simp
                        with_reducible rfl
                      rotate_left
                      · simp only [Act.put, List.setIfInBounds_toArray, List.set_cons_zero, List.set_cons_succ]
                        rfl
                      refine pure_ (i := 10) (N := some 118) (v := ?_) (a' := ?_) #[true, true, true, true, false, true, false, true, false, false, true, false, false, false, false, false, false, false, false, false, false, false, false, false, false, false, false, false, false, false] rfl rfl (any_of HT_.out (by kernel_rfl)) (fun _ _ _ h => h) (Or.inl ⟨by rfl, ?_⟩) ?_ ?_
                      rotate_left
                      · intro w'
                        go_simp
                        with_reducible rfl
                      rotate_left
                      · simp only [Act.put, List.setIfInBounds_toArray, List.set_cons_zero, List.set_cons_succ]
                        rfl
                      refine pure_ (i := 11) (N := some 119) (v := ?_) (a' := ?_) #[true, true, true, true, false, true, false, true, false, false, true, true, false, false, false, false, false, false, false, false, false, false, false, false, false, false, false, false, false, false] rfl rfl (any_of HT_.out (by kernel_rfl)) (fun _ _ _ h => h) (Or.inl ⟨by rfl, ?_⟩) ?_ ?_
                      rotate_left
                      · intro w'
                        go_simp
                        with_reducible rfl
                      rotate_left
                      · simp only [Act.put, List.setIfInBounds_toArray, List.set_cons_zero, List.set_cons_succ]
                        rfl
                      refine pure_ (i := 14) (N := some 122) (v := ?_) (a' := ?_) #[true, true, true, true, false, true, false, true, false, false, true, true, false, false, true, false, false, false, false, false, false, false, false, false, false, false, false, false, false, false] rfl rfl (any_of HT_.out (by kernel_rfl)) (fun _ _ _ h => h) (Or.inl ⟨by rfl, ?_⟩) ?_ ?_
                      rotate_left
                      · intro w'
                        go_simp
                        with_reducible rfl
                      rotate_left
                      · simp only [Act.put, List.setIfInBounds_toArray, List.set_cons_zero, List.set_cons_succ]
                        rfl
                      refine pure_ (i := 15) (N := some 123) (v := ?_) (a' := ?_) #[true, true, true, true, false, true, false, true, false, false, true, true, false, false, true, true, false, false, false, false, false, false, false, false, false, false, false, false, false, false] rfl rfl (any_of HT_.out (by kernel_rfl)) (fun _ _ _ h => h) (Or.inl ⟨by rfl, ?_⟩) ?_ ?_
                      rotate_left
                      · intro w'
                        go_simp
                        with_reducible rfl
                      rotate_left
                      · simp only [Act.put, List.setIfInBounds_toArray, List.set_cons_zero, List.set_cons_succ]
                        rfl
                      refine pure_ (i := 16) (N := some 124) (v := ?_) (a' := ?_) #[true, true, true, true, false, true, false, true, false, false, true, true, false, false, true, true, true, false, false, false, false, false, false, false, false, false, false, false, false, false] rfl rfl (any_of HT_.out (by kernel_rfl)) (fun _ _ _ h => h) (Or.inl ⟨by rfl, ?_⟩) ?_ ?_
                      rotate_left
                      · intro w'
                        go_simp
                        with_reducible rfl
                      rotate_left
                      · simp only [Act.put, List.setIfInBounds_toArray, List.set_cons_zero, List.set_cons_succ]
                        rfl
                      refine pure_ (i := 19) (N := some 127) (v := ?_) (a' := ?_) #[true, true, true, true, false, true, false, true, false, false, true, true, false, false, true, true, true, false, false, true, false, false, false, false, false, false, false, false, false, false] rfl rfl (any_of HT_.out (by kernel_rfl)) (fun _ _ _ h => h) (Or.inl ⟨by rfl, ?_⟩) ?_ ?_
                      rotate_left
                      · intro w'
                        go_simp
                        with_reducible rfl
                      rotate_left
                      · simp only [Act.put, List.setIfInBounds_toArray, List.set_cons_zero, List.set_cons_succ]
                        rfl
                      refine pure_ (i := 21) (N := some 129) (v := ?_) (a' := ?_) #[true, true, true, true, false, true, false, true, false, false, true, true, false, false, true, true, true, false, false, true, false, true, false, false, false, false, false, false, false, false] rfl rfl (any_of HT_.out (by kernel_rfl)) (fun _ _ _ h => h) (Or.inl ⟨by rfl, ?_⟩) ?_ ?_
                      rotate_left
                      · intro w'
                        go_simp
                        with_reducible rfl
                      rotate_left
                      · simp only [Act.put, List.setIfInBounds_toArray, List.set_cons_zero, List.set_cons_succ]
                        rfl
                      refine pure_ (i := 24) (N := some 132) (v := ?_) (a' := ?_) #[true, true, true, true, false, true, false, true, false, false, true, true, false, false, true, true, true, false, false, true, false, true, false, false, true, false, false, false, false, false] rfl rfl (any_of HT_.out (by kernel_rfl)) (fun _ _ _ h => h) (Or.inl ⟨by rfl, ?_⟩) ?_ ?_
                      rotate_left
                      · intro w'
                        go_simp
                        with_reducible rfl
                      rotate_left
                      · simp only [Act.put, List.setIfInBounds_toArray, List.set_cons_zero, List.set_cons_succ]
                        rfl
                      refine pure_ (i := 25) (N := some 133) (v := ?_) (a' := ?_) #[true, true, true, true, false, true, false, true, false, false, true, true, false, false, true, true, true, false, false, true, false, true, false, false, true, true, false, false, false, false] rfl rfl (any_of HT_.out (by kernel_rfl)) (fun _ _ _ h => h) (Or.inl ⟨by rfl, ?_⟩) ?_ ?_
                      rotate_left
                      · intro w'
                        go_simp
                        with_reducible rfl
                      rotate_left
                      · simp only [Act.put, List.setIfInBounds_toArray, List.set_cons_zero, List.set_cons_succ]
                        rfl
                      refine take_ (i := 4) (N := some 112) (v := ?_) (a' := ?_) #[true, true, true, true, true, true, false, true, false, false, true, true, false, false, true, true, true, false, false, true, false, true, false, false, true, true, false, false, false, false] rfl rfl (take_ofW HT_.out HW_.out (by kernel_rfl)) (fun _ _ _ h => h) (Or.inl ⟨by rfl, ?_⟩) hHeld ?_ ?_
                      rotate_left
                      · intro w' s0
                        have q0_ := QL.out w' s0
                        go_simp
                        with_reducible rfl
                      rotate_left
                      · simp only [Act.put, List.setIfInBounds_toArray, List.set_cons_zero, List.set_cons_succ]
                        rfl
                      refine take_ (i := 17) (N := some 125) (v := ?_) (a' := ?_) #[true, true, true, true, true, true, false, true, false, false, true, true, false, false, true, true, true, true, false, true, false, true, false, false, true, true, false, false, false, false] rfl rfl (take_ofW HT_.out HW_.out (by kernel_rfl)) (fun _ _ _ h => h) (Or.inl ⟨by rfl, ?_⟩) hHeld ?_ ?_
                      rotate_left
                      · intro w' s0
                        have q0_ := QL.out w' s0
                        go_simp
                        with_reducible rfl
                      rotate_left
                      · simp only [Act.put, List.setIfInBounds_toArray, List.set_cons_zero, List.set_cons_succ]
                        rfl
                      refine one_ (i := 6) (N := some 114) #[true, true, true, true, true, true, true, true, false, false, true, true, false, false, true, true, true, true, false, true, false, true, false, false, true, true, false, false, false, false] rfl rfl (one_of HT_.out (by kernel_rfl)) (by decide) (fun K hK => ?_)
                      refine goes_ Try.func46 (by kernel_rfl) rfl #[.int .u32 p1, .int .u64 7] (by rfl) rfl rfl (by simp only [List.map_toArray, List.map_cons, List.map_nil]; rfl) ?_
                      with_reducible refine (UTurn.strongroomref6_turn.calls p1 7 (rotL p1 25) _ (turn_some p1 7 25 (by decide) (by decide) (by decide) (by decide))).mono ?_
                      rintro e wz1 ⟨rfl, ⟨n1, hz⟩⟩
                      refine ⟨_, rfl, ?_⟩
                      have T1 : To wo wz1 bW .u32 y := by rw [hz]; exact hHeld.drewN n1
                      clear hz
                      refine hK.out _ _ (T1) (fun hHeld => ?_)
                      clear hK K
                      refine norm_ (a' := ?_) ?_ ?_
                      rotate_left
                      · show Act.put _ (some 114) _ = _
                        simp only [Act.put, List.setIfInBounds_toArray, List.set_cons_zero, List.set_cons_succ]
                        rfl
                      refine one_ (i := 8) (N := some 116) #[true, true, true, true, true, true, true, true, true, false, true, true, false, false, true, true, true, true, false, true, false, true, false, false, true, true, false, false, false, false] rfl rfl (one_of HT_.out (by kernel_rfl)) (by decide) (fun K hK => ?_)
                      refine goes_ Try.func46 (by kernel_rfl) rfl #[.int .u32 p1, .int .u64 18] (by rfl) rfl rfl (by simp only [List.map_toArray, List.map_cons, List.map_nil]; rfl) ?_
                      with_reducible refine (UTurn.strongroomref6_turn.calls p1 18 (rotL p1 14) _ (turn_some p1 18 14 (by decide) (by decide) (by decide) (by decide))).mono ?_
                      rintro e wz2 ⟨rfl, ⟨n2, hz⟩⟩
                      refine ⟨_, rfl, ?_⟩
                      have T2 : To wo wz2 bW .u32 y := by rw [hz]; exact hHeld.drewN n2
                      clear hz
                      refine hK.out _ _ (T2) (fun hHeld => ?_)
                      clear hK K
                      refine norm_ (a' := ?_) ?_ ?_
                      rotate_left
                      · show Act.put _ (some 116) _ = _
                        simp only [Act.put, List.setIfInBounds_toArray, List.set_cons_zero, List.set_cons_succ]
                        rfl
                      refine pure_ (i := 9) (N := some 117) (v := ?_) (a' := ?_) #[true, true, true, true, true, true, true, true, true, true, true, true, false, false, true, true, true, true, false, true, false, true, false, false, true, true, false, false, false, false] rfl rfl (any_of HT_.out (by kernel_rfl)) (fun _ _ _ h => h) (Or.inl ⟨by rfl, ?_⟩) ?_ ?_
                      rotate_left
                      · intro w'
                        go_simp
                        with_reducible rfl
                      rotate_left
                      · simp only [Act.put, List.setIfInBounds_toArray, List.set_cons_zero, List.set_cons_succ]
                        rfl
                      refine pure_ (i := 12) (N := some 120) (v := ?_) (a' := ?_) #[true, true, true, true, true, true, true, true, true, true, true, true, true, false, true, true, true, true, false, true, false, true, false, false, true, true, false, false, false, false] rfl rfl (any_of HT_.out (by kernel_rfl)) (fun _ _ _ h => h) (Or.inl ⟨by rfl, ?_⟩) ?_ ?_
                      rotate_left
                      · intro w'
                        go_simp
                        with_reducible rfl
                      rotate_left
                      · simp only [Act.put, List.setIfInBounds_toArray, List.set_cons_zero, List.set_cons_succ]
                        rfl
                      refine pure_ (i := 13) (N := some 121) (v := ?_) (a' := ?_) #[true, true, true, true, true, true, true, true, true, true, true, true, true, true, true, true, true, true, false, true, false, true, false, false, true, true, false, false, false, false] rfl rfl (any_of HT_.out (by kernel_rfl)) (fun _ _ _ h => h) (Or.inl ⟨by rfl, ?_⟩) ?_ ?_
                      rotate_left
                      · intro w'
                        go_simp
                        with_reducible rfl
                      rotate_left
                      · simp only [Act.put, List.setIfInBounds_toArray, List.set_cons_zero, List.set_cons_succ]
                        rfl
                      refine pure_ (i := 18) (N := some 126) (v := ?_) (a' := ?_) #[true, true, true, true, true, true, true, true, true, true, true, true, true, true, true, true, true, true, true, true, false, true, false, false, true, true, false, false, false, false] rfl rfl (any_of HT_.out (by kernel_rfl)) (fun _ _ _ h => h) (Or.inl ⟨by rfl, ?_⟩) ?_ ?_
                      rotate_left
                      · intro w'
                        go_simp
                        with_reducible rfl
                      rotate_left
                      · simp only [Act.put, List.setIfInBounds_toArray, List.set_cons_zero, List.set_cons_succ]
                        rfl
                      refine one_ (i := 20) (N := some 128) #[true, true, true, true, true, true, true, true, true, true, true, true, true, true, true, true, true, true, true, true, true, true, false, false, true, true, false, false, false, false] rfl rfl (one_of HT_.out (by kernel_rfl)) (by decide) (fun K hK => ?_)
                      refine goes_ Try.func46 (by kernel_rfl) rfl #[.int .u32 p2, .int .u64 17] (by rfl) rfl rfl (by simp only [List.map_toArray, List.map_cons, List.map_nil]; rfl) ?_
                      with_reducible refine (UTurn.strongroomref6_turn.calls p2 17 (rotL p2 15) _ (turn_some p2 17 15 (by decide) (by decide) (by decide) (by decide))).mono ?_
                      rintro e wz3 ⟨rfl, ⟨n3, hz⟩⟩
                      refine ⟨_, rfl, ?_⟩
                      have T3 : To wo wz3 bW .u32 y := by rw [hz]; exact hHeld.drewN n3
                      clear hz
                      refine hK.out _ _ (T3) (fun hHeld => ?_)
                      clear hK K
                      refine norm_ (a' := ?_) ?_ ?_
                      rotate_left
                      · show Act.put _ (some 128) _ = _
                        simp only [Act.put, List.setIfInBounds_toArray, List.set_cons_zero, List.set_cons_succ]
                        rfl
                      refine one_ (i := 22) (N := some 130) #[true, true, true, true, true, true, true, true, true, true, true, true, true, true, true, true, true, true, true, true, true, true, true, false, true, true, false, false, false, false] rfl rfl (one_of HT_.out (by kernel_rfl)) (by decide) (fun K hK => ?_)
                      refine goes_ Try.func46 (by kernel_rfl) rfl #[.int .u32 p2, .int .u64 19] (by rfl) rfl rfl (by simp only [List.map_toArray, List.map_cons, List.map_nil]; rfl) ?_
                      with_reducible refine (UTurn.strongroomref6_turn.calls p2 19 (rotL p2 13) _ (turn_some p2 19 13 (by decide) (by decide) (by decide) (by decide))).mono ?_
                      rintro e wz4 ⟨rfl, ⟨n4, hz⟩⟩
                      refine ⟨_, rfl, ?_⟩
                      have T4 : To wo wz4 bW .u32 y := by rw [hz]; exact hHeld.drewN n4
                      clear hz
                      refine hK.out _ _ (T4) (fun hHeld => ?_)
                      clear hK K
                      refine norm_ (a' := ?_) ?_ ?_
                      rotate_left
                      · show Act.put _ (some 130) _ = _
                        simp only [Act.put, List.setIfInBounds_toArray, List.set_cons_zero, List.set_cons_succ]
                        rfl
                      refine pure_ (i := 23) (N := some 131) (v := ?_) (a' := ?_) #[true, true, true, true, true, true, true, true, true, true, true, true, true, true, true, true, true, true, true, true, true, true, true, true, true, true, false, false, false, false] rfl rfl (any_of HT_.out (by kernel_rfl)) (fun _ _ _ h => h) (Or.inl ⟨by rfl, ?_⟩) ?_ ?_
                      rotate_left
                      · intro w'
                        go_simp
                        with_reducible rfl
                      rotate_left
                      · simp only [Act.put, List.setIfInBounds_toArray, List.set_cons_zero, List.set_cons_succ]
                        rfl
                      refine pure_ (i := 26) (N := some 134) (v := ?_) (a' := ?_) #[true, true, true, true, true, true, true, true, true, true, true, true, true, true, true, true, true, true, true, true, true, true, true, true, true, true, true, false, false, false] rfl rfl (any_of HT_.out (by kernel_rfl)) (fun _ _ _ h => h) (Or.inl ⟨by rfl, ?_⟩) ?_ ?_
                      rotate_left
                      · intro w'
                        go_simp
                        with_reducible rfl
                      rotate_left
                      · simp only [Act.put, List.setIfInBounds_toArray, List.set_cons_zero, List.set_cons_succ]
                        rfl
                      refine pure_ (i := 27) (N := some 135) (v := ?_) (a' := ?_) #[true, true, true, true, true, true, true, true, true, true, true, true, true, true, true, true, true, true, true, true, true, true, true, true, true, true, true, true, false, false] rfl rfl (any_of HT_.out (by kernel_rfl)) (fun _ _ _ h => h) (Or.inl ⟨by rfl, ?_⟩) ?_ ?_
                      rotate_left
                      · intro w'
                        go_simp
                        with_reducible rfl
                      rotate_left
                      · simp only [Act.put, List.setIfInBounds_toArray, List.set_cons_zero, List.set_cons_succ]
                        rfl
                      refine pure_ (i := 28) (N := some 136) (v := ?_) (a' := ?_) #[true, true, true, true, true, true, true, true, true, true, true, true, true, true, true, true, true, true, true, true, true, true, true, true, true, true, true, true, true, false] rfl rfl (any_of HT_.out (by kernel_rfl)) (fun _ _ _ h => h) (Or.inl ⟨by rfl, ?_⟩) ?_ ?_
                      rotate_left
                      · intro w'
                        go_simp
                        with_reducible rfl
                      rotate_left
                      · simp only [Act.put, List.setIfInBounds_toArray, List.set_cons_zero, List.set_cons_succ]
                        rfl
                      refine last_ (i := 29) (N := none) #[true, true, true, true, true, true, true, true, true, true, true, true, true, true, true, true, true, true, true, true, true, true, true, true, true, true, true, true, true, true] rfl rfl (one_of HT_.out (by kernel_rfl)) (by decide) (fun K hK => ?_)
                      have TF := Aside0.mk hHeld
                      have hcS := (hHeld.is IA.out).cell m LM.out.2.2
                      have hfS := (hHeld.is IA.out).free m
                      refine skip_ (w1 := ?_) (by rfl) rfl ?_ ?_
                      rotate_left
                      · go_simp
                        rfl
                      refine hK.out _ _ ?_
                      clear hK K
                      refine done_ (done_of HT_.out (by kernel_rfl)) ?_
                      clear QL
                      go_wp2_with fail
                      have iz := TF.out.is IA.out
                      rw [put_set iz, mod3, ← wB_step bb j2 m m1 m9 m14 HM.out y Q0.out p1 p2 HP.out]
                      have t1 := TF.out.put_d0 (zs := wB bb (j2 + 1))
                      exact ⟨⟨j2 + 1, by omega, by rw [HM.out.1]; go_num, ⟨t1⟩⟩, by simp [intOf]; have := HM.out; omega⟩
                    · obtain rfl : j2 = 48 := by omega
                      rw [show (((16 + 48 : Nat) : Nat) : Int) = 64 from rfl]
                      clear h48
                      have YE := Aside0.mk (show y = wB bb 48 from Q0.out)
                      have TT := Aside0.mk (TA.out.trans HT.out)
                      have IY := Aside0.mk iy
                      have IHr := Aside0.mk (TT.out.other NW.out.1 IHa.out)
                      have IKr := Aside0.mk (TT.out.other NW.out.2.1 IKa.out)
                      have HTr := Aside0.mk (HTa.out.own TT.out NW.out.2.2.2)
                      obtain ⟨hh, hhh⟩ : ∃ z, z = hS msg j := ⟨_, rfl⟩
                      have HH := Aside0.mk (And.intro hhh (show hh.length = 8 by rw [hhh, len_hS]))
                      rw [← hhh] at IHr HTr
                      clear HT iy Q0 IA hhh TT TA FR BA
                      have HI8 := Aside0.mk (show (Try.prog.info? 64).map (·.size) = some hh.length by rw [HH.out.2]; exact info_a8)
                      have HLL := Aside0.mk (show z8.length = hh.length by rw [HH.out.2]; rfl)
                      have N4 := Aside0.mk (show Is (wr.alloc (.cells #[.int .u32 0, .int .u32 0, .int .u32 0, .int .u32 0, .int .u32 0, .int .u32 0, .int .u32 0, .int .u32 0] 64)) wr.heap.size 64 .u32 z8 from new_is wr 64 .u32 z8)
                      go_upto_region 27 with (first | (with_reducible refine loadL_is (b := bH) (e := 64) (k := .u32) (xs := hh) 64 63 8 (.tmp 4) rfl rfl rfl IHr.out Try.underlying64 HI8.out ?_) | ((with_reducible refine gate_store (t := 64) (p := 15) rfl ?_); refine storeL_is (b := wr.heap.size) (e := 64) (k := .u32) (xs := z8) 64 (.tmp 15) (.tmp 137) rfl rfl rfl hh rfl rfl N4.out HLL.out HI8.out ?_))
                      change Code.wp _ _ _ _ (put (wr.alloc (.cells (nums .u32 z8).toArray 64)) wr.heap.size .u32 hh)
                      have ig : Is (put (wr.alloc (.cells (nums .u32 z8).toArray 64)) wr.heap.size .u32 hh) wr.heap.size 64 .u32 hh := put_heap (ys := hh) N4.out
                      have Bg : Below wr.heap.size wr (put (wr.alloc (.cells (nums .u32 z8).toArray 64)) wr.heap.size .u32 hh) := below_put ((Below.refl _ _).alloc (Nat.le_refl _) _) (Nat.le_refl _)
                      generalize put (wr.alloc (.cells (nums .u32 z8).toArray 64)) wr.heap.size .u32 hh = wg at ig Bg ⊢
                      obtain ⟨bS, hbS⟩ : ∃ b, b = wr.heap.size := ⟨_, rfl⟩
                      rw [← hbS] at ig ⊢
                      have SS := Aside0.mk ig
                      have SW := Aside0.mk (IY.out.below Bg)
                      have SH := Aside0.mk (IHr.out.below Bg)
                      have SK := Aside0.mk (IKr.out.below Bg)
                      have HTg := Aside0.mk (HTr.out.belowS Bg)
                      have SN := Aside0.mk (show bW ≠ bS ∧ bH ≠ bS ∧ bK ≠ bS ∧ wk.heap.size ≤ bS ∧ bW ≠ bH by have h1 := IY.out.lt; have h2 := IHr.out.lt; have h3 := IKr.out.lt; have h4 := HTr.out.size; have h5 := NW.out.1; exact ⟨by omega, by omega, by omega, by omega, Ne.symm h5⟩)
                      clear ig Bg hbS IY IHr IKr HTr N4 HLL
                      go_wp2
                      obtain ⟨wo, rfl⟩ : ∃ wo : World, wo = wg := ⟨_, rfl⟩
                      go_loopw [16] (fun v w' => ∃ i : Nat, i ≤ 64 ∧ v = .int .i64 i ∧ Aside0 (To wo w' bS .u32 (sN frac y hh i))) (fun v _ => 64 - (intOf v).toNat)
                      case atStart => exact ⟨0, by omega, rfl, ⟨To.refl SS.out⟩⟩
                      case round =>
                        obtain ⟨i, hi, rfl, HT⟩ := hrel
                        obtain ⟨s, q0⟩ : ∃ y_, y_ = sN frac y hh i := ⟨_, rfl⟩
                        rw [← q0] at HT
                        have Ls := Aside0.mk (show s.length = 8 by rw [q0, len_sN _ _ _ HH.out.2])
                        have Q0 := Aside0.mk q0
                        clear q0
                        have is := HT.out.is SS.out
                        by_cases h64 : i < 64
                        · have i0 : (i : Int) < 64 := by omega
                          have H0 := is.cell 0 (by rw [Ls.out]; omega)
                          have H4 := is.cell 4 (by rw [Ls.out]; omega)
                          go_upto_region 32 with (fail)
                          change Code.wp _ _ _ _ wr
                          obtain ⟨ee, hee⟩ : ∃ p, p = rd s 4 := ⟨_, rfl⟩
                          obtain ⟨aa, haa⟩ : ∃ p, p = rd s 0 := ⟨_, rfl⟩
                          rw [← hee, ← haa]
                          have HAE := Aside0.mk (And.intro haa hee)
                          have LM := Aside0.mk (show i < y.length ∧ i < frac.length by rw [Ly.out, len_frac]; omega)
                          have QL := Aside0.mk (fun (w' : World) (h : To wo w' bS .u32 s) => And.intro ((h.is SS.out).cell 7 (by rw [Ls.out]; omega)) (And.intro ((h.is SS.out).cell 5 (by rw [Ls.out]; omega)) (And.intro ((h.is SS.out).cell 6 (by rw [Ls.out]; omega)) (And.intro ((h.other SN.out.2.2.1 SK.out).cell i LM.out.2) ((h.other SN.out.1 SW.out).cell i LM.out.1)))))
                          have QM := Aside0.mk (fun (w' : World) (h : To wo w' bS .u32 s) => And.intro ((h.is SS.out).cell 1 (by rw [Ls.out]; omega)) ((h.is SS.out).cell 2 (by rw [Ls.out]; omega)))
                          clear hee haa H0 H4 is
                          refine start_ (n := 31) (S := fun w' => To wo w' bS .u32 s) (ds := []) #[false, false, false, false, false, false, false, false, false, false, false, false, false, false, false, false, false, false, false, false, false, false, false, false, false, false, false, false, false, false, false] (by kernel_rfl) rfl rfl ((HT.out.drewN 1)) (fun hHeld => ?_)
                          refine with_tabW refSum.tab32 refSum.bits32 (fun HT_ HW_ => ?_)
                          refine pure_ (i := 0) (N := some 146) (v := ?_) (a' := ?_) #[true, false, false, false, false, false, false, false, false, false, false, false, false, false, false, false, false, false, false, false, false, false, false, false, false, false, false, false, false, false, false] rfl rfl (any_of HT_.out (by kernel_rfl)) (fun _ _ _ h => h) (Or.inl ⟨by rfl, ?_⟩) ?_ ?_
                          rotate_left
                          · intro w'
                            go_simp
                            with_reducible rfl
                          rotate_left
                          · simp only [Act.put, List.setIfInBounds_toArray, List.set_cons_zero, List.set_cons_succ]
                            rfl
                          refine pure_ (i := 2) (N := some 148) (v := ?_) (a' := ?_) #[true, false, true, false, false, false, false, false, false, false, false, false, false, false, false, false, false, false, false, false, false, false, false, false, false, false, false, false, false, false, false] rfl rfl (any_of HT_.out (by kernel_rfl)) (fun _ _ _ h => h) (Or.inl ⟨by rfl, ?_⟩) ?_ ?_
                          rotate_left
                          · intro w'
                            go_simp
                            with_reducible rfl
                          rotate_left
                          · simp only [Act.put, List.setIfInBounds_toArray, List.set_cons_zero, List.set_cons_succ]
                            rfl
                          refine pure_ (i := 4) (N := some 150) (v := ?_) (a' := ?_) #[true, false, true, false, true, false, false, false, false, false, false, false, false, false, false, false, false, false, false, false, false, false, false, false, false, false, false, false, false, false, false] rfl rfl (any_of HT_.out (by kernel_rfl)) (fun _ _ _ h => h) (Or.inl ⟨by rfl, ?_⟩) ?_ ?_
                          rotate_left
                          · intro w'
                            go_simp
                            with_reducible rfl
                          rotate_left
                          · simp only [Act.put, List.setIfInBounds_toArray, List.set_cons_zero, List.set_cons_succ]
                            rfl
                          refine pure_ (i := 7) (N := some 153) (v := ?_) (a' := ?_) #[true, false, true, false, true, false, false, true, false, false, false, false, false, false, false, false, false, false, false, false, false, false, false, false, false, false, false, false, false, false, false] rfl rfl (any_of HT_.out (by kernel_rfl)) (fun _ _ _ h => h) (Or.inl ⟨by rfl, ?_⟩) ?_ ?_
                          rotate_left
                          · intro w'
                            go_simp
                            with_reducible rfl
                          rotate_left
                          · simp only [Act.put, List.setIfInBounds_toArray, List.set_cons_zero, List.set_cons_succ]
                            rfl
                          refine pure_ (i := 11) (N := some 157) (v := ?_) (a' := ?_) #[true, false, true, false, true, false, false, true, false, false, false, true, false, false, false, false, false, false, false, false, false, false, false, false, false, false, false, false, false, false, false] rfl rfl (any_of HT_.out (by kernel_rfl)) (fun _ _ _ h => h) (Or.inl ⟨by rfl, ?_⟩) ?_ ?_
                          rotate_left
                          · intro w'
                            go_simp
                            with_reducible rfl
                          rotate_left
                          · simp only [Act.put, List.setIfInBounds_toArray, List.set_cons_zero, List.set_cons_succ]
                            rfl
                          refine pure_ (i := 12) (N := some 158) (v := ?_) (a' := ?_) #[true, false, true, false, true, false, false, true, false, false, false, true, true, false, false, false, false, false, false, false, false, false, false, false, false, false, false, false, false, false, false] rfl rfl (any_of HT_.out (by kernel_rfl)) (fun _ _ _ h => h) (Or.inl ⟨by rfl, ?_⟩) ?_ ?_
                          rotate_left
                          · intro w'
                            go_simp
                            with_reducible rfl
                          rotate_left
                          · simp only [Act.put, List.setIfInBounds_toArray, List.set_cons_zero, List.set_cons_succ]
                            rfl
                          refine pure_ (i := 15) (N := some 161) (v := ?_) (a' := ?_) #[true, false, true, false, true, false, false, true, false, false, false, true, true, false, false, true, false, false, false, false, false, false, false, false, false, false, false, false, false, false, false] rfl rfl (any_of HT_.out (by kernel_rfl)) (fun _ _ _ h => h) (Or.inl ⟨by rfl, ?_⟩) ?_ ?_
                          rotate_left
                          · intro w'
                            go_simp
                            with_reducible rfl
                          rotate_left
                          · simp only [Act.put, List.setIfInBounds_toArray, List.set_cons_zero, List.set_cons_succ]
                            rfl
                          refine pure_ (i := 16) (N := some 162) (v := ?_) (a' := ?_) #[true, false, true, false, true, false, false, true, false, false, false, true, true, false, false, true, true, false, false, false, false, false, false, false, false, false, false, false, false, false, false] rfl rfl (any_of HT_.out (by kernel_rfl)) (fun _ _ _ h => h) (Or.inl ⟨by rfl, ?_⟩) ?_ ?_
                          rotate_left
                          · intro w'
                            go_simp
                            with_reducible rfl
                          rotate_left
                          · simp only [Act.put, List.setIfInBounds_toArray, List.set_cons_zero, List.set_cons_succ]
                            rfl
                          refine pure_ (i := 17) (N := some 163) (v := ?_) (a' := ?_) #[true, false, true, false, true, false, false, true, false, false, false, true, true, false, false, true, true, true, false, false, false, false, false, false, false, false, false, false, false, false, false] rfl rfl (any_of HT_.out (by kernel_rfl)) (fun _ _ _ h => h) (Or.inl ⟨by rfl, ?_⟩) ?_ ?_
                          rotate_left
                          · intro w'
                            go_simp
                            with_reducible rfl
                          rotate_left
                          · simp only [Act.put, List.setIfInBounds_toArray, List.set_cons_zero, List.set_cons_succ]
                            rfl
                          refine pure_ (i := 22) (N := some 168) (v := ?_) (a' := ?_) #[true, false, true, false, true, false, false, true, false, false, false, true, true, false, false, true, true, true, false, false, false, false, true, false, false, false, false, false, false, false, false] rfl rfl (any_of HT_.out (by kernel_rfl)) (fun _ _ _ h => h) (Or.inl ⟨by rfl, ?_⟩) ?_ ?_
                          rotate_left
                          · intro w'
                            go_simp
                            with_reducible rfl
                          rotate_left
                          · simp only [Act.put, List.setIfInBounds_toArray, List.set_cons_zero, List.set_cons_succ]
                            rfl
                          refine pure_ (i := 23) (N := some 169) (v := ?_) (a' := ?_) #[true, false, true, false, true, false, false, true, false, false, false, true, true, false, false, true, true, true, false, false, false, false, true, true, false, false, false, false, false, false, false] rfl rfl (any_of HT_.out (by kernel_rfl)) (fun _ _ _ h => h) (Or.inl ⟨by rfl, ?_⟩) ?_ ?_
                          rotate_left
                          · intro w'
                            go_simp
                            with_reducible rfl
                          rotate_left
                          · simp only [Act.put, List.setIfInBounds_toArray, List.set_cons_zero, List.set_cons_succ]
                            rfl
                          refine pure_ (i := 26) (N := some 172) (v := ?_) (a' := ?_) #[true, false, true, false, true, false, false, true, false, false, false, true, true, false, false, true, true, true, false, false, false, false, true, true, false, false, true, false, false, false, false] rfl rfl (any_of HT_.out (by kernel_rfl)) (fun _ _ _ h => h) (Or.inl ⟨by rfl, ?_⟩) ?_ ?_
                          rotate_left
                          · intro w'
                            go_simp
                            with_reducible rfl
                          rotate_left
                          · simp only [Act.put, List.setIfInBounds_toArray, List.set_cons_zero, List.set_cons_succ]
                            rfl
                          refine pure_ (i := 27) (N := some 173) (v := ?_) (a' := ?_) #[true, false, true, false, true, false, false, true, false, false, false, true, true, false, false, true, true, true, false, false, false, false, true, true, false, false, true, true, false, false, false] rfl rfl (any_of HT_.out (by kernel_rfl)) (fun _ _ _ h => h) (Or.inl ⟨by rfl, ?_⟩) ?_ ?_
                          rotate_left
                          · intro w'
                            go_simp
                            with_reducible rfl
                          rotate_left
                          · simp only [Act.put, List.setIfInBounds_toArray, List.set_cons_zero, List.set_cons_succ]
                            rfl
                          refine take_ (i := 1) (N := some 147) (v := ?_) (a' := ?_) #[true, true, true, false, true, false, false, true, false, false, false, true, true, false, false, true, true, true, false, false, false, false, true, true, false, false, true, true, false, false, false] rfl rfl (take_ofW HT_.out HW_.out (by kernel_rfl)) (fun _ _ _ h => h) (Or.inl ⟨by rfl, ?_⟩) hHeld ?_ ?_
                          rotate_left
                          · intro w' s0
                            have q0_ := QL.out w' s0
                            go_simp
                            with_reducible rfl
                          rotate_left
                          · simp only [Act.put, List.setIfInBounds_toArray, List.set_cons_zero, List.set_cons_succ]
                            rfl
                          refine take_ (i := 13) (N := some 159) (v := ?_) (a' := ?_) #[true, true, true, false, true, false, false, true, false, false, false, true, true, true, false, true, true, true, false, false, false, false, true, true, false, false, true, true, false, false, false] rfl rfl (take_ofW HT_.out HW_.out (by kernel_rfl)) (fun _ _ _ h => h) (Or.inl ⟨by rfl, ?_⟩) hHeld ?_ ?_
                          rotate_left
                          · intro w' s0
                            have q0_ := QL.out w' s0
                            go_simp
                            with_reducible rfl
                          rotate_left
                          · simp only [Act.put, List.setIfInBounds_toArray, List.set_cons_zero, List.set_cons_succ]
                            rfl
                          refine pure_ (i := 14) (N := some 160) (v := ?_) (a' := ?_) #[true, true, true, false, true, false, false, true, false, false, false, true, true, true, true, true, true, true, false, false, false, false, true, true, false, false, true, true, false, false, false] rfl rfl (any_of HT_.out (by kernel_rfl)) (fun _ _ _ h => h) (Or.inl ⟨by rfl, ?_⟩) ?_ ?_
                          rotate_left
                          · intro w'
                            go_simp
                            with_reducible rfl
                          rotate_left
                          · simp only [Act.put, List.setIfInBounds_toArray, List.set_cons_zero, List.set_cons_succ]
                            rfl
                          refine take_ (i := 18) (N := some 164) (v := ?_) (a' := ?_) #[true, true, true, false, true, false, false, true, false, false, false, true, true, true, true, true, true, true, true, false, false, false, true, true, false, false, true, true, false, false, false] rfl rfl (take_ofW HT_.out HW_.out (by kernel_rfl)) (fun _ _ _ h => h) (Or.inl ⟨by rfl, ?_⟩) hHeld ?_ ?_
                          rotate_left
                          · intro w' s0
                            have q0_ := QL.out w' s0
                            go_simp
                            with_reducible rfl
                          rotate_left
                          · simp only [Act.put, List.setIfInBounds_toArray, List.set_cons_zero, List.set_cons_succ]
                            rfl
                          refine pure_ (i := 19) (N := some 165) (v := ?_) (a' := ?_) #[true, true, true, false, true, false, false, true, false, false, false, true, true, true, true, true, true, true, true, true, false, false, true, true, false, false, true, true, false, false, false] rfl rfl (any_of HT_.out (by kernel_rfl)) (fun _ _ _ h => h) (Or.inl ⟨by rfl, ?_⟩) ?_ ?_
                          rotate_left
                          · intro w'
                            go_simp
                            with_reducible rfl
                          rotate_left
                          · simp only [Act.put, List.setIfInBounds_toArray, List.set_cons_zero, List.set_cons_succ]
                            rfl
                          refine pure_ (i := 20) (N := some 166) (v := ?_) (a' := ?_) #[true, true, true, false, true, false, false, true, false, false, false, true, true, true, true, true, true, true, true, true, true, false, true, true, false, false, true, true, false, false, false] rfl rfl (any_of HT_.out (by kernel_rfl)) (fun _ _ _ h => h) (Or.inl ⟨by rfl, ?_⟩) ?_ ?_
                          rotate_left
                          · intro w'
                            go_simp
                            with_reducible rfl
                          rotate_left
                          · simp only [Act.put, List.setIfInBounds_toArray, List.set_cons_zero, List.set_cons_succ]
                            rfl
                          refine take_ (i := 24) (N := some 170) (v := ?_) (a' := ?_) #[true, true, true, false, true, false, false, true, false, false, false, true, true, true, true, true, true, true, true, true, true, false, true, true, true, false, true, true, false, false, false] rfl rfl (take_ofW HT_.out HW_.out (by kernel_rfl)) (fun _ _ _ h => h) (Or.inl ⟨by rfl, ?_⟩) hHeld ?_ ?_
                          rotate_left
                          · intro w' s0
                            have q0_ := QL.out w' s0
                            go_simp
                            with_reducible rfl
                          rotate_left
                          · simp only [Act.put, List.setIfInBounds_toArray, List.set_cons_zero, List.set_cons_succ]
                            rfl
                          refine take_ (i := 28) (N := some 174) (v := ?_) (a' := ?_) #[true, true, true, false, true, false, false, true, false, false, false, true, true, true, true, true, true, true, true, true, true, false, true, true, true, false, true, true, true, false, false] rfl rfl (take_ofW HT_.out HW_.out (by kernel_rfl)) (fun _ _ _ h => h) (Or.inl ⟨by rfl, ?_⟩) hHeld ?_ ?_
                          rotate_left
                          · intro w' s0
                            have q0_ := QL.out w' s0
                            go_simp
                            with_reducible rfl
                          rotate_left
                          · simp only [Act.put, List.setIfInBounds_toArray, List.set_cons_zero, List.set_cons_succ]
                            rfl
                          refine one_ (i := 3) (N := some 149) #[true, true, true, true, true, false, false, true, false, false, false, true, true, true, true, true, true, true, true, true, true, false, true, true, true, false, true, true, true, false, false] rfl rfl (one_of HT_.out (by kernel_rfl)) (by decide) (fun K hK => ?_)
                          refine goes_ Try.func46 (by kernel_rfl) rfl #[.int .u32 ee, .int .u64 6] (by rfl) rfl rfl (by simp only [List.map_toArray, List.map_cons, List.map_nil]; rfl) ?_
                          with_reducible refine (UTurn.strongroomref6_turn.calls ee 6 (rotL ee 26) _ (turn_some ee 6 26 (by decide) (by decide) (by decide) (by decide))).mono ?_
                          rintro e wz1 ⟨rfl, ⟨n1, hz⟩⟩
                          refine ⟨_, rfl, ?_⟩
                          have T1 : To wo wz1 bS .u32 s := by rw [hz]; exact hHeld.drewN n1
                          clear hz
                          refine hK.out _ _ (T1) (fun hHeld => ?_)
                          clear hK K
                          refine norm_ (a' := ?_) ?_ ?_
                          rotate_left
                          · show Act.put _ (some 149) _ = _
                            simp only [Act.put, List.setIfInBounds_toArray, List.set_cons_zero, List.set_cons_succ]
                            rfl
                          refine one_ (i := 5) (N := some 151) #[true, true, true, true, true, true, false, true, false, false, false, true, true, true, true, true, true, true, true, true, true, false, true, true, true, false, true, true, true, false, false] rfl rfl (one_of HT_.out (by kernel_rfl)) (by decide) (fun K hK => ?_)
                          refine goes_ Try.func46 (by kernel_rfl) rfl #[.int .u32 ee, .int .u64 11] (by rfl) rfl rfl (by simp only [List.map_toArray, List.map_cons, List.map_nil]; rfl) ?_
                          with_reducible refine (UTurn.strongroomref6_turn.calls ee 11 (rotL ee 21) _ (turn_some ee 11 21 (by decide) (by decide) (by decide) (by decide))).mono ?_
                          rintro e wz2 ⟨rfl, ⟨n2, hz⟩⟩
                          refine ⟨_, rfl, ?_⟩
                          have T2 : To wo wz2 bS .u32 s := by rw [hz]; exact hHeld.drewN n2
                          clear hz
                          refine hK.out _ _ (T2) (fun hHeld => ?_)
                          clear hK K
                          refine norm_ (a' := ?_) ?_ ?_
                          rotate_left
                          · show Act.put _ (some 151) _ = _
                            simp only [Act.put, List.setIfInBounds_toArray, List.set_cons_zero, List.set_cons_succ]
                            rfl
                          refine pure_ (i := 6) (N := some 152) (v := ?_) (a' := ?_) #[true, true, true, true, true, true, true, true, false, false, false, true, true, true, true, true, true, true, true, true, true, false, true, true, true, false, true, true, true, false, false] rfl rfl (any_of HT_.out (by kernel_rfl)) (fun _ _ _ h => h) (Or.inl ⟨by rfl, ?_⟩) ?_ ?_
                          rotate_left
                          · intro w'
                            go_simp
                            with_reducible rfl
                          rotate_left
                          · simp only [Act.put, List.setIfInBounds_toArray, List.set_cons_zero, List.set_cons_succ]
                            rfl
                          refine one_ (i := 8) (N := some 154) #[true, true, true, true, true, true, true, true, true, false, false, true, true, true, true, true, true, true, true, true, true, false, true, true, true, false, true, true, true, false, false] rfl rfl (one_of HT_.out (by kernel_rfl)) (by decide) (fun K hK => ?_)
                          refine goes_ Try.func46 (by kernel_rfl) rfl #[.int .u32 ee, .int .u64 25] (by rfl) rfl rfl (by simp only [List.map_toArray, List.map_cons, List.map_nil]; rfl) ?_
                          with_reducible refine (UTurn.strongroomref6_turn.calls ee 25 (rotL ee 7) _ (turn_some ee 25 7 (by decide) (by decide) (by decide) (by decide))).mono ?_
                          rintro e wz3 ⟨rfl, ⟨n3, hz⟩⟩
                          refine ⟨_, rfl, ?_⟩
                          have T3 : To wo wz3 bS .u32 s := by rw [hz]; exact hHeld.drewN n3
                          clear hz
                          refine hK.out _ _ (T3) (fun hHeld => ?_)
                          clear hK K
                          refine norm_ (a' := ?_) ?_ ?_
                          rotate_left
                          · show Act.put _ (some 154) _ = _
                            simp only [Act.put, List.setIfInBounds_toArray, List.set_cons_zero, List.set_cons_succ]
                            rfl
                          refine pure_ (i := 9) (N := some 155) (v := ?_) (a' := ?_) #[true, true, true, true, true, true, true, true, true, true, false, true, true, true, true, true, true, true, true, true, true, false, true, true, true, false, true, true, true, false, false] rfl rfl (any_of HT_.out (by kernel_rfl)) (fun _ _ _ h => h) (Or.inl ⟨by rfl, ?_⟩) ?_ ?_
                          rotate_left
                          · intro w'
                            go_simp
                            with_reducible rfl
                          rotate_left
                          · simp only [Act.put, List.setIfInBounds_toArray, List.set_cons_zero, List.set_cons_succ]
                            rfl
                          refine pure_ (i := 10) (N := some 156) (v := ?_) (a' := ?_) #[true, true, true, true, true, true, true, true, true, true, true, true, true, true, true, true, true, true, true, true, true, false, true, true, true, false, true, true, true, false, false] rfl rfl (any_of HT_.out (by kernel_rfl)) (fun _ _ _ h => h) (Or.inl ⟨by rfl, ?_⟩) ?_ ?_
                          rotate_left
                          · intro w'
                            go_simp
                            with_reducible rfl
                          rotate_left
                          · simp only [Act.put, List.setIfInBounds_toArray, List.set_cons_zero, List.set_cons_succ]
                            rfl
                          refine pure_ (i := 21) (N := some 167) (v := ?_) (a' := ?_) #[true, true, true, true, true, true, true, true, true, true, true, true, true, true, true, true, true, true, true, true, true, true, true, true, true, false, true, true, true, false, false] rfl rfl (any_of HT_.out (by kernel_rfl)) (fun _ _ _ h => h) (Or.inl ⟨by rfl, ?_⟩) ?_ ?_
                          rotate_left
                          · intro w'
                            go_simp
                            with_reducible rfl
                          rotate_left
                          · simp only [Act.put, List.setIfInBounds_toArray, List.set_cons_zero, List.set_cons_succ]
                            rfl
                          refine pure_ (i := 25) (N := some 171) (v := ?_) (a' := ?_) #[true, true, true, true, true, true, true, true, true, true, true, true, true, true, true, true, true, true, true, true, true, true, true, true, true, true, true, true, true, false, false] rfl rfl (any_of HT_.out (by kernel_rfl)) (fun _ _ _ h => h) (Or.inl ⟨by rfl, ?_⟩) ?_ ?_
                          rotate_left
                          · intro w'
                            go_simp
                            with_reducible rfl
                          rotate_left
                          · simp only [Act.put, List.setIfInBounds_toArray, List.set_cons_zero, List.set_cons_succ]
                            rfl
                          refine pure_ (i := 29) (N := some 175) (v := ?_) (a' := ?_) #[true, true, true, true, true, true, true, true, true, true, true, true, true, true, true, true, true, true, true, true, true, true, true, true, true, true, true, true, true, true, false] rfl rfl (any_of HT_.out (by kernel_rfl)) (fun _ _ _ h => h) (Or.inl ⟨by rfl, ?_⟩) ?_ ?_
                          rotate_left
                          · intro w'
                            go_simp
                            with_reducible rfl
                          rotate_left
                          · simp only [Act.put, List.setIfInBounds_toArray, List.set_cons_zero, List.set_cons_succ]
                            rfl
                          refine pure_ (i := 30) (N := some 19) (v := ?_) (a' := ?_) #[true, true, true, true, true, true, true, true, true, true, true, true, true, true, true, true, true, true, true, true, true, true, true, true, true, true, true, true, true, true, true] rfl rfl (any_of HT_.out (by kernel_rfl)) (fun _ _ _ h => h) (Or.inl ⟨by rfl, ?_⟩) ?_ ?_
                          rotate_left
                          · intro w'
                            go_simp
                            with_reducible rfl
                          rotate_left
                          · simp only [Act.put, List.setIfInBounds_toArray, List.set_cons_zero, List.set_cons_succ]
                            rfl
                          refine done_ (done_of HT_.out (by kernel_rfl)) ?_
                          have TE := Aside0.mk hHeld
                          clear hHeld QL
                          go_upto_region 33 with (fail)
                          change Code.wp _ _ _ _ wz3
                          generalize hT : (IntKind.u32.wrap (IntKind.u32.wrap (IntKind.u32.wrap (IntKind.u32.wrap (rd s 7 + Go.bits .xor .u32 (Go.bits .xor .u32 (rotL ee 26) (rotL ee 21)) (rotL ee 7)) + Go.bits .xor .u32 (Go.bits .and .u32 ee (rd s 5)) (Go.bits .and .u32 (Go.bits .xor .u32 (if IntKind.u32.signed = true then -1 else IntKind.u32.max) ee) (rd s 6))) + rd frac (i : Int)) + rd y (i : Int))) = tt
                          have HTT := Aside0.mk (show tt = tF s (rd frac (i : Int)) (rd y (i : Int)) by rw [tF, epE, ← HAE.out.2]; exact hT.symm)
                          clear hT
                          refine start_ (n := 25) (S := fun w' => To wo w' bS .u32 s) (ds := []) #[false, false, false, false, false, false, false, false, false, false, false, false, false, false, false, false, false, false, false, false, false, false, false, false, false] (by kernel_rfl) rfl rfl ((TE.out.drewN 1)) (fun hHeld => ?_)
                          refine with_tabW refSum.tab33 refSum.bits33 (fun HT_ HW_ => ?_)
                          refine pure_ (i := 0) (N := some 176) (v := ?_) (a' := ?_) #[true, false, false, false, false, false, false, false, false, false, false, false, false, false, false, false, false, false, false, false, false, false, false, false, false] rfl rfl (any_of HT_.out (by kernel_rfl)) (fun _ _ _ h => h) (Or.inl ⟨by rfl, ?_⟩) ?_ ?_
                          rotate_left
                          · intro w'
                            go_simp
                            with_reducible rfl
                          rotate_left
                          · simp only [Act.put, List.setIfInBounds_toArray, List.set_cons_zero, List.set_cons_succ]
                            rfl
                          refine pure_ (i := 2) (N := some 178) (v := ?_) (a' := ?_) #[true, false, true, false, false, false, false, false, false, false, false, false, false, false, false, false, false, false, false, false, false, false, false, false, false] rfl rfl (any_of HT_.out (by kernel_rfl)) (fun _ _ _ h => h) (Or.inl ⟨by rfl, ?_⟩) ?_ ?_
                          rotate_left
                          · intro w'
                            go_simp
                            with_reducible rfl
                          rotate_left
                          · simp only [Act.put, List.setIfInBounds_toArray, List.set_cons_zero, List.set_cons_succ]
                            rfl
                          refine pure_ (i := 5) (N := some 181) (v := ?_) (a' := ?_) #[true, false, true, false, false, true, false, false, false, false, false, false, false, false, false, false, false, false, false, false, false, false, false, false, false] rfl rfl (any_of HT_.out (by kernel_rfl)) (fun _ _ _ h => h) (Or.inl ⟨by rfl, ?_⟩) ?_ ?_
                          rotate_left
                          · intro w'
                            go_simp
                            with_reducible rfl
                          rotate_left
                          · simp only [Act.put, List.setIfInBounds_toArray, List.set_cons_zero, List.set_cons_succ]
                            rfl
                          refine pure_ (i := 8) (N := some 184) (v := ?_) (a' := ?_) #[true, false, true, false, false, true, false, false, true, false, false, false, false, false, false, false, false, false, false, false, false, false, false, false, false] rfl rfl (any_of HT_.out (by kernel_rfl)) (fun _ _ _ h => h) (Or.inl ⟨by rfl, ?_⟩) ?_ ?_
                          rotate_left
                          · intro w'
                            go_simp
                            with_reducible rfl
                          rotate_left
                          · simp only [Act.put, List.setIfInBounds_toArray, List.set_cons_zero, List.set_cons_succ]
                            rfl
                          refine pure_ (i := 9) (N := some 185) (v := ?_) (a' := ?_) #[true, false, true, false, false, true, false, false, true, true, false, false, false, false, false, false, false, false, false, false, false, false, false, false, false] rfl rfl (any_of HT_.out (by kernel_rfl)) (fun _ _ _ h => h) (Or.inl ⟨by rfl, ?_⟩) ?_ ?_
                          rotate_left
                          · intro w'
                            go_simp
                            with_reducible rfl
                          rotate_left
                          · simp only [Act.put, List.setIfInBounds_toArray, List.set_cons_zero, List.set_cons_succ]
                            rfl
                          refine pure_ (i := 12) (N := some 188) (v := ?_) (a' := ?_) #[true, false, true, false, false, true, false, false, true, true, false, false, true, false, false, false, false, false, false, false, false, false, false, false, false] rfl rfl (any_of HT_.out (by kernel_rfl)) (fun _ _ _ h => h) (Or.inl ⟨by rfl, ?_⟩) ?_ ?_
                          rotate_left
                          · intro w'
                            go_simp
                            with_reducible rfl
                          rotate_left
                          · simp only [Act.put, List.setIfInBounds_toArray, List.set_cons_zero, List.set_cons_succ]
                            rfl
                          refine pure_ (i := 13) (N := some 189) (v := ?_) (a' := ?_) #[true, false, true, false, false, true, false, false, true, true, false, false, true, true, false, false, false, false, false, false, false, false, false, false, false] rfl rfl (any_of HT_.out (by kernel_rfl)) (fun _ _ _ h => h) (Or.inl ⟨by rfl, ?_⟩) ?_ ?_
                          rotate_left
                          · intro w'
                            go_simp
                            with_reducible rfl
                          rotate_left
                          · simp only [Act.put, List.setIfInBounds_toArray, List.set_cons_zero, List.set_cons_succ]
                            rfl
                          refine pure_ (i := 17) (N := some 193) (v := ?_) (a' := ?_) #[true, false, true, false, false, true, false, false, true, true, false, false, true, true, false, false, false, true, false, false, false, false, false, false, false] rfl rfl (any_of HT_.out (by kernel_rfl)) (fun _ _ _ h => h) (Or.inl ⟨by rfl, ?_⟩) ?_ ?_
                          rotate_left
                          · intro w'
                            go_simp
                            with_reducible rfl
                          rotate_left
                          · simp only [Act.put, List.setIfInBounds_toArray, List.set_cons_zero, List.set_cons_succ]
                            rfl
                          refine pure_ (i := 19) (N := some 195) (v := ?_) (a' := ?_) #[true, false, true, false, false, true, false, false, true, true, false, false, true, true, false, false, false, true, false, true, false, false, false, false, false] rfl rfl (any_of HT_.out (by kernel_rfl)) (fun _ _ _ h => h) (Or.inl ⟨by rfl, ?_⟩) ?_ ?_
                          rotate_left
                          · intro w'
                            go_simp
                            with_reducible rfl
                          rotate_left
                          · simp only [Act.put, List.setIfInBounds_toArray, List.set_cons_zero, List.set_cons_succ]
                            rfl
                          refine take_ (i := 10) (N := some 186) (v := ?_) (a' := ?_) #[true, false, true, false, false, true, false, false, true, true, true, false, true, true, false, false, false, true, false, true, false, false, false, false, false] rfl rfl (take_ofW HT_.out HW_.out (by kernel_rfl)) (fun _ _ _ h => h) (Or.inl ⟨by rfl, ?_⟩) hHeld ?_ ?_
                          rotate_left
                          · intro w' s0
                            have q0_ := QM.out w' s0
                            go_simp
                            with_reducible rfl
                          rotate_left
                          · simp only [Act.put, List.setIfInBounds_toArray, List.set_cons_zero, List.set_cons_succ]
                            rfl
                          refine pure_ (i := 11) (N := some 187) (v := ?_) (a' := ?_) #[true, false, true, false, false, true, false, false, true, true, true, true, true, true, false, false, false, true, false, true, false, false, false, false, false] rfl rfl (any_of HT_.out (by kernel_rfl)) (fun _ _ _ h => h) (Or.inl ⟨by rfl, ?_⟩) ?_ ?_
                          rotate_left
                          · intro w'
                            go_simp
                            with_reducible rfl
                          rotate_left
                          · simp only [Act.put, List.setIfInBounds_toArray, List.set_cons_zero, List.set_cons_succ]
                            rfl
                          refine take_ (i := 14) (N := some 190) (v := ?_) (a' := ?_) #[true, false, true, false, false, true, false, false, true, true, true, true, true, true, true, false, false, true, false, true, false, false, false, false, false] rfl rfl (take_ofW HT_.out HW_.out (by kernel_rfl)) (fun _ _ _ h => h) (Or.inl ⟨by rfl, ?_⟩) hHeld ?_ ?_
                          rotate_left
                          · intro w' s0
                            have q0_ := QM.out w' s0
                            go_simp
                            with_reducible rfl
                          rotate_left
                          · simp only [Act.put, List.setIfInBounds_toArray, List.set_cons_zero, List.set_cons_succ]
                            rfl
                          refine pure_ (i := 15) (N := some 191) (v := ?_) (a' := ?_) #[true, false, true, false, false, true, false, false, true, true, true, true, true, true, true, true, false, true, false, true, false, false, false, false, false] rfl rfl (any_of HT_.out (by kernel_rfl)) (fun _ _ _ h => h) (Or.inl ⟨by rfl, ?_⟩) ?_ ?_
                          rotate_left
                          · intro w'
                            go_simp
                            with_reducible rfl
                          rotate_left
                          · simp only [Act.put, List.setIfInBounds_toArray, List.set_cons_zero, List.set_cons_succ]
                            rfl
                          refine pure_ (i := 16) (N := some 192) (v := ?_) (a' := ?_) #[true, false, true, false, false, true, false, false, true, true, true, true, true, true, true, true, true, true, false, true, false, false, false, false, false] rfl rfl (any_of HT_.out (by kernel_rfl)) (fun _ _ _ h => h) (Or.inl ⟨by rfl, ?_⟩) ?_ ?_
                          rotate_left
                          · intro w'
                            go_simp
                            with_reducible rfl
                          rotate_left
                          · simp only [Act.put, List.setIfInBounds_toArray, List.set_cons_zero, List.set_cons_succ]
                            rfl
                          refine take_ (i := 18) (N := some 194) (v := ?_) (a' := ?_) #[true, false, true, false, false, true, false, false, true, true, true, true, true, true, true, true, true, true, true, true, false, false, false, false, false] rfl rfl (take_ofW HT_.out HW_.out (by kernel_rfl)) (fun _ _ _ h => h) (Or.inl ⟨by rfl, ?_⟩) hHeld ?_ ?_
                          rotate_left
                          · intro w' s0
                            have q0_ := QM.out w' s0
                            go_simp
                            with_reducible rfl
                          rotate_left
                          · simp only [Act.put, List.setIfInBounds_toArray, List.set_cons_zero, List.set_cons_succ]
                            rfl
                          refine take_ (i := 20) (N := some 196) (v := ?_) (a' := ?_) #[true, false, true, false, false, true, false, false, true, true, true, true, true, true, true, true, true, true, true, true, true, false, false, false, false] rfl rfl (take_ofW HT_.out HW_.out (by kernel_rfl)) (fun _ _ _ h => h) (Or.inl ⟨by rfl, ?_⟩) hHeld ?_ ?_
                          rotate_left
                          · intro w' s0
                            have q0_ := QM.out w' s0
                            go_simp
                            with_reducible rfl
                          rotate_left
                          · simp only [Act.put, List.setIfInBounds_toArray, List.set_cons_zero, List.set_cons_succ]
                            rfl
                          refine pure_ (i := 21) (N := some 197) (v := ?_) (a' := ?_) #[true, false, true, false, false, true, false, false, true, true, true, true, true, true, true, true, true, true, true, true, true, true, false, false, false] rfl rfl (any_of HT_.out (by kernel_rfl)) (fun _ _ _ h => h) (Or.inl ⟨by rfl, ?_⟩) ?_ ?_
                          rotate_left
                          · intro w'
                            go_simp
                            with_reducible rfl
                          rotate_left
                          · simp only [Act.put, List.setIfInBounds_toArray, List.set_cons_zero, List.set_cons_succ]
                            rfl
                          refine pure_ (i := 22) (N := some 198) (v := ?_) (a' := ?_) #[true, false, true, false, false, true, false, false, true, true, true, true, true, true, true, true, true, true, true, true, true, true, true, false, false] rfl rfl (any_of HT_.out (by kernel_rfl)) (fun _ _ _ h => h) (Or.inl ⟨by rfl, ?_⟩) ?_ ?_
                          rotate_left
                          · intro w'
                            go_simp
                            with_reducible rfl
                          rotate_left
                          · simp only [Act.put, List.setIfInBounds_toArray, List.set_cons_zero, List.set_cons_succ]
                            rfl
                          refine one_ (i := 1) (N := some 177) #[true, true, true, false, false, true, false, false, true, true, true, true, true, true, true, true, true, true, true, true, true, true, true, false, false] rfl rfl (one_of HT_.out (by kernel_rfl)) (by decide) (fun K hK => ?_)
                          refine goes_ Try.func46 (by kernel_rfl) rfl #[.int .u32 aa, .int .u64 2] (by rfl) rfl rfl (by simp only [List.map_toArray, List.map_cons, List.map_nil]; rfl) ?_
                          with_reducible refine (UTurn.strongroomref6_turn.calls aa 2 (rotL aa 30) _ (turn_some aa 2 30 (by decide) (by decide) (by decide) (by decide))).mono ?_
                          rintro e wz4 ⟨rfl, ⟨n4, hz⟩⟩
                          refine ⟨_, rfl, ?_⟩
                          have T4 : To wo wz4 bS .u32 s := by rw [hz]; exact hHeld.drewN n4
                          clear hz
                          refine hK.out _ _ (T4) (fun hHeld => ?_)
                          clear hK K
                          refine norm_ (a' := ?_) ?_ ?_
                          rotate_left
                          · show Act.put _ (some 177) _ = _
                            simp only [Act.put, List.setIfInBounds_toArray, List.set_cons_zero, List.set_cons_succ]
                            rfl
                          refine one_ (i := 3) (N := some 179) #[true, true, true, true, false, true, false, false, true, true, true, true, true, true, true, true, true, true, true, true, true, true, true, false, false] rfl rfl (one_of HT_.out (by kernel_rfl)) (by decide) (fun K hK => ?_)
                          refine goes_ Try.func46 (by kernel_rfl) rfl #[.int .u32 aa, .int .u64 13] (by rfl) rfl rfl (by simp only [List.map_toArray, List.map_cons, List.map_nil]; rfl) ?_
                          with_reducible refine (UTurn.strongroomref6_turn.calls aa 13 (rotL aa 19) _ (turn_some aa 13 19 (by decide) (by decide) (by decide) (by decide))).mono ?_
                          rintro e wz5 ⟨rfl, ⟨n5, hz⟩⟩
                          refine ⟨_, rfl, ?_⟩
                          have T5 : To wo wz5 bS .u32 s := by rw [hz]; exact hHeld.drewN n5
                          clear hz
                          refine hK.out _ _ (T5) (fun hHeld => ?_)
                          clear hK K
                          refine norm_ (a' := ?_) ?_ ?_
                          rotate_left
                          · show Act.put _ (some 179) _ = _
                            simp only [Act.put, List.setIfInBounds_toArray, List.set_cons_zero, List.set_cons_succ]
                            rfl
                          refine pure_ (i := 4) (N := some 180) (v := ?_) (a' := ?_) #[true, true, true, true, true, true, false, false, true, true, true, true, true, true, true, true, true, true, true, true, true, true, true, false, false] rfl rfl (any_of HT_.out (by kernel_rfl)) (fun _ _ _ h => h) (Or.inl ⟨by rfl, ?_⟩) ?_ ?_
                          rotate_left
                          · intro w'
                            go_simp
                            with_reducible rfl
                          rotate_left
                          · simp only [Act.put, List.setIfInBounds_toArray, List.set_cons_zero, List.set_cons_succ]
                            rfl
                          refine one_ (i := 6) (N := some 182) #[true, true, true, true, true, true, true, false, true, true, true, true, true, true, true, true, true, true, true, true, true, true, true, false, false] rfl rfl (one_of HT_.out (by kernel_rfl)) (by decide) (fun K hK => ?_)
                          refine goes_ Try.func46 (by kernel_rfl) rfl #[.int .u32 aa, .int .u64 22] (by rfl) rfl rfl (by simp only [List.map_toArray, List.map_cons, List.map_nil]; rfl) ?_
                          with_reducible refine (UTurn.strongroomref6_turn.calls aa 22 (rotL aa 10) _ (turn_some aa 22 10 (by decide) (by decide) (by decide) (by decide))).mono ?_
                          rintro e wz6 ⟨rfl, ⟨n6, hz⟩⟩
                          refine ⟨_, rfl, ?_⟩
                          have T6 : To wo wz6 bS .u32 s := by rw [hz]; exact hHeld.drewN n6
                          clear hz
                          refine hK.out _ _ (T6) (fun hHeld => ?_)
                          clear hK K
                          refine norm_ (a' := ?_) ?_ ?_
                          rotate_left
                          · show Act.put _ (some 182) _ = _
                            simp only [Act.put, List.setIfInBounds_toArray, List.set_cons_zero, List.set_cons_succ]
                            rfl
                          refine pure_ (i := 7) (N := some 183) (v := ?_) (a' := ?_) #[true, true, true, true, true, true, true, true, true, true, true, true, true, true, true, true, true, true, true, true, true, true, true, false, false] rfl rfl (any_of HT_.out (by kernel_rfl)) (fun _ _ _ h => h) (Or.inl ⟨by rfl, ?_⟩) ?_ ?_
                          rotate_left
                          · intro w'
                            go_simp
                            with_reducible rfl
                          rotate_left
                          · simp only [Act.put, List.setIfInBounds_toArray, List.set_cons_zero, List.set_cons_succ]
                            rfl
                          refine pure_ (i := 23) (N := some 199) (v := ?_) (a' := ?_) #[true, true, true, true, true, true, true, true, true, true, true, true, true, true, true, true, true, true, true, true, true, true, true, true, false] rfl rfl (any_of HT_.out (by kernel_rfl)) (fun _ _ _ h => h) (Or.inl ⟨by rfl, ?_⟩) ?_ ?_
                          rotate_left
                          · intro w'
                            go_simp
                            with_reducible rfl
                          rotate_left
                          · simp only [Act.put, List.setIfInBounds_toArray, List.set_cons_zero, List.set_cons_succ]
                            rfl
                          refine pure_ (i := 24) (N := some 20) (v := ?_) (a' := ?_) #[true, true, true, true, true, true, true, true, true, true, true, true, true, true, true, true, true, true, true, true, true, true, true, true, true] rfl rfl (any_of HT_.out (by kernel_rfl)) (fun _ _ _ h => h) (Or.inl ⟨by rfl, ?_⟩) ?_ ?_
                          rotate_left
                          · intro w'
                            go_simp
                            with_reducible rfl
                          rotate_left
                          · simp only [Act.put, List.setIfInBounds_toArray, List.set_cons_zero, List.set_cons_succ]
                            rfl
                          refine done_ (done_of HT_.out (by kernel_rfl)) ?_
                          have TU := Aside0.mk hHeld
                          clear hHeld QM
                          go_upto_region 34 with (fail)
                          change Code.wp _ _ _ _ wz6
                          generalize hU : IntKind.u32.wrap (Go.bits .xor .u32 (Go.bits .xor .u32 (rotL aa 30) (rotL aa 19)) (rotL aa 10) + Go.bits .xor .u32 (Go.bits .xor .u32 (Go.bits .and .u32 aa (rd s 1)) (Go.bits .and .u32 aa (rd s 2))) (Go.bits .and .u32 (rd s 1) (rd s 2))) = uu
                          have HUU := Aside0.mk (show uu = uF s by rw [uF, epA, ← HAE.out.1, ← hU]; exact u32w _)
                          clear hU
                          have iz := TU.out.is SS.out
                          have Z0 := iz.cell 0 (by rw [Ls.out]; omega)
                          have Z1 := iz.cell 1 (by rw [Ls.out]; omega)
                          have Z2 := iz.cell 2 (by rw [Ls.out]; omega)
                          have Z3 := iz.cell 3 (by rw [Ls.out]; omega)
                          have Z4 := iz.cell 4 (by rw [Ls.out]; omega)
                          have Z5 := iz.cell 5 (by rw [Ls.out]; omega)
                          have Z6 := iz.cell 6 (by rw [Ls.out]; omega)
                          have IZ := Aside0.mk iz
                          have HLz := Aside0.mk (show s.length = ([(tt + uu) % 4294967296, rd s 0, rd s 1, rd s 2, (rd s 3 + tt) % 4294967296, rd s 4, rd s 5, rd s 6] : List Int).length by rw [Ls.out]; rfl)
                          have HIz := Aside0.mk (show (Try.prog.info? 64).map (·.size) = some ([(tt + uu) % 4294967296, rd s 0, rd s 1, rd s 2, (rd s 3 + tt) % 4294967296, rd s 4, rd s 5, rd s 6] : List Int).length from info_a8)
                          clear iz
                          go_wp2_with ((with_reducible refine gate_store (t := 64) (p := 15) rfl ?_); refine storeL_is (b := bS) (e := 64) (k := .u32) (xs := s) 64 (.tmp 15) (.tmp 219) rfl rfl rfl [(tt + uu) % 4294967296, rd s 0, rd s 1, rd s 2, (rd s 3 + tt) % 4294967296, rd s 4, rd s 5, rd s 6] rfl rfl IZ.out HLz.out HIz.out ?_)
                          have e1 : sN frac y hh (i + 1) = [(tt + uu) % 4294967296, rd s 0, rd s 1, rd s 2, (rd s 3 + tt) % 4294967296, rd s 4, rd s 5, rd s 6] := by rw [sN, ← Q0.out, stepF, ← HTT.out, ← HUU.out]
                          rw [← e1]
                          have t1 := TU.out.put_d0 (zs := sN frac y hh (i + 1))
                          exact ⟨⟨i + 1, by omega, by go_num, ⟨t1⟩⟩, by simp [intOf]; omega⟩
                        · obtain rfl : i = 64 := by omega
                          rw [show ((64 : Nat) : Int) = 64 from rfl]
                          clear h64
                          have ES := Aside0.mk (show s = sN frac y hh 64 from Q0.out)
                          have IS := Aside0.mk is
                          have IHs := Aside0.mk (HT.out.other SN.out.2.1 SH.out)
                          have HTs := Aside0.mk (HTg.out.own HT.out SN.out.2.2.2.1)
                          clear HT is Q0 SS SW SH SK HTg
                          go_wp2
                          obtain ⟨wp, rfl⟩ : ∃ wp : World, wp = wr := ⟨_, rfl⟩
                          go_loopw [21] (fun v w' => ∃ i : Nat, i ≤ 8 ∧ v = .int .i64 i ∧ Aside0 (To wp w' bH .u32 (aN hh s i))) (fun v _ => 8 - (intOf v).toNat)
                          case atStart => exact ⟨0, by omega, rfl, ⟨To.refl IHs.out⟩⟩
                          case round =>
                            obtain ⟨i, hi, rfl, HT⟩ := hrel
                            obtain ⟨x8, q0⟩ : ∃ y_, y_ = aN hh s i := ⟨_, rfl⟩
                            rw [← q0] at HT
                            have Lx8 := Aside0.mk (show x8.length = 8 by rw [q0, len_aN, HH.out.2])
                            have Q0 := Aside0.mk q0
                            clear q0
                            have ix := HT.out.is IHs.out
                            by_cases h8 : i < 8
                            · have i0 : (i : Int) < 8 := by omega
                              have H1 := ix.cell i (by rw [Lx8.out]; omega)
                              have F1 := ix.free i
                              have H2 := (HT.out.other (Ne.symm SN.out.2.1) IS.out).cell i (by rw [Ls.out]; omega)
                              go_upto_region 38 with (fail)
                              go_still_tail 9, (by kernel_rfl)
                              change wpList _ _ _ _ _ wr.drew
                              go_wp2_with fail
                              rw [put_set ix]
                              have e1 : aN hh s (i + 1) = x8.set i ((rd x8 (i : Int) + rd s (i : Int)) % 4294967296) := by rw [aN, ← Q0.out]
                              rw [← e1]
                              have t1 := HT.out.put_dr (zs := aN hh s (i + 1))
                              exact ⟨⟨i + 1, by omega, by go_num, ⟨t1⟩⟩, by simp [intOf]; omega⟩
                            · obtain rfl : i = 8 := by omega
                              rw [show ((8 : Nat) : Int) = 8 from rfl]
                              clear h8
                              have HF := Aside0.mk (show Into wk wr bH .u32 (hS msg (j + 1)) by rw [hS, roundF, ← HBB.out, ← YE.out, ← HH.out.1, ← ES.out, ← Q0.out]; exact HTs.out.to HT.out)
                              clear HT ix
                              have hw : wrap64 ((q : Int) + 64) = (r : Int) := wrapq q r HRR.out (by have := HQ.out; have := ML.out.1; omega)
                              go_wp2_with fail
                              rw [hw]
                              clear hw
                              exact ⟨⟨j + 1, (sum_step HRR.out HQ.out).1, congrArg (Value.int .i64) (sum_step HRR.out HQ.out).2.1, HF⟩, (sum_step HRR.out HQ.out).2.2⟩
            · have hje : msg.length = 64 * j := by omega
              have hq2 : ¬ ((64 * j : Nat) : Int) < (msg.length : Int) := by omega
              have ih := HT.out.is IHk.out
              obtain ⟨x, hx⟩ : ∃ x, x = hS msg j := ⟨_, rfl⟩
              rw [← hx] at ih HT
              have Lx := Aside0.mk (show x.length = 8 by rw [hx, len_hS])
              have HX := Aside0.mk (And.intro hx hje)
              have IX := Aside0.mk ih
              have BA1 := Aside0.mk (show Below w.heap.size w wr from HT.out.belowB BK.out HBH.out.1 BK.out.size)
              obtain ⟨w5, rfl⟩ : ∃ w5 : World, w5 = wr := ⟨_, rfl⟩
              obtain ⟨bO, hbO⟩ : ∃ u, u = w5.heap.size := ⟨_, rfl⟩
              have HBO := Aside0.mk hbO
              clear ih hx hje hbO HT hm64
              go_wp2_with fail
              go_loopw [22, 23] (fun u v w' => ∃ i : Nat, i ≤ 8 ∧ v = .int .i64 i ∧ Aside0 ((Kd.int .u8).R 5 w' bO (fun _ => True) u (outN x i)) ∧ Aside0 (Below bO w5 w')) (fun _ v _ => 8 - (intOf v).toNat)
              case atStart => exact ⟨0, by omega, rfl, ⟨Kd.R_nil _ _ _ _ _⟩, ⟨Below.refl _ _⟩⟩
              case round =>
                obtain ⟨i, hi, rfl, HR, HB⟩ := hrel
                obtain ⟨Av2, cv2, rfl, _, _⟩ := Kd.R_reads HR.out
                obtain ⟨n22, hn22⟩ : ∃ n, n = (outN x i).length := ⟨_, rfl⟩
                rw [← hn22] at HR ⊢
                have HN22 := Aside0.mk hn22
                clear hn22
                by_cases h8 : i < 8
                · have q8 : (i : Int) < 8 := by omega
                  have H8 := Aside0.mk h8
                  have HBZ := Aside0.mk (show bO ≤ wr.heap.size by have := HB.out.size; have := HBO.out; omega)
                  have IXr := Aside0.mk (IX.out.below (show Below w5.heap.size w5 wr by rw [← HBO.out]; exact HB.out))
                  have Q0 := Aside0.mk (fun (w' : World) (h : Below wr.heap.size wr w') => (IXr.out.below h).cell i (by rw [Lx.out]; exact H8.out))
                  clear h8
                  go_upto_region 43 with (fail)
                  change Code.wp _ _ _ _ wr
                  refine start_ (n := 23) (S := fun w' => Below wr.heap.size wr w') (ds := [21]) #[false, false, false, false, false, false, false, false, false, false, false, false, false, false, false, false, false, false, false, false, false, false, false] (by kernel_rfl) rfl rfl (below_drew1 (Below.refl _ _)) (fun hHeld => ?_)
                  refine with_tabW refSum.tab43 refSum.bits43 (fun HT_ HW_ => ?_)
                  refine pure_ (i := 0) (N := some 237) (v := ?_) (a' := ?_) #[true, false, false, false, false, false, false, false, false, false, false, false, false, false, false, false, false, false, false, false, false, false, false] rfl rfl (any_of HT_.out (by kernel_rfl)) (fun _ _ _ h => h) (Or.inl ⟨by rfl, ?_⟩) ?_ ?_
                  rotate_left
                  · intro w'
                    go_simp
                    with_reducible rfl
                  rotate_left
                  · simp only [Act.put, List.setIfInBounds_toArray, List.set_cons_zero, List.set_cons_succ]
                    rfl
                  refine pure_ (i := 1) (N := some 238) (v := ?_) (a' := ?_) #[true, true, false, false, false, false, false, false, false, false, false, false, false, false, false, false, false, false, false, false, false, false, false] rfl rfl (any_of HT_.out (by kernel_rfl)) (fun _ _ _ h => h) (Or.inl ⟨by rfl, ?_⟩) ?_ ?_
                  rotate_left
                  · intro w'
                    go_simp
                    with_reducible rfl
                  rotate_left
                  · simp only [Act.put, List.setIfInBounds_toArray, List.set_cons_zero, List.set_cons_succ]
                    rfl
                  refine pure_ (i := 2) (N := some 239) (v := ?_) (a' := ?_) #[true, true, true, false, false, false, false, false, false, false, false, false, false, false, false, false, false, false, false, false, false, false, false] rfl rfl (any_of HT_.out (by kernel_rfl)) (fun _ _ _ h => h) (Or.inl ⟨by rfl, ?_⟩) ?_ ?_
                  rotate_left
                  · intro w'
                    go_simp
                    with_reducible rfl
                  rotate_left
                  · simp only [Act.put, List.setIfInBounds_toArray, List.set_cons_zero, List.set_cons_succ]
                    rfl
                  refine pure_ (i := 6) (N := some 243) (v := ?_) (a' := ?_) #[true, true, true, false, false, false, true, false, false, false, false, false, false, false, false, false, false, false, false, false, false, false, false] rfl rfl (any_of HT_.out (by kernel_rfl)) (fun _ _ _ h => h) (Or.inl ⟨by rfl, ?_⟩) ?_ ?_
                  rotate_left
                  · intro w'
                    go_simp
                    with_reducible rfl
                  rotate_left
                  · simp only [Act.put, List.setIfInBounds_toArray, List.set_cons_zero, List.set_cons_succ]
                    rfl
                  refine pure_ (i := 7) (N := some 244) (v := ?_) (a' := ?_) #[true, true, true, false, false, false, true, true, false, false, false, false, false, false, false, false, false, false, false, false, false, false, false] rfl rfl (any_of HT_.out (by kernel_rfl)) (fun _ _ _ h => h) (Or.inl ⟨by rfl, ?_⟩) ?_ ?_
                  rotate_left
                  · intro w'
                    go_simp
                    with_reducible rfl
                  rotate_left
                  · simp only [Act.put, List.setIfInBounds_toArray, List.set_cons_zero, List.set_cons_succ]
                    rfl
                  refine pure_ (i := 11) (N := some 248) (v := ?_) (a' := ?_) #[true, true, true, false, false, false, true, true, false, false, false, true, false, false, false, false, false, false, false, false, false, false, false] rfl rfl (any_of HT_.out (by kernel_rfl)) (fun _ _ _ h => h) (Or.inl ⟨by rfl, ?_⟩) ?_ ?_
                  rotate_left
                  · intro w'
                    go_simp
                    with_reducible rfl
                  rotate_left
                  · simp only [Act.put, List.setIfInBounds_toArray, List.set_cons_zero, List.set_cons_succ]
                    rfl
                  refine pure_ (i := 12) (N := some 249) (v := ?_) (a' := ?_) #[true, true, true, false, false, false, true, true, false, false, false, true, true, false, false, false, false, false, false, false, false, false, false] rfl rfl (any_of HT_.out (by kernel_rfl)) (fun _ _ _ h => h) (Or.inl ⟨by rfl, ?_⟩) ?_ ?_
                  rotate_left
                  · intro w'
                    go_simp
                    with_reducible rfl
                  rotate_left
                  · simp only [Act.put, List.setIfInBounds_toArray, List.set_cons_zero, List.set_cons_succ]
                    rfl
                  refine pure_ (i := 16) (N := some 253) (v := ?_) (a' := ?_) #[true, true, true, false, false, false, true, true, false, false, false, true, true, false, false, false, true, false, false, false, false, false, false] rfl rfl (any_of HT_.out (by kernel_rfl)) (fun _ _ _ h => h) (Or.inl ⟨by rfl, ?_⟩) ?_ ?_
                  rotate_left
                  · intro w'
                    go_simp
                    with_reducible rfl
                  rotate_left
                  · simp only [Act.put, List.setIfInBounds_toArray, List.set_cons_zero, List.set_cons_succ]
                    rfl
                  refine pure_ (i := 17) (N := some 254) (v := ?_) (a' := ?_) #[true, true, true, false, false, false, true, true, false, false, false, true, true, false, false, false, true, true, false, false, false, false, false] rfl rfl (any_of HT_.out (by kernel_rfl)) (fun _ _ _ h => h) (Or.inl ⟨by rfl, ?_⟩) ?_ ?_
                  rotate_left
                  · intro w'
                    go_simp
                    with_reducible rfl
                  rotate_left
                  · simp only [Act.put, List.setIfInBounds_toArray, List.set_cons_zero, List.set_cons_succ]
                    rfl
                  refine take_ (i := 3) (N := some 240) (v := ?_) (a' := ?_) #[true, true, true, true, false, false, true, true, false, false, false, true, true, false, false, false, true, true, false, false, false, false, false] rfl rfl (take_ofW HT_.out HW_.out (by kernel_rfl)) (fun _ _ _ h => h) (Or.inl ⟨by rfl, ?_⟩) hHeld ?_ ?_
                  rotate_left
                  · intro w' s0
                    have q0_ := Q0.out w' s0
                    go_simp
                    with_reducible rfl
                  rotate_left
                  · simp only [Act.put, List.setIfInBounds_toArray, List.set_cons_zero, List.set_cons_succ]
                    rfl
                  refine pure_ (i := 4) (N := some 241) (v := ?_) (a' := ?_) #[true, true, true, true, true, false, true, true, false, false, false, true, true, false, false, false, true, true, false, false, false, false, false] rfl rfl (any_of HT_.out (by kernel_rfl)) (fun _ _ _ h => h) (Or.inl ⟨by rfl, ?_⟩) ?_ ?_
                  rotate_left
                  · intro w'
                    go_simp
                    with_reducible rfl
                  rotate_left
                  · simp only [Act.put, List.setIfInBounds_toArray, List.set_cons_zero, List.set_cons_succ]
                    rfl
                  refine pure_ (i := 5) (N := some 242) (v := ?_) (a' := ?_) #[true, true, true, true, true, true, true, true, false, false, false, true, true, false, false, false, true, true, false, false, false, false, false] rfl rfl (any_of HT_.out (by kernel_rfl)) (fun _ _ _ h => h) (Or.inl ⟨by rfl, ?_⟩) ?_ ?_
                  rotate_left
                  · intro w'
                    go_simp
                    with_reducible rfl
                  rotate_left
                  · simp only [Act.put, List.setIfInBounds_toArray, List.set_cons_zero, List.set_cons_succ]
                    rfl
                  refine take_ (i := 8) (N := some 245) (v := ?_) (a' := ?_) #[true, true, true, true, true, true, true, true, true, false, false, true, true, false, false, false, true, true, false, false, false, false, false] rfl rfl (take_ofW HT_.out HW_.out (by kernel_rfl)) (fun _ _ _ h => h) (Or.inl ⟨by rfl, ?_⟩) hHeld ?_ ?_
                  rotate_left
                  · intro w' s0
                    have q0_ := Q0.out w' s0
                    go_simp
                    with_reducible rfl
                  rotate_left
                  · simp only [Act.put, List.setIfInBounds_toArray, List.set_cons_zero, List.set_cons_succ]
                    rfl
                  refine pure_ (i := 9) (N := some 246) (v := ?_) (a' := ?_) #[true, true, true, true, true, true, true, true, true, true, false, true, true, false, false, false, true, true, false, false, false, false, false] rfl rfl (any_of HT_.out (by kernel_rfl)) (fun _ _ _ h => h) (Or.inl ⟨by rfl, ?_⟩) ?_ ?_
                  rotate_left
                  · intro w'
                    go_simp
                    with_reducible rfl
                  rotate_left
                  · simp only [Act.put, List.setIfInBounds_toArray, List.set_cons_zero, List.set_cons_succ]
                    rfl
                  refine pure_ (i := 10) (N := some 247) (v := ?_) (a' := ?_) #[true, true, true, true, true, true, true, true, true, true, true, true, true, false, false, false, true, true, false, false, false, false, false] rfl rfl (any_of HT_.out (by kernel_rfl)) (fun _ _ _ h => h) (Or.inl ⟨by rfl, ?_⟩) ?_ ?_
                  rotate_left
                  · intro w'
                    go_simp
                    with_reducible rfl
                  rotate_left
                  · simp only [Act.put, List.setIfInBounds_toArray, List.set_cons_zero, List.set_cons_succ]
                    rfl
                  refine take_ (i := 13) (N := some 250) (v := ?_) (a' := ?_) #[true, true, true, true, true, true, true, true, true, true, true, true, true, true, false, false, true, true, false, false, false, false, false] rfl rfl (take_ofW HT_.out HW_.out (by kernel_rfl)) (fun _ _ _ h => h) (Or.inl ⟨by rfl, ?_⟩) hHeld ?_ ?_
                  rotate_left
                  · intro w' s0
                    have q0_ := Q0.out w' s0
                    go_simp
                    with_reducible rfl
                  rotate_left
                  · simp only [Act.put, List.setIfInBounds_toArray, List.set_cons_zero, List.set_cons_succ]
                    rfl
                  refine pure_ (i := 14) (N := some 251) (v := ?_) (a' := ?_) #[true, true, true, true, true, true, true, true, true, true, true, true, true, true, true, false, true, true, false, false, false, false, false] rfl rfl (any_of HT_.out (by kernel_rfl)) (fun _ _ _ h => h) (Or.inl ⟨by rfl, ?_⟩) ?_ ?_
                  rotate_left
                  · intro w'
                    go_simp
                    with_reducible rfl
                  rotate_left
                  · simp only [Act.put, List.setIfInBounds_toArray, List.set_cons_zero, List.set_cons_succ]
                    rfl
                  refine pure_ (i := 15) (N := some 252) (v := ?_) (a' := ?_) #[true, true, true, true, true, true, true, true, true, true, true, true, true, true, true, true, true, true, false, false, false, false, false] rfl rfl (any_of HT_.out (by kernel_rfl)) (fun _ _ _ h => h) (Or.inl ⟨by rfl, ?_⟩) ?_ ?_
                  rotate_left
                  · intro w'
                    go_simp
                    with_reducible rfl
                  rotate_left
                  · simp only [Act.put, List.setIfInBounds_toArray, List.set_cons_zero, List.set_cons_succ]
                    rfl
                  refine take_ (i := 18) (N := some 255) (v := ?_) (a' := ?_) #[true, true, true, true, true, true, true, true, true, true, true, true, true, true, true, true, true, true, true, false, false, false, false] rfl rfl (take_ofW HT_.out HW_.out (by kernel_rfl)) (fun _ _ _ h => h) (Or.inl ⟨by rfl, ?_⟩) hHeld ?_ ?_
                  rotate_left
                  · intro w' s0
                    have q0_ := Q0.out w' s0
                    go_simp
                    with_reducible rfl
                  rotate_left
                  · simp only [Act.put, List.setIfInBounds_toArray, List.set_cons_zero, List.set_cons_succ]
                    rfl
                  refine pure_ (i := 19) (N := some 256) (v := ?_) (a' := ?_) #[true, true, true, true, true, true, true, true, true, true, true, true, true, true, true, true, true, true, true, true, false, false, false] rfl rfl (any_of HT_.out (by kernel_rfl)) (fun _ _ _ h => h) (Or.inl ⟨by rfl, ?_⟩) ?_ ?_
                  rotate_left
                  · intro w'
                    go_simp
                    with_reducible rfl
                  rotate_left
                  · simp only [Act.put, List.setIfInBounds_toArray, List.set_cons_zero, List.set_cons_succ]
                    rfl
                  refine one_ (i := 20) (N := some 257) #[true, true, true, true, true, true, true, true, true, true, true, true, true, true, true, true, true, true, true, true, true, false, false] rfl rfl (one_of HT_.out (by kernel_rfl)) (by decide) (fun K hK => ?_)
                  refine value_ (w1 := ?_) (v := ?_) (by rfl) rfl ?_ ?_
                  rotate_left 2
                  · go_simp
                    constructor
                    · rfl
                    · rfl
                  refine hK.out _ _ (below_alloc hHeld _) (fun hHeld => ?_)
                  clear hK K
                  refine norm_ (a' := ?_) ?_ ?_
                  rotate_left
                  · show Act.put _ (some 257) _ = _
                    simp only [Act.put, List.setIfInBounds_toArray, List.set_cons_zero, List.set_cons_succ]
                    rfl
                  refine last_ (i := 21) (N := some 258) #[true, true, true, true, true, true, true, true, true, true, true, true, true, true, true, true, true, true, true, true, true, true, false] rfl rfl (one_of HT_.out (by kernel_rfl)) (by decide) (fun K hK => ?_)
                  refine Kd.R_append_rows_step (Kd.int .u8) (w0 := wr) bO (by rfl) (.tmp 237) (.tmp 257) 22 5 (.int .u8 0) 1 rfl Try.underlying22 Pol.info_u8 rfl (by decide) (by omega) (.slice Av2 n22 cv2) (outN x i) [IntKind.u8.wrap (rd x (i : Int) / 16777216), IntKind.u8.wrap (rd x (i : Int) / 65536), IntKind.u8.wrap (rd x (i : Int) / 256), IntKind.u8.wrap (rd x (i : Int))] (some ⟨_, 0, none⟩) 4 4 (fun _ => True) (fun _ => False) rfl rfl ?aO ?aR (fun _ _ h => h) (fun _ h => h.elim) ?aF ?aB ?aS ?aL ?_
                  (case aO => exact Kd.R_drew (Kd.R_alloc HR.out _))
                  (case aR => exact Kd.C_drew (lit_C wr 5 .u8 [IntKind.u8.wrap (rd x (i : Int) / 16777216), IntKind.u8.wrap (rd x (i : Int) / 65536), IntKind.u8.wrap (rd x (i : Int) / 256), IntKind.u8.wrap (rd x (i : Int))] (0, 0) 4 rfl (by decide)))
                  (case aF => exact fun _ _ => trivial)
                  (case aB => exact hHeld.mono HBZ.out)
                  (case aS => exact Nat.le_trans HBZ.out hHeld.size)
                  (case aL => have := H8.out; rw [len_outN]; omega)
                  intro v21 w21 ho hb hg hn
                  have N21 := Aside0.mk (show (Kd.int .u8).R 5 w21 bO (fun _ => True) v21 (outN x (i + 1)) by rw [outN, ← u8w, ← u8w, ← u8w, ← u8w]; exact ho)
                  have L21 := Aside0.mk hb
                  clear ho hb hg hn
                  refine hK.out _ _ ?_
                  clear hK K
                  refine norm_ (a' := ?_) ?_ ?_
                  rotate_left
                  · show Act.put _ (some 258) _ = _
                    simp only [Act.put, List.setIfInBounds_toArray, List.set_cons_zero, List.set_cons_succ]
                    rfl
                  refine pure_ (i := 22) (N := some 22) (v := ?_) (a' := ?_) #[true, true, true, true, true, true, true, true, true, true, true, true, true, true, true, true, true, true, true, true, true, true, true] rfl rfl (any_of HT_.out (by kernel_rfl)) (fun _ _ _ h => h) (Or.inl ⟨by rfl, ?_⟩) ?_ ?_
                  rotate_left
                  · intro w'
                    go_simp
                    with_reducible rfl
                  rotate_left
                  · simp only [Act.put, List.setIfInBounds_toArray, List.set_cons_zero, List.set_cons_succ]
                    rfl
                  refine done_ (done_of HT_.out (by kernel_rfl)) ?_
                  go_wp2_with fail
                  refine ⟨⟨i + 1, H8.out, congrArg (Value.int .i64) rfl, ⟨N21.out⟩, ⟨HB.out.trans L21.out⟩⟩, meas8 i H8.out⟩
                · obtain rfl : i = 8 := by omega
                  rw [show ((8 : Nat) : Int) = 8 from rfl]
                  go_wp2_with fail
                  go_ret
                  refine ⟨_, rfl, ?_, ?_⟩
                  · have e1 : x = hS (msgF b) ((msgF b).length / 64) := by
                      rw [HX.out.1, ← MF.out, HX.out.2, Nat.mul_div_cancel_left _ (by decide)]
                    rw [shaF, ← e1]
                    exact Kd.R_lower HR.out (by rw [HBO.out]; exact BA1.out.size)
                  · exact BA1.out.trans (HB.out.mono (by rw [HBO.out]; exact BA1.out.size))
end Go.Proofs.Ythahhjkokdillaa.Sha
