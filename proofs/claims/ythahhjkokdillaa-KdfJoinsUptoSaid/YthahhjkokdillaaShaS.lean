/-
  SHA-256 (kdf.Sum), walked.
-/
import Derived.Test.YthahhjkokdillaaShaB
import Derived.Test.YthahhjkokdillaaShaK
import Derived.Test.YthahhjkokdillaaPolyB
import Derived.ChangeKeysEq
namespace Go.Proofs.Ythahhjkokdillaa.Sha
open Go.RowKit Go.Proofs.YthahhjkokdillaaW.PrintWords Go.Proofs.YthahhjkokdillaaW.PrintLast Go.Proofs.YthahhjkokdillaaW.PrintMore Go.Proofs.Ythahhjkokdillaa.Arr
def hI : List Int := [1779033703, 3144134277, 1013904242, 2773480762, 1359893119, 2600822924, 528734635, 1541459225]
/-- Block j. -/
def blk (msg : List Int) (j : Nat) : List Int := (msg.take (64 * j + 64)).drop (64 * j)
theorem len_blk (msg : List Int) (j : Nat) (h : 64 * j + 64 ≤ msg.length) : (blk msg j).length = 64 := by unfold blk; rw [List.length_drop, List.length_take]; omega
def hS (msg : List Int) : Nat → List Int
  | 0 => hI
  | j + 1 => roundF (hS msg j) (blk msg j) frac
theorem len_hS (msg : List Int) : ∀ j, (hS msg j).length = 8
  | 0 => rfl
  | j + 1 => by rw [hS, len_roundF, len_hS msg j]
theorem wrapq (q r : Nat) (h : r = q + 64) (hq : q ≤ 300000000) : wrap64 ((q : Int) + 64) = (r : Int) := by rw [wrap_id (by omega) (by omega)]; omega
theorem run_index8 (x : List Int) (hx : x.length = 8) (i : Nat) (hi : i < 8) (W : World) : (Instr.index 64 (.agg (nums .u32 x).toArray) (.int .i64 i)).run Try.prog W = .ok (.int .u32 (rd x i)) W := by
  have h1 : (isAgg 63).run Try.prog W = .ok false W := by rfl
  have h2 : (sizeOf 63).run Try.prog W = .ok 1 W := by rfl
  have h3 : (0 : Int) ≤ (i : Int) ∧ (i : Int) < ((8 : Nat) : Int) := by omega
  have h4 : (nums .u32 x).toArray[i]? = some (.int .u32 (rd x i)) := by simp [nums, rd, hx, hi, List.getD_eq_getElem?_getD]
  unfold Instr.index
  simp only [asIntOf, run_underlying Try.underlying64, Sem.run_bind, Result.andThen_ok, Sem.run_pure, if_pos h3, h2, part, h1, Int.toNat_natCast, Nat.mul_one, h4]
  rfl
theorem index_ev {ρ : Operand → Value} {o : Oper} (X I : Operand) (ho : o.op = .index 64 X I) (x : List Int) (hx : x.length = 8) (i : Nat) (hi : i < 8) (W : World) (hX : ρ X = .agg (nums .u32 x).toArray) (hI : ρ I = .int .i64 i) : (execOp ρ o).run Try.prog W = .ok (.value (.int .u32 (rd x i))) W := by
  simp [execOp, ho, hX, hI, run_index8 x hx i hi W]
theorem sum_step {q r j L : Nat} (hr : r = q + 64) (h : q = 64 * j ∧ 64 * j + 64 ≤ L ∧ 64 * j < L) : 64 * (j + 1) ≤ L ∧ (r : Int) = ((64 * (j + 1) : Nat) : Int) ∧ L + 64 - (intOf (.int .i64 (r : Int))).toNat < L + 64 - (intOf (.int .i64 (q : Int))).toNat := by
  refine ⟨by omega, by omega, ?_⟩
  simp only [intOf]
  omega
/-- The words' bytes, the highest first: of the first words. -/
def outN (x : List Int) : Nat → List Int
  | 0 => []
  | i + 1 => outN x i ++ [rd x i / 16777216 % 256, rd x i / 65536 % 256, rd x i / 256 % 256, rd x i % 256]
theorem len_outN (x : List Int) : ∀ i, (outN x i).length = 4 * i
  | 0 => rfl
  | i + 1 => by rw [outN, List.length_append, len_outN x i]; rfl
def lenV : Value → Nat
  | .slice _ n _ => n
  | _ => 0
/-- So many noughts stand behind the one bit. -/
def padN (n : Nat) : Nat := (119 - n % 64) % 64
theorem padN_mod (n : Nat) : (n + 1 + padN n) % 64 = 56 := by unfold padN; omega
theorem padN_lt (n j : Nat) (h : j < padN n) : (n + 1 + j) % 64 ≠ 56 := by unfold padN at h; omega
/-- A length as eight bytes, the highest first: the first of them. -/
def lenB (u : Int) : Nat → List Int
  | 0 => []
  | i + 1 => lenB u i ++ [u / 2 ^ (56 - 8 * i) % 256]
theorem len_lenB (u : Int) : ∀ i, (lenB u i).length = i
  | 0 => rfl
  | i + 1 => by rw [lenB, List.length_append, len_lenB u i]; rfl
theorem meas8 (i : Nat) (h : i < 8) : 8 - (intOf (.int .i64 ((i : Int) + 1))).toNat < 8 - (intOf (.int .i64 (i : Int))).toNat := by simp only [intOf]; omega
/-- The bytes with what stands behind them. -/
def msgF (b : List Int) : List Int := b ++ [128] ++ List.replicate (padN b.length) 0 ++ lenB (IntKind.u64.wrap (IntKind.u64.wrap (b.length : Int) * 8)) 8
/-- SHA-256, as kdf.Sum reckons it. -/
def shaF (b : List Int) : List Int := outN (hS (msgF b) ((msgF b).length / 64)) 8
theorem len_shaF (b : List Int) : (shaF b).length = 32 := len_outN _ 8
set_option maxHeartbeats 8000000 in
set_option maxRecDepth 100000 in
theorem sum_calls (A : Option Addr) (cA : Nat) (b : List Int) (w : World) (hb : (Kd.int .u8).C w A b.length b) (hcA : b.length ≤ cA) (hbl : b.length ≤ 100000000) :
    Calls Try.prog 15 #[.slice A b.length cA] w fun e w' => ∃ v, e = .returned v ∧ (Kd.int .u8).R 5 w' w.heap.size (fun _ => True) v (shaF b) ∧ Below w.heap.size w w' := by
  have HB := Aside0.mk hb
  have HL := Aside0.mk hbl
  have Z1 := Aside0.mk (lit_R w w.heap.size w.heap.size 5 .u8 [] 0 rfl (Nat.le_refl _) rfl (by decide))
  have B1 := Aside0.mk (show Below w.heap.size w (w.alloc (.cells #[] 5)) from (Below.refl _ _).alloc (Nat.le_refl _) _)
  clear hb hbl
  go_enter Try.func15, Try.ntmps15
  go_wp2_with (first | ((with_reducible refine gate_builtin (b := .append) (xs := #[.tmp 16, .tmp 17]) rfl ?_); at_builtin; (refine Kd.R_append_row (w0 := w) (Value.int .u8) (0 : Int) (h1 := fun _ => rfl) w.heap.size rfl (.tmp 16) (.tmp 17) 22 5 (.int .u8 0) 1 rfl Try.underlying22 Pol.info_u8 rfl Nat.one_pos _ [] b A b.length cA (fun _ => True) rfl rfl (fun _ _ => trivial) ?q1 ?q2 ?q3 ?q4 ?q5 ?_; (case q1 => exact Z1.out); (case q2 => exact Kd.C_below HB.out B1.out); (case q3 => exact B1.out); (case q4 => exact B1.out.size); (case q5 => have := HL.out; simp only [List.length_nil]; omega); intro v2 w2 hR hB _ _; have R2 := Aside0.mk (show (Kd.int .u8).R 5 w2 w.heap.size (fun _ => True) v2 b from hR); have B2 := Aside0.mk hB; clear hR hB)) | ((with_reducible refine gate_builtin (b := .append) (xs := #[.tmp 19, .tmp 20]) rfl ?_); at_builtin; refine lit_append w.heap.size rfl (.tmp 19) (.tmp 20) 22 5 .u8 1 rfl Try.underlying22 Pol.info_u8 Nat.one_pos _ (b) [128] 1 ?q1 rfl ?q3 ?q4 ?q5 ?q6 ?_; (case q1 => rfl); (case q3 => rfl); (case q4 => exact R2.out); (case q5 => exact B2.out.size); (case q6 => have := HL.out; omega); intro v3 w3 hR1 hB1; have R3 := Aside0.mk hR1; have B3 := Aside0.mk (B2.out.trans hB1); clear hR1 hB1))
  obtain ⟨d, hd⟩ : ∃ d, d = padN b.length := ⟨_, rfl⟩
  have HD := Aside0.mk (And.intro hd (show d < 64 by rw [hd]; unfold padN; omega))
  clear hd
  go_loopw [4] (fun v w' => ∃ j : Nat, j ≤ d ∧ Aside0 ((Kd.int .u8).R 5 w' w.heap.size (fun _ => True) v (b ++ [128] ++ List.replicate j 0)) ∧ Aside0 (Below w.heap.size w w')) (fun v _ => b.length + 1 + d - lenV v)
  case atStart => exact ⟨0, by omega, ⟨by rw [List.replicate_zero, List.append_nil]; exact R3.out⟩, B3⟩
  case round =>
    obtain ⟨j, hj, HR, HB⟩ := hrel
    obtain ⟨Av, cv, rfl, hcv, _⟩ := Kd.R_reads HR.out
    obtain ⟨n, hn⟩ : ∃ n : Nat, n = (b ++ [128] ++ List.replicate j 0).length := ⟨_, rfl⟩
    have hnl : n = b.length + 1 + j := by rw [hn, List.length_append, List.length_append, List.length_replicate]; rfl
    have HNN := Aside0.mk hnl
    rw [← hn] at HR ⊢
    by_cases hlt : j < d
    · have hm : n % 64 ≠ 56 := by rw [hnl]; exact padN_lt _ _ (by rw [← HD.out.1]; exact hlt)
      have d1 : ((n : Int) % 64 != 56) = true := by simp; omega
      have d2 : decide ((n : Int) % 64 = 56) = false := decide_eq_false (by omega)
      have e1 : b ++ [128] ++ List.replicate (j + 1) 0 = (b ++ [128] ++ List.replicate j (0 : Int)) ++ [0] := by rw [List.replicate_succ', List.append_assoc, List.append_assoc, List.append_assoc]
      have E1 := Aside0.mk e1
      have HN2 := Aside0.mk hn
      have HLT := Aside0.mk hlt
      clear hm hn hnl hcv e1 hlt
      go_wp2_with ((with_reducible refine gate_builtin (b := .append) (xs := #[.tmp 26, .tmp 27]) rfl ?_); at_builtin; refine lit_append w.heap.size rfl (.tmp 26) (.tmp 27) 22 5 .u8 1 rfl Try.underlying22 Pol.info_u8 Nat.one_pos _ (b ++ [128] ++ List.replicate j 0) [0] 1 ?q1 rfl ?q3 ?q4 ?q5 ?q6 ?_; (case q1 => rfl); (case q3 => rfl); (case q4 => exact HR.out); (case q5 => exact HB.out.size); (case q6 => have := HL.out; have := HD.out.2; have := HNN.out; have := HLT.out; rw [← HN2.out]; omega); intro v4 w4 hR1 hB1; have R4 := Aside0.mk hR1; have B4 := Aside0.mk (HB.out.trans hB1); clear hR1 hB1)
      obtain ⟨A4, c4, rfl⟩ := Kd.R_slice R4.out
      refine ⟨⟨j + 1, by have := HLT.out; omega, ⟨by rw [E1.out]; exact R4.out⟩, B4⟩, ?_⟩
      simp only [lenV]
      rw [List.length_append, ← HN2.out]
      have h1 := HNN.out
      have h2 := HLT.out
      simp only [List.length_cons, List.length_nil]
      omega
    · obtain rfl : j = d := by omega
      have hm : n % 64 = 56 := by rw [hnl, HD.out.1]; exact padN_mod _
      have d1 : ((n : Int) % 64 != 56) = false := by simp; omega
      have d2 : decide ((n : Int) % 64 = 56) = true := decide_eq_true (by omega)
      have HN2 := Aside0.mk hn
      clear hm hn hnl hcv hlt
      obtain ⟨m0, hm0⟩ : ∃ m0, m0 = b ++ [128] ++ List.replicate j (0 : Int) := ⟨_, rfl⟩
      rw [← hm0] at HR HN2
      have HM0 := Aside0.mk hm0
      clear hm0
      obtain ⟨u, hu⟩ : ∃ u, u = IntKind.u64.wrap (IntKind.u64.wrap (b.length : Int) * 8) := ⟨_, rfl⟩
      rw [← hu]
      have HU := Aside0.mk hu
      clear hu
      go_wp2_with fail
      go_loopw [4, 5] (fun v k w' => ∃ i : Nat, i ≤ 8 ∧ k = .int .i64 (56 - 8 * (i : Int)) ∧ Aside0 ((Kd.int .u8).R 5 w' w.heap.size (fun _ => True) v (m0 ++ lenB u i)) ∧ Aside0 (Below w.heap.size w w')) (fun _ k _ => (intOf k + 8).toNat)
      case atStart => exact ⟨0, by omega, rfl, ⟨by rw [lenB, List.append_nil]; exact HR.out⟩, HB⟩
      case round =>
        obtain ⟨i, hi, rfl, HR, HB⟩ := hrel
        by_cases h8 : i < 8
        · have k0 : 0 ≤ 56 - 8 * (i : Int) := by omega
          have LI := Aside0.mk (show (m0 ++ lenB u i).length ≤ 100000200 by rw [List.length_append, len_lenB, ← HN2.out, HNN.out]; have := HL.out; have := HD.out.2; omega)
          have H8 := Aside0.mk h8
          clear h8
          go_wp2_with ((with_reducible refine gate_builtin (b := .append) (xs := #[.tmp 33, .tmp 38]) rfl ?_); at_builtin; refine lit_append w.heap.size rfl (.tmp 33) (.tmp 38) 22 5 .u8 1 rfl Try.underlying22 Pol.info_u8 Nat.one_pos _ (m0 ++ lenB u i) [u / 2 ^ (56 - 8 * i) % 256] 1 ?q1 rfl ?q3 ?q4 ?q5 ?q6 ?_; (case q1 => rfl); (case q3 => rfl); (case q4 => exact HR.out); (case q5 => exact HB.out.size); (case q6 => have := LI.out; omega); intro v4 w4 hR1 hB1; have R4 := Aside0.mk hR1; have B4 := Aside0.mk (HB.out.trans hB1); clear hR1 hB1)
          refine ⟨⟨i + 1, by have := H8.out; omega, ?_, ⟨by rw [lenB, ← List.append_assoc]; exact R4.out⟩, B4⟩, ?_⟩
          · first | (congr 1; omega) | go_num
          · have := H8.out; simp [intOf]; omega
        · obtain rfl : i = 8 := by omega
          rw [show (56 - 8 * ((8 : Nat) : Int)) = -8 from rfl]
          clear h8
          obtain ⟨msg, hmsg⟩ : ∃ x, x = m0 ++ lenB u 8 := ⟨_, rfl⟩
          have hml : msg.length % 64 = 0 ∧ msg.length = n + 8 := by
            have h1 : msg.length = n + 8 := by rw [hmsg, List.length_append, len_lenB, ← HN2.out]
            have h2 := HNN.out
            have h3 := HD.out.1
            have h4 := padN_mod b.length
            omega
          have HMM := Aside0.mk (And.intro hmsg hml)
          rw [← hmsg] at HR
          obtain ⟨Am, cm, rfl, hcm, hCm⟩ := Kd.R_reads HR.out
          have CM := Aside0.mk (And.intro hCm hcm)
          clear hmsg hml hcm hCm
          have HI8 := Aside0.mk (show (Try.prog.info? 64).map (·.size) = some hI.length from info_a8)
          have HLL := Aside0.mk (show z8.length = hI.length from rfl)
          have N4 := Aside0.mk (show Is (wr.alloc (.cells #[.int .u32 0, .int .u32 0, .int .u32 0, .int .u32 0, .int .u32 0, .int .u32 0, .int .u32 0, .int .u32 0] 64)) wr.heap.size 64 .u32 z8 from new_is wr 64 .u32 z8)
          go_upto_region 11 with ((with_reducible refine gate_store (t := 64) (p := 6) rfl ?_); refine storeL_is (b := wr.heap.size) (e := 64) (k := .u32) (xs := z8) 64 (.tmp 6) (.tmp 40) rfl rfl rfl hI rfl rfl N4.out HLL.out HI8.out ?_)
          change Code.wp _ _ _ _ (put (wr.alloc (.cells (nums .u32 z8).toArray 64)) wr.heap.size .u32 hI)
          have ig := put_heap (ys := hI) N4.out
          have Bg : Below wr.heap.size wr (put (wr.alloc (.cells (nums .u32 z8).toArray 64)) wr.heap.size .u32 hI) := below_put ((Below.refl _ _).alloc (Nat.le_refl _) _) (Nat.le_refl _)
          replace ig : Is (put (wr.alloc (.cells (nums .u32 z8).toArray 64)) wr.heap.size .u32 hI) wr.heap.size 64 .u32 hI := ig
          generalize put (wr.alloc (.cells (nums .u32 z8).toArray 64)) wr.heap.size .u32 hI = wg at ig Bg ⊢
          obtain ⟨bH, hbH⟩ : ∃ b, b = wr.heap.size := ⟨_, rfl⟩
          rw [← hbH] at ig ⊢
          have IH := Aside0.mk ig
          have BG := Aside0.mk Bg
          have HBH := Aside0.mk hbH
          clear ig Bg hbH N4 HLL HI8
          go_wp2_with fail
          refine (frac_calls wg).mono ?_
          rintro e wk ⟨rfl, iK, hBk⟩
          obtain ⟨bK, hbK⟩ : ∃ b, b = wg.heap.size := ⟨_, rfl⟩
          rw [← hbK] at iK ⊢
          have IK := Aside0.mk iK
          have IHk := Aside0.mk (IH.out.below hBk)
          have BK := Aside0.mk (below_step BG.out hBk)
          have BA0 := Aside0.mk (show Below w.heap.size w wk from HB.out.trans (BK.out.mono HB.out.size))
          have NK := Aside0.mk (show bK ≠ bH by have := IH.out.lt; omega)
          clear iK hBk hbK
          go_wp2_with fail
          go_loopw [8] (fun v w' => ∃ j : Nat, 64 * j ≤ msg.length ∧ v = .int .i64 ((64 * j : Nat) : Int) ∧ Aside0 (Into wk w' bH .u32 (hS msg j))) (fun v _ => msg.length + 64 - (intOf v).toNat)
          case atStart => exact ⟨0, by omega, rfl, ⟨Into.refl IHk.out⟩⟩
          case round =>
            obtain ⟨j, hj, rfl, HT⟩ := hrel
            by_cases hlt : 64 * j < msg.length
            · have h64 : 64 * j + 64 ≤ msg.length := by have := HMM.out.2.1; omega
              obtain ⟨q, hq⟩ : ∃ q, q = 64 * j := ⟨_, rfl⟩
              obtain ⟨r, hr⟩ : ∃ r, r = q + 64 := ⟨_, rfl⟩
              have hm9 : msg.length ≤ 200000000 := by have h1 := HMM.out.2.2; have h2 := HNN.out; have h3 := HL.out; have h4 := HD.out.2; omega
              have bj := Into.belowB BK.out HT.out (by rw [HBH.out]; exact Nat.le_refl _) BK.out.size
              have hcq : cm ≠ q := by have := CM.out.2; omega
              have cb : (Kd.int .u8).C wr (Option.map (fun x => x.add q) Am) 64 (blk msg j) := by
                have h0 := Kd.C_mid (c := cm) (lo := q) (hi := r) (Kd.C_below CM.out.1 bj) (by omega) (by omega) CM.out.2
                rw [if_neg hcq, show (msg.take r).drop q = blk msg j by rw [hr, hq]; rfl, len_blk msg j h64, show q * (Kd.int .u8).sz = q from Nat.mul_one q] at h0
                exact h0
              have ih := HT.out.is IHk.out
              have iK := HT.out.other NK.out IK.out
              have RC := Aside0.mk (round_calls bH (hS msg j) (Option.map (fun x => x.add q) Am) (cm - q) (blk msg j) (some ⟨bK, 0, none⟩) 64 frac wr ih (len_hS msg j) cb (len_blk msg j h64) (by have := CM.out.2; omega) (C_of_is iK 64 rfl (by decide)) rfl (Nat.le_refl _))
              have hq2 : (q : Int) < (msg.length : Int) := by omega
              have hq3 : decide (q < msg.length) = true := decide_eq_true (by omega)
              have hw : wrap64 ((q : Int) + 64) = (r : Int) := wrapq q r hr (by omega)
              have hrc : r ≤ cm := by have := CM.out.2; omega
              have hrd : decide (r ≤ cm) = true := decide_eq_true hrc
              have hqr : q ≤ r := by omega
              have hqr2 : decide (q ≤ r) = true := decide_eq_true hqr
              have HRR := Aside0.mk hr
              have HQ := Aside0.mk (And.intro hq (And.intro h64 hlt))
              rw [← hq]
              have hcq2 : ¬ cm = q := hcq
              have hrq : r - q = 64 := by omega
              have hmm : min r q = q := by omega
              clear hr hq h64 hlt cb ih iK bj hm9
              go_wp2_with fail
              refine RC.out.mono ?_
              rintro e w3 ⟨rfl, hto⟩
              have HT3 := Aside0.mk (show Into wk w3 bH .u32 (hS msg (j + 1)) from HT.out.trans hto)
              clear hto
              go_wp2_with fail
              rw [hw]
              clear hw hq2 hq3 hrc hrd hqr hqr2
              exact ⟨⟨j + 1, (sum_step HRR.out HQ.out).1, congrArg (Value.int .i64) (sum_step HRR.out HQ.out).2.1, HT3⟩, (sum_step HRR.out HQ.out).2.2⟩
            · have hje : msg.length = 64 * j := by omega
              have hq2 : ¬ ((64 * j : Nat) : Int) < (msg.length : Int) := by omega
              have ih := HT.out.is IHk.out
              obtain ⟨x, hx⟩ : ∃ x, x = hS msg j := ⟨_, rfl⟩
              rw [← hx] at ih HT
              have Lx := Aside0.mk (show x.length = 8 by rw [hx, len_hS])
              have HX := Aside0.mk (And.intro hx hje)
              have IX := Aside0.mk ih
              have HI8 := Aside0.mk (show (Try.prog.info? 64).map (·.size) = some x.length by rw [Lx.out]; exact info_a8)
              have BA1 := Aside0.mk (show Below w.heap.size w wr from HT.out.belowB BA0.out (by rw [HBH.out]; exact HB.out.size) BA0.out.size)
              obtain ⟨w5, rfl⟩ : ∃ w5 : World, w5 = wr := ⟨_, rfl⟩
              obtain ⟨bO, hbO⟩ : ∃ u, u = w5.heap.size := ⟨_, rfl⟩
              have HBO := Aside0.mk hbO
              clear ih hx hje hbO HT
              go_wp2_with (first | (at_make; refine make_cap bO rfl _ _ 22 5 .u8 1 rfl Try.underlying22 Pol.info_u8 32 rfl rfl (by decide) (by decide) (by decide) (Nat.le_of_eq HBO.out) ?_; intro v6 w6 hR6 hB6; have R6 := Aside0.mk hR6; have Z6 := Aside0.mk (show bO ≤ w6.heap.size by have := hB6.size; have := HBO.out; omega); have I6 := Aside0.mk (IX.out.below hB6); have B6 := Aside0.mk (show Below bO w5 w6 by rw [HBO.out]; exact hB6); clear hR6 hB6) | (with_reducible refine loadL_is (b := bH) (e := 64) (k := .u32) (xs := x) 64 63 8 (.tmp 6) rfl rfl rfl I6.out Try.underlying64 HI8.out ?_))
              go_loopw [9, 57] (fun u v w' => ∃ i : Nat, i ≤ 8 ∧ v = .int .i64 i ∧ Aside0 ((Kd.int .u8).R 5 w' bO (fun _ => True) u (outN x i)) ∧ Aside0 (Below bO w6 w')) (fun _ v _ => 8 - (intOf v).toNat)
              case atStart => exact ⟨0, by omega, rfl, R6, ⟨Below.refl _ _⟩⟩
              case round =>
                obtain ⟨i, hi, rfl, HR, HB⟩ := hrel
                by_cases h8 : i < 8
                · have q8 : (i : Int) < 8 := by omega
                  have LO := Aside0.mk (show ((outN x i).length + 4) * 1 ≤ 140737488355328 by rw [len_outN]; omega)
                  have H8 := Aside0.mk h8
                  clear h8
                  go_wp2_with (first | ((with_reducible refine gate_dst (N := 59) rfl ?_); refine Kd.event_run (w1 := wr) rfl (index_ev (.tmp 56) (.tmp 57) rfl x Lx.out i H8.out wr rfl rfl) ?_) | ((with_reducible refine gate_builtin (b := .append) (xs := #[.tmp 60, .tmp 72]) rfl ?_); at_builtin; refine lit_append bO rfl (.tmp 60) (.tmp 72) 22 5 .u8 1 rfl Try.underlying22 Pol.info_u8 Nat.one_pos _ (outN x i) [rd x i / 16777216 % 256, rd x i / 65536 % 256, rd x i / 256 % 256, rd x i % 256] 4 ?q1 rfl ?q3 ?q4 ?q5 ?q6 ?_; (case q1 => rfl); (case q3 => rfl); (case q4 => exact HR.out); (case q5 => exact Nat.le_trans Z6.out HB.out.size); (case q6 => exact LO.out); intro v7 w7 hR1 hB1; have R7 := Aside0.mk hR1; have B7 := Aside0.mk (HB.out.trans hB1); clear hR1 hB1))
                  refine ⟨⟨i + 1, H8.out, congrArg (Value.int .i64) rfl, ⟨R7.out⟩, B7⟩, ?_⟩
                  exact meas8 i H8.out
                · obtain rfl : i = 8 := by omega
                  go_wp2
                  go_ret
                  refine ⟨_, rfl, ?_, ?_⟩
                  · have e1 : x = hS (msgF b) ((msgF b).length / 64) := by
                      have h1 : msg = msgF b := by rw [HMM.out.1, HM0.out, HU.out, HD.out.1]; rfl
                      rw [HX.out.1, ← h1, HX.out.2, Nat.mul_div_cancel_left _ (by decide)]
                    rw [shaF, ← e1]
                    exact Kd.R_lower HR.out (by rw [HBO.out]; exact BA1.out.size)
                  · exact BA1.out.trans ((B6.out.trans HB.out).mono (by rw [HBO.out]; exact BA1.out.size))
end Go.Proofs.Ythahhjkokdillaa.Sha
