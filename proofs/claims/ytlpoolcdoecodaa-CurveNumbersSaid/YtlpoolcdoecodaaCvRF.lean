/-
  The reference's write, walked.
-/
import Derived.Test.YtlpoolcdoecodaaCvRE
import Derived.Test.YtlpoolcdoecodaaCvH
namespace Go.Proofs.Ytlpoolcdoecodaa.Cv
open Go.RowKit Go.Proofs.YtlpoolcdoecodaaW.PrintWords Go.Proofs.YtlpoolcdoecodaaW.PrintLast Go.Proofs.YtlpoolcdoecodaaW.PrintMore Go.Proofs.Ytlpoolcdoecodaa.Arr
set_option linter.unusedVariables false
set_option maxHeartbeats 8000000
set_option maxRecDepth 100000
theorem lesB_01 (f : List Int) : lesB f = 0 ∨ lesB f = 1 := by unfold lesB; omega
theorem lesM_eq (f : List Int) (hf : Dg f) (h : lesB f = 0) : lesM f = lesS f 15 := by
  obtain ⟨_, h2, _, _⟩ := lesS_facts f hf 15 (Nat.le_refl _)
  have hb : (lesS f 15).getD 15 0 / 65536 % 2 = 0 := h
  unfold lesM
  rw [show (lesS f 15).getD 15 0 % 65536 = (lesS f 15).getD 15 0 by omega]
  apply List.ext_getElem?
  intro j
  rw [List.getElem?_set]
  split
  · rename_i h
    subst h
    rw [if_pos (by rw [len_lesS]; omega), List.getD_eq_getElem?_getD, List.getElem?_eq_getElem (by rw [len_lesS]; omega)]
    rfl
  · rfl
theorem rwrite_calls (f : List Int) (hf : Sm f) (w : World) :
    Calls Try.prog 22 #[ag f] w fun e w' => ∃ v, e = .returned v ∧ (Kd.int .u8).R 5 w' w.heap.size (fun _ => True) v (packF f) ∧ Below w.heap.size w w' := by
  obtain ⟨d1, v1⟩ := car_dg f hf
  obtain ⟨y, hy⟩ : ∃ y, y = car f := ⟨_, rfl⟩
  rw [← hy] at d1
  have DY := Aside0.mk d1
  have EY := Aside0.mk hy
  have CY := Aside0.mk (show car y = y from car_id y d1)
  have HF := Aside0.mk hf
  clear hf d1 v1 hy
  go_enter Try.func22, Try.ntmps22
  go_upto_region 1 with (fail)
  change Code.wp _ _ _ _ (w.alloc (.cells (nums .i64 f).toArray 40))
  have i1 : Is (w.alloc (.cells (nums .i64 f).toArray 40)) w.heap.size 40 .i64 f := new_is w 40 .i64 f
  have b1 : Below w.heap.size w (w.alloc (.cells (nums .i64 f).toArray 40)) := (Below.refl _ _).alloc (Nat.le_refl _) _
  generalize w.alloc (.cells (nums .i64 f).toArray 40) = w0 at i1 b1 ⊢
  obtain ⟨g0, hg0⟩ : ∃ g, g = w.heap.size := ⟨_, rfl⟩
  try rw [← hg0] at i1 ⊢
  have I0 := Aside0.mk i1
  have B0 := Aside0.mk b1
  have HI := Aside0.mk (show (Try.prog.info? 40).map (·.size) = some f.length by rw [HF.out.len]; exact info_n)
  have HLf := Aside0.mk (show z16.length = f.length by rw [HF.out.len]; rfl)
  have N5 := Aside0.mk (show Is (w0.alloc (.cells #[.int .i64 0, .int .i64 0, .int .i64 0, .int .i64 0, .int .i64 0, .int .i64 0, .int .i64 0, .int .i64 0, .int .i64 0, .int .i64 0, .int .i64 0, .int .i64 0, .int .i64 0, .int .i64 0, .int .i64 0, .int .i64 0] 40)) w0.heap.size 40 .i64 z16 from new_is w0 40 .i64 z16)
  have A5 := Aside0.mk (show Below w0.heap.size w0 (w0.alloc (.cells #[.int .i64 0, .int .i64 0, .int .i64 0, .int .i64 0, .int .i64 0, .int .i64 0, .int .i64 0, .int .i64 0, .int .i64 0, .int .i64 0, .int .i64 0, .int .i64 0, .int .i64 0, .int .i64 0, .int .i64 0, .int .i64 0] 40)) from (Below.refl _ _).alloc (Nat.le_refl _) _)
  clear i1 b1 hg0
  go_upto_region 2 with (first | (with_reducible refine loadL_is (b := g0) (e := 40) (k := .i64) (xs := f) 40 2 16 (.tmp 1) rfl rfl rfl I0.out Try.underlying40 HI.out ?_) | (with_reducible refine storeL_is (b := w0.heap.size) (e := 40) (k := .i64) (xs := z16) 40 (.tmp 3) (.tmp 10) rfl rfl rfl f rfl rfl N5.out HLf.out HI.out ?_))
  change Code.wp _ _ _ _ (put (w0.alloc (.cells (nums .i64 z16).toArray 40)) w0.heap.size .i64 f)
  have i5 : Is (put (w0.alloc (.cells (nums .i64 z16).toArray 40)) w0.heap.size .i64 f) w0.heap.size 40 .i64 f := put_heap (ys := f) N5.out
  have b5 : Below w0.heap.size w0 (put (w0.alloc (.cells (nums .i64 z16).toArray 40)) w0.heap.size .i64 f) := below_put (k := .i64) (ys := f) A5.out (Nat.le_refl _)
  generalize put (w0.alloc (.cells (nums .i64 z16).toArray 40)) w0.heap.size .i64 f = w1 at i5 b5 ⊢
  obtain ⟨g1, hg1⟩ : ∃ g, g = w0.heap.size := ⟨_, rfl⟩
  rw [← hg1] at i5 ⊢
  have I1 := Aside0.mk i5
  have B1 := Aside0.mk (below_step B0.out b5)
  have NG := Aside0.mk (show w.heap.size ≤ g1 by rw [hg1]; exact B0.out.size)
  clear i5 b5 hg1 N5 A5 I0 B0 HI HLf
  go_wp2_with fail
  refine (rcarry_calls g1 f w1 I1.out HF.out.len (fun j => by have := bd_sm HF.out j; omega)).mono ?_
  rintro e w2 ⟨rfl, h2⟩
  have i2 := h2.is I1.out
  rw [← EY.out] at i2
  have I2 := Aside0.mk i2
  have B2 := Aside0.mk (To.below B1.out h2 NG.out)
  clear h2 i2 I1 B1
  go_wp2_with fail
  refine (rcarry_calls g1 y w2 I2.out DY.out.len (bd_dg DY.out)).mono ?_
  rintro e w3 ⟨rfl, h3⟩
  have i3 := h3.is I2.out
  rw [CY.out] at i3
  have I3 := Aside0.mk i3
  have B3 := Aside0.mk (To.below B2.out h3 NG.out)
  clear h3 i3 I2 B2
  go_wp2_with fail
  refine (rcarry_calls g1 y w3 I3.out DY.out.len (bd_dg DY.out)).mono ?_
  rintro e w4 ⟨rfl, h4⟩
  have i4 := h4.is I3.out
  rw [CY.out] at i4
  have I4 := Aside0.mk i4
  have B4 := Aside0.mk (To.below B3.out h4 NG.out)
  clear h4 i4 I3 B3
  go_wp2_with fail
  go_loopw [4] (fun v w' => ∃ n : Nat, n ≤ 2 ∧ v = .int .i64 (n : Int) ∧ Aside0 (Is w' g1 40 .i64 (redS y n)) ∧ Aside0 (Below w.heap.size w w')) (fun v _ => 2 - (intOf v).toNat)
  case atStart => exact ⟨0, by omega, rfl, I4, B4⟩
  case round =>
    obtain ⟨n, hn, rfl, HI, HB⟩ := hrel
    obtain ⟨c, hc⟩ : ∃ c, c = redS y n := ⟨_, rfl⟩
    rw [← hc] at HI
    have QC := Aside0.mk hc
    have HC := Aside0.mk (show Dg c by rw [hc]; exact dg_redS DY.out n)
    by_cases h2 : n < 2
    · have n0 : (n : Int) < 2 := by omega
      have N2 := Aside0.mk h2
      have LF := Aside0.mk (fun q hq => lesS_facts c HC.out q hq)
      have DF := Aside0.mk HC.out.all
      clear hc hn h2
      have h5 : Is (wr.alloc (.cells (nums .i64 z16).toArray 40)) wr.heap.size 40 .i64 z16 := new_is wr 40 .i64 z16
      have b5 : Below wr.heap.size wr (wr.alloc (.cells (nums .i64 z16).toArray 40)) := (Below.refl _ _).alloc (Nat.le_refl _) _
      go_upto_region 9 with (fail)
      change Code.wp _ _ _ _ (wr.alloc (.cells (nums .i64 z16).toArray 40))
      generalize wr.alloc (.cells (nums .i64 z16).toArray 40) = w5 at h5 b5 ⊢
      obtain ⟨g5, hg5⟩ : ∃ g, g = wr.heap.size := ⟨_, rfl⟩
      rw [← hg5] at h5 ⊢
      have K1 := Aside0.mk (HI.out.below b5)
      have K5 := Aside0.mk h5
      have B5 := Aside0.mk (below_step HB.out b5)
      have NH := Aside0.mk (show g1 ≠ g5 ∧ w.heap.size ≤ g5 by have h1 := HI.out.lt; have h3 := HB.out.size; omega)
      clear h5 b5 hg5
      have c0 := K1.out.cell 0 (by rw [HC.out.len]; decide)
      have d0 := K5.out.cell 0 (by decide)
      have f0 := K5.out.free 0
      rw [show ((0 : Nat) : Int) = 0 from rfl] at c0 d0
      have b0 := DF.out 0
      rw [← rd_nat, show ((0 : Nat) : Int) = 0 from rfl] at b0
      have k0 : wrap64 (rd c 0 - 65517) = rd c 0 - 65517 := wrap_id (by omega) (by omega)
      clear b0
      go_upto_region 10 with (fail)
      try rw [k0]
      rw [put_set K5.out]
      have e0 : lesS c 0 = z16.set 0 (rd c 0 - 65517) := rfl
      rw [← e0]
      change Code.wp _ _ _ _ (put w5 g5 .i64 (lesS c 0))
      have T0 := Aside0.mk ((To.refl K5.out).put_d0 (zs := lesS c 0))
      have S1 := Aside0.mk (T0.out.other NH.out.1 K1.out)
      have S5 := Aside0.mk (T0.out.is K5.out)
      have BS := Aside0.mk (To.below B5.out T0.out NH.out.2)
      generalize put w5 g5 .i64 (lesS c 0) = w4 at S1 S5 BS ⊢
      clear c0 d0 f0 k0 e0 T0 K1 K5 B5 HI HB
      go_wp2_with fail
      go_loopw [6] (fun v w' => ∃ i q : Nat, i = q + 1 ∧ q ≤ 14 ∧ v = .int .i64 (i : Int) ∧ Aside0 (To w4 w' g5 .i64 (lesS c q))) (fun v _ => 15 - (intOf v).toNat)
      case atStart => exact ⟨1, 0, rfl, by omega, rfl, ⟨To.refl S5.out⟩⟩
      case round =>
        obtain ⟨i, q, hiq, hq, rfl, HT⟩ := hrel
        obtain ⟨x, hx⟩ : ∃ y_, y_ = lesS c q := ⟨_, rfl⟩
        rw [← hx] at HT
        have Lx := Aside0.mk (show x.length = 16 by rw [hx, len_lesS])
        have Q0 := Aside0.mk hx
        have hb := (LF.out q (by omega)).2.1
        rw [← hx, ← rd_nat] at hb
        by_cases h15 : i < 15
        · have i0 : (i : Int) < 15 := by omega
          have i16 : (i : Int) < 16 := by omega
          have hd := DF.out i
          rw [← rd_nat] at hd
          have q1 : wrap64 ((i : Int) - 1) = (q : Int) := by rw [wrap_id (by omega) (by omega)]; omega
          have q2 : IntKind.i64.wrap ((i : Int) - 1) = (q : Int) := by rw [i64_w, q1]
          have q3 : (q : Int) < 16 := by omega
          have ix := HT.out.is S5.out
          have cf := (HT.out.other NH.out.1 S1.out).cell i (by rw [HC.out.len]; omega)
          have cq := ix.cell q (by rw [Lx.out]; omega)
          have ci := ix.cell i (by rw [Lx.out]; omega)
          have fi := ix.free i
          have fq := ix.free q
          have m1 : wrap64 (rd c (i : Int) - 65535) = rd c (i : Int) - 65535 := wrap_id (by omega) (by omega)
          have m2 : wrap64 (rd c (i : Int) - 65535 - rd x (q : Int) / 65536 % 2) = rd c (i : Int) - 65535 - rd x (q : Int) / 65536 % 2 := wrap_id (by omega) (by omega)
          have M1 := Aside0.mk (mask1 (rd x (q : Int) / 65536))
          have M16 := Aside0.mk (mask16 (rd x (q : Int)))
          have E3 := Aside0.mk (show lesS c (q + 1) = (x.set i (rd c (i : Int) - 65535 - rd x (q : Int) / 65536 % 2)).set q (rd x (q : Int) % 65536) by rw [lesS, ← Q0.out, rd_nat, rd_nat, pF_mid (q + 1) (by omega) (by omega), hiq])
          have IQ := Aside0.mk (show i = q + 1 ∧ q ≤ 14 ∧ i < 15 from ⟨hiq, hq, h15⟩)
          have NQ := Aside0.mk (show i ≠ q by omega)
          clear hb hd hx hiq hq h15
          go_wp2
          go_still_tail 13, (by kernel_rfl)
          change wpList _ _ _ _ _ wr.drew
          go_upto_region 14 with (fail)
          try rw [m1]
          rw [M1.out]
          try rw [m2]
          rw [put_set ix]
          change Code.wp _ _ _ _ (put wr g5 .i64 (x.set i (rd c (i : Int) - 65535 - rd x (q : Int) / 65536 % 2))).drew
          have t1 := HT.out.put_dr (zs := x.set i (rd c (i : Int) - 65535 - rd x (q : Int) / 65536 % 2))
          generalize (put wr g5 .i64 (x.set i (rd c (i : Int) - 65535 - rd x (q : Int) / 65536 % 2))).drew = w5 at t1 ⊢
          have i5 := t1.is S5.out
          have c5 := i5.cell q (by rw [List.length_set, Lx.out]; have := IQ.out.2; omega)
          rw [rd_set_ne _ _ _ _ (by rw [Lx.out]; have := IQ.out; omega) NQ.out] at c5
          have f5 := i5.free q
          have T1 := Aside0.mk t1
          clear t1 ix cf cq ci fi fq m1 m2
          go_wp2_with fail
          rw [M16.out, put_set i5, ← E3.out]
          have t3 := T1.out.put_d0 (zs := lesS c (q + 1))
          exact ⟨⟨i + 1, q + 1, by have := IQ.out; omega, by have := IQ.out; omega, rfl, ⟨t3⟩⟩, by have := IQ.out; simp only [intOf]; omega⟩
        · obtain rfl : i = 15 := by omega
          obtain rfl : q = 14 := by omega
          rw [show ((15 : Nat) : Int) = 15 from rfl]
          have hd := DF.out 15
          rw [← rd_nat] at hd
          rw [show ((15 : Nat) : Int) = 15 from rfl] at hd
          rw [show ((14 : Nat) : Int) = 14 from rfl] at hb
          have ix := HT.out.is S5.out
          have j1 := HT.out.other NH.out.1 S1.out
          have cf := j1.cell 15 (by rw [HC.out.len]; omega)
          have cq := ix.cell 14 (by rw [Lx.out]; omega)
          have ci := ix.cell 15 (by rw [Lx.out]; omega)
          have fi := ix.free 15
          rw [show ((15 : Nat) : Int) = 15 from rfl] at cf ci
          rw [show ((14 : Nat) : Int) = 14 from rfl] at cq
          have m1 : wrap64 (rd c 15 - 32767) = rd c 15 - 32767 := wrap_id (by omega) (by omega)
          have m2 : wrap64 (rd c 15 - 32767 - rd x 14 / 65536 % 2) = rd c 15 - 32767 - rd x 14 / 65536 % 2 := wrap_id (by omega) (by omega)
          have M1 := Aside0.mk (mask1 (rd x 14 / 65536))
          have M16 := Aside0.mk (mask16 (rd x 14))
          obtain ⟨v15, hv15⟩ : ∃ v, v = rd c 15 - 32767 - rd x 14 / 65536 % 2 := ⟨_, rfl⟩
          have E15 := Aside0.mk (show lesS c 15 = (x.set 15 v15).set 14 (rd x 14 % 65536) by
            have r1 : rd c 15 = c.getD 15 0 := rfl
            have r2 : rd x 14 = x.getD 14 0 := rfl
            rw [hv15, r1, r2, show lesS c 15 = lesS c (14 + 1) from rfl, lesS, ← hx, show pF.getD (14 + 1) 0 = 32767 from rfl])
          have EB := Aside0.mk (show v15 / 65536 % 2 = lesB c by
            unfold lesB
            rw [E15.out, getD_set _ _ _ _ (by rw [List.length_set, Lx.out]; decide), if_neg (by decide), getD_set _ _ _ _ (by rw [Lx.out]; decide), if_pos rfl])
          have HX1 := Aside0.mk j1
          have HXB := Aside0.mk (To.below BS.out HT.out NH.out.2)
          have VV := Aside0.mk hv15
          clear hb hd hx hiq hq h15 j1
          go_upto_region 16 with (fail)
          try rw [m1]
          rw [M1.out]
          try rw [m2]
          rw [← VV.out, put_set ix]
          change Code.wp _ _ _ _ (put wr g5 .i64 (x.set 15 v15))
          have t1 := HT.out.put_d0 (zs := x.set 15 v15)
          have L1 := Aside0.mk (show Is (put wr g5 .i64 (x.set 15 v15)) g1 40 .i64 c from (put_other g1 NH.out.1).trans HX1.out)
          have BL := Aside0.mk (below_put (k := .i64) (ys := x.set 15 v15) HXB.out NH.out.2)
          generalize put wr g5 .i64 (x.set 15 v15) = w6 at t1 L1 BL ⊢
          have T6 := Aside0.mk (t1.is S5.out)
          clear t1 ix cf cq ci fi m1 m2 hv15 HX1 HXB HT
          have c15 := T6.out.cell 15 (by rw [List.length_set, Lx.out]; decide)
          rw [rd_set_eq x 15 v15 (by rw [Lx.out]; decide)] at c15
          have c14 := T6.out.cell 14 (by rw [List.length_set, Lx.out]; decide)
          rw [rd_set_ne x 15 14 v15 (by rw [Lx.out]; decide) (by decide), show ((14 : Nat) : Int) = 14 from rfl] at c14
          have f14 := T6.out.free 14
          have MB := Aside0.mk (mask1 (v15 / 65536))
          go_upto_region 18 with (fail)
          rw [MB.out, EB.out, M16.out, put_set T6.out, ← E15.out]
          change Code.wp _ _ _ _ (put w6 g5 .i64 (lesS c 15))
          have L5 := Aside0.mk (put_heap (ys := lesS c 15) T6.out)
          have L1b := Aside0.mk (show Is (put w6 g5 .i64 (lesS c 15)) g1 40 .i64 c from (put_other g1 NH.out.1).trans L1.out)
          have BM := Aside0.mk (below_put (k := .i64) (ys := lesS c 15) BL.out NH.out.2)
          generalize put w6 g5 .i64 (lesS c 15) = w7 at L5 L1b BM ⊢
          clear c15 c14 f14 T6 L1 BL
          obtain ⟨bb, hbb⟩ : ∃ b, b = lesB c := ⟨_, rfl⟩
          have HBB := Aside0.mk hbb
          rw [← hbb]
          have B01 := Aside0.mk (show bb = 0 ∨ bb = 1 by rw [hbb]; exact lesB_01 c)
          have kb : wrap64 (1 - bb) = 1 - bb := by have := B01.out; exact wrap_id (by omega) (by omega)
          obtain ⟨mm, hmm⟩ : ∃ m, m = lesS c 15 := ⟨_, rfl⟩
          rw [← hmm] at L5
          have LM := Aside0.mk (show mm.length = 16 by rw [hmm, len_lesS])
          have HMM := Aside0.mk hmm
          have HIc := Aside0.mk (show (Try.prog.info? 40).map (·.size) = some c.length by rw [HC.out.len]; exact info_n)
          have HIm := Aside0.mk (show (Try.prog.info? 40).map (·.size) = some mm.length by rw [LM.out]; exact info_n)
          clear hbb hmm
          go_wp2_with (first | (with_reducible refine loadL_is (b := g1) (e := 40) (k := .i64) (xs := c) 40 2 16 (.tmp 3) rfl rfl rfl L1b.out Try.underlying40 HIc.out ?_) | (with_reducible refine loadL_is (b := g5) (e := 40) (k := .i64) (xs := mm) 40 2 16 (.tmp 5) rfl rfl rfl L5.out Try.underlying40 HIm.out ?_))
          try rw [kb]
          refine (rswap_calls c mm (1 - bb) HC.out.len LM.out w7).mono ?_
          rintro e w8 ⟨rfl, h8⟩
          obtain ⟨tt, htt⟩ : ∃ t, t = if (1 - bb) = 1 then mm else c := ⟨_, rfl⟩
          obtain ⟨uu, huu⟩ : ∃ t, t = if (1 - bb) = 1 then c else mm := ⟨_, rfl⟩
          rw [← htt, ← huu]
          have HR := Aside0.mk (show redS y (n + 1) = tt by
            rw [redS, ← QC.out, htt, redF, ← HBB.out]
            rcases B01.out with h | h
            · rw [h, if_neg (by decide), if_pos (by decide), lesM_eq c HC.out (by rw [← HBB.out, h]), HMM.out]
            · rw [h, if_pos rfl, if_neg (by decide)])
          have TU := Aside0.mk (show tt.length = 16 ∧ uu.length = 16 by rw [htt, huu]; constructor <;> (split <;> first | exact LM.out | exact HC.out.len))
          have P1 := Aside0.mk (L1b.out.below h8)
          have P5 := Aside0.mk (L5.out.below h8)
          have BP := Aside0.mk (below_step BM.out h8)
          have HIt := Aside0.mk (show (Try.prog.info? 40).map (·.size) = some tt.length by rw [TU.out.1]; exact info_n)
          have HIu := Aside0.mk (show (Try.prog.info? 40).map (·.size) = some uu.length by rw [TU.out.2]; exact info_n)
          have HLt := Aside0.mk (show c.length = tt.length by rw [TU.out.1, HC.out.len])
          have HLu := Aside0.mk (show mm.length = uu.length by rw [TU.out.2, LM.out])
          have P5b := Aside0.mk (show Is (put w8 g1 .i64 tt) g5 40 .i64 mm from (put_other g5 (Ne.symm NH.out.1)).trans P5.out)
          clear h8 htt huu kb
          go_wp2_with (first | (with_reducible refine storeL_is (b := g1) (e := 40) (k := .i64) (xs := c) 40 (.tmp 3) (.tmp 70) rfl rfl rfl tt rfl rfl P1.out HLt.out HIt.out ?_) | (with_reducible refine storeL_is (b := g5) (e := 40) (k := .i64) (xs := mm) 40 (.tmp 5) (.tmp 71) rfl rfl rfl uu rfl rfl P5b.out HLu.out HIu.out ?_))
          refine ⟨⟨n + 1, N2.out, rfl, ⟨by rw [HR.out]; exact (put_other g1 NH.out.1).trans (put_heap P1.out)⟩, ⟨below_put (below_put BP.out NG.out) NH.out.2⟩⟩, by have := N2.out; simp only [intOf]; omega⟩
    · obtain rfl : n = 2 := by omega
      rw [show ((2 : Nat) : Int) = 2 from rfl]
      obtain ⟨l, hl⟩ : ∃ l : List Int, l = c := ⟨_, rfl⟩
      rw [← hl] at HI
      have LL := Aside0.mk (show l.length = 16 by rw [hl]; exact HC.out.len)
      have LP := Aside0.mk (show bytesL l = packF f by rw [hl, QC.out, packF, ← EY.out, CY.out, CY.out]; rfl)
      have IX := Aside0.mk HI.out
      have HB0 := Aside0.mk HB.out
      obtain ⟨w5, rfl⟩ : ∃ w5 : World, w5 = wr := ⟨_, rfl⟩
      clear hl hc h2 hn QC HC c HI
      go_wp2_with fail
      obtain ⟨bO, hbO⟩ : ∃ u, u = w5.heap.size := ⟨_, rfl⟩
      have HBO := Aside0.mk hbO
      clear hbO
      go_loopw [8, 9] (fun u v w' => ∃ i : Nat, i ≤ 16 ∧ v = .int .i64 (i : Int) ∧ Aside0 ((Kd.int .u8).R 5 w' bO (fun _ => True) u (outS l i)) ∧ Aside0 (Below bO w5 w')) (fun _ v _ => 16 - (intOf v).toNat)
      case atStart => exact ⟨0, by omega, rfl, ⟨Kd.R_nil _ _ _ _ _⟩, ⟨Below.refl _ _⟩⟩
      case round =>
        obtain ⟨i, hi, rfl, HR, HB⟩ := hrel
        obtain ⟨Av2, cv2, rfl, _, _⟩ := Kd.R_reads HR.out
        obtain ⟨n22, hn22⟩ : ∃ n, n = (outS l i).length := ⟨_, rfl⟩
        rw [← hn22] at HR ⊢
        have HN22 := Aside0.mk hn22
        clear hn22
        by_cases h8 : i < 16
        · have q8 : (i : Int) < 16 := by omega
          have H8 := Aside0.mk h8
          have HBZ := Aside0.mk (show bO ≤ wr.heap.size by have := HB.out.size; have := HBO.out; omega)
          have IXr := Aside0.mk (IX.out.below (show Below w5.heap.size w5 wr by rw [← HBO.out]; exact HB.out))
          have Q0 := Aside0.mk (fun (w' : World) (h : Below wr.heap.size wr w') => (IXr.out.below h).cell i (by rw [LL.out]; exact H8.out))
          clear h8
          go_upto_region 23 with (fail)
          change Code.wp _ _ _ _ wr
          refine start_ (n := 13) (S := fun w' => Below wr.heap.size wr w') (ds := [11]) #[false, false, false, false, false, false, false, false, false, false, false, false, false] (by kernel_rfl) rfl rfl (below_drew1 (Below.refl _ _)) (fun hHeld => ?_)
          refine pure_ (i := 0) (N := some 76) (v := ?_) (a' := ?_) #[true, false, false, false, false, false, false, false, false, false, false, false, false] rfl rfl (by kernel_rfl) (fun _ _ _ h => h) (Or.inl ⟨by rfl, ?_⟩) ?_ ?_
          rotate_left
          · intro w'
            go_simp
            with_reducible rfl
          rotate_left
          · simp only [Act.put, List.setIfInBounds_toArray, List.set_cons_zero, List.set_cons_succ]
            rfl
          refine pure_ (i := 1) (N := some 77) (v := ?_) (a' := ?_) #[true, true, false, false, false, false, false, false, false, false, false, false, false] rfl rfl (by kernel_rfl) (fun _ _ _ h => h) (Or.inl ⟨by rfl, ?_⟩) ?_ ?_
          rotate_left
          · intro w'
            go_simp
            with_reducible rfl
          rotate_left
          · simp only [Act.put, List.setIfInBounds_toArray, List.set_cons_zero, List.set_cons_succ]
            rfl
          refine pure_ (i := 2) (N := some 78) (v := ?_) (a' := ?_) #[true, true, true, false, false, false, false, false, false, false, false, false, false] rfl rfl (by kernel_rfl) (fun _ _ _ h => h) (Or.inl ⟨by rfl, ?_⟩) ?_ ?_
          rotate_left
          · intro w'
            go_simp
            with_reducible rfl
          rotate_left
          · simp only [Act.put, List.setIfInBounds_toArray, List.set_cons_zero, List.set_cons_succ]
            rfl
          refine pure_ (i := 5) (N := some 81) (v := ?_) (a' := ?_) #[true, true, true, false, false, true, false, false, false, false, false, false, false] rfl rfl (by kernel_rfl) (fun _ _ _ h => h) (Or.inl ⟨by rfl, ?_⟩) ?_ ?_
          rotate_left
          · intro w'
            go_simp
            with_reducible rfl
          rotate_left
          · simp only [Act.put, List.setIfInBounds_toArray, List.set_cons_zero, List.set_cons_succ]
            rfl
          refine pure_ (i := 6) (N := some 82) (v := ?_) (a' := ?_) #[true, true, true, false, false, true, true, false, false, false, false, false, false] rfl rfl (by kernel_rfl) (fun _ _ _ h => h) (Or.inl ⟨by rfl, ?_⟩) ?_ ?_
          rotate_left
          · intro w'
            go_simp
            with_reducible rfl
          rotate_left
          · simp only [Act.put, List.setIfInBounds_toArray, List.set_cons_zero, List.set_cons_succ]
            rfl
          refine take_ (i := 3) (N := some 79) (v := ?_) (a' := ?_) #[true, true, true, true, false, true, true, false, false, false, false, false, false] rfl rfl (by kernel_rfl) (fun _ _ _ h => h) (Or.inl ⟨by rfl, ?_⟩) hHeld ?_ ?_
          rotate_left
          · intro w' s0
            have q0_ := Q0.out w' s0
            go_simp
            with_reducible rfl
          rotate_left
          · simp only [Act.put, List.setIfInBounds_toArray, List.set_cons_zero, List.set_cons_succ]
            rfl
          refine pure_ (i := 4) (N := some 80) (v := ?_) (a' := ?_) #[true, true, true, true, true, true, true, false, false, false, false, false, false] rfl rfl (by kernel_rfl) (fun _ _ _ h => h) (Or.inl ⟨by rfl, ?_⟩) ?_ ?_
          rotate_left
          · intro w'
            go_simp
            with_reducible rfl
          rotate_left
          · simp only [Act.put, List.setIfInBounds_toArray, List.set_cons_zero, List.set_cons_succ]
            rfl
          refine take_ (i := 7) (N := some 83) (v := ?_) (a' := ?_) #[true, true, true, true, true, true, true, true, false, false, false, false, false] rfl rfl (by kernel_rfl) (fun _ _ _ h => h) (Or.inl ⟨by rfl, ?_⟩) hHeld ?_ ?_
          rotate_left
          · intro w' s0
            have q0_ := Q0.out w' s0
            go_simp
            with_reducible rfl
          rotate_left
          · simp only [Act.put, List.setIfInBounds_toArray, List.set_cons_zero, List.set_cons_succ]
            rfl
          refine pure_ (i := 8) (N := some 84) (v := ?_) (a' := ?_) #[true, true, true, true, true, true, true, true, true, false, false, false, false] rfl rfl (by kernel_rfl) (fun _ _ _ h => h) (Or.inl ⟨by rfl, ?_⟩) ?_ ?_
          rotate_left
          · intro w'
            go_simp
            with_reducible rfl
          rotate_left
          · simp only [Act.put, List.setIfInBounds_toArray, List.set_cons_zero, List.set_cons_succ]
            rfl
          refine pure_ (i := 9) (N := some 85) (v := ?_) (a' := ?_) #[true, true, true, true, true, true, true, true, true, true, false, false, false] rfl rfl (by kernel_rfl) (fun _ _ _ h => h) (Or.inl ⟨by rfl, ?_⟩) ?_ ?_
          rotate_left
          · intro w'
            go_simp
            with_reducible rfl
          rotate_left
          · simp only [Act.put, List.setIfInBounds_toArray, List.set_cons_zero, List.set_cons_succ]
            rfl
          refine one_ (i := 10) (N := some 86) #[true, true, true, true, true, true, true, true, true, true, true, false, false] rfl rfl (by kernel_rfl) (by decide) (fun K hK => ?_)
          refine value_ (w1 := ?_) (v := ?_) (by rfl) rfl ?_ ?_
          rotate_left 2
          · go_simp
            constructor
            · rfl
            · rfl
          refine hK.out _ _ (below_alloc hHeld _) (fun hHeld => ?_)
          clear hK K
          refine norm_ (a' := ?_) ?_ ?_
          rotate_left
          · show Act.put _ (some 86) _ = _
            simp only [Act.put, List.setIfInBounds_toArray, List.set_cons_zero, List.set_cons_succ]
            rfl
          refine last_ (i := 11) (N := some 87) #[true, true, true, true, true, true, true, true, true, true, true, true, false] rfl rfl (by kernel_rfl) (by decide) (fun K hK => ?_)
          refine Kd.R_append_rows_step (Kd.int .u8) (w0 := wr) bO (by rfl) (.tmp 76) (.tmp 86) 22 5 (.int .u8 0) 1 rfl Try.underlying22 info_u8 rfl (by decide) (by omega) (.slice Av2 n22 cv2) (outS l i) [IntKind.u8.wrap (rd l (i : Int)), IntKind.u8.wrap (rd l (i : Int) / 256)] (some ⟨_, 0, none⟩) 2 2 (fun _ => True) (fun _ => False) rfl rfl ?aO ?aR (fun _ _ h => h) (fun _ h => h.elim) ?aF ?aB ?aS ?aL ?_
          (case aO => exact Kd.R_drew (Kd.R_alloc HR.out _))
          (case aR => exact Kd.C_drew (lit_C wr 5 .u8 [IntKind.u8.wrap (rd l (i : Int)), IntKind.u8.wrap (rd l (i : Int) / 256)] (0, 0) 2 rfl (by decide)))
          (case aF => exact fun _ _ => trivial)
          (case aB => exact hHeld.mono HBZ.out)
          (case aS => exact Nat.le_trans HBZ.out hHeld.size)
          (case aL => have := H8.out; have := len_outS l i; (try simp only [List.length_cons, List.length_nil]); omega)
          intro v21 w21 ho hb hg hn
          have N21 := Aside0.mk (show (Kd.int .u8).R 5 w21 bO (fun _ => True) v21 (outS l (i + 1)) by rw [outS_step l i (by rw [LL.out]; exact H8.out), ← u8w, ← u8w]; exact ho)
          have L21 := Aside0.mk hb
          clear ho hb hg hn
          refine hK.out _ _ ?_
          clear hK K
          refine norm_ (a' := ?_) ?_ ?_
          rotate_left
          · show Act.put _ (some 87) _ = _
            simp only [Act.put, List.setIfInBounds_toArray, List.set_cons_zero, List.set_cons_succ]
            rfl
          refine pure_ (i := 12) (N := some 8) (v := ?_) (a' := ?_) #[true, true, true, true, true, true, true, true, true, true, true, true, true] rfl rfl (by kernel_rfl) (fun _ _ _ h => h) (Or.inl ⟨by rfl, ?_⟩) ?_ ?_
          rotate_left
          · intro w'
            go_simp
            with_reducible rfl
          rotate_left
          · simp only [Act.put, List.setIfInBounds_toArray, List.set_cons_zero, List.set_cons_succ]
            rfl
          refine done_ (by kernel_rfl) ?_
          go_wp2_with fail
          refine ⟨⟨i + 1, H8.out, congrArg (Value.int .i64) rfl, ⟨N21.out⟩, ⟨HB.out.trans L21.out⟩⟩, meas16 i H8.out⟩
        · obtain rfl : i = 16 := by omega
          rw [show ((16 : Nat) : Int) = 16 from rfl]
          have EL := Aside0.mk (show outS l 16 = bytesL l by unfold outS; rw [List.take_of_length_le (by rw [LL.out]; exact Nat.le_refl _)])
          clear h8
          go_wp2_with fail
          go_ret
          refine ⟨_, rfl, ?_, ?_⟩
          · rw [← LP.out, ← EL.out]
            exact Kd.R_lower HR.out (by rw [HBO.out]; exact HB0.out.size)
          · exact HB0.out.trans (HB.out.mono (by rw [HBO.out]; exact HB0.out.size))
end Go.Proofs.Ytlpoolcdoecodaa.Cv
