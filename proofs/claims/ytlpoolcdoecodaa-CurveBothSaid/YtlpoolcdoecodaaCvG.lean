/-
  less, walked.
-/
import Derived.Test.YtlpoolcdoecodaaCvF
namespace Go.Proofs.Ytlpoolcdoecodaa.Cv
open Go.RowKit Go.Proofs.YtlpoolcdoecodaaW.PrintWords Go.Proofs.YtlpoolcdoecodaaW.PrintLast Go.Proofs.YtlpoolcdoecodaaW.PrintMore Go.Proofs.Ytlpoolcdoecodaa.Arr
set_option linter.unusedVariables false
set_option maxHeartbeats 8000000
set_option maxRecDepth 100000
theorem mask1 (x : Int) : Go.bits .and .i64 x 1 = x % 2 := and_mask x 1 (by decide)
theorem mask16 (x : Int) : Go.bits .and .i64 x 65535 = x % 65536 := and_mask x 16 (by decide)
/-- An array and a flag are handed back. -/
theorem results_two {P : Program} {fn : Func} {p q : Tmp} {ty n : TypeId} {m b : Nat} {e : TypeId} {xs : List Int} {v : Value} (h : fn.results = #[.cell p ty, .tmp q]) (tmps : Array Value) {W : World} (hp : tmps.getD p undef = .pointer (some ⟨b, 0, none⟩)) (hq : tmps.getD q undef = v) (hs : Is W b e .i64 xs)
    (hu : P.underlying ty = some (.array m n)) (hi : (P.info? ty).map (·.size) = some xs.length) : (results fn tmps).run P W = .ok (.tuple #[.agg (nums .i64 xs).toArray, v]) W := by
  have hp' : tmps[p]?.getD undef = .pointer (some ⟨b, 0, none⟩) := by simpa using hp
  have hq' : tmps[q]?.getD undef = v := by simpa using hq
  have hl := run_loadVar_row (P := P) W b e ty (nums .i64 xs).toArray (0, 0) (.array m n) hs hu rfl (by rw [hi]; simp [nums])
  simp [results, h, hp', hq', asAddr, hl]
theorem pF_mid (n : Nat) (h1 : 1 ≤ n) (h2 : n < 15) : pF.getD n 0 = 65535 := by
  have : n = 1 ∨ n = 2 ∨ n = 3 ∨ n = 4 ∨ n = 5 ∨ n = 6 ∨ n = 7 ∨ n = 8 ∨ n = 9 ∨ n = 10 ∨ n = 11 ∨ n = 12 ∨ n = 13 ∨ n = 14 := by omega
  rcases this with rfl | rfl | rfl | rfl | rfl | rfl | rfl | rfl | rfl | rfl | rfl | rfl | rfl | rfl <;> rfl
theorem less_calls (f : List Int) (hf : Dg f) (w : World) :
    Calls Try.prog 34 #[ag f] w fun e w' => e = .returned (.tuple #[ag (lesM f), .bool (lesB f == 1)]) ∧ Below w.heap.size w w' := by
  have HF := Aside0.mk hf
  have LF := Aside0.mk (fun n hn => lesS_facts f hf n hn)
  have DF := Aside0.mk hf.all
  clear hf
  go_enter Try.func34, Try.ntmps34
  go_upto_region 2 with (fail)
  change Code.wp _ _ _ _ (((w.alloc (.cells (nums .i64 f).toArray 48)).alloc (.cells (nums .i64 z16).toArray 48)).alloc (.cells (nums .i64 z16).toArray 48))
  obtain ⟨i1, i2, i3, b3⟩ := three w 48 48 48 f z16 z16 _ rfl
  generalize ((w.alloc (.cells (nums .i64 f).toArray 48)).alloc (.cells (nums .i64 z16).toArray 48)).alloc (.cells (nums .i64 z16).toArray 48) = w3 at i1 i2 i3 b3 ⊢
  obtain ⟨g1, hg1⟩ : ∃ g, g = w.heap.size := ⟨_, rfl⟩
  obtain ⟨g2, hg2⟩ : ∃ g, g = w.heap.size + 1 := ⟨_, rfl⟩
  obtain ⟨g3, hg3⟩ : ∃ g, g = w.heap.size + 1 + 1 := ⟨_, rfl⟩
  try rw [← hg3] at i3 ⊢
  try rw [← hg2] at i2 ⊢
  try rw [← hg1] at i1 ⊢
  have I1 := Aside0.mk i1
  have I2 := Aside0.mk i2
  have I3 := Aside0.mk i3
  have B3 := Aside0.mk b3
  have NG := Aside0.mk (show w.heap.size ≤ g2 ∧ w.heap.size ≤ g3 ∧ g1 ≠ g3 ∧ g2 ≠ g3 by omega)
  clear i1 i2 i3 b3 hg1 hg2 hg3
  have c0 := I1.out.cell 0 (by rw [HF.out.len]; decide)
  have d0 := I3.out.cell 0 (by decide)
  have f0 := I3.out.free 0
  rw [show ((0 : Nat) : Int) = 0 from rfl] at c0 d0
  have b0 := DF.out 0
  rw [← rd_nat, show ((0 : Nat) : Int) = 0 from rfl] at b0
  have k0 : wrap64 (rd f 0 - 65517) = rd f 0 - 65517 := wrap_id (by omega) (by omega)
  clear b0
  go_upto_region 3 with (fail)
  try rw [k0]
  rw [put_set I3.out]
  have e0 : lesS f 0 = z16.set 0 (rd f 0 - 65517) := rfl
  rw [← e0]
  change Code.wp _ _ _ _ (put w3 g3 .i64 (lesS f 0))
  have T0 := Aside0.mk ((To.refl I3.out).put_d0 (zs := lesS f 0))
  have S1 := Aside0.mk (T0.out.other NG.out.2.2.1 I1.out)
  have S2 := Aside0.mk (T0.out.other NG.out.2.2.2 I2.out)
  have S3 := Aside0.mk (T0.out.is I3.out)
  have BS := Aside0.mk (To.below B3.out T0.out NG.out.2.1)
  generalize put w3 g3 .i64 (lesS f 0) = w4 at S1 S2 S3 BS ⊢
  clear c0 d0 f0 k0 e0 T0 I1 I2 I3 B3
  go_wp2_with fail
  go_loopw [5] (fun v w' => ∃ i q : Nat, i = q + 1 ∧ q ≤ 15 ∧ v = .int .i64 (i : Int) ∧ Aside0 (To w4 w' g3 .i64 (lesS f q))) (fun v _ => 16 - (intOf v).toNat)
  case atStart => exact ⟨1, 0, rfl, by omega, rfl, ⟨To.refl S3.out⟩⟩
  case round =>
    obtain ⟨i, q, hiq, hq, rfl, HT⟩ := hrel
    obtain ⟨x, hx⟩ : ∃ y_, y_ = lesS f q := ⟨_, rfl⟩
    rw [← hx] at HT
    have Lx := Aside0.mk (show x.length = 16 by rw [hx, len_lesS])
    have Q0 := Aside0.mk hx
    by_cases h16 : i < 16
    · have i0 : (i : Int) < 16 := by omega
      have hb := (LF.out q (by omega)).2.1
      rw [← hx, ← rd_nat] at hb
      have hd := DF.out i
      rw [← rd_nat] at hd
      have q1 : wrap64 ((i : Int) - 1) = (q : Int) := by rw [wrap_id (by omega) (by omega)]; omega
      have q2 : IntKind.i64.wrap ((i : Int) - 1) = (q : Int) := by rw [i64_w, q1]
      have q3 : (q : Int) < 16 := by omega
      have ix := HT.out.is S3.out
      have cf := (HT.out.other NG.out.2.2.1 S1.out).cell i (by rw [HF.out.len]; omega)
      have cq := ix.cell q (by rw [Lx.out]; omega)
      have ci := ix.cell i (by rw [Lx.out]; omega)
      have fi := ix.free i
      obtain ⟨pp, hpp⟩ : ∃ pp : Int, pp = pF.getD i 0 := ⟨_, rfl⟩
      have hpb : 32767 ≤ pp ∧ pp ≤ 65535 := by rw [hpp]; exact pF_getD i (by omega) (by omega)
      have m1 : wrap64 (rd f (i : Int) - pp) = rd f (i : Int) - pp := wrap_id (by omega) (by omega)
      have m2 : wrap64 (rd f (i : Int) - pp - rd x (q : Int) / 65536 % 2) = rd f (i : Int) - pp - rd x (q : Int) / 65536 % 2 := wrap_id (by omega) (by omega)
      have M1 := Aside0.mk (mask1 (rd x (q : Int) / 65536))
      have M16 := Aside0.mk (mask16 (rd x (q : Int)))
      have E3 := Aside0.mk (show lesS f (q + 1) = (x.set i (rd f (i : Int) - pp - rd x (q : Int) / 65536 % 2)).set q (rd x (q : Int) % 65536) by rw [lesS, ← Q0.out, rd_nat, rd_nat, hpp, hiq])
      have IQ := Aside0.mk (show i = q + 1 ∧ q ≤ 15 from ⟨hiq, hq⟩)
      have NQ := Aside0.mk (show i ≠ q by omega)
      by_cases h15 : i = 15
      · obtain rfl : pp = 32767 := by rw [hpp, h15]; rfl
        subst h15
        obtain rfl : q = 14 := by omega
        clear hb hd hpb hpp hx hiq hq h16 q1 q2 q3
        rw [show ((15 : Nat) : Int) = 15 from rfl, show ((14 : Nat) : Int) = 14 from rfl] at *
        have q4 : wrap64 14 = 14 := wrap_id (by decide) (by decide)
        have q5 : IntKind.i64.wrap 14 = 14 := by rw [i64_w, q4]
        go_wp2
        go_still_tail 14, (by kernel_rfl)
        change wpList _ _ _ _ _ wr.drew
        go_upto_region 10 with (fail)
        try rw [m1]
        rw [M1.out]
        try rw [m2]
        rw [put_set ix]
        change Code.wp _ _ _ _ (put wr g3 .i64 (x.set 15 (rd f 15 - 32767 - rd x 14 / 65536 % 2))).drew
        have t1 := HT.out.put_dr (zs := x.set 15 (rd f 15 - 32767 - rd x 14 / 65536 % 2))
        generalize (put wr g3 .i64 (x.set 15 (rd f 15 - 32767 - rd x 14 / 65536 % 2))).drew = w5 at t1 ⊢
        have i5 := t1.is S3.out
        have c5 := i5.cell 14 (by rw [List.length_set, Lx.out]; have := IQ.out.2; omega)
        rw [rd_set_ne _ _ _ _ (by rw [Lx.out]; have := IQ.out; omega) NQ.out] at c5
        have f5 := i5.free 14
        have T1 := Aside0.mk t1
        clear t1 ix cf cq ci fi m1 m2
        go_wp2_with fail
        rw [M16.out, put_set i5, ← E3.out]
        have t3 := T1.out.put_d0 (zs := lesS f (14 + 1))
        exact ⟨⟨15 + 1, 14 + 1, by have := IQ.out; omega, by have := IQ.out; omega, rfl, ⟨t3⟩⟩, by have := IQ.out; simp only [intOf]; omega⟩
      · have n15 : ¬ (i : Int) = 15 := by omega
        have d15 : ((i : Int) == 15) = false := by simp; omega
        obtain rfl : pp = 65535 := by rw [hpp]; exact pF_mid i (by omega) (by omega)
        clear hb hd hpb hpp hx hiq hq h16
        go_wp2
        go_still_tail 14, (by kernel_rfl)
        change wpList _ _ _ _ _ wr.drew
        go_upto_region 10 with (fail)
        try rw [m1]
        rw [M1.out]
        try rw [m2]
        rw [put_set ix]
        change Code.wp _ _ _ _ (put wr g3 .i64 (x.set i (rd f (i : Int) - 65535 - rd x (q : Int) / 65536 % 2))).drew
        have t1 := HT.out.put_dr (zs := x.set i (rd f (i : Int) - 65535 - rd x (q : Int) / 65536 % 2))
        generalize (put wr g3 .i64 (x.set i (rd f (i : Int) - 65535 - rd x (q : Int) / 65536 % 2))).drew = w5 at t1 ⊢
        have i5 := t1.is S3.out
        have c5 := i5.cell q (by rw [List.length_set, Lx.out]; have := IQ.out.2; omega)
        rw [rd_set_ne _ _ _ _ (by rw [Lx.out]; have := IQ.out; omega) NQ.out] at c5
        have f5 := i5.free q
        have T1 := Aside0.mk t1
        clear t1 ix cf cq ci fi m1 m2
        go_wp2_with fail
        rw [M16.out, put_set i5, ← E3.out]
        have t3 := T1.out.put_d0 (zs := lesS f (q + 1))
        exact ⟨⟨i + 1, q + 1, by have := IQ.out; omega, by have := IQ.out; omega, rfl, ⟨t3⟩⟩, by have := IQ.out; simp only [intOf]; omega⟩
    · obtain rfl : i = 16 := by omega
      obtain rfl : q = 15 := by omega
      rw [show ((16 : Nat) : Int) = 16 from rfl]
      have LB := Aside0.mk (show rd x 15 / 65536 % 2 = lesB f by rw [hx]; rfl)
      have LM := Aside0.mk (show x.set 15 (rd x 15 % 65536) = lesM f by rw [hx]; rfl)
      have J3 := Aside0.mk (HT.out.is S3.out)
      have J2 := Aside0.mk (HT.out.other NG.out.2.2.2 S2.out)
      have BZ := Aside0.mk (To.below BS.out HT.out NG.out.2.1)
      have c15 := J3.out.cell 15 (by rw [Lx.out]; decide)
      have f15 := J3.out.free 15
      rw [show ((15 : Nat) : Int) = 15 from rfl] at c15
      have M1 := Aside0.mk (mask1 (rd x 15 / 65536))
      have M16 := Aside0.mk (mask16 (rd x 15))
      clear h16 hx hiq hq Q0 HT
      go_upto_region 13 with (fail)
      rw [M1.out, M16.out, put_set J3.out, LB.out, LM.out]
      change Code.wp _ _ _ _ (put wr g3 .i64 (lesM f))
      have P3 := Aside0.mk (put_heap (ys := lesM f) J3.out)
      have P2 := Aside0.mk (show Is (put wr g3 .i64 (lesM f)) g2 48 .i64 z16 from (put_other g2 NG.out.2.2.2).trans J2.out)
      have BP := Aside0.mk (below_put (k := .i64) (ys := lesM f) BZ.out NG.out.2.1)
      generalize put wr g3 .i64 (lesM f) = w6 at P3 P2 BP ⊢
      clear c15 f15
      have LU := Aside0.mk (show (lesM f).length = 16 by rw [← LM.out, List.length_set, Lx.out])
      have HI1 := Aside0.mk (show (Try.prog.info? 48).map (·.size) = some (lesM f).length by rw [LU.out]; exact info_f)
      have HLL := Aside0.mk (show z16.length = (lesM f).length by rw [LU.out]; rfl)
      obtain ⟨bo, hbo⟩ : ∃ bo, bo = (lesB f == 1) := ⟨_, rfl⟩
      rw [← hbo]
      have HBO := Aside0.mk hbo
      clear hbo
      go_wp2_with (first | (with_reducible refine loadL_is (b := g3) (e := 48) (k := .i64) (xs := lesM f) 48 2 16 (.tmp 4) rfl rfl rfl P3.out Try.underlying48 HI1.out ?_) | (with_reducible refine storeL_is (b := g2) (e := 48) (k := .i64) (xs := z16) 48 (.tmp 2) (.tmp 47) rfl rfl rfl (lesM f) rfl rfl P2.out HLL.out HI1.out ?_))
      refine bodyPost_ret (v := .tuple #[ag (lesM f), .bool bo]) (results_two (b := g2) (e := 48) Try.results34 _ rfl rfl (put_heap P2.out) Try.underlying48 HI1.out) rfl ?_
      exact ⟨by rw [HBO.out], below_put BP.out NG.out.1⟩
end Go.Proofs.Ytlpoolcdoecodaa.Cv
