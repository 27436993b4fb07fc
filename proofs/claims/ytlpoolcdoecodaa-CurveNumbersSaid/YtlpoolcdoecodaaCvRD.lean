/-
  The reference's invert and read, walked.
-/
import Derived.Test.YtlpoolcdoecodaaCvD
import Derived.Test.YtlpoolcdoecodaaCvF
import Derived.Test.YtlpoolcdoecodaaCvRC
namespace Go.Proofs.Ytlpoolcdoecodaa.Cv
open Go.RowKit Go.Proofs.YtlpoolcdoecodaaW.PrintWords Go.Proofs.YtlpoolcdoecodaaW.PrintLast Go.Proofs.YtlpoolcdoecodaaW.PrintMore Go.Proofs.Ytlpoolcdoecodaa.Arr
set_option linter.unusedVariables false
set_option maxHeartbeats 8000000
set_option maxRecDepth 100000
theorem rinvert_calls (a : List Int) (ha : Sm a) (w : World) :
    Calls Try.prog 23 #[ag a] w fun e w' => e = .returned (ag (invS a 254)) ∧ Below w.heap.size w w' := by
  have HA := Aside0.mk ha
  clear ha
  go_enter Try.func23, Try.ntmps23
  go_upto_region 1 with (fail)
  change Code.wp _ _ _ _ ((w.alloc (.cells (nums .i64 a).toArray 40)).alloc (.cells (nums .i64 z16).toArray 40))
  obtain ⟨i1, i2, b2⟩ := two w 40 40 a z16 _ rfl
  generalize (w.alloc (.cells (nums .i64 a).toArray 40)).alloc (.cells (nums .i64 z16).toArray 40) = w2 at i1 i2 b2 ⊢
  obtain ⟨g1, hg1⟩ : ∃ g, g = w.heap.size := ⟨_, rfl⟩
  obtain ⟨g2, hg2⟩ : ∃ g, g = w.heap.size + 1 := ⟨_, rfl⟩
  try rw [← hg2] at i2 ⊢
  try rw [← hg1] at i1 ⊢
  have I1 := Aside0.mk i1
  have I2 := Aside0.mk i2
  have B2 := Aside0.mk b2
  have NG := Aside0.mk (show w.heap.size ≤ g1 ∧ w.heap.size ≤ g2 ∧ g1 ≠ g2 by omega)
  have HI := Aside0.mk (show (Try.prog.info? 40).map (·.size) = some a.length by rw [HA.out.len]; exact info_n)
  have HLa := Aside0.mk (show z16.length = a.length by rw [HA.out.len]; rfl)
  have N5 := Aside0.mk (show Is (w2.alloc (.cells #[.int .i64 0, .int .i64 0, .int .i64 0, .int .i64 0, .int .i64 0, .int .i64 0, .int .i64 0, .int .i64 0, .int .i64 0, .int .i64 0, .int .i64 0, .int .i64 0, .int .i64 0, .int .i64 0, .int .i64 0, .int .i64 0] 40)) w2.heap.size 40 .i64 z16 from new_is w2 40 .i64 z16)
  have B5 := Aside0.mk (show Below w2.heap.size w2 (w2.alloc (.cells #[.int .i64 0, .int .i64 0, .int .i64 0, .int .i64 0, .int .i64 0, .int .i64 0, .int .i64 0, .int .i64 0, .int .i64 0, .int .i64 0, .int .i64 0, .int .i64 0, .int .i64 0, .int .i64 0, .int .i64 0, .int .i64 0] 40)) from (Below.refl _ _).alloc (Nat.le_refl _) _)
  have GL := Aside0.mk (And.intro i1.lt i2.lt)
  clear i1 i2 b2 hg1 hg2
  go_upto_region 2 with (first | (with_reducible refine loadL_is (b := g1) (e := 40) (k := .i64) (xs := a) 40 2 16 (.tmp 1) rfl rfl rfl I1.out Try.underlying40 HI.out ?_) | (with_reducible refine storeL_is (b := w2.heap.size) (e := 40) (k := .i64) (xs := z16) 40 (.tmp 3) (.tmp 5) rfl rfl rfl a rfl rfl N5.out HLa.out HI.out ?_))
  change Code.wp _ _ _ _ (put (w2.alloc (.cells (nums .i64 z16).toArray 40)) w2.heap.size .i64 a)
  have i5 : Is (put (w2.alloc (.cells (nums .i64 z16).toArray 40)) w2.heap.size .i64 a) w2.heap.size 40 .i64 a := put_heap (ys := a) N5.out
  have b5 : Below w2.heap.size w2 (put (w2.alloc (.cells (nums .i64 z16).toArray 40)) w2.heap.size .i64 a) := below_put (k := .i64) (ys := a) B5.out (Nat.le_refl _)
  generalize put (w2.alloc (.cells (nums .i64 z16).toArray 40)) w2.heap.size .i64 a = w3 at i5 b5 ⊢
  obtain ⟨g3, hg3⟩ : ∃ g, g = w2.heap.size := ⟨_, rfl⟩
  rw [← hg3] at i5 ⊢
  have J1 := Aside0.mk (I1.out.below b5)
  have J2 := Aside0.mk (I2.out.below b5)
  have J3 := Aside0.mk i5
  have B3 := Aside0.mk (below_step B2.out b5)
  have NH := Aside0.mk (show g1 ≠ g3 ∧ g2 ≠ g3 ∧ w.heap.size ≤ g3 by have := GL.out; have := B2.out.size; omega)
  clear i5 b5 hg3 N5 B5 I1 I2 B2
  go_wp2_with fail
  go_loopw [4] (fun v w' => ∃ n : Nat, n ≤ 254 ∧ v = .int .i64 (253 - (n : Int)) ∧ Aside0 (Is w' g3 40 .i64 (invS a n)) ∧ Aside0 (Is w' g1 40 .i64 a) ∧ Aside0 (Is w' g2 40 .i64 z16) ∧ Aside0 (Below w.heap.size w w')) (fun v _ => (intOf v + 1).toNat)
  case atStart => exact ⟨0, by omega, rfl, J3, J1, J2, B3⟩
  case round =>
    obtain ⟨n, hn, hkv, H3, H1, H2, HB⟩ := hrel
    obtain ⟨k, hk⟩ : ∃ k : Int, k = 253 - (n : Int) := ⟨_, rfl⟩
    rw [← hk] at hkv
    subst hkv
    obtain ⟨c, hc⟩ : ∃ c, c = invS a n := ⟨_, rfl⟩
    rw [← hc] at H3
    have QC := Aside0.mk hc
    have HC := Aside0.mk (show Sm c by rw [hc]; exact sm_inv HA.out n)
    clear hc
    by_cases h254 : n < 254
    · have i0 : (0 : Int) ≤ k := by omega
      have i1 : ¬ k < 0 := by omega
      have HK := Aside0.mk hk
      have kw : wrap64 (k - 1) = k - 1 := wrap_id (by omega) (by omega)
      clear hk
      obtain ⟨s, hs⟩ : ∃ s, s = mulF c c := ⟨_, rfl⟩
      have QS := Aside0.mk hs
      have HS := Aside0.mk (show Sm s by rw [hs]; exact sm_mul HC.out.len HC.out.len (bd_sm HC.out).wide (bd_sm HC.out).wide)
      have HIc := Aside0.mk (show (Try.prog.info? 40).map (·.size) = some c.length by rw [HC.out.len]; exact info_n)
      have HIs := Aside0.mk (show (Try.prog.info? 40).map (·.size) = some s.length by rw [HS.out.len]; exact info_n)
      have HLs := Aside0.mk (show c.length = s.length by rw [HC.out.len, HS.out.len])
      clear hs
      have SQ := Aside0.mk (show Calls Try.prog 21 #[ag c, ag c] wr fun e w' => e = .returned (ag s) ∧ Below wr.heap.size wr w' from by rw [QS.out]; exact (rmul_calls c c HC.out.len HC.out.len (bd_sm HC.out).wide (bd_sm HC.out).wide wr))
      go_wp2_with (first | (with_reducible refine loadL_is (b := g3) (e := 40) (k := .i64) (xs := c) 40 2 16 (.tmp 3) rfl rfl rfl H3.out Try.underlying40 HIc.out ?_))
      refine SQ.out.mono ?_
      rintro e w4 ⟨rfl, h4⟩
      have M3 := Aside0.mk (H3.out.below h4)
      have M1 := Aside0.mk (H1.out.below h4)
      have M2 := Aside0.mk (H2.out.below h4)
      have BM := Aside0.mk (below_step HB.out h4)
      clear h4 SQ
      go_upto_region 6 with (first | (with_reducible refine storeL_is (b := g3) (e := 40) (k := .i64) (xs := c) 40 (.tmp 3) (.tmp 12) rfl rfl rfl s rfl rfl M3.out HLs.out HIs.out ?_))
      have P3 := Aside0.mk (put_heap (ys := s) M3.out)
      have P1 := Aside0.mk (show Is (put w4 g3 .i64 s) g1 40 .i64 a from (put_other g1 NH.out.1).trans M1.out)
      have P2 := Aside0.mk (show Is (put w4 g3 .i64 s) g2 40 .i64 z16 from (put_other g2 NH.out.2.1).trans M2.out)
      have BP := Aside0.mk (below_put (k := .i64) (ys := s) BM.out NH.out.2.2)
      change Code.wp _ _ _ _ (put w4 g3 .i64 s)
      generalize put w4 g3 .i64 s = w5 at P3 P1 P2 BP ⊢
      clear M3 M1 M2 BM H1 H2 H3 HB
      have hk := HK.out
      by_cases hcase : n = 251 ∨ n = 249
      · have HIN := Aside0.mk (show invS a (n + 1) = s by rw [invS, if_pos hcase, ← QC.out, ← QS.out])
        rcases hcase with rfl | rfl
        · obtain rfl : k = 2 := by omega
          clear kw hk
          go_wp2
          exact ⟨⟨252, by omega, rfl, ⟨by rw [HIN.out]; exact P3.out⟩, P1, P2, BP⟩, by simp only [intOf]; omega⟩
        · obtain rfl : k = 4 := by omega
          clear kw hk
          go_wp2
          exact ⟨⟨250, by omega, rfl, ⟨by rw [HIN.out]; exact P3.out⟩, P1, P2, BP⟩, by simp only [intOf]; omega⟩
      · obtain ⟨r, hr⟩ : ∃ r, r = mulF s a := ⟨_, rfl⟩
        have HR := Aside0.mk (show Sm r by rw [hr]; exact sm_mul HS.out.len HA.out.len (bd_sm HS.out).wide (bd_sm HA.out).wide)
        have HIN := Aside0.mk (show invS a (n + 1) = r by rw [invS, if_neg hcase, ← QC.out, ← QS.out, hr])
        have HIr := Aside0.mk (show (Try.prog.info? 40).map (·.size) = some r.length by rw [HR.out.len]; exact info_n)
        have HLr := Aside0.mk (show s.length = r.length by rw [HS.out.len, HR.out.len])
        have MU := Aside0.mk (show Calls Try.prog 21 #[ag s, ag a] w5 fun e w' => e = .returned (ag r) ∧ Below w5.heap.size w5 w' from by rw [hr]; exact rmul_calls s a HS.out.len HA.out.len (bd_sm HS.out).wide (bd_sm HA.out).wide w5)
        have c2 : decide (k = 2) = false := decide_eq_false (by omega)
        have c4 : decide (k = 4) = false := decide_eq_false (by omega)
        have d2 : (k != 2) = true := by simp; omega
        have d4 : (k != 4) = true := by simp; omega
        clear hr hcase hk
        go_wp2_with (first | (with_reducible refine loadL_is (b := g3) (e := 40) (k := .i64) (xs := s) 40 2 16 (.tmp 3) rfl rfl rfl P3.out Try.underlying40 HIs.out ?_) | (with_reducible refine loadL_is (b := g1) (e := 40) (k := .i64) (xs := a) 40 2 16 (.tmp 1) rfl rfl rfl P1.out Try.underlying40 HI.out ?_))
        refine MU.out.mono ?_
        rintro e w6 ⟨rfl, h6⟩
        have S3 := Aside0.mk (P3.out.below h6)
        have S1 := Aside0.mk (P1.out.below h6)
        have S2 := Aside0.mk (P2.out.below h6)
        have BS := Aside0.mk (below_step BP.out h6)
        clear h6 MU
        go_wp2_with (first | (with_reducible refine storeL_is (b := g3) (e := 40) (k := .i64) (xs := s) 40 (.tmp 3) (.tmp 21) rfl rfl rfl r rfl rfl S3.out HLr.out HIr.out ?_))
        refine ⟨⟨n + 1, by omega, ?_, ⟨by rw [HIN.out]; exact put_heap S3.out⟩, ⟨(put_other g1 NH.out.1).trans S1.out⟩, ⟨(put_other g2 NH.out.2.1).trans S2.out⟩, ⟨below_put BS.out NH.out.2.2⟩⟩, ?_⟩
        · have := HK.out
          congr 1
          omega
        · have := HK.out
          simp only [intOf]
          omega
    · obtain rfl : n = 254 := by omega
      obtain rfl : k = -1 := by omega
      have HIc := Aside0.mk (show (Try.prog.info? 40).map (·.size) = some c.length by rw [HC.out.len]; exact info_n)
      have HLc := Aside0.mk (show z16.length = c.length by rw [HC.out.len]; rfl)
      clear h254 hn hk
      go_wp2_with (first | (with_reducible refine loadL_is (b := g3) (e := 40) (k := .i64) (xs := c) 40 2 16 (.tmp 3) rfl rfl rfl H3.out Try.underlying40 HIc.out ?_) | (with_reducible refine storeL_is (b := g2) (e := 40) (k := .i64) (xs := z16) 40 (.tmp 2) (.tmp 22) rfl rfl rfl c rfl rfl H2.out HLc.out HIc.out ?_))
      refine bodyPost_ret (v := ag c) (results_is (b := g2) (e := 40) Try.results23 _ rfl (put_heap H2.out) Try.underlying40 HIc.out) rfl ?_
      exact ⟨by rw [QC.out], below_put HB.out NG.out.2.1⟩
theorem rread_calls (A : Option Addr) (c : Nat) (b : List Int) (hl : b.length = 32) (hb : ∀ x ∈ b, 0 ≤ x ∧ x < 256) (w : World) (hC : (Kd.int .u8).C w A 32 b) (hc : 32 ≤ c) :
    Calls Try.prog 17 #[.slice A 32 c] w fun e w' => e = .returned (ag (unpF b)) ∧ Below w.heap.size w w' := by
  have HC := Aside0.mk hC
  have HB := Aside0.mk (show ∀ j, 0 ≤ b.getD j 0 ∧ b.getD j 0 < 256 from fun j => by
    rw [List.getD_eq_getElem?_getD]
    rcases hj : b[j]? with _ | y
    · simp
    · simpa using hb y (List.mem_of_getElem? hj))
  have HL := Aside0.mk (And.intro hl hc)
  clear hC hc hb hl
  go_enter Try.func17, Try.ntmps17
  go_wp2_with fail
  change Code.wp _ _ _ _ ((w.alloc (.cells (nums .i64 z16).toArray 40)).alloc (.cells (nums .i64 z16).toArray 40))
  obtain ⟨i1, i2, b2⟩ := two w 40 40 z16 z16 _ rfl
  generalize (w.alloc (.cells (nums .i64 z16).toArray 40)).alloc (.cells (nums .i64 z16).toArray 40) = w2 at i1 i2 b2 ⊢
  obtain ⟨g1, hg1⟩ : ∃ g, g = w.heap.size := ⟨_, rfl⟩
  obtain ⟨g2, hg2⟩ : ∃ g, g = w.heap.size + 1 := ⟨_, rfl⟩
  try rw [← hg2] at i2 ⊢
  try rw [← hg1] at i1 ⊢
  have I1 := Aside0.mk i1
  have I2 := Aside0.mk i2
  have B2 := Aside0.mk b2
  have NG := Aside0.mk (show w.heap.size ≤ g1 ∧ w.heap.size ≤ g2 ∧ g1 ≠ g2 by omega)
  clear i1 i2 b2 hg1 hg2
  go_loopw [4] (fun v w' => ∃ i : Nat, i ≤ 16 ∧ v = .int .i64 (i : Int) ∧ Aside0 (To w2 w' g2 .i64 (fillF (unpE b) 16 i))) (fun v _ => 16 - (intOf v).toNat)
  case atStart => exact ⟨0, by omega, rfl, ⟨by rw [fillF_zero]; exact To.refl I2.out⟩⟩
  case round =>
    obtain ⟨i, hi, rfl, HT⟩ := hrel
    by_cases h16 : i < 16
    · have i0 : (i : Int) < 16 := by omega
      obtain ⟨x, hx⟩ : ∃ y_, y_ = fillF (unpE b) 16 i := ⟨_, rfl⟩
      rw [← hx] at HT
      have Q0 := Aside0.mk hx
      have Lx := Aside0.mk (show x.length = 16 by rw [hx, len_fillF _ _ _ hi])
      have q1 : wrap64 (2 * (i : Int)) = 2 * (i : Int) := wrap_id (by omega) (by omega)
      have q2 : IntKind.i64.wrap (2 * (i : Int)) = 2 * (i : Int) := by rw [i64_w, q1]
      have q3 : wrap64 (2 * (i : Int) + 1) = 2 * (i : Int) + 1 := wrap_id (by omega) (by omega)
      have q4 : IntKind.i64.wrap (2 * (i : Int) + 1) = 2 * (i : Int) + 1 := by rw [i64_w, q3]
      have p0 : (0 : Int) ≤ 2 * (i : Int) := by omega
      have p1 : (2 * (i : Int)).toNat = 2 * i := by omega
      have p2 : 2 * (i : Int) < 32 := by omega
      have p3 : (0 : Int) ≤ 2 * (i : Int) + 1 := by omega
      obtain ⟨m, hm⟩ : ∃ m : Nat, m = 2 * i + 1 := ⟨_, rfl⟩
      have p4 : (2 * (i : Int) + 1).toNat = m := by omega
      have p5 : 2 * (i : Int) + 1 < 32 := by omega
      have hCr := Kd.C_below HC.out (To.below B2.out HT.out NG.out.2.1)
      obtain ⟨ad, hA, c0⟩ := Kd.at_int hCr (2 * (i : Int)) p0 p2
      obtain ⟨ad2, hA2, c1⟩ := Kd.at_int hCr (2 * (i : Int) + 1) p3 p5
      subst hA
      obtain rfl := Option.some.inj hA2
      rw [p1] at c0
      rw [p4] at c1
      have bx := HB.out (2 * i)
      have bY := HB.out m
      obtain ⟨u, hu⟩ : ∃ u, u = rd b (2 * (i : Int)) := ⟨_, rfl⟩
      obtain ⟨v, hv⟩ : ∃ u, u = rd b (2 * (i : Int) + 1) := ⟨_, rfl⟩
      rw [← hu] at c0
      rw [← hv] at c1
      rw [show b.getD (2 * i) 0 = u by rw [hu, rd, p1]] at bx
      rw [show b.getD m 0 = v by rw [hv, rd, p4]] at bY
      have UV := Aside0.mk (show u + 256 * v = unpE b i by rw [hu, hv, rd, rd, p1, p4, unpE, hm])
      have w1 : IntKind.i64.wrap u = u := by rw [i64_w, wrap_id (by omega) (by omega)]
      have w2' : IntKind.i64.wrap v = v := by rw [i64_w, wrap_id (by omega) (by omega)]
      have w3 : wrap64 (v * 256) = v * 256 := wrap_id (by omega) (by omega)
      have OB := Aside0.mk (show wrap64 (u + v * 256) = u + 256 * v by rw [wrap_id (by omega) (by omega)]; omega)
      clear bx bY hu hv hx hA2 hCr hm
      have ix := HT.out.is I2.out
      have fx := ix.free i
      have hxc := ix.cell i (by rw [Lx.out]; omega)
      go_wp2
      go_still_tail 17, (by kernel_rfl)
      change wpList _ _ _ _ _ wr.drew
      go_wp2_with fail
      try rw [w3]
      rw [OB.out, UV.out, put_set ix]
      have e3 : fillF (unpE b) 16 (i + 1) = x.set i (unpE b i) := by rw [Q0.out, fillF_set _ _ _ h16]
      rw [← e3]
      have t3 := HT.out.put_dr (zs := fillF (unpE b) 16 (i + 1))
      exact ⟨⟨i + 1, by omega, rfl, ⟨t3⟩⟩, by simp only [intOf]; omega⟩
    · obtain rfl : i = 16 := by omega
      rw [show ((16 : Nat) : Int) = 16 from rfl]
      rw [fillF_full] at HT
      obtain ⟨x, hx⟩ : ∃ y_, y_ = (List.range 16).map (unpE b) := ⟨_, rfl⟩
      rw [← hx] at HT
      have Lx := Aside0.mk (show x.length = 16 by rw [hx]; simp)
      have E15 := Aside0.mk (show rd x 15 = unpE b 15 by rw [hx]; rfl)
      have QX := Aside0.mk (show x.set 15 (unpE b 15 % 32768) = unpF b by rw [hx]; rfl)
      have J2 := Aside0.mk (HT.out.is I2.out)
      have J1 := Aside0.mk (HT.out.other NG.out.2.2 I1.out)
      have BZ := Aside0.mk (To.below B2.out HT.out NG.out.2.1)
      clear h16 hx HT
      have H1 := J2.out.cell 15 (by rw [Lx.out]; omega)
      rw [show ((15 : Nat) : Int) = 15 from rfl] at H1
      have F1 := J2.out.free 15
      have am := and_mask (rd x 15) 15 (by decide)
      rw [show (2 : Int) ^ 15 - 1 = 32767 from rfl, show (2 : Int) ^ 15 = 32768 from rfl] at am
      go_upto_region 7 with (fail)
      try rw [am]
      rw [E15.out, put_set J2.out]
      change Code.wp _ _ _ _ (put wr g2 .i64 (x.set 15 (unpE b 15 % 32768)))
      rw [QX.out]
      have P2 := Aside0.mk (put_heap (ys := unpF b) J2.out)
      have P1 := Aside0.mk (show Is (put wr g2 .i64 (unpF b)) g1 40 .i64 z16 from (put_other g1 NG.out.2.2).trans J1.out)
      have BP := Aside0.mk (below_put (k := .i64) (ys := unpF b) BZ.out NG.out.2.1)
      generalize put wr g2 .i64 (unpF b) = w4 at P2 P1 BP ⊢
      clear H1 F1 am J1 J2 BZ
      have LU := Aside0.mk (show (unpF b).length = 16 by simp [unpF])
      have HI1 := Aside0.mk (show (Try.prog.info? 40).map (·.size) = some (unpF b).length by rw [LU.out]; exact info_n)
      have HLL := Aside0.mk (show z16.length = (unpF b).length by rw [LU.out]; rfl)
      go_wp2_with (first | (with_reducible refine loadL_is (b := g2) (e := 40) (k := .i64) (xs := unpF b) 40 2 16 (.tmp 3) rfl rfl rfl P2.out Try.underlying40 HI1.out ?_) | (with_reducible refine storeL_is (b := g1) (e := 40) (k := .i64) (xs := z16) 40 (.tmp 2) (.tmp 30) rfl rfl rfl (unpF b) rfl rfl P1.out HLL.out HI1.out ?_))
      refine bodyPost_ret (v := ag (unpF b)) (results_is (b := g1) (e := 40) Try.results17 _ rfl (put_heap P1.out) Try.underlying40 HI1.out) rfl ?_
      exact ⟨rfl, below_put BP.out NG.out.1⟩
end Go.Proofs.Ytlpoolcdoecodaa.Cv
