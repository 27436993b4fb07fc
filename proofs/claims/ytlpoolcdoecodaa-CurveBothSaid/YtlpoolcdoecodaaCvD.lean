/-
  square and inverse, walked.
-/
import Derived.Test.YtlpoolcdoecodaaCvC
namespace Go.Proofs.Ytlpoolcdoecodaa.Cv
open Go.RowKit Go.Proofs.YtlpoolcdoecodaaW.PrintWords Go.Proofs.YtlpoolcdoecodaaW.PrintLast Go.Proofs.YtlpoolcdoecodaaW.PrintMore Go.Proofs.Ytlpoolcdoecodaa.Arr
set_option linter.unusedVariables false
set_option maxHeartbeats 8000000
set_option maxRecDepth 100000
theorem square_calls (a : List Int) (ha : a.length = 16) (ba : Bd 131200 a) (w : World) :
    Calls Try.prog 28 #[ag a] w fun e w' => e = .returned (ag (mulF a a)) ∧ Below w.heap.size w w' := by
  have HA := Aside0.mk (And.intro ha ba)
  have L7 := Aside0.mk (show (mulF a a).length = 16 from (sm_mul ha ha ba ba).len)
  clear ha ba
  go_enter Try.func28, Try.ntmps28
  go_upto_region 1 with (fail)
  change Code.wp _ _ _ _ ((w.alloc (.cells (nums .i64 a).toArray 48)).alloc (.cells (nums .i64 z16).toArray 48))
  obtain ⟨i1, i2, b2⟩ := two w 48 48 a z16 _ rfl
  generalize (w.alloc (.cells (nums .i64 a).toArray 48)).alloc (.cells (nums .i64 z16).toArray 48) = w2 at i1 i2 b2 ⊢
  obtain ⟨g1, hg1⟩ : ∃ g, g = w.heap.size := ⟨_, rfl⟩
  obtain ⟨g2, hg2⟩ : ∃ g, g = w.heap.size + 1 := ⟨_, rfl⟩
  try rw [← hg2] at i2 ⊢
  try rw [← hg1] at i1 ⊢
  have I1 := Aside0.mk i1
  have I2 := Aside0.mk i2
  have B2 := Aside0.mk b2
  have NG := Aside0.mk (show w.heap.size ≤ g2 by omega)
  have HI := Aside0.mk (show (Try.prog.info? 48).map (·.size) = some a.length by rw [HA.out.1]; exact info_f)
  have HI1 := Aside0.mk (show (Try.prog.info? 48).map (·.size) = some (mulF a a).length by rw [L7.out]; exact info_f)
  have HLL := Aside0.mk (show z16.length = (mulF a a).length by rw [L7.out]; rfl)
  clear i1 i2 b2 hg1 hg2
  go_wp2_with (first | (with_reducible refine loadL_is (b := g1) (e := 48) (k := .i64) (xs := a) 48 2 16 (.tmp 1) rfl rfl rfl I1.out Try.underlying48 HI.out ?_))
  refine (times_calls a a HA.out.1 HA.out.1 HA.out.2 HA.out.2 w2).mono ?_
  rintro e w3 ⟨rfl, h3⟩
  have K2 := Aside0.mk (I2.out.below h3)
  have B3 := Aside0.mk (below_step B2.out h3)
  clear h3
  go_wp2_with (first | (with_reducible refine storeL_is (b := g2) (e := 48) (k := .i64) (xs := z16) 48 (.tmp 2) (.tmp 5) rfl rfl rfl (mulF a a) rfl rfl K2.out HLL.out HI1.out ?_))
  refine bodyPost_ret (v := ag (mulF a a)) (results_is (b := g2) (e := 48) Try.results28 _ rfl (put_heap K2.out) Try.underlying48 HI1.out) rfl ?_
  exact ⟨rfl, below_put B3.out NG.out⟩
theorem inverse_calls (a : List Int) (ha : Sm a) (w : World) :
    Calls Try.prog 31 #[ag a] w fun e w' => e = .returned (ag (invS a 254)) ∧ Below w.heap.size w w' := by
  have HA := Aside0.mk ha
  clear ha
  go_enter Try.func31, Try.ntmps31
  go_upto_region 1 with (fail)
  change Code.wp _ _ _ _ ((w.alloc (.cells (nums .i64 a).toArray 48)).alloc (.cells (nums .i64 z16).toArray 48))
  obtain ⟨i1, i2, b2⟩ := two w 48 48 a z16 _ rfl
  generalize (w.alloc (.cells (nums .i64 a).toArray 48)).alloc (.cells (nums .i64 z16).toArray 48) = w2 at i1 i2 b2 ⊢
  obtain ⟨g1, hg1⟩ : ∃ g, g = w.heap.size := ⟨_, rfl⟩
  obtain ⟨g2, hg2⟩ : ∃ g, g = w.heap.size + 1 := ⟨_, rfl⟩
  try rw [← hg2] at i2 ⊢
  try rw [← hg1] at i1 ⊢
  have I1 := Aside0.mk i1
  have I2 := Aside0.mk i2
  have B2 := Aside0.mk b2
  have NG := Aside0.mk (show w.heap.size ≤ g1 ∧ w.heap.size ≤ g2 ∧ g1 ≠ g2 by omega)
  have HI := Aside0.mk (show (Try.prog.info? 48).map (·.size) = some a.length by rw [HA.out.len]; exact info_f)
  have HLa := Aside0.mk (show z16.length = a.length by rw [HA.out.len]; rfl)
  have N5 := Aside0.mk (show Is (w2.alloc (.cells #[.int .i64 0, .int .i64 0, .int .i64 0, .int .i64 0, .int .i64 0, .int .i64 0, .int .i64 0, .int .i64 0, .int .i64 0, .int .i64 0, .int .i64 0, .int .i64 0, .int .i64 0, .int .i64 0, .int .i64 0, .int .i64 0] 48)) w2.heap.size 48 .i64 z16 from new_is w2 48 .i64 z16)
  have B5 := Aside0.mk (show Below w2.heap.size w2 (w2.alloc (.cells #[.int .i64 0, .int .i64 0, .int .i64 0, .int .i64 0, .int .i64 0, .int .i64 0, .int .i64 0, .int .i64 0, .int .i64 0, .int .i64 0, .int .i64 0, .int .i64 0, .int .i64 0, .int .i64 0, .int .i64 0, .int .i64 0] 48)) from (Below.refl _ _).alloc (Nat.le_refl _) _)
  have GL := Aside0.mk (And.intro i1.lt i2.lt)
  clear i1 i2 b2 hg1 hg2
  go_upto_region 2 with (first | (with_reducible refine loadL_is (b := g1) (e := 48) (k := .i64) (xs := a) 48 2 16 (.tmp 1) rfl rfl rfl I1.out Try.underlying48 HI.out ?_) | (with_reducible refine storeL_is (b := w2.heap.size) (e := 48) (k := .i64) (xs := z16) 48 (.tmp 3) (.tmp 5) rfl rfl rfl a rfl rfl N5.out HLa.out HI.out ?_))
  change Code.wp _ _ _ _ (put (w2.alloc (.cells (nums .i64 z16).toArray 48)) w2.heap.size .i64 a)
  have i5 : Is (put (w2.alloc (.cells (nums .i64 z16).toArray 48)) w2.heap.size .i64 a) w2.heap.size 48 .i64 a := put_heap (ys := a) N5.out
  have b5 : Below w2.heap.size w2 (put (w2.alloc (.cells (nums .i64 z16).toArray 48)) w2.heap.size .i64 a) := below_put (k := .i64) (ys := a) B5.out (Nat.le_refl _)
  generalize put (w2.alloc (.cells (nums .i64 z16).toArray 48)) w2.heap.size .i64 a = w3 at i5 b5 ⊢
  obtain ⟨g3, hg3⟩ : ∃ g, g = w2.heap.size := ⟨_, rfl⟩
  rw [← hg3] at i5 ⊢
  have J1 := Aside0.mk (I1.out.below b5)
  have J2 := Aside0.mk (I2.out.below b5)
  have J3 := Aside0.mk i5
  have B3 := Aside0.mk (below_step B2.out b5)
  have NH := Aside0.mk (show g1 ≠ g3 ∧ g2 ≠ g3 ∧ w.heap.size ≤ g3 by have := GL.out; have := B2.out.size; omega)
  clear i5 b5 hg3 N5 B5 I1 I2 B2
  go_wp2_with fail
  go_loopw [4] (fun v w' => ∃ n : Nat, n ≤ 254 ∧ v = .int .i64 (253 - (n : Int)) ∧ Aside0 (Is w' g3 48 .i64 (invS a n)) ∧ Aside0 (Is w' g1 48 .i64 a) ∧ Aside0 (Is w' g2 48 .i64 z16) ∧ Aside0 (Below w.heap.size w w')) (fun v _ => (intOf v + 1).toNat)
  case atStart => exact ⟨0, by omega, rfl, J3, J1, J2, B3⟩
  case round =>
    obtain ⟨n, hn, hkv, H3, H1, H2, HB⟩ := hrel
    obtain ⟨k, hk⟩ : ∃ k : Int, k = 253 - (n : Int) := ⟨_, rfl⟩
    rw [← hk] at hkv
    subst hkv
    obtain ⟨c, hc⟩ : ∃ c, c = invS a n := ⟨_, rfl⟩
    rw [← hc] at H3
    have QC := Aside0.mk hc
    have HC := Aside0.mk (show Sm c by rw [hc]; exact sm_inv HA.out n)
    clear hc
    by_cases h254 : n < 254
    · have i0 : (0 : Int) ≤ k := by omega
      have i1 : ¬ k < 0 := by omega
      have HK := Aside0.mk hk
      have kw : wrap64 (k - 1) = k - 1 := wrap_id (by omega) (by omega)
      clear hk
      obtain ⟨s, hs⟩ : ∃ s, s = mulF c c := ⟨_, rfl⟩
      have QS := Aside0.mk hs
      have HS := Aside0.mk (show Sm s by rw [hs]; exact sm_mul HC.out.len HC.out.len (bd_sm HC.out).wide (bd_sm HC.out).wide)
      have HIc := Aside0.mk (show (Try.prog.info? 48).map (·.size) = some c.length by rw [HC.out.len]; exact info_f)
      have HIs := Aside0.mk (show (Try.prog.info? 48).map (·.size) = some s.length by rw [HS.out.len]; exact info_f)
      have HLs := Aside0.mk (show c.length = s.length by rw [HC.out.len, HS.out.len])
      clear hs
      have SQ := Aside0.mk (show Calls Try.prog 28 #[ag c] wr fun e w' => e = .returned (ag s) ∧ Below wr.heap.size wr w' from by rw [QS.out]; exact (square_calls c HC.out.len (bd_sm HC.out).wide wr))
      go_wp2_with (first | (with_reducible refine loadL_is (b := g3) (e := 48) (k := .i64) (xs := c) 48 2 16 (.tmp 3) rfl rfl rfl H3.out Try.underlying48 HIc.out ?_))
      refine SQ.out.mono ?_
      rintro e w4 ⟨rfl, h4⟩
      have M3 := Aside0.mk (H3.out.below h4)
      have M1 := Aside0.mk (H1.out.below h4)
      have M2 := Aside0.mk (H2.out.below h4)
      have BM := Aside0.mk (below_step HB.out h4)
      clear h4 SQ
      go_upto_region 6 with (first | (with_reducible refine storeL_is (b := g3) (e := 48) (k := .i64) (xs := c) 48 (.tmp 3) (.tmp 11) rfl rfl rfl s rfl rfl M3.out HLs.out HIs.out ?_))
      have P3 := Aside0.mk (put_heap (ys := s) M3.out)
      have P1 := Aside0.mk (show Is (put w4 g3 .i64 s) g1 48 .i64 a from (put_other g1 NH.out.1).trans M1.out)
      have P2 := Aside0.mk (show Is (put w4 g3 .i64 s) g2 48 .i64 z16 from (put_other g2 NH.out.2.1).trans M2.out)
      have BP := Aside0.mk (below_put (k := .i64) (ys := s) BM.out NH.out.2.2)
      change Code.wp _ _ _ _ (put w4 g3 .i64 s)
      generalize put w4 g3 .i64 s = w5 at P3 P1 P2 BP ⊢
      clear M3 M1 M2 BM H1 H2 H3 HB
      have hk := HK.out
      by_cases hcase : n = 251 ∨ n = 249
      · have HIN := Aside0.mk (show invS a (n + 1) = s by rw [invS, if_pos hcase, ← QC.out, ← QS.out])
        rcases hcase with rfl | rfl
        · obtain rfl : k = 2 := by omega
          clear kw hk
          go_wp2
          exact ⟨⟨252, by omega, rfl, ⟨by rw [HIN.out]; exact P3.out⟩, P1, P2, BP⟩, by simp only [intOf]; omega⟩
        · obtain rfl : k = 4 := by omega
          clear kw hk
          go_wp2
          exact ⟨⟨250, by omega, rfl, ⟨by rw [HIN.out]; exact P3.out⟩, P1, P2, BP⟩, by simp only [intOf]; omega⟩
      · obtain ⟨r, hr⟩ : ∃ r, r = mulF s a := ⟨_, rfl⟩
        have HR := Aside0.mk (show Sm r by rw [hr]; exact sm_mul HS.out.len HA.out.len (bd_sm HS.out).wide (bd_sm HA.out).wide)
        have HIN := Aside0.mk (show invS a (n + 1) = r by rw [invS, if_neg hcase, ← QC.out, ← QS.out, hr])
        have HIr := Aside0.mk (show (Try.prog.info? 48).map (·.size) = some r.length by rw [HR.out.len]; exact info_f)
        have HLr := Aside0.mk (show s.length = r.length by rw [HS.out.len, HR.out.len])
        have MU := Aside0.mk (show Calls Try.prog 29 #[ag s, ag a] w5 fun e w' => e = .returned (ag r) ∧ Below w5.heap.size w5 w' from by rw [hr]; exact times_calls s a HS.out.len HA.out.len (bd_sm HS.out).wide (bd_sm HA.out).wide w5)
        have c2 : decide (k = 2) = false := decide_eq_false (by omega)
        have c4 : decide (k = 4) = false := decide_eq_false (by omega)
        have d2 : (k != 2) = true := by simp; omega
        have d4 : (k != 4) = true := by simp; omega
        clear hr hcase hk
        go_wp2_with (first | (with_reducible refine loadL_is (b := g3) (e := 48) (k := .i64) (xs := s) 48 2 16 (.tmp 3) rfl rfl rfl P3.out Try.underlying48 HIs.out ?_) | (with_reducible refine loadL_is (b := g1) (e := 48) (k := .i64) (xs := a) 48 2 16 (.tmp 1) rfl rfl rfl P1.out Try.underlying48 HI.out ?_))
        refine MU.out.mono ?_
        rintro e w6 ⟨rfl, h6⟩
        have S3 := Aside0.mk (P3.out.below h6)
        have S1 := Aside0.mk (P1.out.below h6)
        have S2 := Aside0.mk (P2.out.below h6)
        have BS := Aside0.mk (below_step BP.out h6)
        clear h6 MU
        go_wp2_with (first | (with_reducible refine storeL_is (b := g3) (e := 48) (k := .i64) (xs := s) 48 (.tmp 3) (.tmp 20) rfl rfl rfl r rfl rfl S3.out HLr.out HIr.out ?_))
        refine ⟨⟨n + 1, by omega, ?_, ⟨by rw [HIN.out]; exact put_heap S3.out⟩, ⟨(put_other g1 NH.out.1).trans S1.out⟩, ⟨(put_other g2 NH.out.2.1).trans S2.out⟩, ⟨below_put BS.out NH.out.2.2⟩⟩, ?_⟩
        · have := HK.out
          congr 1
          omega
        · have := HK.out
          simp only [intOf]
          omega
    · obtain rfl : n = 254 := by omega
      obtain rfl : k = -1 := by omega
      have HIc := Aside0.mk (show (Try.prog.info? 48).map (·.size) = some c.length by rw [HC.out.len]; exact info_f)
      have HLc := Aside0.mk (show z16.length = c.length by rw [HC.out.len]; rfl)
      clear h254 hn hk
      go_wp2_with (first | (with_reducible refine loadL_is (b := g3) (e := 48) (k := .i64) (xs := c) 48 2 16 (.tmp 3) rfl rfl rfl H3.out Try.underlying48 HIc.out ?_) | (with_reducible refine storeL_is (b := g2) (e := 48) (k := .i64) (xs := z16) 48 (.tmp 2) (.tmp 21) rfl rfl rfl c rfl rfl H2.out HLc.out HIc.out ?_))
      refine bodyPost_ret (v := ag c) (results_is (b := g2) (e := 48) Try.results31 _ rfl (put_heap H2.out) Try.underlying48 HIc.out) rfl ?_
      exact ⟨by rw [QC.out], below_put HB.out NG.out.2.1⟩
end Go.Proofs.Ytlpoolcdoecodaa.Cv
