/-
  The reference's add and sub, walked.
-/
import Derived.Test.YtlpoolcdoecodaaCvB
import Derived.Test.YtlpoolcdoecodaaCvRA
namespace Go.Proofs.Ytlpoolcdoecodaa.Cv
open Go.RowKit Go.Proofs.YtlpoolcdoecodaaW.PrintWords Go.Proofs.YtlpoolcdoecodaaW.PrintLast Go.Proofs.YtlpoolcdoecodaaW.PrintMore Go.Proofs.Ytlpoolcdoecodaa.Arr
set_option linter.unusedVariables false
set_option maxHeartbeats 8000000
set_option maxRecDepth 100000
theorem radd_calls (a b : List Int) (ha : a.length = 16) (hb : b.length = 16) (ba : Bd 65573 a) (bb : Bd 65573 b) (w : World) :
    Calls Try.prog 19 #[ag a, ag b] w fun e w' => e = .returned (ag (plusF a b)) ∧ Below w.heap.size w w' := by
  have HA := Aside0.mk (And.intro ha ba)
  have HB := Aside0.mk (And.intro hb bb)
  clear ha hb ba bb
  go_enter Try.func19, Try.ntmps19
  go_wp2_with fail
  change Code.wp _ _ _ _ (((w.alloc (.cells (nums .i64 a).toArray 40)).alloc (.cells (nums .i64 b).toArray 40)).alloc (.cells (nums .i64 z16).toArray 40))
  obtain ⟨i1, i2, i3, b3⟩ := three w 40 40 40 a b z16 _ rfl
  generalize ((w.alloc (.cells (nums .i64 a).toArray 40)).alloc (.cells (nums .i64 b).toArray 40)).alloc (.cells (nums .i64 z16).toArray 40) = w3 at i1 i2 i3 b3 ⊢
  obtain ⟨g1, hg1⟩ : ∃ g, g = w.heap.size := ⟨_, rfl⟩
  obtain ⟨g2, hg2⟩ : ∃ g, g = w.heap.size + 1 := ⟨_, rfl⟩
  obtain ⟨g3, hg3⟩ : ∃ g, g = w.heap.size + 1 + 1 := ⟨_, rfl⟩
  rw [← hg3] at i3 ⊢
  rw [← hg2] at i2 ⊢
  rw [← hg1] at i1 ⊢
  have I1 := Aside0.mk i1
  have I2 := Aside0.mk i2
  have I3 := Aside0.mk i3
  have B3 := Aside0.mk b3
  have NG := Aside0.mk (show w.heap.size ≤ g1 ∧ g2 ≠ g1 ∧ g3 ≠ g1 ∧ w.heap.size ≤ g3 by omega)
  clear i1 i2 i3 b3 hg1 hg2 hg3
  go_loopw [5] (fun v w' => ∃ i : Nat, i ≤ 16 ∧ v = .int .i64 (i : Int) ∧ Aside0 (To w3 w' g1 .i64 (zS (· + ·) a b i))) (fun v _ => 16 - (intOf v).toNat)
  case atStart => exact ⟨0, by omega, rfl, ⟨To.refl I1.out⟩⟩
  case round =>
    obtain ⟨i, hi, rfl, HT⟩ := hrel
    obtain ⟨x, hx⟩ : ∃ y_, y_ = zS (· + ·) a b i := ⟨_, rfl⟩
    rw [← hx] at HT
    have Lx := Aside0.mk (show x.length = 16 by rw [hx, len_zS, HA.out.1])
    have Q0 := Aside0.mk hx
    by_cases h16 : i < 16
    · have i0 : (i : Int) < 16 := by omega
      have e1 : rd x (i : Int) = rd a (i : Int) := by rw [hx, rd_nat, zS_getD _ a b HA.out.1 i (by omega), if_neg (by omega), rd_nat]
      have b1 := HA.out.2 i
      have b2 := HB.out.2 i
      rw [← rd_nat] at b1 b2
      rw [← e1] at b1
      have k1 : wrap64 (rd x (i : Int) + rd b (i : Int)) = rd x (i : Int) + rd b (i : Int) := wrap_id (by omega) (by omega)
      clear b1 b2 e1 hx
      have ix := HT.out.is I1.out
      have H1 := ix.cell i (by rw [Lx.out]; omega)
      have F1 := ix.free i
      have H2 := (HT.out.other NG.out.2.1 I2.out).cell i (by rw [HB.out.1]; omega)
      go_wp2
      go_still_tail 9, (by kernel_rfl)
      change wpList _ _ _ _ _ wr.drew
      go_wp2_with fail
      try rw [k1]
      rw [put_set ix]
      have e3 : zS (· + ·) a b (i + 1) = x.set i (rd x (i : Int) + rd b (i : Int)) := by rw [zS, ← Q0.out]
      rw [← e3]
      have t3 := HT.out.put_dr (zs := zS (· + ·) a b (i + 1))
      exact ⟨⟨i + 1, by omega, rfl, ⟨t3⟩⟩, by simp only [intOf]; omega⟩
    · obtain rfl : i = 16 := by omega
      rw [show ((16 : Nat) : Int) = 16 from rfl]
      have hq : x = plusF a b := by rw [hx, zS_full _ rfl a b HA.out.1 HB.out.1]; rfl
      rw [hq] at HT Lx
      clear h16 hx hq Q0
      have J1 := Aside0.mk (HT.out.is I1.out)
      have J3 := Aside0.mk (HT.out.other NG.out.2.2.1 I3.out)
      have BZ := Aside0.mk (To.below B3.out HT.out NG.out.1)
      have HI1 := Aside0.mk (show (Try.prog.info? 40).map (·.size) = some (plusF a b).length by rw [Lx.out]; exact info_n)
      have HLL := Aside0.mk (show z16.length = (plusF a b).length by rw [Lx.out]; rfl)
      clear HT
      go_wp2_with (first | (with_reducible refine loadL_is (b := g1) (e := 40) (k := .i64) (xs := plusF a b) 40 2 16 (.tmp 2) rfl rfl rfl J1.out Try.underlying40 HI1.out ?_) | (with_reducible refine storeL_is (b := g3) (e := 40) (k := .i64) (xs := z16) 40 (.tmp 4) (.tmp 19) rfl rfl rfl (plusF a b) rfl rfl J3.out HLL.out HI1.out ?_))
      refine bodyPost_ret (v := ag (plusF a b)) (results_is (b := g3) (e := 40) Try.results19 _ rfl (put_heap J3.out) Try.underlying40 HI1.out) rfl ?_
      exact ⟨rfl, below_put BZ.out NG.out.2.2.2⟩
theorem rsub_calls (a b : List Int) (ha : a.length = 16) (hb : b.length = 16) (ba : Bd 65573 a) (bb : Bd 65573 b) (w : World) :
    Calls Try.prog 20 #[ag a, ag b] w fun e w' => e = .returned (ag (minusF a b)) ∧ Below w.heap.size w w' := by
  have HA := Aside0.mk (And.intro ha ba)
  have HB := Aside0.mk (And.intro hb bb)
  clear ha hb ba bb
  go_enter Try.func20, Try.ntmps20
  go_wp2_with fail
  change Code.wp _ _ _ _ (((w.alloc (.cells (nums .i64 a).toArray 40)).alloc (.cells (nums .i64 b).toArray 40)).alloc (.cells (nums .i64 z16).toArray 40))
  obtain ⟨i1, i2, i3, b3⟩ := three w 40 40 40 a b z16 _ rfl
  generalize ((w.alloc (.cells (nums .i64 a).toArray 40)).alloc (.cells (nums .i64 b).toArray 40)).alloc (.cells (nums .i64 z16).toArray 40) = w3 at i1 i2 i3 b3 ⊢
  obtain ⟨g1, hg1⟩ : ∃ g, g = w.heap.size := ⟨_, rfl⟩
  obtain ⟨g2, hg2⟩ : ∃ g, g = w.heap.size + 1 := ⟨_, rfl⟩
  obtain ⟨g3, hg3⟩ : ∃ g, g = w.heap.size + 1 + 1 := ⟨_, rfl⟩
  rw [← hg3] at i3 ⊢
  rw [← hg2] at i2 ⊢
  rw [← hg1] at i1 ⊢
  have I1 := Aside0.mk i1
  have I2 := Aside0.mk i2
  have I3 := Aside0.mk i3
  have B3 := Aside0.mk b3
  have NG := Aside0.mk (show w.heap.size ≤ g1 ∧ g2 ≠ g1 ∧ g3 ≠ g1 ∧ w.heap.size ≤ g3 by omega)
  clear i1 i2 i3 b3 hg1 hg2 hg3
  go_loopw [5] (fun v w' => ∃ i : Nat, i ≤ 16 ∧ v = .int .i64 (i : Int) ∧ Aside0 (To w3 w' g1 .i64 (zS (· - ·) a b i))) (fun v _ => 16 - (intOf v).toNat)
  case atStart => exact ⟨0, by omega, rfl, ⟨To.refl I1.out⟩⟩
  case round =>
    obtain ⟨i, hi, rfl, HT⟩ := hrel
    obtain ⟨x, hx⟩ : ∃ y_, y_ = zS (· - ·) a b i := ⟨_, rfl⟩
    rw [← hx] at HT
    have Lx := Aside0.mk (show x.length = 16 by rw [hx, len_zS, HA.out.1])
    have Q0 := Aside0.mk hx
    by_cases h16 : i < 16
    · have i0 : (i : Int) < 16 := by omega
      have e1 : rd x (i : Int) = rd a (i : Int) := by rw [hx, rd_nat, zS_getD _ a b HA.out.1 i (by omega), if_neg (by omega), rd_nat]
      have b1 := HA.out.2 i
      have b2 := HB.out.2 i
      rw [← rd_nat] at b1 b2
      rw [← e1] at b1
      have k1 : wrap64 (rd x (i : Int) - rd b (i : Int)) = rd x (i : Int) - rd b (i : Int) := wrap_id (by omega) (by omega)
      clear b1 b2 e1 hx
      have ix := HT.out.is I1.out
      have H1 := ix.cell i (by rw [Lx.out]; omega)
      have F1 := ix.free i
      have H2 := (HT.out.other NG.out.2.1 I2.out).cell i (by rw [HB.out.1]; omega)
      go_wp2
      go_still_tail 9, (by kernel_rfl)
      change wpList _ _ _ _ _ wr.drew
      go_wp2_with fail
      try rw [k1]
      rw [put_set ix]
      have e3 : zS (· - ·) a b (i + 1) = x.set i (rd x (i : Int) - rd b (i : Int)) := by rw [zS, ← Q0.out]
      rw [← e3]
      have t3 := HT.out.put_dr (zs := zS (· - ·) a b (i + 1))
      exact ⟨⟨i + 1, by omega, rfl, ⟨t3⟩⟩, by simp only [intOf]; omega⟩
    · obtain rfl : i = 16 := by omega
      rw [show ((16 : Nat) : Int) = 16 from rfl]
      have hq : x = minusF a b := by rw [hx, zS_full _ rfl a b HA.out.1 HB.out.1]; rfl
      rw [hq] at HT Lx
      clear h16 hx hq Q0
      have J1 := Aside0.mk (HT.out.is I1.out)
      have J3 := Aside0.mk (HT.out.other NG.out.2.2.1 I3.out)
      have BZ := Aside0.mk (To.below B3.out HT.out NG.out.1)
      have HI1 := Aside0.mk (show (Try.prog.info? 40).map (·.size) = some (minusF a b).length by rw [Lx.out]; exact info_n)
      have HLL := Aside0.mk (show z16.length = (minusF a b).length by rw [Lx.out]; rfl)
      clear HT
      go_wp2_with (first | (with_reducible refine loadL_is (b := g1) (e := 40) (k := .i64) (xs := minusF a b) 40 2 16 (.tmp 2) rfl rfl rfl J1.out Try.underlying40 HI1.out ?_) | (with_reducible refine storeL_is (b := g3) (e := 40) (k := .i64) (xs := z16) 40 (.tmp 4) (.tmp 19) rfl rfl rfl (minusF a b) rfl rfl J3.out HLL.out HI1.out ?_))
      refine bodyPost_ret (v := ag (minusF a b)) (results_is (b := g3) (e := 40) Try.results20 _ rfl (put_heap J3.out) Try.underlying40 HI1.out) rfl ?_
      exact ⟨rfl, below_put BZ.out NG.out.2.2.2⟩
end Go.Proofs.Ytlpoolcdoecodaa.Cv
