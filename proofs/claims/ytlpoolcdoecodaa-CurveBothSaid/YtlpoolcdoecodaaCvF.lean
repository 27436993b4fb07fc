/-
  unpack, walked.
-/
import Derived.Test.YtlpoolcdoecodaaCvE
namespace Go.Proofs.Ytlpoolcdoecodaa.Cv
open Go.RowKit Go.Proofs.YtlpoolcdoecodaaW.PrintWords Go.Proofs.YtlpoolcdoecodaaW.PrintLast Go.Proofs.YtlpoolcdoecodaaW.PrintMore Go.Proofs.Ytlpoolcdoecodaa.Arr
set_option linter.unusedVariables false
set_option maxHeartbeats 8000000
set_option maxRecDepth 100000
theorem unpack_calls (A : Option Addr) (c : Nat) (b : List Int) (hl : b.length = 32) (hb : ∀ x ∈ b, 0 ≤ x ∧ x < 256) (w : World) (hC : (Kd.int .u8).C w A 32 b) (hc : 32 ≤ c) :
    Calls Try.prog 24 #[.slice A 32 c] w fun e w' => e = .returned (ag (unpF b)) ∧ Below w.heap.size w w' := by
  have HC := Aside0.mk hC
  have HB := Aside0.mk (show ∀ j, 0 ≤ b.getD j 0 ∧ b.getD j 0 < 256 from fun j => by
    rw [List.getD_eq_getElem?_getD]
    rcases hj : b[j]? with _ | y
    · simp
    · simpa using hb y (List.mem_of_getElem? hj))
  have HL := Aside0.mk (And.intro hl hc)
  clear hC hc hb hl
  go_enter Try.func24, Try.ntmps24
  go_wp2_with fail
  change Code.wp _ _ _ _ ((w.alloc (.cells (nums .i64 z16).toArray 48)).alloc (.cells (nums .i64 z16).toArray 48))
  obtain ⟨i1, i2, b2⟩ := two w 48 48 z16 z16 _ rfl
  generalize (w.alloc (.cells (nums .i64 z16).toArray 48)).alloc (.cells (nums .i64 z16).toArray 48) = w2 at i1 i2 b2 ⊢
  obtain ⟨g1, hg1⟩ : ∃ g, g = w.heap.size := ⟨_, rfl⟩
  obtain ⟨g2, hg2⟩ : ∃ g, g = w.heap.size + 1 := ⟨_, rfl⟩
  try rw [← hg2] at i2 ⊢
  try rw [← hg1] at i1 ⊢
  have I1 := Aside0.mk i1
  have I2 := Aside0.mk i2
  have B2 := Aside0.mk b2
  have NG := Aside0.mk (show w.heap.size ≤ g1 ∧ w.heap.size ≤ g2 ∧ g1 ≠ g2 by omega)
  clear i1 i2 b2 hg1 hg2
  go_loopw [5] (fun v w' => ∃ i : Nat, i ≤ 16 ∧ v = .int .i64 (i : Int) ∧ Aside0 (To w2 w' g2 .i64 (fillF (unpE b) 16 i))) (fun v _ => 16 - (intOf v).toNat)
  case atStart => exact ⟨0, by omega, rfl, ⟨by rw [fillF_zero]; exact To.refl I2.out⟩⟩
  case round =>
    obtain ⟨i, hi, rfl, HT⟩ := hrel
    by_cases h16 : i < 16
    · have i0 : (i : Int) < 16 := by omega
      obtain ⟨x, hx⟩ : ∃ y_, y_ = fillF (unpE b) 16 i := ⟨_, rfl⟩
      rw [← hx] at HT
      have Q0 := Aside0.mk hx
      have Lx := Aside0.mk (show x.length = 16 by rw [hx, len_fillF _ _ _ hi])
      have q1 : wrap64 (2 * (i : Int)) = 2 * (i : Int) := wrap_id (by omega) (by omega)
      have q2 : IntKind.i64.wrap (2 * (i : Int)) = 2 * (i : Int) := by rw [i64_w, q1]
      have q3 : wrap64 (2 * (i : Int) + 1) = 2 * (i : Int) + 1 := wrap_id (by omega) (by omega)
      have q4 : IntKind.i64.wrap (2 * (i : Int) + 1) = 2 * (i : Int) + 1 := by rw [i64_w, q3]
      have p0 : (0 : Int) ≤ 2 * (i : Int) := by omega
      have p1 : (2 * (i : Int)).toNat = 2 * i := by omega
      have p2 : 2 * (i : Int) < 32 := by omega
      have p3 : (0 : Int) ≤ 2 * (i : Int) + 1 := by omega
      obtain ⟨m, hm⟩ : ∃ m : Nat, m = 2 * i + 1 := ⟨_, rfl⟩
      have p4 : (2 * (i : Int) + 1).toNat = m := by omega
      have p5 : 2 * (i : Int) + 1 < 32 := by omega
      have hCr := Kd.C_below HC.out (To.below B2.out HT.out NG.out.2.1)
      obtain ⟨ad, hA, c0⟩ := Kd.at_int hCr (2 * (i : Int)) p0 p2
      obtain ⟨ad2, hA2, c1⟩ := Kd.at_int hCr (2 * (i : Int) + 1) p3 p5
      subst hA
      obtain rfl := Option.some.inj hA2
      rw [p1] at c0
      rw [p4] at c1
      have bx := HB.out (2 * i)
      have bY := HB.out m
      obtain ⟨u, hu⟩ : ∃ u, u = rd b (2 * (i : Int)) := ⟨_, rfl⟩
      obtain ⟨v, hv⟩ : ∃ u, u = rd b (2 * (i : Int) + 1) := ⟨_, rfl⟩
      rw [← hu] at c0
      rw [← hv] at c1
      rw [show b.getD (2 * i) 0 = u by rw [hu, rd, p1]] at bx
      rw [show b.getD m 0 = v by rw [hv, rd, p4]] at bY
      have UV := Aside0.mk (show u + 256 * v = unpE b i by rw [hu, hv, rd, rd, p1, p4, unpE, hm])
      have w1 : IntKind.i64.wrap u = u := by rw [i64_w, wrap_id (by omega) (by omega)]
      have w2' : IntKind.i64.wrap v = v := by rw [i64_w, wrap_id (by omega) (by omega)]
      have w3 : wrap64 (v * 256) = v * 256 := wrap_id (by omega) (by omega)
      have OB := Aside0.mk (or_byte u v bx bY)
      clear bx bY hu hv hx hA2 hCr hm
      have ix := HT.out.is I2.out
      have fx := ix.free i
      have hxc := ix.cell i (by rw [Lx.out]; omega)
      go_wp2
      go_still_tail 17, (by kernel_rfl)
      change wpList _ _ _ _ _ wr.drew
      go_wp2_with fail
      try rw [w3]
      rw [OB.out, UV.out, put_set ix]
      have e3 : fillF (unpE b) 16 (i + 1) = x.set i (unpE b i) := by rw [Q0.out, fillF_set _ _ _ h16]
      rw [← e3]
      have t3 := HT.out.put_dr (zs := fillF (unpE b) 16 (i + 1))
      exact ⟨⟨i + 1, by omega, rfl, ⟨t3⟩⟩, by simp only [intOf]; omega⟩
    · obtain rfl : i = 16 := by omega
      rw [show ((16 : Nat) : Int) = 16 from rfl]
      rw [fillF_full] at HT
      obtain ⟨x, hx⟩ : ∃ y_, y_ = (List.range 16).map (unpE b) := ⟨_, rfl⟩
      rw [← hx] at HT
      have Lx := Aside0.mk (show x.length = 16 by rw [hx]; simp)
      have E15 := Aside0.mk (show rd x 15 = unpE b 15 by rw [hx]; rfl)
      have QX := Aside0.mk (show x.set 15 (unpE b 15 % 32768) = unpF b by rw [hx]; rfl)
      have J2 := Aside0.mk (HT.out.is I2.out)
      have J1 := Aside0.mk (HT.out.other NG.out.2.2 I1.out)
      have BZ := Aside0.mk (To.below B2.out HT.out NG.out.2.1)
      clear h16 hx HT
      have H1 := J2.out.cell 15 (by rw [Lx.out]; omega)
      rw [show ((15 : Nat) : Int) = 15 from rfl] at H1
      have F1 := J2.out.free 15
      have am := and_mask (rd x 15) 15 (by decide)
      rw [show (2 : Int) ^ 15 - 1 = 32767 from rfl, show (2 : Int) ^ 15 = 32768 from rfl] at am
      go_upto_region 8 with (fail)
      try rw [am]
      rw [E15.out, put_set J2.out]
      change Code.wp _ _ _ _ (put wr g2 .i64 (x.set 15 (unpE b 15 % 32768)))
      rw [QX.out]
      have P2 := Aside0.mk (put_heap (ys := unpF b) J2.out)
      have P1 := Aside0.mk (show Is (put wr g2 .i64 (unpF b)) g1 48 .i64 z16 from (put_other g1 NG.out.2.2).trans J1.out)
      have BP := Aside0.mk (below_put (k := .i64) (ys := unpF b) BZ.out NG.out.2.1)
      generalize put wr g2 .i64 (unpF b) = w4 at P2 P1 BP ⊢
      clear H1 F1 am J1 J2 BZ
      have LU := Aside0.mk (show (unpF b).length = 16 by simp [unpF])
      have HI1 := Aside0.mk (show (Try.prog.info? 48).map (·.size) = some (unpF b).length by rw [LU.out]; exact info_f)
      have HLL := Aside0.mk (show z16.length = (unpF b).length by rw [LU.out]; rfl)
      go_wp2_with (first | (with_reducible refine loadL_is (b := g2) (e := 48) (k := .i64) (xs := unpF b) 48 2 16 (.tmp 3) rfl rfl rfl P2.out Try.underlying48 HI1.out ?_) | (with_reducible refine storeL_is (b := g1) (e := 48) (k := .i64) (xs := z16) 48 (.tmp 2) (.tmp 30) rfl rfl rfl (unpF b) rfl rfl P1.out HLL.out HI1.out ?_))
      refine bodyPost_ret (v := ag (unpF b)) (results_is (b := g1) (e := 48) Try.results24 _ rfl (put_heap P1.out) Try.underlying48 HI1.out) rfl ?_
      exact ⟨rfl, below_put BP.out NG.out.1⟩
end Go.Proofs.Ytlpoolcdoecodaa.Cv
