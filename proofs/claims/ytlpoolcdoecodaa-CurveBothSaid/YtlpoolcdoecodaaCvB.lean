/-
  plus and minus, walked; the reference's add and sub.
-/
import Derived.Test.YtlpoolcdoecodaaCvA
namespace Go.Proofs.Ytlpoolcdoecodaa.Cv
open Go.RowKit Go.Proofs.YtlpoolcdoecodaaW.PrintWords Go.Proofs.YtlpoolcdoecodaaW.PrintLast Go.Proofs.YtlpoolcdoecodaaW.PrintMore Go.Proofs.Ytlpoolcdoecodaa.Arr
set_option linter.unusedVariables false
set_option maxHeartbeats 8000000
set_option maxRecDepth 100000
/-- A number's limbs as a value. -/
abbrev ag (l : List Int) : Value := .agg (nums .i64 l).toArray
def z16 : List Int := [0, 0, 0, 0, 0, 0, 0, 0, 0, 0, 0, 0, 0, 0, 0, 0]
theorem info_f : (Try.prog.info? 48).map (·.size) = some 16 := by kernel_rfl
theorem info_n : (Try.prog.info? 40).map (·.size) = some 16 := by kernel_rfl
/-- Three new arrays. -/
theorem three (w : World) (e1 e2 e3 : TypeId) (a b z : List Int) (W : World) (hW : W = ((w.alloc (.cells (nums .i64 a).toArray e1)).alloc (.cells (nums .i64 b).toArray e2)).alloc (.cells (nums .i64 z).toArray e3)) :
    Is W w.heap.size e1 .i64 a ∧ Is W (w.heap.size + 1) e2 .i64 b ∧ Is W (w.heap.size + 1 + 1) e3 .i64 z ∧ Below w.heap.size w W := by
  subst hW
  have h1 : Is (w.alloc (.cells (nums .i64 a).toArray e1)) w.heap.size e1 .i64 a := new_is w e1 .i64 a
  have b1 : Below w.heap.size w (w.alloc (.cells (nums .i64 a).toArray e1)) := (Below.refl _ _).alloc (Nat.le_refl _) _
  generalize hw1 : w.alloc (.cells (nums .i64 a).toArray e1) = w1 at h1 b1 ⊢
  have s1 : w1.heap.size = w.heap.size + 1 := by rw [← hw1, World.size_alloc]
  have h2 : Is (w1.alloc (.cells (nums .i64 b).toArray e2)) w1.heap.size e2 .i64 b := new_is w1 e2 .i64 b
  have b2 : Below w1.heap.size w1 (w1.alloc (.cells (nums .i64 b).toArray e2)) := (Below.refl _ _).alloc (Nat.le_refl _) _
  generalize hw2 : w1.alloc (.cells (nums .i64 b).toArray e2) = w2 at h2 b2 ⊢
  have s2 : w2.heap.size = w.heap.size + 1 + 1 := by rw [← hw2, World.size_alloc, s1]
  have h3 : Is (w2.alloc (.cells (nums .i64 z).toArray e3)) w2.heap.size e3 .i64 z := new_is w2 e3 .i64 z
  have b3 : Below w2.heap.size w2 (w2.alloc (.cells (nums .i64 z).toArray e3)) := (Below.refl _ _).alloc (Nat.le_refl _) _
  rw [s1] at h2
  rw [s2] at h3
  exact ⟨(h1.below b2).below b3, h2.below b3, h3, below_step (below_step b1 b2) b3⟩
theorem two (w : World) (e1 e2 : TypeId) (a z : List Int) (W : World) (hW : W = (w.alloc (.cells (nums .i64 a).toArray e1)).alloc (.cells (nums .i64 z).toArray e2)) :
    Is W w.heap.size e1 .i64 a ∧ Is W (w.heap.size + 1) e2 .i64 z ∧ Below w.heap.size w W := by
  subst hW
  have h1 : Is (w.alloc (.cells (nums .i64 a).toArray e1)) w.heap.size e1 .i64 a := new_is w e1 .i64 a
  have b1 : Below w.heap.size w (w.alloc (.cells (nums .i64 a).toArray e1)) := (Below.refl _ _).alloc (Nat.le_refl _) _
  generalize hw1 : w.alloc (.cells (nums .i64 a).toArray e1) = w1 at h1 b1 ⊢
  have s1 : w1.heap.size = w.heap.size + 1 := by rw [← hw1, World.size_alloc]
  have h2 : Is (w1.alloc (.cells (nums .i64 z).toArray e2)) w1.heap.size e2 .i64 z := new_is w1 e2 .i64 z
  have b2 : Below w1.heap.size w1 (w1.alloc (.cells (nums .i64 z).toArray e2)) := (Below.refl _ _).alloc (Nat.le_refl _) _
  rw [s1] at h2
  exact ⟨h1.below b2, h2, below_step b1 b2⟩
/-- The first entries by f, those behind them as they were. -/
def zS (f : Int → Int → Int) (a b : List Int) : Nat → List Int
  | 0 => a
  | i + 1 => (zS f a b i).set i (f (rd (zS f a b i) (i : Int)) (rd b (i : Int)))
theorem len_zS (f : Int → Int → Int) (a b : List Int) : ∀ i, (zS f a b i).length = a.length
  | 0 => rfl
  | i + 1 => by rw [zS, List.length_set, len_zS f a b i]
theorem zS_getD (f : Int → Int → Int) (a b : List Int) (ha : a.length = 16) : ∀ i, i ≤ 16 → ∀ j, (zS f a b i).getD j 0 = if j < i then f (a.getD j 0) (b.getD j 0) else a.getD j 0
  | 0, _, j => by rw [if_neg (by omega)]; rfl
  | i + 1, h, j => by
    have ih := zS_getD f a b ha i (by omega)
    rw [zS, getD_set _ _ _ _ (by rw [len_zS, ha]; omega), rd_nat, rd_nat, ih i, if_neg (show ¬ i < i by omega), ih j]
    by_cases hij : i = j
    · subst hij; rw [if_pos rfl, if_pos (by omega)]
    · rw [if_neg hij]
      by_cases hj : j < i
      · rw [if_pos hj, if_pos (by omega)]
      · rw [if_neg hj, if_neg (by omega)]
theorem ext16 {a b : List Int} (ha : a.length = 16) (hb : b.length = 16) (h : ∀ j, j < 16 → a.getD j 0 = b.getD j 0) : a = b := by
  apply List.ext_getElem?
  intro j
  by_cases hj : j < 16
  · have e := h j hj
    rw [List.getD_eq_getElem?_getD, List.getD_eq_getElem?_getD, List.getElem?_eq_getElem (by omega), List.getElem?_eq_getElem (by omega)] at e
    rw [List.getElem?_eq_getElem (by omega), List.getElem?_eq_getElem (by omega)]
    exact congrArg some e
  · rw [List.getElem?_eq_none (by omega), List.getElem?_eq_none (by omega)]
theorem zS_full (f : Int → Int → Int) (h0 : f 0 0 = 0) (a b : List Int) (ha : a.length = 16) (hb : b.length = 16) : zS f a b 16 = List.zipWith f a b :=
  ext16 (by rw [len_zS, ha]) (by simp [ha, hb]) (fun j hj => by rw [zS_getD f a b ha 16 (Nat.le_refl _), if_pos hj, zip_getD f h0 a b j (by rw [ha, hb])])
theorem plus_calls (a b : List Int) (ha : a.length = 16) (hb : b.length = 16) (ba : Bd 65573 a) (bb : Bd 65573 b) (w : World) :
    Calls Try.prog 26 #[ag a, ag b] w fun e w' => e = .returned (ag (plusF a b)) ∧ Below w.heap.size w w' := by
  have HA := Aside0.mk (And.intro ha ba)
  have HB := Aside0.mk (And.intro hb bb)
  clear ha hb ba bb
  go_enter Try.func26, Try.ntmps26
  go_wp2_with fail
  change Code.wp _ _ _ _ (((w.alloc (.cells (nums .i64 a).toArray 48)).alloc (.cells (nums .i64 b).toArray 48)).alloc (.cells (nums .i64 z16).toArray 48))
  obtain ⟨i1, i2, i3, b3⟩ := three w 48 48 48 a b z16 _ rfl
  generalize ((w.alloc (.cells (nums .i64 a).toArray 48)).alloc (.cells (nums .i64 b).toArray 48)).alloc (.cells (nums .i64 z16).toArray 48) = w3 at i1 i2 i3 b3 ⊢
  obtain ⟨g1, hg1⟩ : ∃ g, g = w.heap.size := ⟨_, rfl⟩
  obtain ⟨g2, hg2⟩ : ∃ g, g = w.heap.size + 1 := ⟨_, rfl⟩
  obtain ⟨g3, hg3⟩ : ∃ g, g = w.heap.size + 1 + 1 := ⟨_, rfl⟩
  rw [← hg3] at i3 ⊢
  rw [← hg2] at i2 ⊢
  rw [← hg1] at i1 ⊢
  have I1 := Aside0.mk i1
  have I2 := Aside0.mk i2
  have I3 := Aside0.mk i3
  have B3 := Aside0.mk b3
  have NG := Aside0.mk (show w.heap.size ≤ g1 ∧ g2 ≠ g1 ∧ g3 ≠ g1 ∧ w.heap.size ≤ g3 by omega)
  clear i1 i2 i3 b3 hg1 hg2 hg3
  go_loopw [6] (fun v w' => ∃ i : Nat, i ≤ 16 ∧ v = .int .i64 (i : Int) ∧ Aside0 (To w3 w' g1 .i64 (zS (· + ·) a b i))) (fun v _ => 16 - (intOf v).toNat)
  case atStart => exact ⟨0, by omega, rfl, ⟨To.refl I1.out⟩⟩
  case round =>
    obtain ⟨i, hi, rfl, HT⟩ := hrel
    obtain ⟨x, hx⟩ : ∃ y_, y_ = zS (· + ·) a b i := ⟨_, rfl⟩
    rw [← hx] at HT
    have Lx := Aside0.mk (show x.length = 16 by rw [hx, len_zS, HA.out.1])
    have Q0 := Aside0.mk hx
    by_cases h16 : i < 16
    · have i0 : (i : Int) < 16 := by omega
      have e1 : rd x (i : Int) = rd a (i : Int) := by rw [hx, rd_nat, zS_getD _ a b HA.out.1 i (by omega), if_neg (by omega), rd_nat]
      have b1 := HA.out.2 i
      have b2 := HB.out.2 i
      rw [← rd_nat] at b1 b2
      rw [← e1] at b1
      have k1 : wrap64 (rd x (i : Int) + rd b (i : Int)) = rd x (i : Int) + rd b (i : Int) := wrap_id (by omega) (by omega)
      clear b1 b2 e1 hx
      have ix := HT.out.is I1.out
      have H1 := ix.cell i (by rw [Lx.out]; omega)
      have F1 := ix.free i
      have H2 := (HT.out.other NG.out.2.1 I2.out).cell i (by rw [HB.out.1]; omega)
      go_wp2
      go_still_tail 8, (by kernel_rfl)
      change wpList _ _ _ _ _ wr.drew
      go_wp2_with fail
      try rw [k1]
      rw [put_set ix]
      have e3 : zS (· + ·) a b (i + 1) = x.set i (rd x (i : Int) + rd b (i : Int)) := by rw [zS, ← Q0.out]
      rw [← e3]
      have t3 := HT.out.put_dr (zs := zS (· + ·) a b (i + 1))
      exact ⟨⟨i + 1, by omega, rfl, ⟨t3⟩⟩, by simp only [intOf]; omega⟩
    · obtain rfl : i = 16 := by omega
      rw [show ((16 : Nat) : Int) = 16 from rfl]
      have hq : x = plusF a b := by rw [hx, zS_full _ rfl a b HA.out.1 HB.out.1]; rfl
      rw [hq] at HT Lx
      clear h16 hx hq Q0
      have J1 := Aside0.mk (HT.out.is I1.out)
      have J3 := Aside0.mk (HT.out.other NG.out.2.2.1 I3.out)
      have BZ := Aside0.mk (To.below B3.out HT.out NG.out.1)
      have HI1 := Aside0.mk (show (Try.prog.info? 48).map (·.size) = some (plusF a b).length by rw [Lx.out]; exact info_f)
      have HLL := Aside0.mk (show z16.length = (plusF a b).length by rw [Lx.out]; rfl)
      clear HT
      go_wp2_with (first | (with_reducible refine loadL_is (b := g1) (e := 48) (k := .i64) (xs := plusF a b) 48 2 16 (.tmp 2) rfl rfl rfl J1.out Try.underlying48 HI1.out ?_) | (with_reducible refine storeL_is (b := g3) (e := 48) (k := .i64) (xs := z16) 48 (.tmp 4) (.tmp 18) rfl rfl rfl (plusF a b) rfl rfl J3.out HLL.out HI1.out ?_))
      refine bodyPost_ret (v := ag (plusF a b)) (results_is (b := g3) (e := 48) Try.results26 _ rfl (put_heap J3.out) Try.underlying48 HI1.out) rfl ?_
      exact ⟨rfl, below_put BZ.out NG.out.2.2.2⟩
theorem minus_calls (a b : List Int) (ha : a.length = 16) (hb : b.length = 16) (ba : Bd 65573 a) (bb : Bd 65573 b) (w : World) :
    Calls Try.prog 27 #[ag a, ag b] w fun e w' => e = .returned (ag (minusF a b)) ∧ Below w.heap.size w w' := by
  have HA := Aside0.mk (And.intro ha ba)
  have HB := Aside0.mk (And.intro hb bb)
  clear ha hb ba bb
  go_enter Try.func27, Try.ntmps27
  go_wp2_with fail
  change Code.wp _ _ _ _ (((w.alloc (.cells (nums .i64 a).toArray 48)).alloc (.cells (nums .i64 b).toArray 48)).alloc (.cells (nums .i64 z16).toArray 48))
  obtain ⟨i1, i2, i3, b3⟩ := three w 48 48 48 a b z16 _ rfl
  generalize ((w.alloc (.cells (nums .i64 a).toArray 48)).alloc (.cells (nums .i64 b).toArray 48)).alloc (.cells (nums .i64 z16).toArray 48) = w3 at i1 i2 i3 b3 ⊢
  obtain ⟨g1, hg1⟩ : ∃ g, g = w.heap.size := ⟨_, rfl⟩
  obtain ⟨g2, hg2⟩ : ∃ g, g = w.heap.size + 1 := ⟨_, rfl⟩
  obtain ⟨g3, hg3⟩ : ∃ g, g = w.heap.size + 1 + 1 := ⟨_, rfl⟩
  rw [← hg3] at i3 ⊢
  rw [← hg2] at i2 ⊢
  rw [← hg1] at i1 ⊢
  have I1 := Aside0.mk i1
  have I2 := Aside0.mk i2
  have I3 := Aside0.mk i3
  have B3 := Aside0.mk b3
  have NG := Aside0.mk (show w.heap.size ≤ g1 ∧ g2 ≠ g1 ∧ g3 ≠ g1 ∧ w.heap.size ≤ g3 by omega)
  clear i1 i2 i3 b3 hg1 hg2 hg3
  go_loopw [6] (fun v w' => ∃ i : Nat, i ≤ 16 ∧ v = .int .i64 (i : Int) ∧ Aside0 (To w3 w' g1 .i64 (zS (· - ·) a b i))) (fun v _ => 16 - (intOf v).toNat)
  case atStart => exact ⟨0, by omega, rfl, ⟨To.refl I1.out⟩⟩
  case round =>
    obtain ⟨i, hi, rfl, HT⟩ := hrel
    obtain ⟨x, hx⟩ : ∃ y_, y_ = zS (· - ·) a b i := ⟨_, rfl⟩
    rw [← hx] at HT
    have Lx := Aside0.mk (show x.length = 16 by rw [hx, len_zS, HA.out.1])
    have Q0 := Aside0.mk hx
    by_cases h16 : i < 16
    · have i0 : (i : Int) < 16 := by omega
      have e1 : rd x (i : Int) = rd a (i : Int) := by rw [hx, rd_nat, zS_getD _ a b HA.out.1 i (by omega), if_neg (by omega), rd_nat]
      have b1 := HA.out.2 i
      have b2 := HB.out.2 i
      rw [← rd_nat] at b1 b2
      rw [← e1] at b1
      have k1 : wrap64 (rd x (i : Int) - rd b (i : Int)) = rd x (i : Int) - rd b (i : Int) := wrap_id (by omega) (by omega)
      clear b1 b2 e1 hx
      have ix := HT.out.is I1.out
      have H1 := ix.cell i (by rw [Lx.out]; omega)
      have F1 := ix.free i
      have H2 := (HT.out.other NG.out.2.1 I2.out).cell i (by rw [HB.out.1]; omega)
      go_wp2
      go_still_tail 8, (by kernel_rfl)
      change wpList _ _ _ _ _ wr.drew
      go_wp2_with fail
      try rw [k1]
      rw [put_set ix]
      have e3 : zS (· - ·) a b (i + 1) = x.set i (rd x (i : Int) - rd b (i : Int)) := by rw [zS, ← Q0.out]
      rw [← e3]
      have t3 := HT.out.put_dr (zs := zS (· - ·) a b (i + 1))
      exact ⟨⟨i + 1, by omega, rfl, ⟨t3⟩⟩, by simp only [intOf]; omega⟩
    · obtain rfl : i = 16 := by omega
      rw [show ((16 : Nat) : Int) = 16 from rfl]
      have hq : x = minusF a b := by rw [hx, zS_full _ rfl a b HA.out.1 HB.out.1]; rfl
      rw [hq] at HT Lx
      clear h16 hx hq Q0
      have J1 := Aside0.mk (HT.out.is I1.out)
      have J3 := Aside0.mk (HT.out.other NG.out.2.2.1 I3.out)
      have BZ := Aside0.mk (To.below B3.out HT.out NG.out.1)
      have HI1 := Aside0.mk (show (Try.prog.info? 48).map (·.size) = some (minusF a b).length by rw [Lx.out]; exact info_f)
      have HLL := Aside0.mk (show z16.length = (minusF a b).length by rw [Lx.out]; rfl)
      clear HT
      go_wp2_with (first | (with_reducible refine loadL_is (b := g1) (e := 48) (k := .i64) (xs := minusF a b) 48 2 16 (.tmp 2) rfl rfl rfl J1.out Try.underlying48 HI1.out ?_) | (with_reducible refine storeL_is (b := g3) (e := 48) (k := .i64) (xs := z16) 48 (.tmp 4) (.tmp 18) rfl rfl rfl (minusF a b) rfl rfl J3.out HLL.out HI1.out ?_))
      refine bodyPost_ret (v := ag (minusF a b)) (results_is (b := g3) (e := 48) Try.results27 _ rfl (put_heap J3.out) Try.underlying48 HI1.out) rfl ?_
      exact ⟨rfl, below_put BZ.out NG.out.2.2.2⟩
end Go.Proofs.Ytlpoolcdoecodaa.Cv
