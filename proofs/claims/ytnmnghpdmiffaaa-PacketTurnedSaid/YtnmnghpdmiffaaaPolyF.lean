/-
  poly.reduced, walked.
-/
import Derived.Test.YtnmnghpdmiffaaaPolyC
import Derived.Deep.Cut
namespace Go.Proofs.Ytnmnghpdmiffaaa.Pol
open Go.RowKit Go.Proofs.YtnmnghpdmiffaaaW.PrintWords Go.Proofs.Ytnmnghpdmiffaaa.Arr
set_option maxRecDepth 100000

def upS (xs : List Int) (i : Nat) : List Int := maskF (addAt xs (i + 1) (rd xs i / 67108864)) i
def upN (xs : List Int) : Nat → List Int
  | 0 => xs
  | i + 1 => upS (upN xs i) i
theorem len_upN (xs : List Int) : ∀ i, (upN xs i).length = xs.length
  | 0 => rfl
  | i + 1 => by rw [upN, upS, len_maskF, len_addAt, len_upN xs i]
def twice (h : List Int) : List Int := carryF (carryF h)
def lessF (h : List Int) : List Int := upN (addAt (twice h) 0 5) 4
def finF (h : List Int) : List Int := if rd (lessF h) 4 / 67108864 > 0 then maskF (lessF h) 4 else twice h
def loF (h : List Int) : Int := Go.bits .or .u64 (Go.bits .or .u64 (rd h 0) (IntKind.u64.wrap (rd h 1 * 67108864))) (IntKind.u64.wrap (rd h 2 * 4503599627370496))
def hiF (h : List Int) : Int := Go.bits .or .u64 (Go.bits .or .u64 (rd h 2 / 4096) (IntKind.u64.wrap (rd h 3 * 16384))) (IntKind.u64.wrap (rd h 4 * 1099511627776))
theorem len_twice (h : List Int) : (twice h).length = h.length := by rw [twice, len_carryF, len_carryF]

set_option maxHeartbeats 2000000 in
set_option maxRecDepth 100000 in
theorem reduced_calls (h : List Int) (w : World) (hl : h.length = 5) :
    Calls Try.prog 74 #[.agg (nums .u64 h).toArray] w fun e w' => e = .returned (.tuple #[.int .u64 (loF (finF h)), .int .u64 (hiF (finF h))]) ∧ Below w.heap.size w w' := by
  have L := Aside0.mk hl
  clear hl
  go_enter Try.func74, Try.ntmps74
  go_upto_region 1 with (fail)
  change Code.wp _ _ _ _ (w.alloc (.cells (nums .u64 h).toArray 99))
  have i1 := new_is w 99 .u64 h
  have B1 : Below w.heap.size w (w.alloc (.cells (nums .u64 h).toArray 99)) := (Below.refl _ _).alloc (Nat.le_refl _) _
  generalize w.alloc (.cells (nums .u64 h).toArray 99) = w1 at i1 B1 ⊢
  obtain ⟨b, hb⟩ : ∃ b, b = w.heap.size := ⟨_, rfl⟩
  rw [← hb] at i1 B1 ⊢
  have BB := Aside0.mk B1
  have HB := Aside0.mk hb
  clear B1 hb
  go_wp2_with fail
  refine (carry_calls 99 h b _ i1 L.out).mono ?_
  rintro e w2 ⟨rfl, t1⟩
  have LA := Aside0.mk (show (carryF h).length = 5 by rw [len_carryF, L.out])
  have i2 := t1.is i1
  have B2 := Aside0.mk (To.below BB.out t1 (Nat.le_refl _))
  clear t1 i1
  go_wp2_with fail
  refine (carry_calls 99 (carryF h) b _ i2 LA.out).mono ?_
  rintro e w3 ⟨rfl, t2⟩
  have i3 := t2.is i2
  have B3 := Aside0.mk (To.below B2.out t2 (Nat.le_refl _))
  clear t2 i2
  obtain ⟨h2, e2⟩ : ∃ u, u = twice h := ⟨_, rfl⟩
  rw [show carryF (carryF h) = h2 from e2.symm] at i3
  have L2 := Aside0.mk (show h2.length = 5 by rw [e2, len_twice, L.out])
  have E2 := Aside0.mk e2
  clear e2
  have I3 := Aside0.mk i3
  have HI5 := Aside0.mk (show (Try.prog.info? 99).map (·.size) = some h2.length by rw [L2.out]; exact info_a5)
  have HLL := Aside0.mk (show ([0, 0, 0, 0, 0] : List Int).length = h2.length by rw [L2.out]; rfl)
  have N4 := Aside0.mk (show Is (w3.alloc (.cells #[.int .u64 0, .int .u64 0, .int .u64 0, .int .u64 0, .int .u64 0] 99)) w3.heap.size 99 .u64 [0, 0, 0, 0, 0] from new_is w3 99 .u64 [0, 0, 0, 0, 0])
  clear i3
  go_upto_region 4 with (first | (with_reducible refine loadL_is (b := b) (e := 99) (k := .u64) (xs := h2) 99 28 5 (.tmp 1) rfl rfl rfl I3.out Try.underlying99 HI5.out ?_) | (with_reducible refine storeL_is (b := w3.heap.size) (e := 99) (k := .u64) (xs := [0, 0, 0, 0, 0]) 99 (.tmp 4) (.tmp 8) rfl rfl rfl h2 rfl rfl N4.out HLL.out HI5.out ?_))
  change Code.wp _ _ _ _ (put (w3.alloc (.cells (nums .u64 [0, 0, 0, 0, 0]).toArray 99)) w3.heap.size .u64 h2)
  have ig0 := put_heap (ys := h2) N4.out
  have hlt := I3.out.lt
  have ib0 : Is (put (w3.alloc (.cells (nums .u64 [0, 0, 0, 0, 0]).toArray 99)) w3.heap.size .u64 h2) b 99 .u64 h2 := (put_other b (by omega)).trans ((I3.out).below ((Below.refl _ _).alloc (Nat.le_refl _) _))
  have B4 := below_put (b := w3.heap.size) (k := .u64) (ys := h2) (B3.out.alloc (Nat.le_of_lt hlt) (.cells (nums .u64 [0, 0, 0, 0, 0]).toArray 99)) (Nat.le_of_lt hlt)
  replace ig0 : Is (put (w3.alloc (.cells (nums .u64 [0, 0, 0, 0, 0]).toArray 99)) w3.heap.size .u64 h2) w3.heap.size 99 .u64 h2 := ig0
  generalize put (w3.alloc (.cells (nums .u64 [0, 0, 0, 0, 0]).toArray 99)) w3.heap.size .u64 h2 = w0 at ig0 ib0 B4 ⊢
  obtain ⟨g, hg⟩ : ∃ g, g = w3.heap.size := ⟨_, rfl⟩
  rw [← hg] at ig0 hlt ⊢
  have B0 := Aside0.mk B4
  have hbg : b ≠ g := by omega
  have HBG := Aside0.mk (Nat.le_of_lt hlt)
  clear B4 hlt hg N4 HI5 HLL I3 B3
  obtain ⟨xg0, q0⟩ : ∃ u, u = h2 := ⟨_, rfl⟩
  rw [← q0] at ig0
  have Lg0 := Aside0.mk (show xg0.length = 5 by rw [q0, L2.out])
  have Q0 := Aside0.mk q0
  clear q0
  have H1 := ig0.cell 0 (by rw [Lg0.out]; omega)
  have F1 := ig0.free (0)
  go_wp2_with fail
  rw [put_set ig0]
  change Code.wp _ _ _ _ (put w0 g .u64 (addAt xg0 0 5))
  have t1 := (To.refl ig0).put_d0 (zs := addAt xg0 0 5)
  generalize (put w0 g .u64 (addAt xg0 0 5)) = w1 at t1 ⊢
  obtain ⟨xg1, q1⟩ : ∃ u, u = addAt xg0 0 5 := ⟨_, rfl⟩
  rw [← q1] at t1
  have Lg1 := Aside0.mk (show xg1.length = 5 by rw [q1, len_addAt, Lg0.out])
  have Q1 := Aside0.mk q1
  have ig1 := t1.is ig0
  clear q1 H1 F1
  have ib1 := t1.other hbg ib0
  have B1 := Aside0.mk (To.below B0.out t1 HBG.out)
  clear B0 t1
  obtain ⟨g1, eg⟩ : ∃ u, u = xg1 := ⟨_, rfl⟩
  rw [← eg] at ig1
  have LG := Aside0.mk (show g1.length = 5 by rw [eg, Lg1.out])
  have EG := Aside0.mk eg
  clear eg
  have IB1 := Aside0.mk ib1
  have IG1 := Aside0.mk ig1
  clear ib1 ig1
  go_loopw [13] (fun v w' => ∃ i : Nat, i ≤ 4 ∧ v = .int .i64 i ∧ Aside0 (To w1 w' g .u64 (upN g1 i))) (fun v _ => 4 - (intOf v).toNat)
  case atStart => exact ⟨0, by omega, rfl, ⟨To.refl IG1.out⟩⟩
  case round =>
    obtain ⟨i, hi, rfl, T0⟩ := hrel
    have jg0 := T0.out.is IG1.out
    obtain ⟨xj0, q0⟩ : ∃ u, u = upN g1 i := ⟨_, rfl⟩
    rw [← q0] at jg0 T0
    have Lj0 := Aside0.mk (show xj0.length = 5 by rw [q0, len_upN, LG.out])
    have R0 := Aside0.mk q0
    clear q0
    by_cases h4 : i < 4
    · have h0 : (i : Int) < 4 := by omega
      have H1 := jg0.cell (i + 1) (by rw [Lj0.out]; omega)
      have H2 := jg0.cell i (by rw [Lj0.out]; omega)
      have F1 := jg0.free (i + 1)
      have W1 : IntKind.i64.wrap ((i : Int) + 1) = (i : Int) + 1 := by simp [IntKind.wrap, IntKind.bits, IntKind.signed]; omega
      have W2 : (0 : Int) ≤ (i : Int) + 1 := by omega
      have W3 : ((i : Int) + 1).toNat = i + 1 := by omega
      have W4 : (i : Int) + 1 < 5 := by omega
      have W5 : (i : Int) < 5 := by omega
      go_wp2
      go_still_tail 10, (by kernel_rfl)
      change wpList _ _ _ _ _ wr.drew
      go_upto_region 9 with (fail)
      rw [put_set jg0]
      change Code.wp _ _ _ _ (put wr g .u64 (addAt xj0 (i + 1) (rd xj0 i / 67108864))).drew
      have t1 := (To.refl jg0).put_dr (zs := addAt xj0 (i + 1) (rd xj0 i / 67108864))
      generalize (put wr g .u64 (addAt xj0 (i + 1) (rd xj0 i / 67108864))).drew = w1 at t1 ⊢
      clear W1 W2 W3 W4
      obtain ⟨xj1, q1⟩ : ∃ u, u = addAt xj0 (i + 1) (rd xj0 i / 67108864) := ⟨_, rfl⟩
      rw [← q1] at t1
      have Lj1 := Aside0.mk (show xj1.length = 5 by rw [q1, len_addAt, Lj0.out])
      have Q1' := Aside0.mk q1
      have ij1 := t1.is jg0
      clear q1 H1 H2 F1
      have H3 := ij1.cell i (by rw [Lj1.out]; omega)
      have F1 := ij1.free (i)
      go_wp2_with fail
      rw [put_set ij1]
      have t2 := (To.refl ij1).put_d0 (zs := maskF xj1 i)
      have e2 : upN g1 (i + 1) = maskF xj1 i := by rw [upN, ← R0.out, upS, ← Q1'.out]
      have t3 := (T0.out.trans t1).trans t2
      rw [← e2] at t3
      refine ⟨⟨i + 1, by omega, by go_num, ⟨?_⟩⟩, by simp [intOf]; omega⟩
      rw [e2] at t3 ⊢; exact t3
    · obtain rfl : i = 4 := by omega
      rw [show ((4 : Nat) : Int) = 4 from rfl]
      clear h4
      have ib4 := T0.out.other hbg IB1.out
      have B5 := Aside0.mk (To.below B1.out T0.out HBG.out)
      have E4 := Aside0.mk (show xj0 = lessF h by rw [R0.out, EG.out, Q1.out, Q0.out, E2.out, lessF])
      have G4 := jg0.cell 4 (by rw [Lj0.out]; omega)
      have F4 := jg0.free 4
      by_cases hc : rd xj0 4 / 67108864 > 0
      · have hf := Aside0.mk (show finF h = maskF xj0 4 by rw [finF, ← E4.out, if_pos hc])
        have LM := Aside0.mk (show (maskF xj0 4).length = 5 by rw [len_maskF, Lj0.out])
        go_upto_region 13 with (fail)
        rw [put_set jg0]
        change Code.wp _ _ _ _ (put wr g .u64 (maskF xj0 4))
        have t5 := (To.refl jg0).put_d0 (zs := maskF xj0 4)
        generalize put wr g .u64 (maskF xj0 4) = w5 at t5 ⊢
        have IG5 := Aside0.mk (t5.is jg0)
        have IB5 := Aside0.mk (t5.other hbg ib4)
        have B6 := Aside0.mk (To.below B5.out t5 HBG.out)
        have HI5 := Aside0.mk (show (Try.prog.info? 99).map (·.size) = some (maskF xj0 4).length by rw [LM.out]; exact info_a5)
        have HLL := Aside0.mk (show h2.length = (maskF xj0 4).length by rw [LM.out, L2.out])
        clear t5 G4 F4 jg0 ib4
        go_upto_region 14 with (first | (with_reducible refine loadL_is (b := g) (e := 99) (k := .u64) (xs := maskF xj0 4) 99 28 5 (.tmp 4) rfl rfl rfl IG5.out Try.underlying99 HI5.out ?_) | (with_reducible refine storeL_is (b := b) (e := 99) (k := .u64) (xs := h2) 99 (.tmp 1) (.tmp 40) rfl rfl rfl (maskF xj0 4) rfl rfl IB5.out HLL.out HI5.out ?_))
        have ib6 := put_heap (ys := maskF xj0 4) IB5.out
        have B7 := Aside0.mk (below_put (b := b) (k := .u64) (ys := maskF xj0 4) B6.out (Nat.le_refl _))
        obtain ⟨xf, ef⟩ : ∃ u, u = maskF xj0 4 := ⟨_, rfl⟩
        rw [← ef] at ib6 LM B7 ⊢
        generalize put w5 b .u64 xf = w7 at ib6 B7 ⊢
        have EF := Aside0.mk (show finF h = xf by rw [hf.out, ef])
        clear ef hf IG5 IB5 B6 HI5 HLL
        have G0 := ib6.cell 0 (by rw [LM.out]; omega)
        have G1 := ib6.cell 1 (by rw [LM.out]; omega)
        have G2 := ib6.cell 2 (by rw [LM.out]; omega)
        have G3 := ib6.cell 3 (by rw [LM.out]; omega)
        have G4 := ib6.cell 4 (by rw [LM.out]; omega)
        go_quiet (fail)
        go_wp2_with fail
        go_ret2
        exact ⟨by rw [EF.out]; rfl, by rw [← HB.out]; exact pw_below_drewN B7.out _⟩
      · have EF := Aside0.mk (show finF h = h2 by rw [finF, ← E4.out, if_neg hc, E2.out])
        have hc' : ¬ (rd xj0 4 / 67108864 > 0) := hc
        have G0 := ib4.cell 0 (by rw [L2.out]; omega)
        have G1 := ib4.cell 1 (by rw [L2.out]; omega)
        have G2 := ib4.cell 2 (by rw [L2.out]; omega)
        have G3 := ib4.cell 3 (by rw [L2.out]; omega)
        have G5 := ib4.cell 4 (by rw [L2.out]; omega)
        go_upto_region 14 with (fail)
        clear G4 F4 jg0 hc hc'
        go_quiet (fail)
        go_wp2_with fail
        go_ret2
        exact ⟨by rw [EF.out]; rfl, by rw [← HB.out]; exact pw_below_drewN B5.out _⟩
end Go.Proofs.Ytnmnghpdmiffaaa.Pol
