/-
  poly.times, walked: what it leaves, as lists of numbers.
-/
import Derived.Test.YtnmnghpdmiffaaaPolyA2
import Derived.Test.YtnmnghpdmiffaaaPolyB
namespace Go.Proofs.Ytnmnghpdmiffaaa.Pol
open Go.RowKit Go.Proofs.YtnmnghpdmiffaaaW.PrintWords Go.Proofs.Ytnmnghpdmiffaaa.Arr
set_option maxRecDepth 100000

/-- A limb of the second number, five times where it comes back. -/
def tL (r : List Int) (i k : Nat) : Int := if i < k then IntKind.u64.wrap (rd r (((i + 5 - k) % 5 : Nat) : Int) * 5) else rd r (((i + 5 - k) % 5 : Nat) : Int)
def tS (h r : List Int) (i : Nat) (d : List Int) (k : Nat) : List Int := d.set i (IntKind.u64.wrap (rd d i + IntKind.u64.wrap (rd h k * tL r i k)))
def tK (h r : List Int) (i : Nat) (d : List Int) : Nat → List Int
  | 0 => d
  | k + 1 => tS h r i (tK h r i d k) k
def tI (h r : List Int) : Nat → List Int
  | 0 => [0, 0, 0, 0, 0]
  | i + 1 => tK h r i (tI h r i) 5
def timesF (h r : List Int) : List Int := carryF (carryF (tI h r 5))
theorem len_tS (h r : List Int) (i : Nat) (d : List Int) (k : Nat) : (tS h r i d k).length = d.length := by simp [tS]
theorem len_tK (h r : List Int) (i : Nat) (d : List Int) : ∀ k, (tK h r i d k).length = d.length
  | 0 => rfl
  | k + 1 => by rw [tK, len_tS, len_tK h r i d k]
theorem len_tI (h r : List Int) : ∀ i, (tI h r i).length = 5
  | 0 => rfl
  | i + 1 => by rw [tI, len_tK, len_tI h r i]
theorem len_carryF (h : List Int) : (carryF h).length = h.length := len_carryN h 5
theorem len_timesF (h r : List Int) : (timesF h r).length = 5 := by rw [timesF, len_carryF, len_carryF, len_tI]

set_option maxHeartbeats 2000000 in
set_option maxRecDepth 100000 in
theorem times_calls (T : TypeId) (h r : List Int) (g : Nat) (w : World) (hw : Is w g T .u64 h) (hl : h.length = 5) (hr : r.length = 5) :
    Calls Try.prog 73 #[.pointer (some ⟨g, 0, none⟩), .agg (nums .u64 r).toArray] w fun e w' => e = .returned (.tuple #[]) ∧ Into w w' g .u64 (timesF h r) := by
  have L := Aside0.mk hl
  have LR := Aside0.mk hr
  have hg := hw.lt
  clear hl hr
  go_enter Try.func73, Try.ntmps73
  go_wp2
  change Code.wp _ _ _ _ ((w.alloc (.cells (nums .u64 r).toArray 99)).alloc (.cells (nums .u64 [0, 0, 0, 0, 0]).toArray 99))
  obtain ⟨bR, hbR⟩ : ∃ b, b = w.heap.size := ⟨_, rfl⟩
  obtain ⟨bD, hbD⟩ : ∃ b, b = w.heap.size + 1 := ⟨_, rfl⟩
  have ir := (new_is w 99 .u64 r)
  have B1 : Below w.heap.size w (w.alloc (.cells (nums .u64 r).toArray 99)) := (Below.refl _ _).alloc (Nat.le_refl _) _
  have S1 : (w.alloc (.cells (nums .u64 r).toArray 99)).heap.size = w.heap.size + 1 := by simp
  generalize w.alloc (.cells (nums .u64 r).toArray 99) = w1 at ir B1 S1 ⊢
  have id := new_is w1 99 .u64 [0, 0, 0, 0, 0]
  have B2 : Below w1.heap.size w1 (w1.alloc (.cells (nums .u64 [0, 0, 0, 0, 0]).toArray 99)) := (Below.refl _ _).alloc (Nat.le_refl _) _
  generalize w1.alloc (.cells (nums .u64 [0, 0, 0, 0, 0]).toArray 99) = w2 at id B2 ⊢
  have ir2 := ir.below B2
  have ih2 := (hw.below B1).below B2
  rw [S1, ← hbD] at id
  rw [← hbR] at ir2
  have BB := Aside0.mk (B1.trans (B2.mono (by omega)))
  rw [← hbD, ← hbR]
  have n1 : g ≠ bD := by omega
  have n2 : bR ≠ bD := by omega
  have HS := Aside0.mk (show w.heap.size ≤ bD ∧ g < w.heap.size by omega)
  clear hbR hbD S1 B1 B2 ir hg
  go_loopw [8] (fun v w' => ∃ i : Nat, i ≤ 5 ∧ v = .int .i64 i ∧ To w2 w' bD .u64 (tI h r i)) (fun v _ => 5 - (intOf v).toNat)
  case atStart => exact ⟨0, by omega, rfl, To.refl id⟩
  case round =>
    obtain ⟨i, hi, rfl, t0⟩ := hrel
    by_cases h5 : i < 5
    · have h0 : (i : Int) < 5 := by omega
      have LI := Aside0.mk (len_tI h r i)
      obtain ⟨d0, e0⟩ : ∃ u, u = tI h r i := ⟨_, rfl⟩
      rw [← e0] at LI t0
      have E0 := Aside0.mk e0
      clear e0
      go_wp2
      obtain ⟨wo, rfl⟩ : ∃ wo : World, wo = wr := ⟨_, rfl⟩
      go_loopw [11] (fun v w' => ∃ k : Nat, k ≤ 5 ∧ v = .int .i64 k ∧ To w2 w' bD .u64 (tK h r i d0 k)) (fun v _ => 5 - (intOf v).toNat)
      case atStart => exact ⟨0, by omega, rfl, t0⟩
      case round =>
        clear t0
        obtain ⟨k, hk, rfl, t0⟩ := hrel
        by_cases hk5 : k < 5
        · have k0 : (k : Int) < 5 := by omega
          obtain ⟨xd0, q0⟩ : ∃ u, u = tK h r i d0 k := ⟨_, rfl⟩
          rw [← q0] at t0
          have Ld0 := Aside0.mk (show xd0.length = 5 by rw [q0, len_tK, LI.out])
          have Q0 := Aside0.mk q0
          clear q0
          have id0 := t0.is id
          have ih0 := t0.other n1 ih2
          have ir0 := t0.other n2 ir2
          obtain ⟨j, hj, hj5⟩ : ∃ j : Nat, j = (i + 5 - k) % 5 ∧ j < 5 := ⟨_, rfl, by omega⟩
          have hjx : ((i : Int) + 5 - (k : Int)) % 5 = (j : Int) := by omega
          have J0 := Aside0.mk hj
          have G1 := ir0.cell j (by rw [LR.out]; omega)
          have j0 : (j : Int) < 5 := by omega
          have ji : 0 ≤ (i : Int) + 5 - (k : Int) := by omega
          clear hj
          by_cases hik : i < k
          · have c1 : (k : Int) > (i : Int) := by omega
            have H1 := id0.cell i (by rw [Ld0.out]; omega)
            have H2 := ih0.cell k (by rw [L.out]; omega)
            have F1 := id0.free i
            go_wp2
            go_still_tail 12, (by kernel_rfl)
            change wpList _ _ _ _ _ wr.drew
            go_wp2_with fail
            rw [put_set id0]
            have e2 : tK h r i d0 (k + 1) = xd0.set i (IntKind.u64.wrap (rd xd0 i + IntKind.u64.wrap (rd h k * IntKind.u64.wrap (rd r (j : Int) * 5)))) := by rw [tK, ← Q0.out, tS, tL, if_pos hik, ← J0.out]
            have t1 := t0.put_dr (zs := xd0.set i (IntKind.u64.wrap (rd xd0 i + IntKind.u64.wrap (rd h k * IntKind.u64.wrap (rd r (j : Int) * 5)))))
            rw [← e2] at t1
            refine ⟨⟨k + 1, by omega, by go_num, ?_⟩, by simp [intOf]; omega⟩
            rw [e2] at t1 ⊢; exact t1
          · have c1 : ¬ (k : Int) > (i : Int) := by omega
            have H1 := id0.cell i (by rw [Ld0.out]; omega)
            have H2 := ih0.cell k (by rw [L.out]; omega)
            have F1 := id0.free i
            go_wp2
            go_still_tail 12, (by kernel_rfl)
            change wpList _ _ _ _ _ wr.drew
            go_wp2_with fail
            rw [put_set id0]
            have e2 : tK h r i d0 (k + 1) = xd0.set i (IntKind.u64.wrap (rd xd0 i + IntKind.u64.wrap (rd h k * rd r (j : Int)))) := by rw [tK, ← Q0.out, tS, tL, if_neg hik, ← J0.out]
            have t1 := t0.put_dr (zs := xd0.set i (IntKind.u64.wrap (rd xd0 i + IntKind.u64.wrap (rd h k * rd r (j : Int)))))
            rw [← e2] at t1
            refine ⟨⟨k + 1, by omega, by go_num, ?_⟩, by simp [intOf]; omega⟩
            rw [e2] at t1 ⊢; exact t1
        · obtain rfl : k = 5 := by omega
          rw [show ((5 : Nat) : Int) = 5 from rfl]
          clear hk5
          go_wp2
          go_roundw
          case rel => exact ⟨i + 1, by omega, by go_num, by rw [tI, ← E0.out]; exact t0⟩
          case measure => simp [intOf]; omega
    · obtain rfl : i = 5 := by omega
      rw [show ((5 : Nat) : Int) = 5 from rfl]
      clear h5
      have LI := Aside0.mk (len_tI h r 5)
      obtain ⟨d5, e5⟩ : ∃ u, u = tI h r 5 := ⟨_, rfl⟩
      rw [← e5] at LI t0
      have E5 := Aside0.mk e5
      clear e5
      have id0 := t0.is id
      have ih0 := t0.other n1 ih2
      have I0 := Aside0.mk ((Into.refl hw).below (To.below BB.out t0 HS.out.1))
      have HI5 := Aside0.mk (show (Try.prog.info? 99).map (·.size) = some d5.length by rw [LI.out]; exact info_a5)
      have HLL := Aside0.mk (show h.length = d5.length by rw [LI.out, L.out])
      have ID0 := Aside0.mk id0
      have IH0 := Aside0.mk ih0
      clear id0 ih0 ir2 ih2 id t0 n1 n2 hi
      go_wp2_with (first | (with_reducible refine loadL_is (b := bD) (e := 99) (k := .u64) (xs := d5) 99 28 5 (.tmp 4) rfl rfl rfl ID0.out Try.underlying99 HI5.out ?_) | (with_reducible refine storeL_is (b := g) (e := T) (k := .u64) (xs := h) 99 (.tmp 42) (.tmp 41) rfl rfl rfl d5 rfl rfl IH0.out HLL.out HI5.out ?_))
      have M0 := Aside0.mk (I0.out.to (To.put_d0 (zs := d5) (To.refl IH0.out)))
      have M1 := Aside0.mk (put_heap (ys := d5) IH0.out)
      refine (carry_calls T d5 g _ M1.out LI.out).mono ?_
      rintro e wa ⟨rfl, ta⟩
      have LA := Aside0.mk (show (carryF d5).length = 5 by rw [len_carryF, LI.out])
      have M2 := Aside0.mk (M0.out.to ta)
      have M3 := Aside0.mk (ta.is M1.out)
      clear ta
      go_wp2_with fail
      refine (carry_calls T (carryF d5) g _ M3.out LA.out).mono ?_
      rintro e wb ⟨rfl, tb⟩
      have M4 := Aside0.mk (M2.out.to tb)
      clear tb
      go_wp2_with fail
      go_end0
      exact ⟨rfl, by rw [timesF, ← E5.out]; exact M4.out⟩
end Go.Proofs.Ytnmnghpdmiffaaa.Pol
