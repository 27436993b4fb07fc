/-
  The reference's Sum (chapter 3), walked.
-/
import Derived.Test.YtjlokmjbblpmoaaPolyRd
import Derived.Test.YtjlokmjbblpmoaaWMore
import Derived.Deep.DeepCutAuto
namespace Go.Proofs.Ytjlokmjbblpmoaa.PolR
open Go.RowKit Go.Proofs.YtjlokmjbblpmoaaW.PrintWords Go.Proofs.YtjlokmjbblpmoaaW.PrintMore Go.Proofs.Ytjlokmjbblpmoaa.Arr

set_option maxHeartbeats 4000000 in
set_option maxRecDepth 100000 in
theorem sum_yes (A B : Option Addr) (cA cB : Nat) (key b : List Int) (w : World) (hk : (Kd.int .u8).C w A key.length key) (_hcA : key.length ≤ cA) (hlk : key.length = 32)
    (hn : (Kd.int .u8).C w B b.length b) (_hcB : b.length ≤ cB) (hbl : b.length ≤ 140737488355328) :
    Calls Try.prog 36 #[.slice A key.length cA, .slice B b.length cB] w fun e w' => ∃ v, e = .returned (.tuple #[v, .int .i64 0]) ∧ (Kd.int .u8).R 5 w' w.heap.size (fun _ => True) v (refTagF key b) ∧ Below w.heap.size w w' := by
  obtain ⟨ad, rfl, _⟩ := hk.2.2 (by omega)
  have b1 : ((key.length : Int) != 32) = false := by simp; omega
  have HK := Aside0.mk hk
  have HN := Aside0.mk hn
  have LK := Aside0.mk hlk
  have LB := Aside0.mk hbl
  clear hk hn hlk hbl
  go_enter Try.func36, Try.ntmps36
  go_upto_region 4 with (fail)
  clear b1
  change Code.wp _ _ _ _ (((w.alloc (.cells (nums .u32 z17).toArray 59)).alloc (.cells (nums .u32 z17).toArray 59)).alloc (.cells (nums .u32 z17).toArray 59))
  have i1 := new_is w 59 .u32 z17
  have B1 : Below w.heap.size w (w.alloc (.cells (nums .u32 z17).toArray 59)) := (Below.refl _ _).alloc (Nat.le_refl _) _
  have S1 : (w.alloc (.cells (nums .u32 z17).toArray 59)).heap.size = w.heap.size + 1 := by simp
  generalize w.alloc (.cells (nums .u32 z17).toArray 59) = w1 at i1 B1 S1 ⊢
  have i2 := new_is w1 59 .u32 z17
  have B2 : Below w1.heap.size w1 (w1.alloc (.cells (nums .u32 z17).toArray 59)) := (Below.refl _ _).alloc (Nat.le_refl _) _
  have S2 : (w1.alloc (.cells (nums .u32 z17).toArray 59)).heap.size = w1.heap.size + 1 := by simp
  generalize w1.alloc (.cells (nums .u32 z17).toArray 59) = w2 at i2 B2 S2 ⊢
  have i3 := new_is w2 59 .u32 z17
  have B3 : Below w2.heap.size w2 (w2.alloc (.cells (nums .u32 z17).toArray 59)) := (Below.refl _ _).alloc (Nat.le_refl _) _
  have S3 : (w2.alloc (.cells (nums .u32 z17).toArray 59)).heap.size = w2.heap.size + 1 := by simp
  generalize w2.alloc (.cells (nums .u32 z17).toArray 59) = w3 at i3 B3 S3 ⊢
  obtain ⟨bR, hbR⟩ : ∃ b, b = w.heap.size := ⟨_, rfl⟩
  obtain ⟨bH, hbH⟩ : ∃ b, b = bR + 1 := ⟨_, rfl⟩
  obtain ⟨bX, hbX⟩ : ∃ b, b = bR + 1 + 1 := ⟨_, rfl⟩
  have B13 := (B2.trans (B3.mono (by omega)))
  have IR := Aside0.mk (i1.below B13)
  have IH := Aside0.mk (i2.below B3)
  have IX := Aside0.mk i3
  have BB := Aside0.mk (B1.trans (B13.mono (by omega)))
  rw [S1, ← hbR, ← hbH] at IH
  rw [S2, S1, ← hbR, ← hbX] at IX
  rw [← hbR] at IR BB ⊢
  rw [← hbX, ← hbH]
  have NE := Aside0.mk (show bR ≠ bH ∧ bR ≠ bX ∧ bH ≠ bX ∧ w3.heap.size = bX + 1 by omega)
  have HSZ := Aside0.mk (show bR = w.heap.size ∧ bR ≤ bH ∧ bR ≤ bX ∧ bH < bX by omega)
  clear i1 B1 S1 i2 B2 S2 i3 B3 S3 hbR hbH hbX B13
  go_wp2
  go_loopw [9] (fun v w' => ∃ j : Nat, j ≤ 16 ∧ v = .int .i64 j ∧ Aside0 (To w3 w' bR .u32 (rN key j))) (fun v _ => 16 - (intOf v).toNat)
  case atStart => exact ⟨0, by omega, rfl, ⟨To.refl IR.out⟩⟩
  case round =>
    obtain ⟨j, hj, rfl, HT⟩ := hrel
    obtain ⟨x, q0⟩ : ∃ x, x = rN key j := ⟨_, rfl⟩
    rw [← q0] at HT
    have LX := Aside0.mk (show x.length = 17 by rw [q0, len_rN])
    have Q0 := Aside0.mk q0
    clear q0
    have ix := HT.out.is IR.out
    by_cases h16 : j < 16
    · have c0 : (j : Int) < 16 := by omega
      have c1 : (j : Int) < 17 := by omega
      have hCr := Kd.C_below HK.out (show Below w.heap.size w wr by rw [← HSZ.out.1]; exact To.below BB.out HT.out (Nat.le_refl _))
      obtain ⟨ad', hA, hcell⟩ := Kd.at_int hCr (j : Int) (by omega) (by rw [LK.out]; omega)
      obtain rfl : ad = ad' := by injection hA
      rw [Int.toNat_natCast] at hcell
      have c2 : j < key.length := by rw [LK.out]; omega
      have c3 : (j : Int) < (key.length : Int) := by omega
      have H1 := ix.cell j (by rw [LX.out]; omega)
      have F1 := ix.free j
      clear hCr
      go_wp2_with fail
      rw [put_set ix]
      have e1 : rN key (j + 1) = x.set j (rd key (j : Int) % 4294967296) := by rw [rN, ← Q0.out]
      have t1 := HT.out.put_d0 (zs := x.set j (rd key (j : Int) % 4294967296))
      rw [← e1] at t1
      refine ⟨⟨j + 1, by omega, by go_num, ⟨?_⟩⟩, by simp [intOf]; omega⟩
      rw [e1] at t1 ⊢; exact t1
    · obtain rfl : j = 16 := by omega
      rw [show ((16 : Nat) : Int) = 16 from rfl]
      clear h16
      have EA := Aside0.mk (show x = rN key 16 from Q0.out)
      have IA := Aside0.mk ix
      have HA := Aside0.mk (HT.out.other NE.out.1.symm IH.out)
      have XA := Aside0.mk (HT.out.other NE.out.2.1.symm IX.out)
      have BA := Aside0.mk (To.below BB.out HT.out (Nat.le_refl _))
      have ZA := Aside0.mk (show bX < wr.heap.size by rw [HT.out.size]; have := NE.out; omega)
      clear ix HT IR
      go_wp2
      have BL1 : Below wr.heap.size wr (wr.alloc (.cells (nums .i64 [3, 7, 11, 15]).toArray 3)) := (Below.refl _ _).alloc (Nat.le_refl _) _
      change Code.wp _ _ _ _ (wr.alloc (.cells (nums .i64 [3, 7, 11, 15]).toArray 3))
      have iL1 := new_is wr 3 .i64 [3, 7, 11, 15]
      generalize wr.alloc (.cells (nums .i64 [3, 7, 11, 15]).toArray 3) = wl1 at BL1 iL1 ⊢
      obtain ⟨bL1, hbL1⟩ : ∃ b, b = wr.heap.size := ⟨_, rfl⟩
      rw [← hbL1] at iL1 ⊢
      have IL1 := Aside0.mk iL1
      have NL1 := Aside0.mk (show bL1 ≠ bR by have := ZA.out; have := HSZ.out; omega)
      have IR1 := Aside0.mk (IA.out.below BL1)
      have IH1 := Aside0.mk (HA.out.below BL1)
      have IX1 := Aside0.mk (XA.out.below BL1)
      have BW1 := Aside0.mk (BA.out.trans (BL1.mono (by have := ZA.out; have := HSZ.out; omega)))
      have ZW1 := Aside0.mk (Nat.lt_of_lt_of_le ZA.out BL1.size)
      clear BL1 iL1 hbL1 IA HA XA BA ZA
      have LS1 := Aside0.mk (show x.length = 17 from LX.out)
      go_loopw [45] (fun v w' => ∃ i : Nat, i ≤ 4 ∧ v = .int .i64 i ∧ Aside0 (To wl1 w' bR .u32 (mN x [3, 7, 11, 15] 15 i))) (fun v _ => 4 - (intOf v).toNat)
      case atStart => exact ⟨0, by omega, rfl, ⟨To.refl IR1.out⟩⟩
      case round =>
        obtain ⟨i, hi, rfl, HT⟩ := hrel
        obtain ⟨x1, q0⟩ : ∃ y_, y_ = mN x [3, 7, 11, 15] 15 i := ⟨_, rfl⟩
        rw [← q0] at HT
        have Lx1 := Aside0.mk (show x1.length = 17 by rw [q0, len_mN, LS1.out])
        have Q0 := Aside0.mk q0
        clear q0
        have ix := HT.out.is IR1.out
        by_cases h4 : i < 4
        · have c0 : (i : Int) < 4 := by omega
          obtain ⟨z, hz, hz17⟩ : ∃ z : Nat, rd [3, 7, 11, 15] (i : Int) = (z : Int) ∧ z < 17 := by
            have : i = 0 ∨ i = 1 ∨ i = 2 ∨ i = 3 := by omega
            rcases this with rfl | rfl | rfl | rfl
            · exact ⟨3, rfl, by omega⟩
            · exact ⟨7, rfl, by omega⟩
            · exact ⟨11, rfl, by omega⟩
            · exact ⟨15, rfl, by omega⟩
          have H0 := (HT.out.other NL1.out IL1.out).cell i (by simp; omega)
          rw [hz] at H0
          have HZ := Aside0.mk hz
          clear hz
          have z17 : (z : Int) < 17 := by omega
          have H1 := ix.cell z (by rw [Lx1.out]; omega)
          have F1 := ix.free z
          go_wp2_with fail
          rw [put_set ix]
          have e1 : mN x [3, 7, 11, 15] 15 (i + 1) = x1.set z (Go.bits .and .u32 (rd x1 z) 15) := by rw [mN, ← Q0.out, HZ.out, Int.toNat_natCast]
          have t1 := HT.out.put_d0 (zs := x1.set z (Go.bits .and .u32 (rd x1 z) 15))
          rw [← e1] at t1
          refine ⟨⟨i + 1, by omega, by go_num, ⟨?_⟩⟩, by simp [intOf]; omega⟩
          rw [e1] at t1 ⊢; exact t1
        · obtain rfl : i = 4 := by omega
          rw [show ((4 : Nat) : Int) = 4 from rfl]
          clear h4
          have IB := Aside0.mk ix
          have HB := Aside0.mk (HT.out.other NE.out.1.symm IH1.out)
          have XB := Aside0.mk (HT.out.other NE.out.2.1.symm IX1.out)
          have BB := Aside0.mk (To.below BW1.out HT.out (Nat.le_refl _))
          have ZB := Aside0.mk (show bX < wr.heap.size by rw [HT.out.size]; exact ZW1.out)
          have EB := Aside0.mk (show x1 = mN x [3, 7, 11, 15] 15 4 from Q0.out)
          have LrB := Aside0.mk Lx1.out
          clear ix HT IL1 NL1 IR1 IH1 IX1 BW1 ZW1
          go_wp2
          have BL2 : Below wr.heap.size wr (wr.alloc (.cells (nums .i64 [4, 8, 12]).toArray 3)) := (Below.refl _ _).alloc (Nat.le_refl _) _
          change Code.wp _ _ _ _ (wr.alloc (.cells (nums .i64 [4, 8, 12]).toArray 3))
          have iL2 := new_is wr 3 .i64 [4, 8, 12]
          generalize wr.alloc (.cells (nums .i64 [4, 8, 12]).toArray 3) = wl2 at BL2 iL2 ⊢
          obtain ⟨bL2, hbL2⟩ : ∃ b, b = wr.heap.size := ⟨_, rfl⟩
          rw [← hbL2] at iL2 ⊢
          have IL2 := Aside0.mk iL2
          have NL2 := Aside0.mk (show bL2 ≠ bR by have := ZB.out; have := HSZ.out; omega)
          have IR2 := Aside0.mk (IB.out.below BL2)
          have IH2 := Aside0.mk (HB.out.below BL2)
          have IX2 := Aside0.mk (XB.out.below BL2)
          have BW2 := Aside0.mk (BB.out.trans (BL2.mono (by have := ZB.out; have := HSZ.out; omega)))
          have ZW2 := Aside0.mk (Nat.lt_of_lt_of_le ZB.out BL2.size)
          clear BL2 iL2 hbL2 IB HB XB BB ZB
          have LS2 := Aside0.mk (show x1.length = 17 from Lx1.out)
          go_loopw [58] (fun v w' => ∃ i : Nat, i ≤ 3 ∧ v = .int .i64 i ∧ Aside0 (To wl2 w' bR .u32 (mN x1 [4, 8, 12] 252 i))) (fun v _ => 3 - (intOf v).toNat)
          case atStart => exact ⟨0, by omega, rfl, ⟨To.refl IR2.out⟩⟩
          case round =>
            obtain ⟨i, hi, rfl, HT⟩ := hrel
            obtain ⟨x2, q0⟩ : ∃ y_, y_ = mN x1 [4, 8, 12] 252 i := ⟨_, rfl⟩
            rw [← q0] at HT
            have Lx2 := Aside0.mk (show x2.length = 17 by rw [q0, len_mN, LS2.out])
            have Q0 := Aside0.mk q0
            clear q0
            have ix := HT.out.is IR2.out
            by_cases h4 : i < 3
            · have c0 : (i : Int) < 3 := by omega
              obtain ⟨z, hz, hz17⟩ : ∃ z : Nat, rd [4, 8, 12] (i : Int) = (z : Int) ∧ z < 17 := by
                have : i = 0 ∨ i = 1 ∨ i = 2 := by omega
                rcases this with rfl | rfl | rfl
                · exact ⟨4, rfl, by omega⟩
                · exact ⟨8, rfl, by omega⟩
                · exact ⟨12, rfl, by omega⟩
              have H0 := (HT.out.other NL2.out IL2.out).cell i (by simp; omega)
              rw [hz] at H0
              have HZ := Aside0.mk hz
              clear hz
              have z17 : (z : Int) < 17 := by omega
              have H1 := ix.cell z (by rw [Lx2.out]; omega)
              have F1 := ix.free z
              go_wp2_with fail
              rw [put_set ix]
              have e1 : mN x1 [4, 8, 12] 252 (i + 1) = x2.set z (Go.bits .and .u32 (rd x2 z) 252) := by rw [mN, ← Q0.out, HZ.out, Int.toNat_natCast]
              have t1 := HT.out.put_d0 (zs := x2.set z (Go.bits .and .u32 (rd x2 z) 252))
              rw [← e1] at t1
              refine ⟨⟨i + 1, by omega, by go_num, ⟨?_⟩⟩, by simp [intOf]; omega⟩
              rw [e1] at t1 ⊢; exact t1
            · obtain rfl : i = 3 := by omega
              rw [show ((3 : Nat) : Int) = 3 from rfl]
              clear h4
              have IC := Aside0.mk ix
              have HC := Aside0.mk (HT.out.other NE.out.1.symm IH2.out)
              have XC := Aside0.mk (HT.out.other NE.out.2.1.symm IX2.out)
              have BC := Aside0.mk (To.below BW2.out HT.out (Nat.le_refl _))
              have ZC := Aside0.mk (show bX < wr.heap.size by rw [HT.out.size]; exact ZW2.out)
              have EC := Aside0.mk (show x2 = mN x1 [4, 8, 12] 252 3 from Q0.out)
              have LrC := Aside0.mk Lx2.out
              clear ix HT IL2 NL2 IR2 IH2 IX2 BW2 ZW2
              obtain ⟨r, hr⟩ : ∃ y_, y_ = x2 := ⟨_, rfl⟩
              have ER := Aside0.mk (show r = clampR key by rw [hr, EC.out, EB.out, EA.out]; rfl)
              have LR := Aside0.mk (show r.length = 17 by rw [hr]; exact LrC.out)
              rw [← hr] at IC
              clear hr EC EB EA LrC LrB LX Lx1 Lx2 LS1 LS2 Q0
              go_wp2
              obtain ⟨wo, rfl⟩ : ∃ wo : World, wo = wr := ⟨_, rfl⟩
              go_loopw [14] (fun v w' => ∃ (j : Nat) (xx : List Int), v = .int .i64 (16 * (j : Int)) ∧ Aside0 (16 * j < b.length + 16) ∧ Aside0 (xx.length = 17) ∧ Aside0 (Is w' bR 59 .u32 r) ∧ Aside0 (Is w' bH 59 .u32 (hN r b j)) ∧ Aside0 (Is w' bX 59 .u32 xx) ∧ Aside0 (Below bR w w') ∧ Aside0 (bX < w'.heap.size)) (fun v _ => b.length + 16 - (intOf v).toNat)
              case atStart => exact ⟨0, z17, by simp, ⟨by omega⟩, ⟨rfl⟩, IC, HC, XC, BC, ZC⟩
              case round =>
                clear IC HC XC BC ZC
                obtain ⟨j, xx, rfl, HJ, LXX, JR, JH, JX, JB, JZ⟩ := hrel
                by_cases hlt : 16 * j < b.length
                · have c0 : 16 * (j : Int) < (b.length : Int) := by omega
                  have hLB := LB.out
                  obtain ⟨n, hn⟩ : ∃ n, n = min (b.length - 16 * j) 16 := ⟨_, rfl⟩
                  have HMIN := Aside0.mk hn
                  have n16 : n ≤ 16 := by omega
                  have hjk : 16 * j + n ≤ b.length := by omega
                  clear hn
                  go_upto_region 22 with (fail)
                  change Code.wp _ _ _ _ (wr.alloc (.cells (nums .u32 z17).toArray 59))
                  have ic0 := new_is wr 59 .u32 z17
                  have Bc : Below wr.heap.size wr (wr.alloc (.cells (nums .u32 z17).toArray 59)) := (Below.refl _ _).alloc (Nat.le_refl _) _
                  have Sc : (wr.alloc (.cells (nums .u32 z17).toArray 59)).heap.size = wr.heap.size + 1 := by simp
                  generalize wr.alloc (.cells (nums .u32 z17).toArray 59) = wk at ic0 Bc Sc ⊢
                  obtain ⟨bC, hbC⟩ : ∃ b, b = wr.heap.size := ⟨_, rfl⟩
                  rw [← hbC] at ic0 ⊢
                  have IC0 := Aside0.mk ic0
                  have KR := Aside0.mk (JR.out.below Bc)
                  have KH := Aside0.mk (JH.out.below Bc)
                  have KX := Aside0.mk (JX.out.below Bc)
                  have KB := Aside0.mk (JB.out.trans (Bc.mono (by have := JZ.out; have := HSZ.out; omega)))
                  have KZ := Aside0.mk (show bX < bC ∧ bC < wk.heap.size by have := JZ.out; omega)
                  clear ic0 Bc Sc hbC JR JH JX JB JZ
                  go_upto_if 80 with (fail)
                  go_cut [16] (fun v wx => v = .int .i64 (n : Int) ∧ wx = wk)
                  case first =>
                    have hn := HMIN.out
                    by_cases h16 : 16 < b.length - 16 * j
                    · have c1 : (16 : Int) < (b.length : Int) - 16 * (j : Int) := by omega
                      have en := Aside0.mk (show (16 : Int) = (n : Int) by omega)
                      clear hn
                      go_wp2_with fail
                      go_meet
                      exact ⟨by rw [← en.out], rfl⟩
                    · have c1 : ¬ (16 : Int) < (b.length : Int) - 16 * (j : Int) := by omega
                      have en := Aside0.mk (show (b.length : Int) - 16 * (j : Int) = (n : Int) by omega)
                      clear hn
                      go_wp2_with fail
                      go_meet
                      exact ⟨by rw [en.out], rfl⟩
                  case rest =>
                    obtain ⟨rfl, rfl⟩ := hcut
                    go_wp2
                    obtain ⟨wo, rfl⟩ : ∃ wo : World, wo = wc := ⟨_, rfl⟩
                    go_loopw [17] (fun v w' => ∃ k : Nat, k ≤ n ∧ v = .int .i64 k ∧ Aside0 (To wo w' bC .u32 (cK b (16 * j) k))) (fun v _ => n - (intOf v).toNat)
                    case atStart => exact ⟨0, by omega, rfl, ⟨To.refl IC0.out⟩⟩
                    case round =>
                      obtain ⟨k, hk, rfl, HT⟩ := hrel
                      obtain ⟨y, q0⟩ : ∃ y_, y_ = cK b (16 * j) k := ⟨_, rfl⟩
                      rw [← q0] at HT
                      have Ly := Aside0.mk (show y.length = 17 by rw [q0, len_cK])
                      have Q0 := Aside0.mk q0
                      clear q0
                      have iy := HT.out.is IC0.out
                      by_cases hkn : k < n
                      · have k0 : (k : Int) < (n : Int) := by omega
                        have k17 : (k : Int) < 17 := by omega
                        have hCr := Kd.C_below HN.out (show Below w.heap.size w wr by rw [← HSZ.out.1]; exact To.below KB.out HT.out (by have := KZ.out; have := HSZ.out; omega))
                        obtain ⟨ji, hji⟩ : ∃ ji : Nat, ji = 16 * j + k := ⟨_, rfl⟩
                        obtain ⟨ad, hA, hcell⟩ := Kd.at_int hCr (ji : Int) (by omega) (by omega)
                        subst hA
                        rw [Int.toNat_natCast] at hcell
                        have W2 : 16 * (j : Int) + (k : Int) = (ji : Int) := by omega
                        have W1 : IntKind.i64.wrap (16 * (j : Int) + (k : Int)) = (ji : Int) := by rw [W2]; simp [IntKind.wrap, IntKind.bits, IntKind.signed]; omega
                        have W5 : IntKind.i64.wrap (ji : Int) = (ji : Int) := by simp [IntKind.wrap, IntKind.bits, IntKind.signed]; omega
                        have W3 : (ji : Int) < (b.length : Int) := by omega
                        have W4 : ji < b.length := by omega
                        have H1 := iy.cell k (by rw [Ly.out]; omega)
                        have F1 := iy.free k
                        have HJI := Aside0.mk hji
                        clear hCr hji
                        go_wp2_with fail
                        rw [put_set iy]
                        have e2 : cK b (16 * j) (k + 1) = y.set k (rd b (ji : Int) % 4294967296) := by rw [cK, ← Q0.out, ← HJI.out]
                        have t1 := HT.out.put_d0 (zs := y.set k (rd b (ji : Int) % 4294967296))
                        rw [← e2] at t1
                        refine ⟨⟨k + 1, by omega, by go_num, ⟨?_⟩⟩, by simp [intOf]; omega⟩
                        rw [e2] at t1 ⊢; exact t1
                      · obtain rfl : n = k := by omega
                        clear hkn
                        have H1 := iy.cell n (by rw [Ly.out]; omega)
                        have F1 := iy.free n
                        have n17 : (n : Int) < (17 : Int) := by omega
                        go_upto_region 30 with (fail)
                        rw [put_set iy]
                        have ec : cF b (16 * j) = y.set n 1 := by rw [cF, HMIN.out.symm, ← Q0.out]
                        rw [← ec]
                        change Code.wp _ _ _ _ (put wr bC .u32 (cF b (16 * j)))
                        have t9 := HT.out.put_d0 (zs := cF b (16 * j))
                        have s9 := t9.size
                        have IC9 := t9.is IC0.out
                        have HKN := KZ.out
                        have HS9 := HSZ.out
                        have IR9 := Aside0.mk (t9.other (by omega) KR.out)
                        have IH9 := Aside0.mk (t9.other (by have := NE.out; omega) KH.out)
                        have IX9 := Aside0.mk (t9.other (by omega) KX.out)
                        have B9 := Aside0.mk (To.below KB.out t9 (by omega))
                        generalize put wr bC .u32 (cF b (16 * j)) = w9 at IC9 IR9 IH9 IX9 B9 s9 t9 ⊢
                        have Z9 := Aside0.mk (show bX < w9.heap.size by omega)
                        have ICC := Aside0.mk IC9
                        obtain ⟨cc, hcc⟩ : ∃ y_, y_ = cF b (16 * j) := ⟨_, rfl⟩
                        have LCC := Aside0.mk (show cc.length = 17 by rw [hcc, len_cF])
                        rw [← hcc] at ICC
                        have ECC := Aside0.mk hcc
                        obtain ⟨h0, hh0⟩ : ∃ y_, y_ = hN r b j := ⟨_, rfl⟩
                        have LH0 := Aside0.mk (show h0.length = 17 by rw [hh0, len_hN])
                        rw [← hh0] at IH9
                        have EH0 := Aside0.mk hh0
                        have HI17 := Aside0.mk (show (Try.prog.info? 59).map (·.size) = some cc.length by rw [LCC.out]; exact info_a17)
                        clear IC9 HKN HS9 s9 t9 hcc hh0 KR KH KX KB KZ IC0 HT iy H1 F1 ec n17 Q0 Ly
                        go_wp2_with (with_reducible refine loadL_is (b := bC) (e := 59) (k := .u32) (xs := cc) 59 36 17 (.tmp 15) rfl rfl rfl ICC.out Try.underlying59 HI17.out ?_)
                        refine (add_calls 59 h0 cc bH _ IH9.out LH0.out LCC.out).mono ?_
                        rintro e wa ⟨rfl, ia⟩
                        have hsz := ia.size
                        have hne := NE.out
                        have hz9 := Z9.out
                        have hsz2 := HSZ.out
                        have IRa := Aside0.mk (ia.other hne.1 IR9.out)
                        have IHa := Aside0.mk (ia.is IH9.out)
                        have IXa := Aside0.mk (ia.other hne.2.2.1.symm IX9.out)
                        have Ba := Aside0.mk (Into.belowB B9.out ia (by omega) (by omega))
                        have Za := Aside0.mk (show bX < wa.heap.size by omega)
                        obtain ⟨h1, hh1⟩ : ∃ y_, y_ = addF h0 cc := ⟨_, rfl⟩
                        have LH1 := Aside0.mk (show h1.length = 17 by rw [hh1, len_addF, LH0.out])
                        rw [← hh1] at IHa
                        have EH1 := Aside0.mk hh1
                        clear ia hsz hne hz9 hsz2 hh1 IR9 IH9 IX9 B9 Z9 ICC HI17 LH0 LCC
                        go_wp2
                        obtain ⟨wo, rfl⟩ : ∃ wo : World, wo = wa := ⟨_, rfl⟩
                        go_loopw [18] (fun v w' => ∃ i : Nat, i ≤ 17 ∧ v = .int .i64 i ∧ Aside0 (To wo w' bX .u32 (xI h1 r xx i))) (fun v _ => 17 - (intOf v).toNat)
                        case atStart => exact ⟨0, by omega, rfl, ⟨To.refl IXa.out⟩⟩
                        case round =>
                          obtain ⟨i, hi, rfl, HT⟩ := hrel
                          obtain ⟨x3, q0⟩ : ∃ y_, y_ = xI h1 r xx i := ⟨_, rfl⟩
                          rw [← q0] at HT
                          have Lx3 := Aside0.mk (show x3.length = 17 by rw [q0, len_xI, LXX.out])
                          have Q0 := Aside0.mk q0
                          clear q0
                          have ix := HT.out.is IXa.out
                          by_cases hi17 : i < 17
                          · have i0 : (i : Int) < 17 := by omega
                            have H1 := ix.cell i (by rw [Lx3.out]; omega)
                            have F1 := ix.free i
                            go_upto_region 35 with (fail)
                            rw [put_set ix]
                            change Code.wp _ _ _ _ (put wr bX .u32 (x3.set i 0))
                            have t3 := HT.out.put_d0 (zs := x3.set i 0)
                            generalize put wr bX .u32 (x3.set i 0) = wi at t3 ⊢
                            have T3 := Aside0.mk t3
                            clear t3 ix H1 F1 HT
                            obtain ⟨x4, hx4⟩ : ∃ y_, y_ = x3.set i 0 := ⟨_, rfl⟩
                            rw [← hx4] at T3
                            have L4 := Aside0.mk (show x4.length = 17 by rw [hx4, List.length_set, Lx3.out])
                            have E4 := Aside0.mk (show x4 = (xI h1 r xx i).set i 0 by rw [hx4, Q0.out])
                            clear hx4 Q0
                            go_wp2
                            obtain ⟨wo2, rfl⟩ : ∃ wo : World, wo = wi := ⟨_, rfl⟩
                            go_loopw [19] (fun v w' => ∃ k : Nat, k ≤ 17 ∧ v = .int .i64 k ∧ Aside0 (To wo w' bX .u32 (xJ h1 r i x4 k))) (fun v _ => 17 - (intOf v).toNat)
                            case atStart => exact ⟨0, by omega, rfl, T3⟩
                            case round =>
                              clear T3
                              obtain ⟨k, hk, rfl, HT⟩ := hrel
                              obtain ⟨x5, q0⟩ : ∃ y_, y_ = xJ h1 r i x4 k := ⟨_, rfl⟩
                              rw [← q0] at HT
                              have Lx5 := Aside0.mk (show x5.length = 17 by rw [q0, len_xJ, L4.out])
                              have Q0 := Aside0.mk q0
                              clear q0
                              have ix := HT.out.is IXa.out
                              by_cases hk17 : k < 17
                              · have k0 : (k : Int) < 17 := by omega
                                have H1 := ix.cell i (by rw [Lx5.out]; omega)
                                have H2 := (HT.out.other NE.out.2.2.1 IHa.out).cell k (by rw [LH1.out]; omega)
                                have F1 := ix.free i
                                by_cases hki : k ≤ i
                                · have c2 : (k : Int) ≤ (i : Int) := by omega
                                  obtain ⟨d, hd, hd17⟩ : ∃ d : Nat, d = i - k ∧ d < 17 := ⟨_, rfl, by omega⟩
                                  have HD := Aside0.mk hd
                                  have W2 : (i : Int) - (k : Int) = (d : Int) := by omega
                                  have W1 : IntKind.i64.wrap ((i : Int) - (k : Int)) = (d : Int) := by rw [W2]; simp [IntKind.wrap, IntKind.bits, IntKind.signed]; omega
                                  have W5 : IntKind.i64.wrap (d : Int) = (d : Int) := by simp [IntKind.wrap, IntKind.bits, IntKind.signed]; omega
                                  have W3 : (d : Int) < 17 := by omega
                                  have H3 := (HT.out.other NE.out.2.1 IRa.out).cell d (by rw [LR.out]; omega)
                                  clear hd
                                  go_wp2
                                  go_still_tail 15, (by kernel_rfl)
                                  change wpList _ _ _ _ _ wr.drew
                                  go_wp2_with fail
                                  rw [put_set ix]
                                  have e1 : xJ h1 r i x4 (k + 1) = x5.set i ((rd x5 i + rd h1 k * rd r (d : Int)) % 4294967296) := by rw [xJ, ← Q0.out, xS, if_pos hki, ← HD.out]
                                  have t1 := HT.out.put_dr (zs := x5.set i ((rd x5 i + rd h1 k * rd r (d : Int)) % 4294967296))
                                  rw [← e1] at t1
                                  refine ⟨⟨k + 1, by omega, by go_num, ⟨?_⟩⟩, by simp [intOf]; omega⟩
                                  rw [e1] at t1 ⊢; exact t1
                                · have c2 : ¬ (k : Int) ≤ (i : Int) := by omega
                                  obtain ⟨d, hd, hd17⟩ : ∃ d : Nat, d = i + 17 - k ∧ d < 17 := ⟨_, rfl, by omega⟩
                                  have HD := Aside0.mk hd
                                  have W0 : IntKind.i64.wrap ((i : Int) + 17) = (i : Int) + 17 := by simp [IntKind.wrap, IntKind.bits, IntKind.signed]; omega
                                  have W2 : (i : Int) + 17 - (k : Int) = (d : Int) := by omega
                                  have W1 : IntKind.i64.wrap ((i : Int) + 17 - (k : Int)) = (d : Int) := by rw [W2]; simp [IntKind.wrap, IntKind.bits, IntKind.signed]; omega
                                  have W5 : IntKind.i64.wrap (d : Int) = (d : Int) := by simp [IntKind.wrap, IntKind.bits, IntKind.signed]; omega
                                  have W3 : (d : Int) < 17 := by omega
                                  have H3 := (HT.out.other NE.out.2.1 IRa.out).cell d (by rw [LR.out]; omega)
                                  clear hd
                                  go_wp2
                                  go_still_tail 17, (by kernel_rfl)
                                  change wpList _ _ _ _ _ wr.drew
                                  go_wp2_with fail
                                  rw [put_set ix]
                                  have e1 : xJ h1 r i x4 (k + 1) = x5.set i ((rd x5 i + rd h1 k * 320 % 4294967296 * rd r (d : Int)) % 4294967296) := by rw [xJ, ← Q0.out, xS, if_neg hki, ← HD.out]
                                  have t1 := HT.out.put_dr (zs := x5.set i ((rd x5 i + rd h1 k * 320 % 4294967296 * rd r (d : Int)) % 4294967296))
                                  rw [← e1] at t1
                                  refine ⟨⟨k + 1, by omega, by go_num, ⟨?_⟩⟩, by simp [intOf]; omega⟩
                                  rw [e1] at t1 ⊢; exact t1
                              · obtain rfl : k = 17 := by omega
                                rw [show ((17 : Nat) : Int) = 17 from rfl]
                                clear hk17
                                have T5 := Aside0.mk (show To wo wr bX .u32 (xI h1 r xx (i + 1)) by rw [xI, ← E4.out, ← Q0.out]; exact HT.out)
                                clear HT ix
                                go_wp2_with fail
                                exact ⟨⟨i + 1, by omega, by go_num, T5⟩, by simp [intOf]; omega⟩
                          · obtain rfl : i = 17 := by omega
                            rw [show ((17 : Nat) : Int) = 17 from rfl]
                            clear hi17
                            have hz := HT.out.size
                            have hza := Za.out
                            have hsz2 := HSZ.out
                            have Q3 := Aside0.mk (show x3 = xI h1 r xx 17 from Q0.out)
                            have IRb := Aside0.mk (HT.out.other NE.out.2.1 IRa.out)
                            have IHb := Aside0.mk (HT.out.other NE.out.2.2.1 IHa.out)
                            have IXb := Aside0.mk ix
                            have Bb := Aside0.mk (To.below Ba.out HT.out (by omega))
                            have Zb := Aside0.mk (show bX < wr.heap.size by omega)
                            have HI17 := Aside0.mk (show (Try.prog.info? 59).map (·.size) = some x3.length by rw [Lx3.out]; exact info_a17)
                            have HLL := Aside0.mk (show h1.length = x3.length by rw [Lx3.out, LH1.out])
                            clear hz hza hsz2 ix HT IRa IHa IXa Ba Za
                            go_upto_region 42 with (first | (with_reducible refine loadL_is (b := bX) (e := 59) (k := .u32) (xs := x3) 59 36 17 (.tmp 8) rfl rfl rfl IXb.out Try.underlying59 HI17.out ?_) | (with_reducible refine storeL_is (b := bH) (e := 59) (k := .u32) (xs := h1) 59 (.tmp 7) (.tmp 144) rfl rfl rfl x3 rfl rfl IHb.out HLL.out HI17.out ?_))
                            have tc := (To.refl IHb.out).put_d0 (zs := x3)
                            generalize put wr bH .u32 x3 = wc at tc ⊢
                            have hz := tc.size
                            have hzb := Zb.out
                            have IHc := Aside0.mk (tc.is IHb.out)
                            have IRc := Aside0.mk (tc.other NE.out.1 IRb.out)
                            have IXc := Aside0.mk (tc.other NE.out.2.2.1.symm IXb.out)
                            have Bc := Aside0.mk (To.below Bb.out tc (by have := HSZ.out; omega))
                            have Zc := Aside0.mk (show bX < wc.heap.size by omega)
                            clear hz hzb tc IRb IHb IXb Bb Zb HI17 HLL
                            go_wp2
                            obtain ⟨wo, rfl⟩ : ∃ wo : World, wo = wc := ⟨_, rfl⟩
                            go_loopw [20, 21] (fun u v w' => ∃ k : Nat, k ≤ 16 ∧ v = .int .i64 k ∧ u = .int .u32 (pN x3 0 k).2 ∧ Aside0 (To wo w' bH .u32 (pN x3 0 k).1)) (fun _ v _ => 16 - (intOf v).toNat)
                            case atStart => exact ⟨0, by omega, rfl, rfl, ⟨To.refl IHc.out⟩⟩
                            case round =>
                              obtain ⟨k, hk, rfl, rfl, HT⟩ := hrel
                              obtain ⟨y, q0⟩ : ∃ y_, y_ = (pN x3 0 k).1 := ⟨_, rfl⟩
                              obtain ⟨u, q1⟩ : ∃ y_, y_ = (pN x3 0 k).2 := ⟨_, rfl⟩
                              rw [← q0] at HT
                              rw [← q1]
                              have Ly := Aside0.mk (show y.length = 17 by rw [q0, len_pN, Lx3.out])
                              have Q0 := Aside0.mk q0
                              have Q1 := Aside0.mk q1
                              clear q0 q1
                              have iy := HT.out.is IHc.out
                              by_cases hk16 : k < 16
                              · have k0 : (k : Int) < 16 := by omega
                                have k17 : (k : Int) < 17 := by omega
                                have H1 := iy.cell k (by rw [Ly.out]; omega)
                                have F1 := iy.free k
                                go_wp2_with fail
                                rw [put_set iy]
                                have e1 : (pN x3 0 (k + 1)).1 = y.set k (Go.bits .and .u32 ((u + rd y (k : Int)) % 4294967296) 255) := by rw [pN, pS, ← Q0.out, ← Q1.out]
                                have e2 : (pN x3 0 (k + 1)).2 = (u + rd y (k : Int)) % 4294967296 / 256 := by rw [pN, pS, ← Q0.out, ← Q1.out]
                                have t1 := HT.out.put_d0 (zs := y.set k (Go.bits .and .u32 ((u + rd y (k : Int)) % 4294967296) 255))
                                rw [← e1] at t1
                                refine ⟨⟨k + 1, by omega, by go_num, by rw [e2], ⟨?_⟩⟩, by simp [intOf]; omega⟩
                                rw [e1] at t1 ⊢; exact t1
                              · obtain rfl : k = 16 := by omega
                                rw [show ((16 : Nat) : Int) = 16 from rfl]
                                clear hk16
                                have H1 := iy.cell 16 (by rw [Ly.out]; omega)
                                have F1 := iy.free 16
                                have EU := Aside0.mk (show (u + rd y 16) % 4294967296 = topU x3 by rw [topU, ← Q0.out, ← Q1.out])
                                go_upto_region 52 with (fail)
                                rw [put_set iy]
                                have em : y.set 16 (Go.bits .and .u32 ((u + rd y 16) % 4294967296) 3) = midH x3 := by rw [midH, ← Q0.out, EU.out]
                                rw [em, EU.out]
                                change Code.wp _ _ _ _ (put wr bH .u32 (midH x3))
                                have tm := HT.out.put_d0 (zs := midH x3)
                                have hz := tm.size
                                have hzc := Zc.out
                                have IHm := Aside0.mk (tm.is IHc.out)
                                have IRm := Aside0.mk (tm.other NE.out.1 IRc.out)
                                have IXm := Aside0.mk (tm.other NE.out.2.2.1.symm IXc.out)
                                have Bm := Aside0.mk (To.below Bc.out tm (by have := HSZ.out; omega))
                                generalize put wr bH .u32 (midH x3) = wm at tm hz IHm IRm IXm Bm ⊢
                                have Zm := Aside0.mk (show bX < wm.heap.size by omega)
                                have Lm := Aside0.mk (show (midH x3).length = 17 by rw [midH, List.length_set, len_pN, Lx3.out])
                                clear tm hz hzc em EU H1 F1 iy HT Q0 Q1 Ly IHc IRc IXc Bc Zc
                                rw [show 5 * (topU x3 / 4) % 4294967296 = lowU x3 from rfl]
                                go_wp2
                                obtain ⟨wo, rfl⟩ : ∃ wo : World, wo = wm := ⟨_, rfl⟩
                                go_loopw [20, 22] (fun u v w' => ∃ k : Nat, k ≤ 16 ∧ v = .int .i64 k ∧ u = .int .u32 (pN (midH x3) (lowU x3) k).2 ∧ Aside0 (To wo w' bH .u32 (pN (midH x3) (lowU x3) k).1)) (fun _ v _ => 16 - (intOf v).toNat)
                                case atStart => exact ⟨0, by omega, rfl, rfl, ⟨To.refl IHm.out⟩⟩
                                case round =>
                                  obtain ⟨k, hk, rfl, rfl, HT⟩ := hrel
                                  obtain ⟨y, q0⟩ : ∃ y_, y_ = (pN (midH x3) (lowU x3) k).1 := ⟨_, rfl⟩
                                  obtain ⟨u, q1⟩ : ∃ y_, y_ = (pN (midH x3) (lowU x3) k).2 := ⟨_, rfl⟩
                                  rw [← q0] at HT
                                  rw [← q1]
                                  have Ly := Aside0.mk (show y.length = 17 by rw [q0, len_pN, Lm.out])
                                  have Q0 := Aside0.mk q0
                                  have Q1 := Aside0.mk q1
                                  clear q0 q1
                                  have iy := HT.out.is IHm.out
                                  by_cases hk16 : k < 16
                                  · have k0 : (k : Int) < 16 := by omega
                                    have k17 : (k : Int) < 17 := by omega
                                    have H1 := iy.cell k (by rw [Ly.out]; omega)
                                    have F1 := iy.free k
                                    go_wp2_with fail
                                    rw [put_set iy]
                                    have e1 : (pN (midH x3) (lowU x3) (k + 1)).1 = y.set k (Go.bits .and .u32 ((u + rd y (k : Int)) % 4294967296) 255) := by rw [pN, pS, ← Q0.out, ← Q1.out]
                                    have e2 : (pN (midH x3) (lowU x3) (k + 1)).2 = (u + rd y (k : Int)) % 4294967296 / 256 := by rw [pN, pS, ← Q0.out, ← Q1.out]
                                    have t1 := HT.out.put_d0 (zs := y.set k (Go.bits .and .u32 ((u + rd y (k : Int)) % 4294967296) 255))
                                    rw [← e1] at t1
                                    refine ⟨⟨k + 1, by omega, by go_num, by rw [e2], ⟨?_⟩⟩, by simp [intOf]; omega⟩
                                    rw [e1] at t1 ⊢; exact t1
                                  · obtain rfl : k = 16 := by omega
                                    rw [show ((16 : Nat) : Int) = 16 from rfl]
                                    clear hk16
                                    have H1 := iy.cell 16 (by rw [Ly.out]; omega)
                                    have F1 := iy.free 16
                                    go_wp2_with fail
                                    rw [put_set iy]
                                    have es : y.set 16 ((rd y 16 + u) % 4294967296) = hN r b (j + 1) := by
                                      rw [hN, ← EH0.out, ← ECC.out, ← EH1.out, xI_any h1 r z17 xx rfl LXX.out, ← Q3.out, sqz, ← Q0.out, ← Q1.out]
                                    rw [es]
                                    have te := HT.out.put_d0 (zs := hN r b (j + 1))
                                    have hz := te.size
                                    have hzm := Zm.out
                                    refine ⟨⟨j + 1, x3, by go_num, ⟨by omega⟩, Lx3, ⟨te.other NE.out.1 IRm.out⟩, ⟨te.is IHm.out⟩, ⟨te.other NE.out.2.2.1.symm IXm.out⟩, ⟨To.below Bm.out te (by have := HSZ.out; omega)⟩, ⟨by omega⟩⟩, by simp [intOf]; omega⟩
                · have hjJ : j = (b.length + 15) / 16 := by have := HJ.out; omega
                  have c0 : ¬ 16 * (j : Int) < (b.length : Int) := by omega
                  obtain ⟨h9, hh9⟩ : ∃ y_, y_ = hN r b j := ⟨_, rfl⟩
                  have LH9 := Aside0.mk (show h9.length = 17 by rw [hh9, len_hN])
                  have EH9 := Aside0.mk (show h9 = hN r b ((b.length + 15) / 16) by rw [hh9, hjJ])
                  rw [← hh9] at JH
                  clear hjJ hh9 HJ LXX JX
                  have HI17 := Aside0.mk (show (Try.prog.info? 59).map (·.size) = some h9.length by rw [LH9.out]; exact info_a17)
                  have HLL := Aside0.mk (show z17.length = h9.length by rw [LH9.out]; rfl)
                  have N4 := Aside0.mk (show Is (wr.alloc (.cells #[.int .u32 0, .int .u32 0, .int .u32 0, .int .u32 0, .int .u32 0, .int .u32 0, .int .u32 0, .int .u32 0, .int .u32 0, .int .u32 0, .int .u32 0, .int .u32 0, .int .u32 0, .int .u32 0, .int .u32 0, .int .u32 0, .int .u32 0] 59)) wr.heap.size 59 .u32 z17 from new_is wr 59 .u32 z17)
                  go_upto_region 60 with (first | (with_reducible refine loadL_is (b := bH) (e := 59) (k := .u32) (xs := h9) 59 36 17 (.tmp 7) rfl rfl rfl JH.out Try.underlying59 HI17.out ?_) | (with_reducible refine storeL_is (b := wr.heap.size) (e := 59) (k := .u32) (xs := z17) 59 (.tmp 23) (.tmp 190) rfl rfl rfl h9 rfl rfl N4.out HLL.out HI17.out ?_))
                  change Code.wp _ _ _ _ (put (wr.alloc (.cells (nums .u32 z17).toArray 59)) wr.heap.size .u32 h9)
                  have ig := put_heap (ys := h9) N4.out
                  have Bg : Below wr.heap.size wr (put (wr.alloc (.cells (nums .u32 z17).toArray 59)) wr.heap.size .u32 h9) := below_put ((Below.refl _ _).alloc (Nat.le_refl _) _) (Nat.le_refl _)
                  have Sg : (put (wr.alloc (.cells (nums .u32 z17).toArray 59)) wr.heap.size .u32 h9).heap.size = wr.heap.size + 1 := by rw [put_size]; simp
                  replace ig : Is (put (wr.alloc (.cells (nums .u32 z17).toArray 59)) wr.heap.size .u32 h9) wr.heap.size 59 .u32 h9 := ig
                  generalize put (wr.alloc (.cells (nums .u32 z17).toArray 59)) wr.heap.size .u32 h9 = wg at ig Bg Sg ⊢
                  obtain ⟨bG, hbG⟩ : ∃ b, b = wr.heap.size := ⟨_, rfl⟩
                  rw [← hbG] at ig Sg ⊢
                  have hjz := JZ.out
                  have hsz := HSZ.out
                  have GH := Aside0.mk (JH.out.below Bg)
                  have GB := Aside0.mk (JB.out.trans (Bg.mono (by omega)))
                  have GZ := Aside0.mk (show bH < bG ∧ bR ≤ bG ∧ bG < wg.heap.size by omega)
                  have IG := Aside0.mk ig
                  clear ig Bg Sg hbG hjz hsz JH JB JZ JR N4 HLL
                  have HIm := Aside0.mk (show (Try.prog.info? 59).map (·.size) = some minusL.length from info_a17)
                  have HLm := Aside0.mk (show z17.length = minusL.length from rfl)
                  have N5 := Aside0.mk (show Is (wg.alloc (.cells #[.int .u32 0, .int .u32 0, .int .u32 0, .int .u32 0, .int .u32 0, .int .u32 0, .int .u32 0, .int .u32 0, .int .u32 0, .int .u32 0, .int .u32 0, .int .u32 0, .int .u32 0, .int .u32 0, .int .u32 0, .int .u32 0, .int .u32 0] 59)) wg.heap.size 59 .u32 z17 from new_is wg 59 .u32 z17)
                  go_upto_region 61 with (with_reducible refine storeL_is (b := wg.heap.size) (e := 59) (k := .u32) (xs := z17) 59 (.tmp 24) (.tmp 191) rfl rfl rfl minusL rfl rfl N5.out HLm.out HIm.out ?_)
                  change Code.wp _ _ _ _ (put (wg.alloc (.cells (nums .u32 z17).toArray 59)) wg.heap.size .u32 minusL)
                  have im := put_heap (ys := minusL) N5.out
                  have Bm : Below wg.heap.size wg (put (wg.alloc (.cells (nums .u32 z17).toArray 59)) wg.heap.size .u32 minusL) := below_put ((Below.refl _ _).alloc (Nat.le_refl _) _) (Nat.le_refl _)
                  replace im : Is (put (wg.alloc (.cells (nums .u32 z17).toArray 59)) wg.heap.size .u32 minusL) wg.heap.size 59 .u32 minusL := im
                  generalize put (wg.alloc (.cells (nums .u32 z17).toArray 59)) wg.heap.size .u32 minusL = wm at im Bm ⊢
                  have IM := Aside0.mk im
                  have MH := Aside0.mk (GH.out.below Bm)
                  have MG := Aside0.mk (IG.out.below Bm)
                  have hgz := GZ.out
                  have MB := Aside0.mk (GB.out.trans (Bm.mono (by omega)))
                  have MZ := Aside0.mk (show bH < bG ∧ bR ≤ bG ∧ bG < wm.heap.size by have := Bm.size; omega)
                  clear im Bm hgz GH IG GB GZ N5 HLm
                  go_wp2_with (with_reducible refine loadL_is (b := wg.heap.size) (e := 59) (k := .u32) (xs := minusL) 59 36 17 (.tmp 24) rfl rfl rfl IM.out Try.underlying59 HIm.out ?_)
                  refine (add_calls 59 h9 minusL bH _ MH.out LH9.out rfl).mono ?_
                  rintro e wa ⟨rfl, ia⟩
                  have hz1 := ia.size
                  have hz2 := MZ.out
                  have hz3 := HSZ.out
                  obtain ⟨hA, hhA⟩ : ∃ y_, y_ = addF h9 minusL := ⟨_, rfl⟩
                  have LA := Aside0.mk (show hA.length = 17 by rw [hhA, len_addF, LH9.out])
                  have AH := ia.is MH.out
                  rw [← hhA] at AH
                  have EA := Aside0.mk hhA
                  have AHH := Aside0.mk AH
                  have AG := Aside0.mk (ia.other (by omega) MG.out)
                  have AB := Aside0.mk (Into.belowB MB.out ia (by omega) (by omega))
                  have AZ := Aside0.mk (show bH < bG ∧ bR ≤ bG ∧ bG < wa.heap.size by omega)
                  have G16 := AH.cell 16 (by rw [LA.out]; omega)
                  clear ia hz1 hz2 hz3 hhA AH MH MG MB MZ IM
                  go_upto_if 197 with (fail)
                  obtain ⟨hB, hhB⟩ : ∃ y_, y_ = selR h9 hA := ⟨_, rfl⟩
                  have LB9 := Aside0.mk (show hB.length = 17 by rw [hhB, selR]; split <;> first | exact LH9.out | exact LA.out)
                  have EB9 := Aside0.mk hhB
                  go_cut [] (fun wx => Aside0 (Is wx bH 59 .u32 hB) ∧ Aside0 (Below bR w wx) ∧ Aside0 (bH < wx.heap.size))
                  case first =>
                    cases hsel : (Go.bits .and .u32 (rd hA 16) 128 != 0)
                    · have es := Aside0.mk (show hB = hA by rw [hhB, selR, hsel]; rfl)
                      clear hhB
                      go_wp2_with fail
                      go_meet
                      exact ⟨⟨by rw [es.out]; exact AHH.out⟩, AB, ⟨by have := AZ.out; omega⟩⟩
                    · have es := Aside0.mk (show hB = h9 by rw [hhB, selR, hsel]; rfl)
                      clear hhB
                      have HLa := Aside0.mk (show hA.length = h9.length by rw [LA.out, LH9.out])
                      go_wp2_with (first | (with_reducible refine loadL_is (b := bG) (e := 59) (k := .u32) (xs := h9) 59 36 17 (.tmp 23) rfl rfl rfl AG.out Try.underlying59 HI17.out ?_) | (with_reducible refine storeL_is (b := bH) (e := 59) (k := .u32) (xs := hA) 59 (.tmp 7) (.tmp 198) rfl rfl rfl h9 rfl rfl AHH.out HLa.out HI17.out ?_))
                      go_meet
                      exact ⟨⟨by rw [es.out]; exact put_heap AHH.out⟩, ⟨below_put AB.out (by have := HSZ.out; omega)⟩, ⟨by rw [put_size]; have := AZ.out; omega⟩⟩
                  case rest =>
                    obtain ⟨CH, CB, CZ⟩ := hcut
                    clear hhB G16 AHH AG AB AZ LA
                    go_upto_region 65 with (fail)
                    change Code.wp _ _ _ _ (wc.alloc (.cells (nums .u32 z17).toArray 59))
                    have is0 := new_is wc 59 .u32 z17
                    have Bs : Below wc.heap.size wc (wc.alloc (.cells (nums .u32 z17).toArray 59)) := (Below.refl _ _).alloc (Nat.le_refl _) _
                    have Ss : (wc.alloc (.cells (nums .u32 z17).toArray 59)).heap.size = wc.heap.size + 1 := by simp
                    generalize wc.alloc (.cells (nums .u32 z17).toArray 59) = ws at is0 Bs Ss ⊢
                    obtain ⟨bS, hbS⟩ : ∃ b, b = wc.heap.size := ⟨_, rfl⟩
                    rw [← hbS] at is0 Ss ⊢
                    have hcz := CZ.out
                    have hsz := HSZ.out
                    have SS := Aside0.mk is0
                    have SH := Aside0.mk (CH.out.below Bs)
                    have SB := Aside0.mk (CB.out.trans (Bs.mono (by omega)))
                    have SZ := Aside0.mk (show bR ≤ bS ∧ bH < bS ∧ bS < ws.heap.size by omega)
                    clear is0 Bs Ss hbS hcz hsz CH CB CZ
                    go_wp2
                    go_loopw [26] (fun v w' => ∃ k : Nat, k ≤ 16 ∧ v = .int .i64 k ∧ Aside0 (To ws w' bS .u32 (sN key k))) (fun v _ => 16 - (intOf v).toNat)
                    case atStart => exact ⟨0, by omega, rfl, ⟨To.refl SS.out⟩⟩
                    case round =>
                      obtain ⟨k, hk, rfl, HT⟩ := hrel
                      obtain ⟨y, q0⟩ : ∃ y_, y_ = sN key k := ⟨_, rfl⟩
                      rw [← q0] at HT
                      have Ly := Aside0.mk (show y.length = 17 by rw [q0, len_sN])
                      have Q0 := Aside0.mk q0
                      clear q0
                      have iy := HT.out.is SS.out
                      by_cases hk16 : k < 16
                      · have k0 : (k : Int) < 16 := by omega
                        have k17 : (k : Int) < 17 := by omega
                        have hCr := Kd.C_below HK.out (show Below w.heap.size w wr by rw [← HSZ.out.1]; exact To.below SB.out HT.out SZ.out.1)
                        obtain ⟨ji, hji⟩ : ∃ ji : Nat, ji = 16 + k := ⟨_, rfl⟩
                        obtain ⟨ad', hA', hcell⟩ := Kd.at_int hCr (ji : Int) (by omega) (by rw [LK.out]; omega)
                        obtain rfl : ad = ad' := by injection hA'
                        rw [Int.toNat_natCast] at hcell
                        have W2 : 16 + (k : Int) = (ji : Int) := by omega
                        have W5 : wrap64 (ji : Int) = (ji : Int) := wrap_id (by omega) (by omega)
                        have W3 : (ji : Int) < (key.length : Int) := by rw [LK.out]; omega
                        have W4 : ji < key.length := by rw [LK.out]; omega
                        have H1 := iy.cell k (by rw [Ly.out]; omega)
                        have F1 := iy.free k
                        have HJI := Aside0.mk hji
                        clear hCr hji
                        go_wp2_with fail
                        rw [put_set iy]
                        have e2 : sN key (k + 1) = y.set k (rd key (ji : Int) % 4294967296) := by rw [sN, ← Q0.out, ← HJI.out]
                        have t1 := HT.out.put_d0 (zs := y.set k (rd key (ji : Int) % 4294967296))
                        rw [← e2] at t1
                        refine ⟨⟨k + 1, by omega, by go_num, ⟨?_⟩⟩, by simp [intOf]; omega⟩
                        rw [e2] at t1 ⊢; exact t1
                      · obtain rfl : k = 16 := by omega
                        rw [show ((16 : Nat) : Int) = 16 from rfl]
                        clear hk16
                        have hz0 := HT.out.size
                        have hz1 := SZ.out
                        have hz2 := HSZ.out
                        have IY := Aside0.mk iy
                        have YH := Aside0.mk (HT.out.other (by omega) SH.out)
                        have YB := Aside0.mk (To.below SB.out HT.out SZ.out.1)
                        have YZ := Aside0.mk (show bH < wr.heap.size by omega)
                        have HIy := Aside0.mk (show (Try.prog.info? 59).map (·.size) = some y.length by rw [Ly.out]; exact info_a17)
                        clear iy HT hz0 hz1 SS SH SB SZ
                        go_wp2_with (with_reducible refine loadL_is (b := bS) (e := 59) (k := .u32) (xs := y) 59 36 17 (.tmp 25) rfl rfl rfl IY.out Try.underlying59 HIy.out ?_)
                        refine (add_calls 59 hB y bH _ YH.out LB9.out Ly.out).mono ?_
                        rintro e wb ⟨rfl, ib⟩
                        have FH0 := ib.is YH.out
                        have hfs := ib.size
                        obtain ⟨hF, hhF⟩ : ∃ y_, y_ = addF hB y := ⟨_, rfl⟩
                        have LF := Aside0.mk (show hF.length = 17 by rw [hhF, len_addF, LB9.out])
                        rw [← hhF] at FH0
                        have EF := Aside0.mk hhF
                        have FH := Aside0.mk FH0
                        have FB := Aside0.mk (Into.belowB YB.out ib (by omega) (by have := YZ.out; omega))
                        have FZ := Aside0.mk (show bH < wb.heap.size by have := YZ.out; omega)
                        clear ib FH0 hfs hz2 hhF YH YB YZ IY HIy
                        obtain ⟨bO, hbO⟩ : ∃ b, b = wb.heap.size := ⟨_, rfl⟩
                        have HBO := Aside0.mk hbO
                        have R0 := Aside0.mk (Kd.R_nil (Kd.int .u8) 5 wb bO (fun _ => True))
                        clear hbO
                        go_wp2
                        obtain ⟨wo, rfl⟩ : ∃ wo : World, wo = wb := ⟨_, rfl⟩
                        go_loopw [27, 28] (fun u v w' => ∃ k : Nat, k ≤ 16 ∧ v = .int .i64 k ∧ Aside0 ((Kd.int .u8).R 5 w' bO (fun _ => True) u (oN hF k)) ∧ Aside0 (Below bO wo w')) (fun _ v _ => 16 - (intOf v).toNat)
                        case atStart => exact ⟨0, by omega, rfl, R0, ⟨Below.refl _ _⟩⟩
                        case round =>
                          clear R0
                          obtain ⟨k, hk, rfl, HR, HB⟩ := hrel
                          by_cases hk16 : k < 16
                          · have k0 : (k : Int) < 16 := by omega
                            have k17 : (k : Int) < 17 := by omega
                            have H1 := (FH.out.belowB HB.out (by have := FZ.out; have := HBO.out; omega)).cell k (by rw [LF.out]; omega)
                            have LO := Aside0.mk (show ((oN hF k).length + 1) * 1 ≤ 140737488355328 by rw [len_oN]; omega)
                            have SBo := Aside0.mk (show bO ≤ wr.heap.size by have := HB.out.size; have := HBO.out; omega)
                            go_wp2_with ((with_reducible refine gate_builtin (b := .append) (xs := #[.tmp 217, .tmp 222]) rfl ?_); at_builtin; refine lit_append bO rfl (.tmp 217) (.tmp 222) 22 5 .u8 1 rfl Try.underlying22 info_u8 Nat.one_pos _ (oN hF k) [rd hF (k : Int) % 256] 1 ?q1 rfl ?q3 ?q4 ?q5 ?q6 ?_; (case q1 => rfl); (case q3 => rfl); (case q4 => exact HR.out); (case q5 => exact SBo.out); (case q6 => exact LO.out); intro v1 w1' hR1 hB1; have HR1 := Aside0.mk hR1; have HB1 := Aside0.mk (HB.out.trans hB1); clear hR1 hB1 HR HB)
                            refine ⟨⟨k + 1, by omega, by go_num, ⟨HR1.out⟩, HB1⟩, by simp [intOf]; omega⟩
                          · obtain rfl : k = 16 := by omega
                            rw [show ((16 : Nat) : Int) = 16 from rfl]
                            clear hk16
                            have RO := Kd.R_lower HR.out (show w.heap.size ≤ bO by rw [← HSZ.out.1, HBO.out]; exact Nat.le_trans HSZ.out.2.1 (Nat.le_of_lt FZ.out))
                            have BO := Aside0.mk (show Below w.heap.size w wr by rw [← HSZ.out.1]; exact FB.out.trans (HB.out.mono (by rw [HBO.out]; exact Nat.le_trans HSZ.out.2.1 (Nat.le_of_lt FZ.out))))
                            have RO := Aside0.mk RO
                            go_wp2_with fail
                            go_ret2
                            refine ⟨_, rfl, ?_, BO.out⟩
                            have RQ := RO.out
                            rw [EF.out, Q0.out, EB9.out, EA.out, EH9.out, ER.out] at RQ
                            exact rtag_R RQ
end Go.Proofs.Ytjlokmjbblpmoaa.PolR
