/-
  PolyOne, walked.
-/
import Derived.Test.YtgnanhphdodhoaaPolyK
import Derived.Test.YtgnanhphdodhoaaPolyO
import Derived.Test.YtgnanhphdodhoaaCut
import Derived.Deep.Cut
namespace Go.Proofs.Ytgnanhphdodhoaa.Pol
open Go.RowKit Go.Proofs.YtgnanhphdodhoaaW.PrintWords Go.Proofs.YtgnanhphdodhoaaW.PrintMore Go.Proofs.Ytgnanhphdodhoaa.Arr Go.Proofs.Ytgnanhphdodhoaa.Bits

theorem info_i64 : (Try.prog.info? 3).map (fun i => (i.zero, i.size, i.bytes)) = some (some (.int .i64 0), 1, 8) := by kernel_rfl
set_option maxHeartbeats 4000000 in
set_option maxRecDepth 100000 in
theorem one_calls (A : Option Addr) (c : Nat) (l : List Int) (w : World) (hr : (Kd.int .u8).C w A l.length l) (hc : l.length ≤ c) (hbl : Bytes l) :
    Calls Try.prog 5 #[.slice A l.length c] w fun e w' => e = .returned (.bool true) ∧ Below w.heap.size w w' := by
  obtain ⟨b, hb⟩ : ∃ b, b = l.take 60 := ⟨_, rfl⟩
  have hcut := strongroomkeep_CutR.calls A c l 60 b w hr hc (by rw [hb]; exact cut_some l 60)
  have hCb : (Kd.int .u8).C w A b.length b := cutR_C hr hc (n := 60) (by rw [hb]; exact cut_some l 60)
  have hcb : b.length ≤ c := cutR_len hc (n := 60) (by rw [hb]; exact cut_some l 60)
  have LB := Aside0.mk (show b.length ≤ 60 by rw [hb, List.length_take]; omega)
  have HBB := Aside0.mk (show Bytes b by rw [hb]; exact hbl.take _)
  have HCUT := Aside0.mk hcut
  have HCb := Aside0.mk hCb
  have Hcb := Aside0.mk hcb
  have HE := Aside0.mk hb
  have Q1 := Aside0.mk (show (32 : Int).toNat * 1 ≤ 281474976710656 by decide)
  have Q0 := Aside0.mk (show (0 : Int) ≤ 32 by decide)
  clear hcut hCb hcb hb hr hc hbl
  go_enter Try.func5, Try.ntmps5
  go_wp2_with fail
  refine HCUT.out.mono ?_
  rintro e w1 ⟨rfl, ⟨n1, rfl⟩⟩
  have HC1 := Aside0.mk (Kd.C_drewN HCb.out n1)
  have B1 := Aside0.mk (drewN_of (W := w) n1)
  generalize w.drewN n1 = w1 at HC1 B1 ⊢
  clear HCUT
  go_upto_region 3 with (at_make; refine Kd.R_make (Kd.int .u8) w1.heap.size 5 rfl (N := 14) rfl 22 _ _ rfl (32 : Int) rfl rfl Try.underlying22 (.int .u8 0) 1 info_u8 rfl Nat.one_pos Nat.one_pos 0 (ok := fun _ => True) (okp := fun _ => True) rfl (fun _ hk => hk) trivial Q0.out Q1.out (Below.refl _ _) (Nat.le_refl _) ?_; intro v5 w5 hR5 hB5 _ _; obtain ⟨gk, ck, hv, hgk, _⟩ := Kd.R_form hR5 (by simp); subst hv; have HR5 := Aside0.mk hR5; have HB5 := Aside0.mk (B1.out.trans (hB5.mono B1.out.size)); have HGK := Aside0.mk hgk; have HB5' := Aside0.mk hB5; clear hR5 hB5 hgk)
  have hc0 := Kd.R_celln (0 : Int) HR5.out (0 : Int) (by omega) (by simp)
  obtain ⟨x1, x2⟩ := hc0
  have hp := Kd.R_putg HR5.out (0 : Int) (1 : Int)
  rw [show (0 : Int).toNat = 0 from rfl] at x1 x2 hp
  have HP := Aside0.mk hp
  clear hp
  go_upto_region 4 with (fail)
  have hsz : (w5.setCell ⟨gk, 0, none⟩ (.int .u8 1)).heap.size = w5.heap.size := by simp
  have HRk := Aside0.mk (show (Kd.int .u8).R 5 (w5.setCell ⟨gk, 0, none⟩ (.int .u8 1)) w1.heap.size (fun _ => True) (.slice (some ⟨gk, 0, none⟩) 32 ck) oneKey from HP.out.1)
  have HBk := Aside0.mk (show Below w1.heap.size w1 (w5.setCell ⟨gk, 0, none⟩ (.int .u8 1)) from below_set HB5'.out HGK.out)
  clear HP x1 x2 HR5 hsz
  generalize w5.setCell ⟨gk, 0, none⟩ (.int .u8 1) = w6 at HRk HBk ⊢
  have hck := (Kd.R_reads' HRk.out).2
  have HC6 := Aside0.mk (Kd.C_below HC1.out HBk.out)
  obtain ⟨x, hx⟩ : ∃ x, x = tagF oneKey b := ⟨_, rfl⟩
  have CS := poly_Sum.calls (some ⟨gk, 0, none⟩) ck oneKey A c b x 0 w6 hck.2 hck.1 HC6.out Hcb.out (by unfold poly_Sum.f Pol.sumAns; rw [if_pos (by decide), hx])
  have HCS := Aside0.mk (show Calls Try.prog 20 #[.slice (some ⟨gk, 0, none⟩) 32 ck, .slice A b.length c] w6 _ from CS)
  have HX := Aside0.mk hx
  have LX := Aside0.mk (show x.length = 16 by rw [hx, len_tagF])
  clear CS hck hx
  go_wp2_with fail
  refine HCS.out.mono ?_
  rintro e w7 ⟨v, rfl, hR, hB⟩
  obtain ⟨gx, cx, hv, hgx, _⟩ := Kd.R_form hR (by rw [LX.out]; decide)
  subst hv
  rw [LX.out] at hR ⊢
  have HRx := Aside0.mk hR
  have HB7 := Aside0.mk (B1.out.trans ((HBk.out.trans (hB.mono HBk.out.size)).mono B1.out.size))
  have HC7 := Aside0.mk (Kd.C_below HC6.out hB)
  clear hR hB HCS HRk HBk HC6 HC1
  go_upto_region 8 with (fail)
  have iu := new_is w7 34 .i64 (List.replicate 18 0)
  change Code.wp _ _ _ _ (w7.alloc (.cells (nums .i64 (List.replicate 18 0)).toArray 34))
  have BU : Below w7.heap.size w7 (w7.alloc (.cells (nums .i64 (List.replicate 18 0)).toArray 34)) := (Below.refl _ _).alloc (Nat.le_refl _) _
  generalize w7.alloc (.cells (nums .i64 (List.replicate 18 0)).toArray 34) = w8 at iu BU ⊢
  obtain ⟨bU, hbU⟩ : ∃ b, b = w7.heap.size := ⟨_, rfl⟩
  rw [← hbU] at iu BU ⊢
  have IU := Aside0.mk iu
  have HB8 := Aside0.mk (HB7.out.trans (BU.mono (by rw [hbU]; exact HB7.out.size)))
  have HWU := Aside0.mk (show w.heap.size ≤ bU by rw [hbU]; exact HB7.out.size)
  have HRx8 := Aside0.mk (Kd.R_below HRx.out (by rw [← hbU]; exact BU))
  have HXU := Aside0.mk (show gx ≠ bU by have := Kd.R_lt HRx.out gx rfl; omega)
  clear iu BU hbU HRx HC7 HB7
  go_wp2
  go_loopw [7] (fun v w' => ∃ j : Nat, v = .int .i64 (16 * (j : Int)) ∧ Aside0 (16 * j < b.length + 16) ∧ Aside0 (To w8 w' bU .i64 (uN b j))) (fun v _ => 80 - (intOf v).toNat)
  case atStart => exact ⟨0, by simp, ⟨by omega⟩, ⟨To.refl IU.out⟩⟩
  case round =>
    obtain ⟨j, rfl, HJ, HT⟩ := hrel
    by_cases hlt : 16 * j < b.length
    · have c0 : 16 * (j : Int) < (b.length : Int) := by omega
      have hLB := LB.out
      by_cases h16 : 16 < b.length - 16 * j
      · have c1 : (16 : Int) < (b.length : Int) - 16 * (j : Int) := by omega
        have HMIN := Aside0.mk (show min (b.length - 16 * j) 16 = 16 by omega)
        go_upto_region 14 with (fail)
        have n16 : (16 : Nat) ≤ 16 := by omega
        have hjk : 16 * j + 16 ≤ b.length := by omega
        obtain ⟨u0, hu0⟩ : ∃ u, u = uN b j := ⟨_, rfl⟩
        rw [← hu0] at HT
        have LU := Aside0.mk (show u0.length = 18 by rw [hu0, len_uN])
        have HU0 := Aside0.mk hu0
        clear hu0
        go_wp2
        obtain ⟨wo, rfl⟩ : ∃ wo : World, wo = wr := ⟨_, rfl⟩
        go_loopw [9] (fun v w' => ∃ k : Nat, k ≤ 16 ∧ v = .int .i64 k ∧ Aside0 (To w8 w' bU .i64 (uK u0 b (16 * j) k))) (fun v _ => 16 - (intOf v).toNat)
        case atStart => exact ⟨0, by omega, rfl, HT⟩
        case round =>
          clear HT
          obtain ⟨k, hk, rfl, HT⟩ := hrel
          obtain ⟨xu, q0⟩ : ∃ u, u = uK u0 b (16 * j) k := ⟨_, rfl⟩
          rw [← q0] at HT
          have Lu := Aside0.mk (show xu.length = 18 by rw [q0, len_uK, LU.out])
          have Q0 := Aside0.mk q0
          clear q0
          have iu := HT.out.is IU.out
          by_cases hkn : k < 16
          · have k0 : (k : Int) < 16 := by omega
            have k18 : (k : Int) < 18 := by omega
            have hCr := Kd.C_below HCb.out (To.below HB8.out HT.out HWU.out)
            obtain ⟨ji, hji⟩ : ∃ ji : Nat, ji = 16 * j + k := ⟨_, rfl⟩
            obtain ⟨ad, hA, hcell⟩ := Kd.at_int hCr (ji : Int) (by omega) (by omega)
            subst hA
            rw [Int.toNat_natCast] at hcell
            have W2 : 16 * (j : Int) + (k : Int) = (ji : Int) := by omega
            have W1 : IntKind.i64.wrap (16 * (j : Int) + (k : Int)) = (ji : Int) := by rw [W2]; simp [IntKind.wrap, IntKind.bits, IntKind.signed]; omega
            have W5 : IntKind.i64.wrap (ji : Int) = (ji : Int) := by simp [IntKind.wrap, IntKind.bits, IntKind.signed]; omega
            have W3 : (ji : Int) < (b.length : Int) := by omega
            have W4 : ji < b.length := by omega
            have H1 := iu.cell k (by rw [Lu.out]; omega)
            have F1 := iu.free k
            have HJI := Aside0.mk hji
            clear hCr hji
            go_wp2
            go_still_tail 13, (by kernel_rfl)
            change wpList _ _ _ _ _ wr.drew
            go_wp2_with fail
            rw [put_set iu]
            have e2 : uK u0 b (16 * j) (k + 1) = xu.set k (wrap64 (rd xu k + wrap64 (rd b (ji : Int)))) := by rw [uK, ← Q0.out, ← HJI.out]
            have t1 := HT.out.put_dr (zs := xu.set k (wrap64 (rd xu k + wrap64 (rd b (ji : Int)))))
            rw [← e2] at t1
            refine ⟨⟨k + 1, by omega, by go_num, ⟨?_⟩⟩, by simp [intOf]; omega⟩
            rw [e2] at t1 ⊢; exact t1
          · obtain rfl : k = 16 := by omega
            rw [show ((16 : Nat) : Int) = 16 from rfl]
            clear hkn
            have H1 := iu.cell 16 (by rw [Lu.out]; omega)
            have F1 := iu.free 16
            have n18 : 16 < (18 : Int) := by omega
            go_wp2_with fail
            rw [put_set iu]
            have e2 : uN b (j + 1) = xu.set 16 (wrap64 (rd xu 16 + 1)) := by
              have e3 : uN b (j + 1) = uB (uN b j) b (16 * j) := rfl
              rw [e3, ← HU0.out, uB, HMIN.out, ← Q0.out]
              rfl
            have t1 := HT.out.put_d0 (zs := xu.set 16 (wrap64 (rd xu 16 + 1)))
            rw [← e2] at t1
            refine ⟨⟨j + 1, by go_num, ⟨by omega⟩, ⟨?_⟩⟩, by simp [intOf]; omega⟩
            rw [e2] at t1 ⊢; exact t1
      · have c1 : ¬ (16 : Int) < (b.length : Int) - 16 * (j : Int) := by omega
        obtain ⟨n, hn⟩ : ∃ n, n = b.length - 16 * j := ⟨_, rfl⟩
        have HMIN := Aside0.mk (show min (b.length - 16 * j) 16 = n by omega)
        go_upto_region 14 with (fail)
        rw [show (b.length : Int) - 16 * (j : Int) = (n : Int) by omega]
        have n16 : n ≤ 16 := by omega
        have hjk : 16 * j + n ≤ b.length := by omega
        clear hn
        obtain ⟨u0, hu0⟩ : ∃ u, u = uN b j := ⟨_, rfl⟩
        rw [← hu0] at HT
        have LU := Aside0.mk (show u0.length = 18 by rw [hu0, len_uN])
        have HU0 := Aside0.mk hu0
        clear hu0
        go_wp2
        obtain ⟨wo, rfl⟩ : ∃ wo : World, wo = wr := ⟨_, rfl⟩
        go_loopw [9] (fun v w' => ∃ k : Nat, k ≤ n ∧ v = .int .i64 k ∧ Aside0 (To w8 w' bU .i64 (uK u0 b (16 * j) k))) (fun v _ => n - (intOf v).toNat)
        case atStart => exact ⟨0, by omega, rfl, HT⟩
        case round =>
          clear HT
          obtain ⟨k, hk, rfl, HT⟩ := hrel
          obtain ⟨xu, q0⟩ : ∃ u, u = uK u0 b (16 * j) k := ⟨_, rfl⟩
          rw [← q0] at HT
          have Lu := Aside0.mk (show xu.length = 18 by rw [q0, len_uK, LU.out])
          have Q0 := Aside0.mk q0
          clear q0
          have iu := HT.out.is IU.out
          by_cases hkn : k < n
          · have k0 : (k : Int) < (n : Int) := by omega
            have k18 : (k : Int) < 18 := by omega
            have hCr := Kd.C_below HCb.out (To.below HB8.out HT.out HWU.out)
            obtain ⟨ji, hji⟩ : ∃ ji : Nat, ji = 16 * j + k := ⟨_, rfl⟩
            obtain ⟨ad, hA, hcell⟩ := Kd.at_int hCr (ji : Int) (by omega) (by omega)
            subst hA
            rw [Int.toNat_natCast] at hcell
            have W2 : 16 * (j : Int) + (k : Int) = (ji : Int) := by omega
            have W1 : IntKind.i64.wrap (16 * (j : Int) + (k : Int)) = (ji : Int) := by rw [W2]; simp [IntKind.wrap, IntKind.bits, IntKind.signed]; omega
            have W5 : IntKind.i64.wrap (ji : Int) = (ji : Int) := by simp [IntKind.wrap, IntKind.bits, IntKind.signed]; omega
            have W3 : (ji : Int) < (b.length : Int) := by omega
            have W4 : ji < b.length := by omega
            have H1 := iu.cell k (by rw [Lu.out]; omega)
            have F1 := iu.free k
            have HJI := Aside0.mk hji
            clear hCr hji
            go_wp2
            go_still_tail 13, (by kernel_rfl)
            change wpList _ _ _ _ _ wr.drew
            go_wp2_with fail
            rw [put_set iu]
            have e2 : uK u0 b (16 * j) (k + 1) = xu.set k (wrap64 (rd xu k + wrap64 (rd b (ji : Int)))) := by rw [uK, ← Q0.out, ← HJI.out]
            have t1 := HT.out.put_dr (zs := xu.set k (wrap64 (rd xu k + wrap64 (rd b (ji : Int)))))
            rw [← e2] at t1
            refine ⟨⟨k + 1, by omega, by go_num, ⟨?_⟩⟩, by simp [intOf]; omega⟩
            rw [e2] at t1 ⊢; exact t1
          · obtain rfl : n = k := by omega
            skip
            clear hkn
            have H1 := iu.cell n (by rw [Lu.out]; omega)
            have F1 := iu.free n
            have n18 : (n : Int) < (18 : Int) := by omega
            go_wp2_with fail
            rw [put_set iu]
            have e2 : uN b (j + 1) = xu.set n (wrap64 (rd xu (n : Int) + 1)) := by
              have e3 : uN b (j + 1) = uB (uN b j) b (16 * j) := rfl
              rw [e3, ← HU0.out, uB, HMIN.out, ← Q0.out]
              
            have t1 := HT.out.put_d0 (zs := xu.set n (wrap64 (rd xu (n : Int) + 1)))
            rw [← e2] at t1
            refine ⟨⟨j + 1, by go_num, ⟨by omega⟩, ⟨?_⟩⟩, by simp [intOf]; omega⟩
            rw [e2] at t1 ⊢; exact t1
    · have hjJ : j = (b.length + 15) / 16 := by have := HJ.out; omega
      have c0 : ¬ 16 * (j : Int) < (b.length : Int) := by omega
      obtain ⟨u1, hu1⟩ : ∃ u, u = uN b j := ⟨_, rfl⟩
      rw [← hu1] at HT
      have HU1 := Aside0.mk (show u1 = uN b ((b.length + 15) / 16) by rw [hu1, hjJ])
      have LU1 := Aside0.mk (show u1.length = 18 by rw [hu1, len_uN])
      clear hjJ hu1 HJ
      go_wp2
      obtain ⟨wo, rfl⟩ : ∃ wo : World, wo = wr := ⟨_, rfl⟩
      go_loopw [10] (fun v w' => ∃ k : Nat, k ≤ 17 ∧ v = .int .i64 k ∧ Aside0 (To w8 w' bU .i64 (cN u1 k))) (fun v _ => 17 - (intOf v).toNat)
      case atStart => exact ⟨0, by omega, rfl, HT⟩
      case round =>
        clear HT
        obtain ⟨k, hk, rfl, HT⟩ := hrel
        obtain ⟨xu0, q0⟩ : ∃ u, u = cN u1 k := ⟨_, rfl⟩
        rw [← q0] at HT
        have Lu0 := Aside0.mk (show xu0.length = 18 by rw [q0, len_cN, LU1.out])
        have Q0 := Aside0.mk q0
        clear q0
        have iu0 := HT.out.is IU.out
        by_cases hk17 : k < 17
        · have k0 : (k : Int) < 17 := by omega
          have H1 := iu0.cell (k + 1) (by rw [Lu0.out]; omega)
          have H2 := iu0.cell k (by rw [Lu0.out]; omega)
          have F1 := iu0.free (k + 1)
          have W1 : IntKind.i64.wrap ((k : Int) + 1) = (k : Int) + 1 := by simp [IntKind.wrap, IntKind.bits, IntKind.signed]; omega
          have W2 : (0 : Int) ≤ (k : Int) + 1 := by omega
          have W3 : ((k : Int) + 1).toNat = k + 1 := by omega
          have W4 : (k : Int) + 1 < 18 := by omega
          have W5 : (k : Int) < 18 := by omega
          go_wp2
          go_still_tail 12, (by kernel_rfl)
          change wpList _ _ _ _ _ wr.drew
          go_upto_region 23 with (fail)
          rw [put_set iu0]
          change Code.wp _ _ _ _ (put wr bU .i64 (cU xu0 k)).drew
          have t1 := (To.refl iu0).put_dr (zs := cU xu0 k)
          generalize (put wr bU .i64 (cU xu0 k)).drew = w9 at t1 ⊢
          obtain ⟨xu1, q1⟩ : ∃ u, u = cU xu0 k := ⟨_, rfl⟩
          rw [← q1] at t1
          have Lu1 := Aside0.mk (show xu1.length = 18 by rw [q1, len_cU, Lu0.out])
          have Q1' := Aside0.mk q1
          have iu1 := t1.is iu0
          clear q1 H1 H2 F1 W1 W2 W3 W4
          have H1 := iu1.cell k (by rw [Lu1.out]; omega)
          have F1 := iu1.free k
          go_wp2_with fail
          rw [put_set iu1]
          have e2 : cN u1 (k + 1) = xu1.set k (Go.bits .and .i64 (rd xu1 k) 255) := by rw [cN, cS, ← Q0.out, ← Q1'.out]
          have t2 := (HT.out.trans t1).put_d0 (zs := xu1.set k (Go.bits .and .i64 (rd xu1 k) 255))
          rw [← e2] at t2
          refine ⟨⟨k + 1, by omega, by go_num, ⟨?_⟩⟩, by simp [intOf]; omega⟩
          rw [e2] at t2 ⊢; exact t2
        · obtain rfl : k = 17 := by omega
          rw [show ((17 : Nat) : Int) = 17 from rfl]
          clear hk17
          have EF := Aside0.mk (show xu0 = uF b by rw [Q0.out, HU1.out, uF])
          have HBr := Aside0.mk (To.below HB8.out HT.out HWU.out)
          have HKN := Aside0.mk known3_calls
          have G16 := iu0.cell 16 (by rw [Lu0.out]; omega)
          have G15 := iu0.cell 15 (by rw [Lu0.out]; omega)
          by_cases h4 : rd xu0 16 ≥ 4
          · go_wp2_with fail
            refine (HKN.out _).mono ?_
            rintro e w11 ⟨rfl, hb11⟩
            have HB11 := Aside0.mk (HBr.out.trans (hb11.mono HBr.out.size))
            clear hb11
            go_wp2_with fail
            go_ret
            exact ⟨rfl, HB11.out⟩
          · by_cases h3 : rd xu0 16 = 3
            · by_cases h5 : rd xu0 15 = 255
              · have c3 : (rd xu0 16 == 3) = true := beq_iff_eq.2 h3
                have c5 : (rd xu0 15 == 255) = true := beq_iff_eq.2 h5
                clear h3 h5
                go_wp2_with fail
                refine (HKN.out _).mono ?_
                rintro e w11 ⟨rfl, hb11⟩
                have HB11 := Aside0.mk (HBr.out.trans (hb11.mono HBr.out.size))
                clear hb11
                go_wp2_with fail
                go_ret
                exact ⟨rfl, HB11.out⟩
              · have HLAW := Aside0.mk (one_law b HBB.out LB.out (by rw [← EF.out]; omega))
                have c3 : (rd xu0 16 == 3) = true := beq_iff_eq.2 h3
                have c5 : (rd xu0 15 == 255) = false := beq_eq_false_iff_ne.2 h5
                clear h3 h5
                go_wp2_with fail
                obtain ⟨wq, rfl⟩ : ∃ wq : World, wq = wr := ⟨_, rfl⟩
                have HCX : ∀ k : Nat, k < 16 → wq.cell? ⟨gx, k, none⟩ = some (.int .u8 (rd x k)) := by
                  intro k hk
                  have h1 := (Kd.R_celln (0 : Int) HRx8.out (k : Int) (by omega) (by omega)).1
                  rw [Int.toNat_natCast] at h1
                  have h2 : wq.cell? ⟨gx, k, none⟩ = w8.cell? ⟨gx, k, none⟩ := by unfold World.cell?; rw [HT.out.heap gx HXU.out]
                  exact h2.trans h1
                have HCXX := Aside0.mk HCX
                have HIU := Aside0.mk iu0
                clear HCX iu0 G16 G15
                go_loopw [11] (fun v w' => ∃ k : Nat, k ≤ 16 ∧ v = .int .i64 k ∧ ∃ n, w' = wq.drewN n) (fun v _ => 16 - (intOf v).toNat)
                case atStart => exact ⟨0, by omega, rfl, 0, rfl⟩
                case round =>
                  obtain ⟨k, hk, rfl, nd, rfl⟩ := hrel
                  by_cases hk16 : k < 16
                  · have k0 : (k : Int) < 16 := by omega
                    have k18 : (k : Int) < 18 := by omega
                    have H1 : wq.cell? ⟨gx, k, none⟩ = some (.int .u8 (rd x k)) := HCXX.out k hk16
                    have H2 : wq.cell? ⟨bU, k, none⟩ = some (.int .i64 (rd xu0 k)) := HIU.out.cell k (by rw [Lu0.out]; omega)
                    have c9 : (rd x (k : Int) != rd xu0 (k : Int) % 256) = false := by
                      rw [HX.out, HLAW.out k hk16, ← EF.out]
                      simp
                    go_upto_region 29 with (fail)
                    go_quiet (fail)
                    rename_i nq
                    go_wp2_with fail
                    go_roundw
                    case rel => exact ⟨k + 1, by omega, by go_num, nd + nq, rfl⟩
                    case measure => simp [intOf]; omega
                  · obtain rfl : k = 16 := by omega
                    rw [show ((16 : Nat) : Int) = 16 from rfl]
                    clear hk16
                    go_wp2_with fail
                    refine (HKN.out _).mono ?_
                    rintro e w11 ⟨rfl, hb11⟩
                    have HB11 := Aside0.mk ((pw_below_drewN HBr.out nd).trans (hb11.mono (pw_below_drewN HBr.out nd).size))
                    clear hb11
                    go_wp2_with fail
                    go_ret
                    exact ⟨rfl, HB11.out⟩
            · have HLAW := Aside0.mk (one_law b HBB.out LB.out (by rw [← EF.out]; omega))
              have c3 : (rd xu0 16 == 3) = false := beq_eq_false_iff_ne.2 h3
              clear h3
              go_wp2_with fail
              obtain ⟨wq, rfl⟩ : ∃ wq : World, wq = wr := ⟨_, rfl⟩
              have HCX : ∀ k : Nat, k < 16 → wq.cell? ⟨gx, k, none⟩ = some (.int .u8 (rd x k)) := by
                intro k hk
                have h1 := (Kd.R_celln (0 : Int) HRx8.out (k : Int) (by omega) (by omega)).1
                rw [Int.toNat_natCast] at h1
                have h2 : wq.cell? ⟨gx, k, none⟩ = w8.cell? ⟨gx, k, none⟩ := by unfold World.cell?; rw [HT.out.heap gx HXU.out]
                exact h2.trans h1
              have HCXX := Aside0.mk HCX
              have HIU := Aside0.mk iu0
              clear HCX iu0 G16 G15
              go_loopw [11] (fun v w' => ∃ k : Nat, k ≤ 16 ∧ v = .int .i64 k ∧ ∃ n, w' = wq.drewN n) (fun v _ => 16 - (intOf v).toNat)
              case atStart => exact ⟨0, by omega, rfl, 0, rfl⟩
              case round =>
                obtain ⟨k, hk, rfl, nd, rfl⟩ := hrel
                by_cases hk16 : k < 16
                · have k0 : (k : Int) < 16 := by omega
                  have k18 : (k : Int) < 18 := by omega
                  have H1 : wq.cell? ⟨gx, k, none⟩ = some (.int .u8 (rd x k)) := HCXX.out k hk16
                  have H2 : wq.cell? ⟨bU, k, none⟩ = some (.int .i64 (rd xu0 k)) := HIU.out.cell k (by rw [Lu0.out]; omega)
                  have c9 : (rd x (k : Int) != rd xu0 (k : Int) % 256) = false := by
                    rw [HX.out, HLAW.out k hk16, ← EF.out]
                    simp
                  go_upto_region 29 with (fail)
                  go_quiet (fail)
                  rename_i nq
                  go_wp2_with fail
                  go_roundw
                  case rel => exact ⟨k + 1, by omega, by go_num, nd + nq, rfl⟩
                  case measure => simp [intOf]; omega
                · obtain rfl : k = 16 := by omega
                  rw [show ((16 : Nat) : Int) = 16 from rfl]
                  clear hk16
                  go_wp2_with fail
                  refine (HKN.out _).mono ?_
                  rintro e w11 ⟨rfl, hb11⟩
                  have HB11 := Aside0.mk ((pw_below_drewN HBr.out nd).trans (hb11.mono (pw_below_drewN HBr.out nd).size))
                  clear hb11
                  go_wp2_with fail
                  go_ret
                  exact ⟨rfl, HB11.out⟩
end Go.Proofs.Ytgnanhphdodhoaa.Pol
