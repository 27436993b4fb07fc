/-
  The reference's Block (chapter 2): the same 64 bytes as chacha.block's; refused where the key has not 32 bytes or the nonce not 12.
-/
import Derived.Test.YtnmnghpdmiffaaaChachaB
namespace Go.Proofs.Ytnmnghpdmiffaaa.Cha
open Go.RowKit Go.Proofs.YtnmnghpdmiffaaaW.PrintWords Go.Proofs.Ytnmnghpdmiffaaa.Arr
set_option maxRecDepth 100000

theorem get_calls (A : Option Addr) (c : Nat) (l : List Int) (w : World) (hr : (Kd.int .u8).C w A l.length l) (h4 : 4 ≤ l.length) :
    Calls Try.prog 67 #[.slice A l.length c] w fun e w' => e = .returned (.int .u32 (leF l)) ∧ ∃ n, w' = w.drewN n := by
  obtain ⟨ad, rfl, h0⟩ := Kd.at_int hr 0 (by omega) (by omega)
  obtain ⟨ad1, e1, h1⟩ := Kd.at_int hr 1 (by omega) (by omega)
  obtain ⟨ad2, e2, h2⟩ := Kd.at_int hr 2 (by omega) (by omega)
  obtain ⟨ad3, e3, h3⟩ := Kd.at_int hr 3 (by omega) (by omega)
  obtain rfl : ad = ad1 := by injection e1
  obtain rfl : ad = ad2 := by injection e2
  obtain rfl : ad = ad3 := by injection e3
  simp only [show (1 : Int).toNat = 1 from rfl, show (2 : Int).toNat = 2 from rfl, show (3 : Int).toNat = 3 from rfl, show (0 : Int).toNat = 0 from rfl, Nat.reduceEqDiff, Go.Addr.add, ↓reduceIte] at h0 h1 h2 h3
  have q0 : (0 : Int) < (l.length : Int) := by omega
  have q1 : (1 : Int) < (l.length : Int) := by omega
  have q2 : (2 : Int) < (l.length : Int) := by omega
  have q3 : (3 : Int) < (l.length : Int) := by omega
  have p0 : 0 < l.length := by omega
  have p1 : 1 < l.length := by omega
  have p2 : 2 < l.length := by omega
  have p3 : 3 < l.length := by omega
  clear hr e1 e2 e3
  go_enter Try.func67, Try.ntmps67
  go_wp2
  go_quiet (fail)
  go_wp2
  go_ret
  exact ⟨rfl, _, rfl⟩

/-- What the reference answers: the block, or the refusal. -/
def refBlockF (key : List Int) (ctr : Int) (nonce : List Int) : List Int × Int :=
  if key.length = 32 ∧ nonce.length = 12 then (blockF key ctr nonce, 0) else ([], 1)

set_option maxHeartbeats 400000 in
theorem refBlock_no (A B : Option Addr) (cA cB : Nat) (key nonce : List Int) (ctr : Int) (w : World) (h : ¬ (key.length = 32 ∧ nonce.length = 12)) :
    Calls Try.prog 59 #[.slice A key.length cA, .int .u32 ctr, .slice B nonce.length cB] w fun e w' => e = .returned (.tuple #[.slice none 0 0, .int .i64 1]) ∧ w' = w := by
  by_cases h1 : key.length = 32
  · have b1 : ((key.length : Int) != 32) = false := by simp; omega
    have b2 : ((nonce.length : Int) != 12) = true := by simp; omega
    clear h h1
    go_enter Try.func59, Try.ntmps59
    go_wp2
    go_ret2
    exact ⟨rfl, rfl⟩
  · have b1 : ((key.length : Int) != 32) = true := by simp; omega
    clear h h1
    go_enter Try.func59, Try.ntmps59
    go_wp2
    go_ret2
    exact ⟨rfl, rfl⟩

set_option maxHeartbeats 2000000 in
set_option maxRecDepth 100000 in
theorem refBlock_yes (A B : Option Addr) (cA cB : Nat) (key nonce : List Int) (ctr : Int) (w : World) (hk : (Kd.int .u8).C w A key.length key) (hcA : key.length ≤ cA) (hlk : key.length = 32)
    (hn : (Kd.int .u8).C w B nonce.length nonce) (hcB : nonce.length ≤ cB) (hln : nonce.length = 12) :
    Calls Try.prog 59 #[.slice A key.length cA, .int .u32 ctr, .slice B nonce.length cB] w fun e w' => ∃ v, e = .returned (.tuple #[v, .int .i64 0]) ∧ (Kd.int .u8).R 5 w' w.heap.size (fun _ => True) v (blockF key ctr nonce) ∧ Below w.heap.size w w' := by
  have HK := Aside0.mk hk
  have HN := Aside0.mk hn
  have LK := Aside0.mk hlk
  have LN := Aside0.mk hln
  have b1 : ((key.length : Int) != 32) = false := by simp; omega
  have b2 : ((nonce.length : Int) != 12) = false := by simp; omega
  clear hk hn hlk hln
  go_enter Try.func59, Try.ntmps59
  go_wp2
  change Code.wp _ _ _ _ (w.alloc (.cells (nums .u32 sigma).toArray 90))
  obtain ⟨w1, e1⟩ : ∃ u, u = w.alloc (.cells (nums .u32 sigma).toArray 90) := ⟨_, rfl⟩
  have i1 : Is w1 w.heap.size 90 .u32 sigma := by rw [e1]; exact heap_alloc_new w _
  have B1 := Aside0.mk (show Below w.heap.size w w1 by rw [e1]; exact (Below.refl _ _).alloc (Nat.le_refl _) _)
  have S1 := Aside0.mk (show w1.heap.size = w.heap.size + 1 by rw [e1]; simp)
  rw [← e1]
  clear e1
  clear b1 b2
  obtain ⟨b1, E1⟩ : ∃ u, u = w.heap.size := ⟨_, rfl⟩
  rw [← E1] at i1 B1 S1 ⊢
  have E1' := Aside0.mk E1
  clear E1
  obtain ⟨I0, hI0, hsz⟩ : ∃ i, Try.prog.info? 5 = some i ∧ i.size = 1 := ⟨_, rfl, rfl⟩
  go_loopw [9] (fun v w' => ∃ i : Nat, i ≤ 8 ∧ v = .int .i64 i ∧ To w1 w' b1 .u32 (fillW sigma 4 key i)) (fun v _ => 8 - (intOf v).toNat)
  case atStart => exact ⟨0, by omega, rfl, To.refl i1⟩
  case round =>
    obtain ⟨i, hi, rfl, ht⟩ := hrel
    have is := ht.is i1
    by_cases h8 : i < 8
    · obtain ⟨A', y, c', hy, hyc, hcut, hyr⟩ := cut_ex 23 5 .i64 Try.underlying23 hI0 hsz A key cA (4 * (i : Int)) (by omega) (by rw [LK.out]; omega) hcA
      have hyl := Aside0.mk (show 4 ≤ y.length by rw [hy, List.length_drop, LK.out]; omega)
      have Hy := Aside0.mk hy
      have Hr := Aside0.mk hyr
      clear hy hyr
      have h0 : (4 : Int) + i < 16 := by omega
      have F1 := is.free (4 + i)
      have G1 := is.cell (4 + i) (by rw [len_fillW]; simp [sigma]; omega)
      have hb := To.below B1.out ht (Nat.le_refl _)
      rw [E1'.out] at hb
      have hC := Hr.out wr .u8 (Kd.C_below HK.out hb)
      have HC := Aside0.mk hC
      clear hC hb
      go_wp2_with (go_at_call 67; refine (get_calls A' c' y _ HC.out hyl.out).mono ?_; rintro e w' ⟨rfl, n, rfl⟩)
      rw [put_set (is.drewN n)]
      go_roundw
      case rel => exact ⟨i + 1, by omega, by go_num, by rw [fillW, show key.drop (4 * i) = y by rw [Hy.out]; congr 1]; exact (ht.drewN n).put⟩
      case measure => simp [intOf]; omega
    · obtain rfl : i = 8 := by omega
      rw [show ((8 : Nat) : Int) = 8 from rfl]
      have F1 := is.free 12
      have G1 := is.cell 12 (by rw [len_fillW]; simp [sigma])
      go_wp2
      rw [put_set is]
      obtain ⟨s2, e2⟩ : ∃ u, u = (fillW sigma 4 key 8).set 12 ctr := ⟨_, rfl⟩
      rw [← e2]
      have t2 := ht.put (zs := s2)
      have l2 : s2.length = 16 := by rw [e2, List.length_set, len_fillW]; rfl
      have L2 := Aside0.mk l2
      have e2' := Aside0.mk e2
      obtain ⟨w2, v2⟩ : ∃ u, u = Arr.put wr b1 .u32 s2 := ⟨_, rfl⟩
      rw [← v2] at t2 ⊢
      clear v2 e2 l2 F1 G1 is ht h8
      have i2 := t2.is i1
      go_loopw [10] (fun v w' => ∃ i : Nat, i ≤ 3 ∧ v = .int .i64 i ∧ To w1 w' b1 .u32 (fillW s2 13 nonce i)) (fun v _ => 3 - (intOf v).toNat)
      case atStart => exact ⟨0, by omega, rfl, t2⟩
      case round =>
        clear t2 i2
        obtain ⟨i, hi, rfl, ht⟩ := hrel
        have is := ht.is i1
        by_cases h3 : i < 3
        · obtain ⟨A', y, c', hy, hyc, hcut, hyr⟩ := cut_ex 23 5 .i64 Try.underlying23 hI0 hsz B nonce cB (4 * (i : Int)) (by omega) (by rw [LN.out]; omega) hcB
          have hyl := Aside0.mk (show 4 ≤ y.length by rw [hy, List.length_drop, LN.out]; omega)
          have Hy := Aside0.mk hy
          have Hr := Aside0.mk hyr
          clear hy hyr
          have h0 : (13 : Int) + i < 16 := by omega
          have F1 := is.free (13 + i)
          have G1 := is.cell (13 + i) (by rw [len_fillW, L2.out]; omega)
          have hb := To.below B1.out ht (Nat.le_refl _)
          rw [E1'.out] at hb
          have hC := Hr.out _ .u8 (Kd.C_below HN.out hb)
          have HC := Aside0.mk hC
          clear hC hb
          go_wp2_with (go_at_call 67; refine (get_calls A' c' y _ HC.out hyl.out).mono ?_; rintro e w' ⟨rfl, n, rfl⟩)
          rw [put_set (is.drewN n)]
          go_roundw
          case rel => exact ⟨i + 1, by omega, by go_num, by rw [fillW, show nonce.drop (4 * i) = y by rw [Hy.out]; congr 1]; exact (ht.drewN n).put⟩
          case measure => simp [intOf]; omega
        · obtain rfl : i = 3 := by omega
          rw [show ((3 : Nat) : Int) = 3 from rfl]
          obtain ⟨s3, e3⟩ : ∃ u, u = fillW s2 13 nonce 3 := ⟨_, rfl⟩
          rw [← e3] at ht is
          have L3 := Aside0.mk (show s3.length = 16 by rw [e3, len_fillW, L2.out])
          have E3 := Aside0.mk e3
          clear h3 e3
          have isH : wr.heap[b1]? = some (.cells (nums .u32 s3).toArray 90 (0, 0)) := is
          have ISH := Aside0.mk isH
          have hi16 : (Try.prog.info? 90).map (·.size) = some (nums .u32 s3).toArray.size := by rw [info_arr]; simp [nums, L3.out]
          have HI16 := Aside0.mk hi16
          clear isH hi16
          have HSZ := Aside0.mk (show 16 = (nums .u32 s3).toArray.size by simp [nums, L3.out])
          have HCE := Aside0.mk (show (nums .u32 s3).toArray.all (·.oneCell') = true by simp [nums, Value.oneCell'])
          go_wp2_with (first | (with_reducible refine wpList_load_row rfl 90 (.tmp 8) rfl b1 rfl 90 (nums .u32 s3).toArray (0, 0) _ ISH.out Try.underlying90 rfl HI16.out ?_) | ((with_reducible refine wpList_store_row rfl 90 (.tmp 11) (.tmp 54) rfl wr.heap.size (nums .u32 s3).toArray rfl rfl 90 _ (heap_alloc_new _ _) HI16.out ?ho ?hc ?_); (case ho => exact HSZ.out); (case hc => exact HCE.out)))
          change Code.wp _ _ _ _ ((wr.alloc (.cells (nums .u32 (List.replicate 16 0)).toArray 90)).setRow wr.heap.size (nums .u32 s3).toArray)
          obtain ⟨n1, n2, n3⟩ := new_arr wr (nums .u32 (List.replicate 16 0)).toArray 90 .u32 s3
          generalize (wr.alloc (.cells (nums .u32 (List.replicate 16 0)).toArray 90)).setRow wr.heap.size (nums .u32 s3).toArray = w4 at n1 n2 n3 ⊢
          have j4 := is.below n2
          have B4 := Aside0.mk ((To.below B1.out ht (Nat.le_refl _)).trans (n2.mono (Nat.le_of_lt is.lt)))
          have hb12 := is.lt
          obtain ⟨b2, E2⟩ : ∃ u, u = wr.heap.size := ⟨_, rfl⟩
          rw [← E2] at n1 n3 hb12 ⊢
          have i4 := n1
          have S4 := Aside0.mk n3
          clear n1 n2 n3 is E2 ht ISH i1 S1 B1
          go_loopw [12] (fun v w' => ∃ i : Nat, i ≤ 10 ∧ v = .int .i64 i ∧ To w4 w' b2 .u32 (rounds s3 i)) (fun v _ => 10 - (intOf v).toNat)
          case atStart => exact ⟨0, by omega, rfl, To.refl i4⟩
          case round =>
            obtain ⟨i, hi, rfl, ht⟩ := hrel
            have is := ht.is i4
            by_cases h10 : i < 10
            · have hd10 : decide ((i : Int) < 10) = true := decide_eq_true (by omega)
              have T0 := ht
              have J0 := is
              obtain ⟨y0, e0⟩ : ∃ u, u = rounds s3 i := ⟨_, rfl⟩
              rw [← e0] at T0 J0
              have Y0 := Aside0.mk e0
              have Z0 := Aside0.mk (show y0.length = 16 by rw [e0, len_rounds, L3.out])
              clear e0 ht is
              go_wp2_with fail
              refine (ref_quarter_int _ _ b2 0 4 8 12 _ J0 Z0.out (by decide) (by decide) (by decide) (by decide) (by decide) (by decide) (by decide) (by decide)).mono ?_
              rintro e wq1 ⟨rfl, hq⟩
              have T1 := T0.trans hq
              have J1 := T1.is i4
              obtain ⟨y1, e1⟩ : ∃ u, u = qr y0 0 4 8 12 := ⟨_, rfl⟩
              replace T1 : To w4 wq1 b2 .u32 y1 := by rw [e1]; exact T1
              replace J1 : Is wq1 b2 90 .u32 y1 := by rw [e1]; exact J1
              have Y1 := Aside0.mk e1
              have Z1 := Aside0.mk (show y1.length = 16 by rw [e1, len_qr, Z0.out])
              clear e1 T0 J0 hq
              go_wp2_with fail
              refine (ref_quarter_int _ _ b2 1 5 9 13 _ J1 Z1.out (by decide) (by decide) (by decide) (by decide) (by decide) (by decide) (by decide) (by decide)).mono ?_
              rintro e wq2 ⟨rfl, hq⟩
              have T2 := T1.trans hq
              have J2 := T2.is i4
              obtain ⟨y2, e2⟩ : ∃ u, u = qr y1 1 5 9 13 := ⟨_, rfl⟩
              replace T2 : To w4 wq2 b2 .u32 y2 := by rw [e2]; exact T2
              replace J2 : Is wq2 b2 90 .u32 y2 := by rw [e2]; exact J2
              have Y2 := Aside0.mk e2
              have Z2 := Aside0.mk (show y2.length = 16 by rw [e2, len_qr, Z1.out])
              clear e2 T1 J1 hq
              go_wp2_with fail
              refine (ref_quarter_int _ _ b2 2 6 10 14 _ J2 Z2.out (by decide) (by decide) (by decide) (by decide) (by decide) (by decide) (by decide) (by decide)).mono ?_
              rintro e wq3 ⟨rfl, hq⟩
              have T3 := T2.trans hq
              have J3 := T3.is i4
              obtain ⟨y3, e3⟩ : ∃ u, u = qr y2 2 6 10 14 := ⟨_, rfl⟩
              replace T3 : To w4 wq3 b2 .u32 y3 := by rw [e3]; exact T3
              replace J3 : Is wq3 b2 90 .u32 y3 := by rw [e3]; exact J3
              have Y3 := Aside0.mk e3
              have Z3 := Aside0.mk (show y3.length = 16 by rw [e3, len_qr, Z2.out])
              clear e3 T2 J2 hq
              go_wp2_with fail
              refine (ref_quarter_int _ _ b2 3 7 11 15 _ J3 Z3.out (by decide) (by decide) (by decide) (by decide) (by decide) (by decide) (by decide) (by decide)).mono ?_
              rintro e wq4 ⟨rfl, hq⟩
              have T4 := T3.trans hq
              have J4 := T4.is i4
              obtain ⟨y4, e4⟩ : ∃ u, u = qr y3 3 7 11 15 := ⟨_, rfl⟩
              replace T4 : To w4 wq4 b2 .u32 y4 := by rw [e4]; exact T4
              replace J4 : Is wq4 b2 90 .u32 y4 := by rw [e4]; exact J4
              have Y4 := Aside0.mk e4
              have Z4 := Aside0.mk (show y4.length = 16 by rw [e4, len_qr, Z3.out])
              clear e4 T3 J3 hq
              go_wp2_with fail
              refine (ref_quarter_int _ _ b2 0 5 10 15 _ J4 Z4.out (by decide) (by decide) (by decide) (by decide) (by decide) (by decide) (by decide) (by decide)).mono ?_
              rintro e wq5 ⟨rfl, hq⟩
              have T5 := T4.trans hq
              have J5 := T5.is i4
              obtain ⟨y5, e5⟩ : ∃ u, u = qr y4 0 5 10 15 := ⟨_, rfl⟩
              replace T5 : To w4 wq5 b2 .u32 y5 := by rw [e5]; exact T5
              replace J5 : Is wq5 b2 90 .u32 y5 := by rw [e5]; exact J5
              have Y5 := Aside0.mk e5
              have Z5 := Aside0.mk (show y5.length = 16 by rw [e5, len_qr, Z4.out])
              clear e5 T4 J4 hq
              go_wp2_with fail
              refine (ref_quarter_int _ _ b2 1 6 11 12 _ J5 Z5.out (by decide) (by decide) (by decide) (by decide) (by decide) (by decide) (by decide) (by decide)).mono ?_
              rintro e wq6 ⟨rfl, hq⟩
              have T6 := T5.trans hq
              have J6 := T6.is i4
              obtain ⟨y6, e6⟩ : ∃ u, u = qr y5 1 6 11 12 := ⟨_, rfl⟩
              replace T6 : To w4 wq6 b2 .u32 y6 := by rw [e6]; exact T6
              replace J6 : Is wq6 b2 90 .u32 y6 := by rw [e6]; exact J6
              have Y6 := Aside0.mk e6
              have Z6 := Aside0.mk (show y6.length = 16 by rw [e6, len_qr, Z5.out])
              clear e6 T5 J5 hq
              go_wp2_with fail
              refine (ref_quarter_int _ _ b2 2 7 8 13 _ J6 Z6.out (by decide) (by decide) (by decide) (by decide) (by decide) (by decide) (by decide) (by decide)).mono ?_
              rintro e wq7 ⟨rfl, hq⟩
              have T7 := T6.trans hq
              have J7 := T7.is i4
              obtain ⟨y7, e7⟩ : ∃ u, u = qr y6 2 7 8 13 := ⟨_, rfl⟩
              replace T7 : To w4 wq7 b2 .u32 y7 := by rw [e7]; exact T7
              replace J7 : Is wq7 b2 90 .u32 y7 := by rw [e7]; exact J7
              have Y7 := Aside0.mk e7
              have Z7 := Aside0.mk (show y7.length = 16 by rw [e7, len_qr, Z6.out])
              clear e7 T6 J6 hq
              go_wp2_with fail
              refine (ref_quarter_int _ _ b2 3 4 9 14 _ J7 Z7.out (by decide) (by decide) (by decide) (by decide) (by decide) (by decide) (by decide) (by decide)).mono ?_
              rintro e wq8 ⟨rfl, hq⟩
              have T8 := T7.trans hq
              have J8 := T8.is i4
              obtain ⟨y8, e8⟩ : ∃ u, u = qr y7 3 4 9 14 := ⟨_, rfl⟩
              replace T8 : To w4 wq8 b2 .u32 y8 := by rw [e8]; exact T8
              replace J8 : Is wq8 b2 90 .u32 y8 := by rw [e8]; exact J8
              have Y8 := Aside0.mk e8
              have Z8 := Aside0.mk (show y8.length = 16 by rw [e8, len_qr, Z7.out])
              clear e8 T7 J7 hq
              go_wp2
              go_roundw
              case rel => exact ⟨i + 1, by omega, by go_num, by rw [show rounds s3 (i + 1) = y8 by rw [Y8.out, Y7.out, Y6.out, Y5.out, Y4.out, Y3.out, Y2.out, Y1.out, Y0.out]; rfl]; exact T8⟩
              case measure => simp [intOf]; omega
            · obtain rfl : i = 10 := by omega
              rw [show ((10 : Nat) : Int) = 10 from rfl]
              clear h10
              obtain ⟨x5, e5⟩ : ∃ u, u = rounds s3 10 := ⟨_, rfl⟩
              rw [← e5] at ht is
              have L5 := Aside0.mk (show x5.length = 16 by rw [e5, len_rounds, L3.out])
              have E5 := Aside0.mk e5
              clear e5
              have j5 := ht.other (Nat.ne_of_lt hb12) j4
              have B5 := Aside0.mk (To.below B4.out ht (Nat.le_of_lt hb12))
              have i5 := is
              obtain ⟨w5, rfl⟩ : ∃ w5 : World, w5 = wr := ⟨_, rfl⟩
              clear ht is j4 i4 B4 S4
              have hbb : b2 < w5.heap.size := i5.lt
              obtain ⟨b3, E3'⟩ : ∃ u, u = w5.heap.size := ⟨_, rfl⟩
              rw [← E3'] at hbb
              have hb3 := Aside0.mk E3'
              clear E3'
              have i6 := i5
              have j6 := j5
              have B6 := B5
              obtain ⟨w6, ew6⟩ : ∃ z : World, z = w5 := ⟨_, rfl⟩
              have R6 := Aside0.mk (Kd.R_nil (Kd.int .u8) 5 w6 b3 (fun _ => True))
              rw [← ew6] at i6 j6 B6 hb3 ⊢
              have Z6 := Aside0.mk (Nat.le_of_eq hb3.out)
              clear i5 j5 B5 ew6
              go_wp2
              go_loopw [13, 14] (fun u v w' => ∃ i : Nat, i ≤ 16 ∧ v = .int .i64 i ∧ Aside0 ((Kd.int .u8).R 5 w' b3 (fun _ => True) u (outB x5 s3 i)) ∧ Below b3 w6 w') (fun _ v _ => 16 - (intOf v).toNat)
              case atStart => exact ⟨0, by omega, rfl, R6, Below.refl _ _⟩
              case round =>
                obtain ⟨i, hi, rfl, HR, hB⟩ := hrel
                have is := i6.belowB hB hbb
                have js := j6.belowB hB (Nat.lt_trans hb12 hbb)
                have HBr := Aside0.mk hB
                clear hB
                by_cases h16 : i < 16
                · have q16 : (i : Int) < 16 := by omega
                  have C1 := is.cell i (by rw [L5.out]; omega)
                  have C2 := js.cell i (by rw [L3.out]; omega)
                  have LO := Aside0.mk (show ((outB x5 s3 i).length + 4) * 1 ≤ 140737488355328 by rw [len_outB]; omega)
                  go_wp2
                  go_quiet (fail)
                  rename_i nq
                  obtain ⟨wq, eq⟩ : ∃ z, z = wr.drewN nq := ⟨_, rfl⟩
                  have HRq := Aside0.mk (show (Kd.int .u8).R 5 wq b3 (fun _ => True) _ (outB x5 s3 i) by rw [eq]; exact Kd.R_drewN HR.out nq)
                  have HBq := Aside0.mk (show Below b3 w6 wq by rw [eq]; exact pw_below_drewN HBr.out nq)
                  have HZq := Aside0.mk (Nat.le_trans Z6.out HBq.out.size)
                  rw [← eq]
                  clear eq C1 C2 is js HR HBr
                  obtain ⟨n, en⟩ : ∃ z, z = (rd x5 i + rd s3 i) % 4294967296 := ⟨_, rfl⟩
                  have EN := Aside0.mk en
                  have n0 : 0 ≤ n := by omega
                  have n1 : n < 4294967296 := by omega
                  have en' : (rd x5 i + rd s3 i) % 4294967296 = n := en.symm
                  clear en
                  go_wp2_with (at_builtin; refine lit_append b3 rfl _ _ 23 5 .u8 1 rfl Try.underlying23 info_u8 Nat.one_pos _ (outB x5 s3 i) [n % 256, n / 256 % 256, n / 65536 % 256, n / 16777216] 4 ?q1 rfl ?q3 ?q4 ?q5 ?q6 ?_; (case q1 => rfl); (case q3 => rfl); (case q4 => exact HRq.out); (case q5 => exact HZq.out); (case q6 => exact LO.out); intro v1 w1' hR1 hB1)
                  go_roundw
                  case rel =>
                    refine ⟨i + 1, by omega, by go_num, ⟨?_⟩, HBq.out.trans hB1⟩
                    rw [outB, ← EN.out, bytes4, show n / 16777216 % 256 = n / 16777216 by omega]
                    exact hR1
                  case measure => simp [intOf]; omega
                · obtain rfl : i = 16 := by omega
                  go_wp2
                  go_ret2
                  refine ⟨_, rfl, ?_, ?_⟩
                  · rw [blockF, state, ← e2'.out, ← E3.out, ← E5.out, ← E1'.out]
                    exact Kd.R_lower HR.out (Nat.le_of_lt (Nat.lt_trans hb12 hbb))
                  · rw [← E1'.out]
                    exact B6.out.trans (HBr.out.mono (Nat.le_of_lt (Nat.lt_trans hb12 hbb)))
end Go.Proofs.Ytnmnghpdmiffaaa.Cha
