/-
  chacha.block and the reference's Block: both make the same 64 bytes of a key of 32 bytes, a counter and a nonce of 12.
-/
import Derived.Test.YtnmnghpdmiffaaaChachaQ
namespace Go.Proofs.Ytnmnghpdmiffaaa.Cha
open Go.RowKit Go.Proofs.YtnmnghpdmiffaaaW.PrintWords Go.Proofs.Ytnmnghpdmiffaaa.Arr
set_option maxRecDepth 100000

theorem info_u8 : (Try.prog.info? 5).map (fun i => (i.zero, i.size, i.bytes)) = some (some (.int .u8 0), 1, 1) := by kernel_rfl
theorem info_arr : (Try.prog.info? 90).map (·.size) = some 16 := by kernel_rfl

/-- Four bytes as a word, the lowest first. -/
def leF (l : List Int) : Int := Go.bits .or .u32 (Go.bits .or .u32 (Go.bits .or .u32 ((rd l 0) % 4294967296) ((((rd l 1) % 4294967296) * 256) % 4294967296)) ((((rd l 2) % 4294967296) * 65536) % 4294967296)) ((((rd l 3) % 4294967296) * 16777216) % 4294967296)

theorem le_calls (A : Option Addr) (c : Nat) (l : List Int) (w : World) (hr : (Kd.int .u8).C w A l.length l) (h4 : 4 ≤ l.length) :
    Calls Try.prog 64 #[.slice A l.length c] w fun e w' => e = .returned (.int .u32 (leF l)) ∧ ∃ n, w' = w.drewN n := by
  obtain ⟨ad, rfl, h0⟩ := Kd.at_int hr 0 (by omega) (by omega)
  obtain ⟨ad1, e1, h1⟩ := Kd.at_int hr 1 (by omega) (by omega)
  obtain ⟨ad2, e2, h2⟩ := Kd.at_int hr 2 (by omega) (by omega)
  obtain ⟨ad3, e3, h3⟩ := Kd.at_int hr 3 (by omega) (by omega)
  obtain rfl : ad = ad1 := by injection e1
  obtain rfl : ad = ad2 := by injection e2
  obtain rfl : ad = ad3 := by injection e3
  simp only [show (1 : Int).toNat = 1 from rfl, show (2 : Int).toNat = 2 from rfl, show (3 : Int).toNat = 3 from rfl, show (0 : Int).toNat = 0 from rfl, Nat.reduceEqDiff, Go.Addr.add, ↓reduceIte] at h0 h1 h2 h3
  have q0 : (0 : Int) < (l.length : Int) := by omega
  have q1 : (1 : Int) < (l.length : Int) := by omega
  have q2 : (2 : Int) < (l.length : Int) := by omega
  have q3 : (3 : Int) < (l.length : Int) := by omega
  have p0 : 0 < l.length := by omega
  have p1 : 1 < l.length := by omega
  have p2 : 2 < l.length := by omega
  have p3 : 3 < l.length := by omega
  clear hr e1 e2 e3
  go_enter Try.func64, Try.ntmps64
  go_wp2
  go_quiet (fail)
  go_wp2
  go_ret
  exact ⟨rfl, _, rfl⟩

/-- Words out of bytes, put into an array from a place on. -/
def fillW (s : List Int) (at_ : Nat) (b : List Int) : Nat → List Int
  | 0 => s
  | i + 1 => (fillW s at_ b i).set (at_ + i) (leF (b.drop (4 * i)))
theorem len_fillW (s : List Int) (at_ : Nat) (b : List Int) : ∀ i, (fillW s at_ b i).length = s.length
  | 0 => rfl
  | i + 1 => by rw [fillW, List.length_set, len_fillW s at_ b i]
/-- A column round, a diagonal round, both, ten of both. -/
def r1 (x : List Int) : Nat → List Int
  | 0 => x
  | i + 1 => qr (r1 x i) i (4 + i) (8 + i) (12 + i)
def r2 (x : List Int) : Nat → List Int
  | 0 => x
  | i + 1 => qr (r2 x i) i (4 + (i + 1) % 4) (8 + (i + 2) % 4) (12 + (i + 3) % 4)
def dbl (x : List Int) : List Int := r2 (r1 x 4) 4
def rounds (x : List Int) : Nat → List Int
  | 0 => x
  | i + 1 => dbl (rounds x i)
theorem len_r1 (x : List Int) : ∀ i, (r1 x i).length = x.length
  | 0 => rfl
  | i + 1 => by rw [r1, len_qr, len_r1 x i]
theorem len_r2 (x : List Int) : ∀ i, (r2 x i).length = x.length
  | 0 => rfl
  | i + 1 => by rw [r2, len_qr, len_r2 x i]
theorem len_dbl (x : List Int) : (dbl x).length = x.length := by rw [dbl, len_r2, len_r1]
theorem len_rounds (x : List Int) : ∀ i, (rounds x i).length = x.length
  | 0 => rfl
  | i + 1 => by rw [rounds, len_dbl, len_rounds x i]
/-- A word's four bytes, the lowest first. -/
def bytes4 (n : Int) : List Int := [n % 256, n / 256 % 256, n / 65536 % 256, n / 16777216 % 256]
/-- The words of two arrays, added, as bytes. -/
def outB (x s : List Int) : Nat → List Int
  | 0 => []
  | i + 1 => outB x s i ++ bytes4 ((rd x i + rd s i) % 4294967296)
theorem len_outB (x s : List Int) : ∀ i, (outB x s i).length = 4 * i
  | 0 => rfl
  | i + 1 => by rw [outB, List.length_append, len_outB x s i]; simp [bytes4]; omega
def sigma : List Int := [1634760805, 857760878, 2036477234, 1797285236, 0, 0, 0, 0, 0, 0, 0, 0, 0, 0, 0, 0]

/-- The state out of which a block is made. -/
def state (key : List Int) (ctr : Int) (nonce : List Int) : List Int := fillW ((fillW sigma 4 key 8).set 12 ctr) 13 nonce 3
/-- 64 bytes of the stream. -/
def blockF (key : List Int) (ctr : Int) (nonce : List Int) : List Int := outB (rounds (state key ctr nonce) 10) (state key ctr nonce) 16
theorem len_blockF (key : List Int) (ctr : Int) (nonce : List Int) : (blockF key ctr nonce).length = 64 := len_outB _ _ 16

set_option maxHeartbeats 2000000 in
set_option maxRecDepth 100000 in
theorem block_calls (A B : Option Addr) (cA cB : Nat) (key nonce : List Int) (ctr : Int) (w : World) (hk : (Kd.int .u8).C w A key.length key) (hcA : key.length ≤ cA) (hlk : key.length = 32)
    (hn : (Kd.int .u8).C w B nonce.length nonce) (hcB : nonce.length ≤ cB) (hln : nonce.length = 12) :
    Calls Try.prog 55 #[.slice A key.length cA, .int .u32 ctr, .slice B nonce.length cB] w fun e w' => ∃ v, e = .returned v ∧ (Kd.int .u8).R 5 w' w.heap.size (fun _ => True) v (blockF key ctr nonce) ∧ Below w.heap.size w w' := by
  have HK := Aside0.mk hk
  have HN := Aside0.mk hn
  have LK := Aside0.mk hlk
  have LN := Aside0.mk hln
  clear hk hn hlk hln
  go_enter Try.func55, Try.ntmps55
  go_wp2
  change Code.wp _ _ _ _ (w.alloc (.cells (nums .u32 sigma).toArray 90))
  obtain ⟨w1, e1⟩ : ∃ u, u = w.alloc (.cells (nums .u32 sigma).toArray 90) := ⟨_, rfl⟩
  have i1 : Is w1 w.heap.size 90 .u32 sigma := by rw [e1]; exact heap_alloc_new w _
  have B1 := Aside0.mk (show Below w.heap.size w w1 by rw [e1]; exact (Below.refl _ _).alloc (Nat.le_refl _) _)
  have S1 := Aside0.mk (show w1.heap.size = w.heap.size + 1 by rw [e1]; simp)
  rw [← e1]
  clear e1
  obtain ⟨b1, E1⟩ : ∃ u, u = w.heap.size := ⟨_, rfl⟩
  rw [← E1] at i1 B1 S1 ⊢
  have E1' := Aside0.mk E1
  clear E1
  obtain ⟨I0, hI0, hsz⟩ : ∃ i, Try.prog.info? 5 = some i ∧ i.size = 1 := ⟨_, rfl, rfl⟩
  go_loopw [17] (fun v w' => ∃ i : Nat, i ≤ 8 ∧ v = .int .i64 i ∧ To w1 w' b1 .u32 (fillW sigma 4 key i)) (fun v _ => 8 - (intOf v).toNat)
  case atStart => exact ⟨0, by omega, rfl, To.refl i1⟩
  case round =>
    obtain ⟨i, hi, rfl, ht⟩ := hrel
    have is := ht.is i1
    by_cases h8 : i < 8
    · obtain ⟨A', y, c', hy, hyc, hcut, hyr⟩ := cut_ex 23 5 .i64 Try.underlying23 hI0 hsz A key cA (4 * (i : Int)) (by omega) (by rw [LK.out]; omega) hcA
      have hyl := Aside0.mk (show 4 ≤ y.length by rw [hy, List.length_drop, LK.out]; omega)
      have Hy := Aside0.mk hy
      have Hr := Aside0.mk hyr
      clear hy hyr
      have h0 : (4 : Int) + i < 16 := by omega
      have F1 := is.free (4 + i)
      have G1 := is.cell (4 + i) (by rw [len_fillW]; simp [sigma]; omega)
      have hb := To.below B1.out ht (Nat.le_refl _)
      rw [E1'.out] at hb
      have hC := Hr.out wr .u8 (Kd.C_below HK.out hb)
      have HC := Aside0.mk hC
      clear hC hb
      go_wp2_with (go_at_call 64; refine (le_calls A' c' y _ HC.out hyl.out).mono ?_; rintro e w' ⟨rfl, n, rfl⟩)
      rw [put_set (is.drewN n)]
      go_roundw
      case rel => exact ⟨i + 1, by omega, by go_num, by rw [fillW, show key.drop (4 * i) = y by rw [Hy.out]; congr 1]; exact (ht.drewN n).put⟩
      case measure => simp [intOf]; omega
    · obtain rfl : i = 8 := by omega
      rw [show ((8 : Nat) : Int) = 8 from rfl]
      have F1 := is.free 12
      have G1 := is.cell 12 (by rw [len_fillW]; simp [sigma])
      go_wp2
      rw [put_set is]
      obtain ⟨s2, e2⟩ : ∃ u, u = (fillW sigma 4 key 8).set 12 ctr := ⟨_, rfl⟩
      rw [← e2]
      have t2 := ht.put (zs := s2)
      have l2 : s2.length = 16 := by rw [e2, List.length_set, len_fillW]; rfl
      have L2 := Aside0.mk l2
      have e2' := Aside0.mk e2
      obtain ⟨w2, v2⟩ : ∃ u, u = Arr.put wr b1 .u32 s2 := ⟨_, rfl⟩
      rw [← v2] at t2 ⊢
      clear v2 e2 l2 F1 G1 is ht h8
      have i2 := t2.is i1
      go_loopw [31] (fun v w' => ∃ i : Nat, i ≤ 3 ∧ v = .int .i64 i ∧ To w1 w' b1 .u32 (fillW s2 13 nonce i)) (fun v _ => 3 - (intOf v).toNat)
      case atStart => exact ⟨0, by omega, rfl, t2⟩
      case round =>
        clear t2 i2
        obtain ⟨i, hi, rfl, ht⟩ := hrel
        have is := ht.is i1
        by_cases h3 : i < 3
        · obtain ⟨A', y, c', hy, hyc, hcut, hyr⟩ := cut_ex 23 5 .i64 Try.underlying23 hI0 hsz B nonce cB (4 * (i : Int)) (by omega) (by rw [LN.out]; omega) hcB
          have hyl := Aside0.mk (show 4 ≤ y.length by rw [hy, List.length_drop, LN.out]; omega)
          have Hy := Aside0.mk hy
          have Hr := Aside0.mk hyr
          clear hy hyr
          have h0 : (13 : Int) + i < 16 := by omega
          have F1 := is.free (13 + i)
          have G1 := is.cell (13 + i) (by rw [len_fillW, L2.out]; omega)
          have hb := To.below B1.out ht (Nat.le_refl _)
          rw [E1'.out] at hb
          have hC := Hr.out _ .u8 (Kd.C_below HN.out hb)
          have HC := Aside0.mk hC
          clear hC hb
          go_wp2_with (go_at_call 64; refine (le_calls A' c' y _ HC.out hyl.out).mono ?_; rintro e w' ⟨rfl, n, rfl⟩)
          rw [put_set (is.drewN n)]
          go_roundw
          case rel => exact ⟨i + 1, by omega, by go_num, by rw [fillW, show nonce.drop (4 * i) = y by rw [Hy.out]; congr 1]; exact (ht.drewN n).put⟩
          case measure => simp [intOf]; omega
        · obtain rfl : i = 3 := by omega
          rw [show ((3 : Nat) : Int) = 3 from rfl]
          obtain ⟨s3, e3⟩ : ∃ u, u = fillW s2 13 nonce 3 := ⟨_, rfl⟩
          rw [← e3] at ht is
          have L3 := Aside0.mk (show s3.length = 16 by rw [e3, len_fillW, L2.out])
          have E3 := Aside0.mk e3
          clear h3 e3
          have isH : wr.heap[b1]? = some (.cells (nums .u32 s3).toArray 90 (0, 0)) := is
          have ISH := Aside0.mk isH
          have hi16 : (Try.prog.info? 90).map (·.size) = some (nums .u32 s3).toArray.size := by rw [info_arr]; simp [nums, L3.out]
          have HI16 := Aside0.mk hi16
          clear isH hi16
          have HSZ := Aside0.mk (show 16 = (nums .u32 s3).toArray.size by simp [nums, L3.out])
          have HCE := Aside0.mk (show (nums .u32 s3).toArray.all (·.oneCell') = true by simp [nums, Value.oneCell'])
          go_wp2_with (first | (with_reducible refine wpList_load_row rfl 90 (.tmp 7) rfl b1 rfl 90 (nums .u32 s3).toArray (0, 0) _ ISH.out Try.underlying90 rfl HI16.out ?_) | ((with_reducible refine wpList_store_row rfl 90 (.tmp 10) (.tmp 43) rfl wr.heap.size (nums .u32 s3).toArray rfl rfl 90 _ (heap_alloc_new _ _) HI16.out ?ho ?hc ?_); (case ho => exact HSZ.out); (case hc => exact HCE.out)))
          change Code.wp _ _ _ _ ((wr.alloc (.cells (nums .u32 (List.replicate 16 0)).toArray 90)).setRow wr.heap.size (nums .u32 s3).toArray)
          obtain ⟨n1, n2, n3⟩ := new_arr wr (nums .u32 (List.replicate 16 0)).toArray 90 .u32 s3
          generalize (wr.alloc (.cells (nums .u32 (List.replicate 16 0)).toArray 90)).setRow wr.heap.size (nums .u32 s3).toArray = w4 at n1 n2 n3 ⊢
          have j4 := is.below n2
          have B4 := Aside0.mk ((To.below B1.out ht (Nat.le_refl _)).trans (n2.mono (Nat.le_of_lt is.lt)))
          have hb12 := is.lt
          obtain ⟨b2, E2⟩ : ∃ u, u = wr.heap.size := ⟨_, rfl⟩
          rw [← E2] at n1 n3 hb12 ⊢
          have i4 := n1
          have S4 := Aside0.mk n3
          clear n1 n2 n3 is E2 ht ISH i1 S1 B1
          go_loopw [44] (fun v w' => ∃ i : Nat, i ≤ 10 ∧ v = .int .i64 i ∧ To w4 w' b2 .u32 (rounds s3 i)) (fun v _ => 10 - (intOf v).toNat)
          case atStart => exact ⟨0, by omega, rfl, To.refl i4⟩
          case round =>
            obtain ⟨i, hi, rfl, ht⟩ := hrel
            have is := ht.is i4
            by_cases h10 : i < 10
            · have hd10 : decide ((i : Int) < 10) = true := decide_eq_true (by omega)
              go_wp2
              obtain ⟨wo, rfl⟩ : ∃ wo : World, wo = wr := ⟨_, rfl⟩
              go_loopw [46] (fun v w' => ∃ j : Nat, j ≤ 4 ∧ v = .int .i64 j ∧ To w4 w' b2 .u32 (r1 (rounds s3 i) j)) (fun v _ => 4 - (intOf v).toNat)
              case atStart => exact ⟨0, by omega, rfl, ht⟩
              case round =>
                clear ht is
                obtain ⟨j, hj, rfl, ht⟩ := hrel
                have is := ht.is i4
                by_cases h4 : j < 4
                · have hl := Aside0.mk (show (r1 (rounds s3 i) j).length = 16 by rw [len_r1, len_rounds, L3.out])
                  go_wp2_with (go_at_call 65; refine (quarter_int _ _ b2 _ _ _ _ _ is hl.out (by omega) (by omega) (by omega) (by omega) (by omega) (by omega) (by omega) (by omega)).mono ?_; rintro e w' ⟨rfl, hq⟩)
                  go_roundw
                  case rel =>
                    refine ⟨j + 1, by omega, by go_num, ?_⟩
                    have := ht.trans hq
                    rw [show (j : Int).toNat = j from by omega, show (4 + (j : Int)).toNat = 4 + j from by omega, show (8 + (j : Int)).toNat = 8 + j from by omega, show (12 + (j : Int)).toNat = 12 + j from by omega] at this
                    exact this
                  case measure => simp [intOf]; omega
                · obtain rfl : j = 4 := by omega
                  rw [show ((4 : Nat) : Int) = 4 from rfl]
                  clear h4
                  go_wp2
                  obtain ⟨wp, rfl⟩ : ∃ wp : World, wp = wr := ⟨_, rfl⟩
                  go_loopw [58] (fun v w' => ∃ j : Nat, j ≤ 4 ∧ v = .int .i64 j ∧ To w4 w' b2 .u32 (r2 (r1 (rounds s3 i) 4) j)) (fun v _ => 4 - (intOf v).toNat)
                  case atStart => exact ⟨0, by omega, rfl, ht⟩
                  case round =>
                    clear ht is
                    obtain ⟨j, hj, rfl, ht⟩ := hrel
                    have is := ht.is i4
                    by_cases h4 : j < 4
                    · have hl := Aside0.mk (show (r2 (r1 (rounds s3 i) 4) j).length = 16 by rw [len_r2, len_r1, len_rounds, L3.out])
                      go_wp2_with (go_at_call 65; refine (quarter_int _ _ b2 _ _ _ _ _ is hl.out (by omega) (by omega) (by omega) (by omega) (by omega) (by omega) (by omega) (by omega)).mono ?_; rintro e w' ⟨rfl, hq⟩)
                      go_roundw
                      case rel =>
                        refine ⟨j + 1, by omega, by go_num, ?_⟩
                        have := ht.trans hq
                        rw [show (j : Int).toNat = j from by omega, show (4 + ((j : Int) + 1) % 4).toNat = 4 + (j + 1) % 4 from by omega, show (8 + ((j : Int) + 2) % 4).toNat = 8 + (j + 2) % 4 from by omega, show (12 + ((j : Int) + 3) % 4).toNat = 12 + (j + 3) % 4 from by omega] at this
                        exact this
                      case measure => simp [intOf]; omega
                    · obtain rfl : j = 4 := by omega
                      rw [show ((4 : Nat) : Int) = 4 from rfl]
                      clear h4
                      go_wp2
                      go_roundw
                      case rel => exact ⟨i + 1, by omega, by go_num, by rw [rounds, dbl]; exact ht⟩
                      case measure => simp [intOf]; omega
            · obtain rfl : i = 10 := by omega
              rw [show ((10 : Nat) : Int) = 10 from rfl]
              clear h10
              obtain ⟨x5, e5⟩ : ∃ u, u = rounds s3 10 := ⟨_, rfl⟩
              rw [← e5] at ht is
              have L5 := Aside0.mk (show x5.length = 16 by rw [e5, len_rounds, L3.out])
              have E5 := Aside0.mk e5
              clear e5
              have j5 := ht.other (Nat.ne_of_lt hb12) j4
              have B5 := Aside0.mk (To.below B4.out ht (Nat.le_of_lt hb12))
              have i5 := is
              obtain ⟨w5, rfl⟩ : ∃ w5 : World, w5 = wr := ⟨_, rfl⟩
              clear ht is j4 i4 B4 S4
              have hbb : b2 < w5.heap.size := i5.lt
              obtain ⟨b3, E3'⟩ : ∃ u, u = w5.heap.size := ⟨_, rfl⟩
              rw [← E3'] at hbb
              have hb3 := Aside0.mk E3'
              clear E3'
              go_wp2_with (at_make; refine make_cap b3 rfl _ _ 23 5 .u8 1 rfl Try.underlying23 info_u8 64 rfl rfl (by omega) (by decide) (by omega) (Nat.le_of_eq hb3.out) ?_; intro v6 w6 hR6 hB6)
              have BW : Below b3 w5 w6 := by rw [hb3.out]; exact hB6
              have i6 := i5.belowB BW hbb
              have j6 := j5.belowB BW (Nat.lt_trans hb12 hbb)
              have B6 := Aside0.mk (B5.out.trans (BW.mono (Nat.le_of_lt (Nat.lt_trans hb12 hbb))))
              have Z6 := Aside0.mk (show b3 ≤ w6.heap.size by have := BW.size; have := hb3.out; omega)
              have R6 := Aside0.mk hR6
              clear hR6 hB6 BW i5 j5 B5
              go_loopw [13, 78] (fun u v w' => ∃ i : Nat, i ≤ 16 ∧ v = .int .i64 i ∧ Aside0 ((Kd.int .u8).R 5 w' b3 (fun _ => True) u (outB x5 s3 i)) ∧ Below b3 w6 w') (fun _ v _ => 16 - (intOf v).toNat)
              case atStart => exact ⟨0, by omega, rfl, R6, Below.refl _ _⟩
              case round =>
                obtain ⟨i, hi, rfl, HR, hB⟩ := hrel
                have is := i6.belowB hB hbb
                have js := j6.belowB hB (Nat.lt_trans hb12 hbb)
                have HBr := Aside0.mk hB
                clear hB
                by_cases h16 : i < 16
                · have q16 : (i : Int) < 16 := by omega
                  have C1 := is.cell i (by rw [L5.out]; omega)
                  have C2 := js.cell i (by rw [L3.out]; omega)
                  have LO := Aside0.mk (show ((outB x5 s3 i).length + 4) * 1 ≤ 140737488355328 by rw [len_outB]; omega)
                  go_wp2
                  go_quiet (fail)
                  rename_i nq
                  obtain ⟨wq, eq⟩ : ∃ z, z = wr.drewN nq := ⟨_, rfl⟩
                  have HRq := Aside0.mk (show (Kd.int .u8).R 5 wq b3 (fun _ => True) _ (outB x5 s3 i) by rw [eq]; exact Kd.R_drewN HR.out nq)
                  have HBq := Aside0.mk (show Below b3 w6 wq by rw [eq]; exact pw_below_drewN HBr.out nq)
                  have HZq := Aside0.mk (Nat.le_trans Z6.out HBq.out.size)
                  rw [← eq]
                  clear eq C1 C2 is js HR HBr
                  obtain ⟨n, en⟩ : ∃ z, z = (rd x5 i + rd s3 i) % 4294967296 := ⟨_, rfl⟩
                  have EN := Aside0.mk en
                  have n0 : 0 ≤ n := by omega
                  have n1 : n < 4294967296 := by omega
                  have en' : (rd x5 i + rd s3 i) % 4294967296 = n := en.symm
                  clear en
                  go_wp2_with (at_builtin; refine lit_append b3 rfl _ _ 23 5 .u8 1 rfl Try.underlying23 info_u8 Nat.one_pos _ (outB x5 s3 i) [n % 256, n / 256 % 256, n / 65536 % 256, n / 16777216] 4 ?q1 rfl ?q3 ?q4 ?q5 ?q6 ?_; (case q1 => rfl); (case q3 => rfl); (case q4 => exact HRq.out); (case q5 => exact HZq.out); (case q6 => exact LO.out); intro v1 w1' hR1 hB1)
                  go_roundw
                  case rel =>
                    refine ⟨i + 1, by omega, by go_num, ⟨?_⟩, HBq.out.trans hB1⟩
                    rw [outB, ← EN.out, bytes4, show n / 16777216 % 256 = n / 16777216 by omega]
                    exact hR1
                  case measure => simp [intOf]; omega
                · obtain rfl : i = 16 := by omega
                  go_wp2
                  go_ret
                  refine ⟨_, rfl, ?_, ?_⟩
                  · rw [blockF, state, ← e2'.out, ← E3.out, ← E5.out, ← E1'.out]
                    exact Kd.R_lower HR.out (Nat.le_of_lt (Nat.lt_trans hb12 hbb))
                  · rw [← E1'.out]
                    exact B6.out.trans (HBr.out.mono (Nat.le_of_lt (Nat.lt_trans hb12 hbb)))
end Go.Proofs.Ytnmnghpdmiffaaa.Cha
