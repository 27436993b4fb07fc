/-
  Plain facts: what poly's limbs stand for.
-/
import Derived.Test.YtgnanhphdodhoaaPolyC1
namespace Go.Proofs.Ytgnanhphdodhoaa.Pol
open Go.RowKit Go.Proofs.YtgnanhphdodhoaaW.PrintWords Go.Proofs.Ytgnanhphdodhoaa.Arr Go.Proofs.Ytgnanhphdodhoaa.Bits

theorem wrap_u64 (n : Int) : IntKind.u64.wrap n = n % 18446744073709551616 := by simp [IntKind.wrap, IntKind.bits, IntKind.signed]
theorem wrap64_id {n : Int} (h0 : 0 ≤ n) (h1 : n < 18446744073709551616) : IntKind.u64.wrap n = n := by rw [wrap_u64]; omega
theorem wraps_u64 (n : Int) (h0 : 0 ≤ n) (h1 : n < 2 ^ 64) : IntKind.u64.wrap n = n := wrap64_id h0 (by omega)
/-- The lowest 26 bits. -/
theorem and26 (x : Int) (h0 : 0 ≤ x) (h1 : x < 18446744073709551616) : Go.bits .and .u64 x 67108863 = x % 67108864 := by
  have := bits_mask .u64 64 (by decide) wraps_u64 26 (by decide) x h0 (by omega)
  rw [show (67108863 : Int) = 2 ^ 26 - 1 from rfl, this]
  omega
/-- Numbers that share no bit, put together. -/
theorem or_add (y x : Int) (i : Nat) (hy0 : 0 ≤ y) (hy : y < 2 ^ i) (hx0 : 0 ≤ x) (hx : x % 2 ^ i = 0) (hx1 : x < 18446744073709551616) (hy1 : y < 18446744073709551616) : Go.bits .or .u64 y x = y + x := by
  have h := bits_join .u64 64 (by decide) wraps_u64 i x y hx0 hx (by omega) hy0 hy (by omega)
  have hc : Go.bits .or .u64 y x = Go.bits .or .u64 x y := by
    unfold Go.bits
    simp only [BitVec.or_comm]
  rw [hc, h, Int.add_comm]
theorem rd_drop (l : List Int) (k j : Nat) : rd (l.drop k) (j : Int) = rd l ((k + j : Nat) : Int) := by
  simp only [rd, Int.toNat_natCast, List.getD_eq_getElem?_getD, List.getElem?_drop]
theorem leQ_val (l : List Int) (hl : Bytes l) : leQ l = rd l 0 + 256 * rd l 1 + 65536 * rd l 2 + 16777216 * rd l 3 := by
  have h0 := hl.rd 0
  have h1 := hl.rd 1
  have h2 := hl.rd 2
  have h3 := hl.rd 3
  unfold leQ
  generalize rd l 0 = a at *
  generalize rd l 1 = b at *
  generalize rd l 2 = c at *
  generalize rd l 3 = d at *
  rw [wrap64_id (by omega) (by omega), wrap64_id (by omega) (by omega), wrap64_id (by omega) (by omega)]
  rw [show a % 18446744073709551616 = a by omega, show b % 18446744073709551616 = b by omega, show c % 18446744073709551616 = c by omega, show d % 18446744073709551616 = d by omega]
  rw [or_add a (b * 256) 8 (by omega) (by omega) (by omega) (by omega) (by omega) (by omega)]
  rw [or_add (a + b * 256) (c * 65536) 16 (by omega) (by omega) (by omega) (by omega) (by omega) (by omega)]
  rw [or_add (a + b * 256 + c * 65536) (d * 16777216) 24 (by omega) (by omega) (by omega) (by omega) (by omega) (by omega)]
  omega
theorem leQ_drop (l : List Int) (hl : Bytes l) (k : Nat) : leQ (l.drop k) = rd l (k : Nat) + 256 * rd l ((k + 1 : Nat) : Int) + 65536 * rd l ((k + 2 : Nat) : Int) + 16777216 * rd l ((k + 3 : Nat) : Int) := by
  rw [leQ_val _ (hl.drop k)]
  have e0 := rd_drop l k 0
  have e1 := rd_drop l k 1
  have e2 := rd_drop l k 2
  have e3 := rd_drop l k 3
  simp only [Nat.add_zero] at e0
  rw [← e0, ← e1, ← e2, ← e3]
  rfl
/-- What limbs stand for. -/
def V (h : List Int) : Int := rd h 0 + 67108864 * rd h 1 + 4503599627370496 * rd h 2 + 302231454903657293676544 * rd h 3 + 20282409603651670423947251286016 * rd h 4
/-- Bytes as a number, the lowest first: the first n. -/
def bsum (l : List Int) : Nat → Int
  | 0 => 0
  | n + 1 => bsum l n + rd l n * 256 ^ n
theorem split_val (l : List Int) (hl : Bytes l) :
    ∃ a b c d e, splitF l = [a, b, c, d, e] ∧ 0 ≤ a ∧ a < 67108864 ∧ 0 ≤ b ∧ b < 67108864 ∧ 0 ≤ c ∧ c < 67108864 ∧ 0 ≤ d ∧ d < 67108864 ∧ 0 ≤ e ∧ e < 16777216 ∧ V [a, b, c, d, e] = bsum l 16 := by
  have e0 := leQ_drop l hl 0
  have e3 := leQ_drop l hl 3
  have e6 := leQ_drop l hl 6
  have e9 := leQ_drop l hl 9
  have e12 := leQ_drop l hl 12
  rw [List.drop_zero] at e0
  simp only [Nat.reduceAdd] at e0 e3 e6 e9 e12
  have hb := fun i : Nat => hl.rd (i : Int)
  have b0 := hb 0
  have b1 := hb 1
  have b2 := hb 2
  have b3 := hb 3
  have b4 := hb 4
  have b5 := hb 5
  have b6 := hb 6
  have b7 := hb 7
  have b8 := hb 8
  have b9 := hb 9
  have b10 := hb 10
  have b11 := hb 11
  have b12 := hb 12
  have b13 := hb 13
  have b14 := hb 14
  have b15 := hb 15
  refine ⟨leQ l % 67108864, leQ (l.drop 3) / 4 % 67108864, leQ (l.drop 6) / 16 % 67108864, leQ (l.drop 9) / 64 % 67108864, leQ (l.drop 12) / 256, ?_, ?_⟩
  · unfold splitF
    rw [and26 _ (by omega) (by omega), and26 _ (by omega) (by omega), and26 _ (by omega) (by omega), and26 _ (by omega) (by omega)]
  · have ev : V [leQ l % 67108864, leQ (l.drop 3) / 4 % 67108864, leQ (l.drop 6) / 16 % 67108864, leQ (l.drop 9) / 64 % 67108864, leQ (l.drop 12) / 256] = leQ l % 67108864 + 67108864 * (leQ (l.drop 3) / 4 % 67108864) + 4503599627370496 * (leQ (l.drop 6) / 16 % 67108864) + 302231454903657293676544 * (leQ (l.drop 9) / 64 % 67108864) + 20282409603651670423947251286016 * (leQ (l.drop 12) / 256) := rfl
    rw [ev, e0, e3, e6, e9, e12]
    simp only [bsum]
    refine ⟨by omega, by omega, by omega, by omega, by omega, by omega, by omega, by omega, by omega, by omega, ?_⟩
    generalize rd l ((0 : Nat) : Int) = x0 at *
    generalize rd l ((1 : Nat) : Int) = x1 at *
    generalize rd l ((2 : Nat) : Int) = x2 at *
    generalize rd l ((3 : Nat) : Int) = x3 at *
    generalize rd l ((4 : Nat) : Int) = x4 at *
    generalize rd l ((5 : Nat) : Int) = x5 at *
    generalize rd l ((6 : Nat) : Int) = x6 at *
    generalize rd l ((7 : Nat) : Int) = x7 at *
    generalize rd l ((8 : Nat) : Int) = x8 at *
    generalize rd l ((9 : Nat) : Int) = x9 at *
    generalize rd l ((10 : Nat) : Int) = x10 at *
    generalize rd l ((11 : Nat) : Int) = x11 at *
    generalize rd l ((12 : Nat) : Int) = x12 at *
    generalize rd l ((13 : Nat) : Int) = x13 at *
    generalize rd l ((14 : Nat) : Int) = x14 at *
    generalize rd l ((15 : Nat) : Int) = x15 at *
    clear e0 e3 e6 e9 e12 ev hb hl
    have m0 : (x0 + 256 * x1 + 65536 * x2 + 16777216 * x3) % 67108864 = x0 + 256 * x1 + 65536 * x2 + 16777216 * (x3 % 4) := by omega
    have m1 : (x3 + 256 * x4 + 65536 * x5 + 16777216 * x6) / 4 % 67108864 = x3 / 4 + 64 * x4 + 16384 * x5 + 4194304 * (x6 % 16) := by omega
    have m2 : (x6 + 256 * x7 + 65536 * x8 + 16777216 * x9) / 16 % 67108864 = x6 / 16 + 16 * x7 + 4096 * x8 + 1048576 * (x9 % 64) := by omega
    have m3 : (x9 + 256 * x10 + 65536 * x11 + 16777216 * x12) / 64 % 67108864 = x9 / 64 + 4 * x10 + 1024 * x11 + 262144 * x12 := by omega
    have m4 : (x12 + 256 * x13 + 65536 * x14 + 16777216 * x15) / 256 = x13 + 256 * x14 + 65536 * x15 := by omega
    rw [m0, m1, m2, m3, m4]
    omega
/-- Words of eight bytes. -/
theorem word_val (key : List Int) (hk : Bytes key) (k : Nat) : wordF key k = rd key (k : Nat) + 256 * rd key ((k + 1 : Nat) : Int) + 65536 * rd key ((k + 2 : Nat) : Int) + 16777216 * rd key ((k + 3 : Nat) : Int) + 4294967296 * rd key ((k + 4 : Nat) : Int) + 1099511627776 * rd key ((k + 5 : Nat) : Int) + 281474976710656 * rd key ((k + 6 : Nat) : Int) + 72057594037927936 * rd key ((k + 7 : Nat) : Int) := by
  have e0 := leQ_drop key hk k
  have e4 := leQ_drop key hk (k + 4)
  have hb := fun i : Nat => hk.rd ((k + i : Nat) : Int)
  have b0 := hb 0
  have b1 := hb 1
  have b2 := hb 2
  have b3 := hb 3
  have b4 := hb 4
  have b5 := hb 5
  have b6 := hb 6
  have b7 := hb 7
  simp only [Nat.add_zero] at b0
  simp only [Nat.add_assoc, Nat.reduceAdd] at e4
  unfold wordF
  rw [e0, e4]
  generalize rd key (k : Int) = x0 at *
  generalize rd key ((k + 1 : Nat) : Int) = x1 at *
  generalize rd key ((k + 2 : Nat) : Int) = x2 at *
  generalize rd key ((k + 3 : Nat) : Int) = x3 at *
  generalize rd key ((k + 4 : Nat) : Int) = x4 at *
  generalize rd key ((k + 5 : Nat) : Int) = x5 at *
  generalize rd key ((k + 6 : Nat) : Int) = x6 at *
  generalize rd key ((k + 7 : Nat) : Int) = x7 at *
  clear e0 e4 hb hk
  rw [wrap64_id (by omega) (by omega), or_add _ _ 32 (by omega) (by omega) (by omega) (by omega) (by omega) (by omega)]
  omega
end Go.Proofs.Ytgnanhphdodhoaa.Pol
