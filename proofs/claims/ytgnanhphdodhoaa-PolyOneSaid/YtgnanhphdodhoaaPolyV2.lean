/-
  Plain facts on poly's tags: the key's second half is added on; a first half of noughts.
-/
import Derived.Test.YtgnanhphdodhoaaPolyV1
namespace Go.Proofs.Ytgnanhphdodhoaa.Pol
open Go.RowKit Go.Proofs.YtgnanhphdodhoaaW.PrintWords Go.Proofs.Ytgnanhphdodhoaa.Arr Go.Proofs.Ytgnanhphdodhoaa.Bits

theorem pow256 (n : Nat) : (0 : Int) < 256 ^ n := Int.pow_pos (by decide)
theorem rd_bytesN (n : Int) (m : Nat) : ∀ j : Nat, j < m → rd (bytesN n m) (j : Int) = byteK n j := by
  induction m with
  | zero => intro j hj; omega
  | succ m ih =>
    intro j hj
    have hl := len_bytesN n m
    simp only [rd, Int.toNat_natCast, List.getD_eq_getElem?_getD, bytesN] at ih ⊢
    by_cases h : j < m
    · rw [List.getElem?_append_left (by omega)]
      exact ih j h
    · obtain rfl : j = m := by omega
      rw [List.getElem?_append_right (by omega), hl]
      simp
theorem byteK_eq (n : Int) (k : Nat) : byteK n k = n / 256 ^ k % 256 := by
  unfold byteK
  rw [Int.pow_mul]
  rfl
theorem rd_append_left (l m : List Int) (j : Nat) (h : j < l.length) : rd (l ++ m) (j : Int) = rd l j := by
  simp only [rd, Int.toNat_natCast, List.getD_eq_getElem?_getD]
  rw [List.getElem?_append_left h]
theorem rd_append_right (l m : List Int) (j : Nat) : rd (l ++ m) ((l.length + j : Nat) : Int) = rd m j := by
  simp only [rd, Int.toNat_natCast, List.getD_eq_getElem?_getD]
  rw [List.getElem?_append_right (by omega), Nat.add_sub_cancel_left]
theorem outW_rd (lo hi : Int) (h0 : 0 ≤ lo) (h1 : lo < 18446744073709551616) (j : Nat) (hj : j < 16) : rd (outW [lo, hi] 2) (j : Int) = (lo + 18446744073709551616 * hi) / 256 ^ j % 256 := by
  have e : outW [lo, hi] 2 = bytesN lo 8 ++ bytesN hi 8 := rfl
  rw [e]
  by_cases h : j < 8
  · rw [rd_append_left _ _ _ (by rw [len_bytesN]; exact h), rd_bytesN _ _ _ h, byteK_eq]
    have e2 : (18446744073709551616 : Int) = 256 ^ j * (256 * 256 ^ (7 - j)) := by
      rw [← Int.pow_succ', ← Int.pow_add, show j + (7 - j + 1) = 8 by omega]; rfl
    rw [e2, Int.mul_assoc, Int.add_mul_ediv_left _ _ (Int.ne_of_gt (pow256 j)), Int.mul_assoc, Int.add_mul_emod_self_left]
  · obtain ⟨i, rfl⟩ : ∃ i, j = 8 + i := ⟨j - 8, by omega⟩
    have := rd_append_right (bytesN lo 8) (bytesN hi 8) i
    rw [len_bytesN] at this
    rw [this, rd_bytesN _ _ _ (by omega), byteK_eq, Int.pow_add, ← Int.ediv_ediv_of_nonneg (Int.pow_nonneg (by decide)), show (256 : Int) ^ 8 = 18446744073709551616 by rfl]
    congr 2
    omega
/-- The number that limbs come to, before the key's second half is added. -/
def accV (r b : List Int) : Int := loF (finF (accN r b ((b.length + 15) / 16))) + 18446744073709551616 * hiF (finF (accN r b ((b.length + 15) / 16)))
theorem accV_range (r b : List Int) : 0 ≤ accV r b ∧ accV r b < 340282366920938463463374607431768211456 := by
  have h1 := bits64_range .or (Go.bits .or .u64 (rd (finF (accN r b ((b.length + 15) / 16))) 0) (IntKind.u64.wrap (rd (finF (accN r b ((b.length + 15) / 16))) 1 * 67108864))) (IntKind.u64.wrap (rd (finF (accN r b ((b.length + 15) / 16))) 2 * 4503599627370496))
  have h2 := bits64_range .or (Go.bits .or .u64 (rd (finF (accN r b ((b.length + 15) / 16))) 2 / 4096) (IntKind.u64.wrap (rd (finF (accN r b ((b.length + 15) / 16))) 3 * 16384))) (IntKind.u64.wrap (rd (finF (accN r b ((b.length + 15) / 16))) 4 * 1099511627776))
  unfold accV loF hiF
  omega
theorem sum_words (key : List Int) (hk : Bytes key) : wordF key 16 + 18446744073709551616 * wordF key 24 = bsum (key.drop 16) 16 := by
  rw [word_val key hk 16, word_val key hk 24]
  simp only [bsum, rd_drop, Nat.reduceAdd]
  omega
theorem tag_val (key b : List Int) (hk : Bytes key) (j : Nat) (hj : j < 16) : rd (tagF key b) (j : Int) = (accV (clampF key) b + bsum (key.drop 16) 16) / 256 ^ j % 256 := by
  unfold tagF
  have hx := bits64_range .or (leQ (key.drop 16)) (IntKind.u64.wrap (leQ (key.drop (16 + 4)) * 4294967296))
  have hz := bits64_range .or (leQ (key.drop 24)) (IntKind.u64.wrap (leQ (key.drop (24 + 4)) * 4294967296))
  have hs := sum_words key hk
  have eX : wordF key 16 = Go.bits .or .u64 (leQ (key.drop 16)) (IntKind.u64.wrap (leQ (key.drop (16 + 4)) * 4294967296)) := rfl
  have eZ : wordF key 24 = Go.bits .or .u64 (leQ (key.drop 24)) (IntKind.u64.wrap (leQ (key.drop (24 + 4)) * 4294967296)) := rfl
  rw [← eX] at hx
  rw [← eZ] at hz
  rw [outW_rd _ _ (by unfold sumLo; omega) (by unfold sumLo; omega) j hj, ← hs]
  have hlo := bits64_range .or (Go.bits .or .u64 (rd (finF (accN (clampF key) b ((b.length + 15) / 16))) 0) (IntKind.u64.wrap (rd (finF (accN (clampF key) b ((b.length + 15) / 16))) 1 * 67108864))) (IntKind.u64.wrap (rd (finF (accN (clampF key) b ((b.length + 15) / 16))) 2 * 4503599627370496))
  have hlo' : 0 ≤ loF (finF (accN (clampF key) b ((b.length + 15) / 16))) ∧ loF (finF (accN (clampF key) b ((b.length + 15) / 16))) < 18446744073709551616 := hlo
  unfold sumLo sumHi accV
  generalize loF (finF (accN (clampF key) b ((b.length + 15) / 16))) = lo at *
  generalize hiF (finF (accN (clampF key) b ((b.length + 15) / 16))) = hi at *
  generalize wordF key 16 = x at *
  generalize wordF key 24 = z at *
  have e : (lo + x) % 18446744073709551616 + 18446744073709551616 * ((hi + z + (lo + x) / 18446744073709551616) % 18446744073709551616) = (lo + 18446744073709551616 * hi + (x + 18446744073709551616 * z)) - 340282366920938463463374607431768211456 * ((hi + z + (lo + x) / 18446744073709551616) / 18446744073709551616) := by omega
  rw [e]
  generalize (hi + z + (lo + x) / 18446744073709551616) / 18446744073709551616 = q
  generalize lo + 18446744073709551616 * hi + (x + 18446744073709551616 * z) = v
  have e2 : (340282366920938463463374607431768211456 : Int) = 256 ^ j * (256 * 256 ^ (15 - j)) := by
    rw [← Int.pow_succ', ← Int.pow_add, show j + (15 - j + 1) = 16 by omega]; rfl
  rw [e2, show v - 256 ^ j * (256 * 256 ^ (15 - j)) * q = v + 256 ^ j * (256 * (256 ^ (15 - j) * -q)) by rw [Int.mul_assoc, Int.mul_assoc, Int.mul_neg, Int.mul_neg, Int.mul_neg, Int.sub_eq_add_neg]]
  rw [Int.add_mul_ediv_left _ _ (Int.ne_of_gt (pow256 j)), Int.add_mul_emod_self_left]
/-- The digits of what bytes stand for are the bytes. -/
theorem bsum_step (l : List Int) (n : Nat) : bsum l (n + 1) = bsum l n + 256 ^ n * rd l n := by rw [bsum, Int.mul_comm]
theorem bsum_range (l : List Int) (hl : Bytes l) : ∀ n, 0 ≤ bsum l n ∧ bsum l n < 256 ^ n
  | 0 => ⟨Int.le_refl _, by simp [bsum]⟩
  | n + 1 => by
    have ih := bsum_range l hl n
    have hb := hl.rd (n : Int)
    have hp := pow256 n
    rw [bsum_step, Int.pow_succ]
    have h1 : 0 ≤ 256 ^ n * rd l n := Int.mul_nonneg (Int.le_of_lt hp) hb.1
    have h2 : 256 ^ n * rd l n ≤ 256 ^ n * 255 := Int.mul_le_mul_of_nonneg_left hb.2 (Int.le_of_lt hp)
    constructor
    · omega
    · have : (256 : Int) ^ n * 256 = 256 ^ n * 255 + 256 ^ n := by omega
      omega
theorem bsum_split (l : List Int) (i n : Nat) : ∃ R, bsum l (i + n) = bsum l i + 256 ^ i * R := by
  induction n with
  | zero => exact ⟨0, by simp⟩
  | succ n ih =>
    obtain ⟨R, hR⟩ := ih
    refine ⟨R + 256 ^ n * rd l ((i + n : Nat) : Int), ?_⟩
    rw [show i + (n + 1) = (i + n) + 1 by omega, bsum_step, hR, Int.pow_add, Int.mul_add, Int.mul_assoc, Int.add_assoc]
theorem bsum_digit (l : List Int) (hl : Bytes l) (n j : Nat) (hj : j < n) : bsum l n / 256 ^ j % 256 = rd l j := by
  obtain ⟨R, hR⟩ := bsum_split l (j + 1) (n - (j + 1))
  rw [show j + 1 + (n - (j + 1)) = n by omega] at hR
  have hb := hl.rd (j : Int)
  have hr := bsum_range l hl j
  rw [hR, bsum_step, Int.pow_succ, Int.mul_assoc, Int.add_assoc, ← Int.mul_add, Int.add_mul_ediv_left _ _ (Int.ne_of_gt (pow256 j)), Int.ediv_eq_zero_of_lt hr.1 hr.2]
  omega
/-- Of a number's digits, the number. -/
theorem bsum_of (l : List Int) (v : Int) (n : Nat) (h : ∀ j : Nat, j < n → rd l (j : Int) = v / 256 ^ j % 256) : bsum l n = v % 256 ^ n := by
  induction n with
  | zero => simp [bsum, Int.emod_one]
  | succ n ih =>
    rw [bsum_step, ih (fun j hj => h j (by omega)), h n (by omega), Int.pow_succ]
    have e1 := Int.emod_add_mul_ediv v (256 ^ n)
    have hp := pow256 n
    have hq := Int.emod_add_mul_ediv (v / 256 ^ n) 256
    have hm := Int.emod_nonneg v (Int.ne_of_gt hp)
    have hl := Int.emod_lt_of_pos v hp
    generalize hA : v % 256 ^ n = A at *
    generalize hB : v / 256 ^ n = B at *
    have hB0 : 0 ≤ B % 256 ∧ B % 256 ≤ 255 := by omega
    have e2 : v = (A + 256 ^ n * (B % 256)) + 256 ^ n * 256 * (B / 256) := by
      rw [← e1]
      have : 256 ^ n * B = 256 ^ n * (B % 256) + 256 ^ n * 256 * (B / 256) := by rw [Int.mul_assoc, ← Int.mul_add, hq]
      omega
    have h1 : 0 ≤ 256 ^ n * (B % 256) := Int.mul_nonneg (Int.le_of_lt hp) hB0.1
    have h2 : 256 ^ n * (B % 256) ≤ 256 ^ n * 255 := Int.mul_le_mul_of_nonneg_left hB0.2 (Int.le_of_lt hp)
    have e3 : (256 : Int) ^ n * 256 = 256 ^ n * 255 + 256 ^ n := by omega
    rw [e2, Int.add_mul_emod_self_left]
    exact (Int.emod_eq_of_lt (by omega) (by omega)).symm

/-- With a first half of noughts. -/
theorem clamp_zero (k : List Int) : clampF (List.replicate 16 0 ++ k) = [0, 0, 0, 0, 0] := by
  unfold clampF
  rw [List.take_append_of_le_length (by simp), List.take_of_length_le (by simp)]
  decide +kernel
theorem times_zero (h : List Int) : timesF h [0, 0, 0, 0, 0] = [0, 0, 0, 0, 0] := by
  have e : ∀ i k, tL [0, 0, 0, 0, 0] i k = 0 := by
    intro i k
    have hr : rd [0, 0, 0, 0, 0] (((i + 5 - k) % 5 : Nat) : Int) = 0 := by
      have : (i + 5 - k) % 5 < 5 := by omega
      generalize (i + 5 - k) % 5 = z at *
      have : z = 0 ∨ z = 1 ∨ z = 2 ∨ z = 3 ∨ z = 4 := by omega
      rcases this with rfl | rfl | rfl | rfl | rfl <;> rfl
    unfold tL
    rw [hr]
    split <;> rfl
  have hz : tI h [0, 0, 0, 0, 0] 5 = [0, 0, 0, 0, 0] := by
    simp only [tI, tK, tS, e, Int.mul_zero, show IntKind.u64.wrap 0 = 0 from rfl, Int.add_zero]
    rfl
  unfold timesF
  rw [hz]
  decide +kernel
theorem acc_zero (b : List Int) : ∀ j, accN [0, 0, 0, 0, 0] b j = [0, 0, 0, 0, 0]
  | 0 => rfl
  | j + 1 => by rw [accN, times_zero]
theorem accV_zero (b : List Int) : accV [0, 0, 0, 0, 0] b = 0 := by
  unfold accV
  rw [acc_zero]
  decide +kernel
end Go.Proofs.Ytgnanhphdodhoaa.Pol
