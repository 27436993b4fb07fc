/-
  Plain facts on floats: whole numbers below 2^53 are held exactly; how they stand to each other; made whole they stay; turned back they are what they were.
-/
import Derived.Test.YtclabnfngchpfaaArr
import Derived.Laws.FloatArith
namespace Go.Proofs.Ytclabnfngchpfaa.Fl
open Go.RowKit

/-- A whole number as a float of 64 bits. -/
def F (n : Nat) : Nat := Ieee.double.nearest false n 0

theorem lg_le {n : Nat} (h0 : 0 < n) (h : n < 9007199254740992) : Nat.log2 n ≤ 52 := by
  have := (Nat.log2_lt (n := n) (k := 53) (by omega)).2 h
  omega
theorem F_zero : F 0 = 0 := by decide +kernel
/-- A shift, as a product. -/
theorem shl (m k : Nat) : m <<< k = m * 2 ^ k := Nat.shiftLeft_eq m k

theorem kept_range {n : Nat} (h0 : 0 < n) (h : n < 9007199254740992) : 4503599627370496 ≤ n * 2 ^ (52 - Nat.log2 n) ∧ n * 2 ^ (52 - Nat.log2 n) < 9007199254740992 := by
  have hl := lg_le h0 h
  have h1 : 2 ^ Nat.log2 n ≤ n := Nat.log2_self_le (by omega)
  have h2 : n < 2 ^ (Nat.log2 n + 1) := Nat.lt_log2_self
  have e1 : 2 ^ Nat.log2 n * 2 ^ (52 - Nat.log2 n) = 4503599627370496 := by rw [← Nat.pow_add, show Nat.log2 n + (52 - Nat.log2 n) = 52 by omega]
  have e2 : 2 ^ (Nat.log2 n + 1) * 2 ^ (52 - Nat.log2 n) = 9007199254740992 := by rw [← Nat.pow_add, show Nat.log2 n + 1 + (52 - Nat.log2 n) = 53 by omega]
  have hp : 0 < 2 ^ (52 - Nat.log2 n) := Nat.pow_pos (by omega)
  constructor
  · rw [← e1]; exact Nat.mul_le_mul_right _ h1
  · rw [← e2]; exact Nat.mul_lt_mul_of_pos_right h2 hp

theorem F_rung {n : Nat} (h0 : 0 < n) (h : n < 9007199254740992) : F n = (Nat.log2 n + 1022) * 4503599627370496 + n * 2 ^ (52 - Nat.log2 n) := by
  have hl := lg_le h0 h
  have hk := kept_range h0 h
  unfold F Ieee.Format.nearest
  rw [if_neg (by omega)]
  have e1 : Ieee.double.leastPlace = -1074 := by decide +kernel
  have e2 : ((Ieee.double.fractionBits : Nat) : Int) = 52 := rfl
  have e3 : Ieee.double.infRung = 9218868437227405312 := by decide +kernel
  have e4 : Ieee.double.binade = 4503599627370496 := by decide +kernel
  have hlast : max ((0 : Int) + (Nat.log2 n : Int) - ((Ieee.double.fractionBits : Nat) : Int)) Ieee.double.leastPlace = (Nat.log2 n : Int) - 52 := by rw [e1, e2]; omega
  simp only [hlast]
  rw [show (0 - ((Nat.log2 n : Int) - 52)).toNat = 52 - Nat.log2 n by omega, show (((Nat.log2 n : Int) - 52) - 0).toNat = 0 by omega, e1, show ((Nat.log2 n : Int) - 52 - -1074).toNat = Nat.log2 n + 1022 by omega, e3, e4, shl]
  have hc : Ieee.Toward.even.cut false (n * 2 ^ (52 - Nat.log2 n)) 0 = n * 2 ^ (52 - Nat.log2 n) := by
    unfold Ieee.Toward.cut
    simp [Nat.mod_one]
  rw [hc]
  unfold Ieee.Format.word
  simp only [Bool.false_eq_true, if_false]
  omega

theorem F_read {n : Nat} (h0 : 0 < n) (h : n < 9007199254740992) : Ieee.double.read (F n) = .number false (n * 2 ^ (52 - Nat.log2 n)) ((Nat.log2 n : Int) - 52) := by
  have hl := lg_le h0 h
  have hk := kept_range h0 h
  rw [F_rung h0 h]
  obtain ⟨q, hq⟩ : ∃ q, q = n * 2 ^ (52 - Nat.log2 n) := ⟨_, rfl⟩
  rw [← hq] at hk ⊢
  unfold Ieee.Format.read
  have e1 : Ieee.double.leastPlace = -1074 := by decide +kernel
  have e3 : Ieee.double.infRung = 9218868437227405312 := by decide +kernel
  have e4 : Ieee.double.binade = 4503599627370496 := by decide +kernel
  have e5 : Ieee.double.signWeight = 9223372036854775808 := by decide +kernel
  rw [e1, e3, e4, e5]
  have a1 : ((Nat.log2 n + 1022) * 4503599627370496 + q) / 9223372036854775808 = 0 := by omega
  have a2 : ((Nat.log2 n + 1022) * 4503599627370496 + q) % 9223372036854775808 = (Nat.log2 n + 1022) * 4503599627370496 + q := by omega
  simp only [a1, a2]
  rw [if_neg (by omega), if_pos (by omega)]
  have a3 : ((Nat.log2 n + 1022) * 4503599627370496 + q) % 4503599627370496 = q - 4503599627370496 := by omega
  have a4 : ((Nat.log2 n + 1022) * 4503599627370496 + q) / 4503599627370496 = Nat.log2 n + 1023 := by omega
  rw [a3, a4]
  have a5 : 4503599627370496 + (q - 4503599627370496) = q := by omega
  have a6 : (-1074 : Int) + ((Nat.log2 n + 1023 - 1 : Nat) : Int) = (Nat.log2 n : Int) - 52 := by omega
  have a7 : ((0 : Nat) % 2 == 1) = false := rfl
  rw [a5, a6, a7]

theorem F_read_zero : Ieee.double.read 0 = .number false 0 (-1074) := by decide +kernel

theorem cmp_lt {a b : Int} (h : a < b) : compare a b = .lt := by
  show compareOfLessAndEq a b = .lt
  unfold compareOfLessAndEq
  rw [if_pos h]
theorem cmp_gt {a b : Int} (h : b < a) : compare a b = .gt := by
  show compareOfLessAndEq a b = .gt
  unfold compareOfLessAndEq
  rw [if_neg (by omega), if_neg (by omega)]
theorem cmp_eq (a : Int) : compare a a = .eq := by
  show compareOfLessAndEq a a = .eq
  unfold compareOfLessAndEq
  rw [if_neg (by omega), if_pos rfl]
/-- Whole numbers stand to each other as floats as they do. -/
theorem F_order {a b : Nat} (ha : a < 9007199254740992) (hb : b < 9007199254740992) : Ieee.double.order (F a) (F b) = some (compare (a : Int) (b : Int)) := by
  unfold Ieee.Format.order
  rcases Nat.eq_zero_or_pos a with rfl | ha0
  · rcases Nat.eq_zero_or_pos b with rfl | hb0
    · rw [F_zero, F_read_zero]; decide +kernel
    · rw [F_zero, F_read_zero, F_read hb0 hb]
      have hp : 0 < b * 2 ^ (52 - Nat.log2 b) := Nat.mul_pos hb0 (Nat.pow_pos (by omega))
      simp only [Ieee.Datum.order, Ieee.signed, Bool.false_eq_true, if_false, shl, Nat.zero_mul]
      have hq : 0 < b * 2 ^ (52 - Nat.log2 b) * 2 ^ ((Nat.log2 b : Int) - 52 - min (-1074) ((Nat.log2 b : Int) - 52)).toNat := Nat.mul_pos hp (Nat.pow_pos (by omega))
      rw [cmp_lt (by omega), cmp_lt (by omega)]
  · rcases Nat.eq_zero_or_pos b with rfl | hb0
    · rw [F_zero, F_read_zero, F_read ha0 ha]
      have hp : 0 < a * 2 ^ (52 - Nat.log2 a) := Nat.mul_pos ha0 (Nat.pow_pos (by omega))
      simp only [Ieee.Datum.order, Ieee.signed, Bool.false_eq_true, if_false, shl, Nat.zero_mul]
      have hq : 0 < a * 2 ^ (52 - Nat.log2 a) * 2 ^ ((Nat.log2 a : Int) - 52 - min ((Nat.log2 a : Int) - 52) (-1074)).toNat := Nat.mul_pos hp (Nat.pow_pos (by omega))
      rw [cmp_gt (by omega), cmp_gt (by omega)]
    · rw [F_read ha0 ha, F_read hb0 hb]
      have hla := lg_le ha0 ha
      have hlb := lg_le hb0 hb
      simp only [Ieee.Datum.order, Ieee.signed, Bool.false_eq_true, if_false, shl]
      obtain ⟨s, hs⟩ : ∃ s, s = 52 - min (Nat.log2 a) (Nat.log2 b) := ⟨_, rfl⟩
      have ea : a * 2 ^ (52 - Nat.log2 a) * 2 ^ ((Nat.log2 a : Int) - 52 - min ((Nat.log2 a : Int) - 52) ((Nat.log2 b : Int) - 52)).toNat = a * 2 ^ s := by
        rw [Nat.mul_assoc, ← Nat.pow_add]
        congr 2
        omega
      have eb : b * 2 ^ (52 - Nat.log2 b) * 2 ^ ((Nat.log2 b : Int) - 52 - min ((Nat.log2 a : Int) - 52) ((Nat.log2 b : Int) - 52)).toNat = b * 2 ^ s := by
        rw [Nat.mul_assoc, ← Nat.pow_add]
        congr 2
        omega
      rw [ea, eb]
      have hp : 0 < 2 ^ s := Nat.pow_pos (by omega)
      rcases Nat.lt_trichotomy a b with h | h | h
      · have := Nat.mul_lt_mul_of_pos_right h hp
        rw [cmp_lt (by omega), cmp_lt (by omega)]
      · subst h
        rw [cmp_eq, cmp_eq]
      · have := Nat.mul_lt_mul_of_pos_right h hp
        rw [cmp_gt (by omega), cmp_gt (by omega)]

/-- Made whole it stays. -/
theorem F_whole {n : Nat} (h : n < 9007199254740992) (way : Ieee.Toward) (hw : way = .zero) : (Ieee.double.read (F n)).integral way = .number false n 0 := by
  subst hw
  rcases Nat.eq_zero_or_pos n with rfl | h0
  · rw [F_zero, F_read_zero]; decide +kernel
  · have hl := lg_le h0 h
    have hk := kept_range h0 h
    rw [F_read h0 h]
    simp only [Ieee.Datum.integral]
    rw [show ((Nat.log2 n : Int) - 52).toNat = 0 by omega, show (-((Nat.log2 n : Int) - 52)).toNat = 52 - Nat.log2 n by omega]
    congr 1
    have hlog : Nat.log2 (n * 2 ^ (52 - Nat.log2 n)) = 52 := by
      have a1 := (Nat.log2_lt (k := 53) (show n * 2 ^ (52 - Nat.log2 n) ≠ 0 by omega)).2 hk.2
      have a2 := (Nat.le_log2 (k := 52) (show n * 2 ^ (52 - Nat.log2 n) ≠ 0 by omega)).2 hk.1
      omega
    unfold Ieee.Toward.cut
    simp only [Nat.shiftLeft_zero, hlog]
    rw [show min (52 - Nat.log2 n) (52 + 2) = 52 - Nat.log2 n by omega, shl, Nat.one_mul, Nat.mul_div_cancel _ (Nat.pow_pos (by omega))]
    rfl
theorem F_toInt {n : Nat} (h : n < 9007199254740992) : (Ieee.double.read (F n)).toInt .zero = some (n : Int) := by
  unfold Ieee.Datum.toInt
  rw [F_whole h .zero rfl]
  simp [Ieee.signed]
theorem F_trunc {n : Nat} (h : n < 9007199254740992) : Ieee.double.write ((Ieee.double.read (F n)).integral .zero) = F n := by
  rw [F_whole h .zero rfl]
  rfl
end Go.Proofs.Ytclabnfngchpfaa.Fl
