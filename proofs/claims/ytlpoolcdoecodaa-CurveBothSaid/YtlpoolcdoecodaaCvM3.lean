/-
  Whole numbers modulo 2^255 - 19: no divisors of nought, inverses, and numbers that are no squares.
-/
import Derived.Test.YtlpoolcdoecodaaCvM2
import Derived.Test.YtlpoolcdoecodaaCvV
namespace Go.Proofs.Ytlpoolcdoecodaa.Cv
open Go.Proofs.Ytlpoolcdoecodaa.Pq
set_option linter.unusedVariables false
set_option maxRecDepth 100000
def Pn : Nat := 57896044618658097711785492504343953926634992332820282019728792003956564819949
theorem P_Pn : P = (Pn : Int) := by decide +kernel
theorem prPn : Pr Pn := pr57896044618658097711785492504343953926634992332820282019728792003956564819949
theorem eqv_iff {a b : Int} : Eqv a b ↔ P ∣ a - b := by
  constructor
  · rintro ⟨k, hk⟩; exact ⟨k, by rw [hk]; grind⟩
  · rintro ⟨k, hk⟩; exact ⟨k, by grind⟩
/-- Each number is a natural one. -/
theorem toNat (z : Int) : ∃ n : Nat, n < Pn ∧ Eqv z (n : Int) := by
  have hP : (0 : Int) < P := by decide
  refine ⟨(z % P).toNat, ?_, ?_⟩
  · have h1 := Int.emod_lt_of_pos z hP
    have h2 := Int.emod_nonneg z (b := P) (by decide)
    have := P_Pn
    omega
  · rw [Int.toNat_of_nonneg (Int.emod_nonneg z (by decide))]
    exact (eqv_mod z).symm
theorem eqv_nat {m n : Nat} : Eqv (m : Int) (n : Int) ↔ m % Pn = n % Pn := by
  constructor
  · intro h
    have := h.mod
    rw [P_Pn] at this
    omega
  · intro h
    refine Eqv.of_mod ?_
    rw [P_Pn]
    omega
theorem zero_of_mul {a b : Int} (h : Eqv (a * b) 0) : Eqv a 0 ∨ Eqv b 0 := by
  obtain ⟨m, _, hm⟩ := toNat a
  obtain ⟨n, _, hn⟩ := toNat b
  have h1 : Eqv ((m * n : Nat) : Int) ((0 : Nat) : Int) := by
    rw [Int.natCast_mul]; exact ((hm.mul hn).symm).trans h
  have h2 := eqv_nat.1 h1
  rw [Nat.zero_mod] at h2
  rcases prPn.dvd_mul (Nat.dvd_of_mod_eq_zero h2) with h3 | h3
  · refine .inl (hm.trans (eqv_nat.2 ?_ : Eqv (m : Int) ((0 : Nat) : Int)))
    rw [Nat.zero_mod]; exact Nat.mod_eq_zero_of_dvd h3
  · refine .inr (hn.trans (eqv_nat.2 ?_ : Eqv (n : Int) ((0 : Nat) : Int)))
    rw [Nat.zero_mod]; exact Nat.mod_eq_zero_of_dvd h3
theorem mul_ne {a b : Int} (ha : ¬ Eqv a 0) (hb : ¬ Eqv b 0) : ¬ Eqv (a * b) 0 := fun h => by
  rcases zero_of_mul h with h | h
  · exact ha h
  · exact hb h
theorem one_ne : ¬ Eqv 1 0 := fun h => by have := h.mod; revert this; decide
/-- The exponent of the inverse. -/
def expE : Nat → Nat
  | 0 => 1
  | n + 1 => if n = 251 ∨ n = 249 then 2 * expE n else 2 * expE n + 1
theorem Eqv.pow {a b : Int} (h : Eqv a b) : ∀ n : Nat, Eqv (a ^ n) (b ^ n)
  | 0 => by rw [Int.pow_zero, Int.pow_zero]; exact Eqv.refl _
  | n + 1 => by rw [Int.pow_succ, Int.pow_succ]; exact (Eqv.pow h n).mul h
theorem inv_pow (a : Int) : ∀ n, Eqv (invZ a n) (a ^ expE n)
  | 0 => Eqv.of_eq (by rw [invZ, expE, Int.pow_succ, Int.pow_zero, Int.one_mul])
  | n + 1 => by
    have ih := inv_pow a n
    have h2 : Eqv (invZ a n * invZ a n % P) (a ^ (2 * expE n)) := (eqv_mod _).trans ((ih.mul ih).trans (Eqv.of_eq (by rw [Nat.mul_comm, Int.pow_mul, Int.pow_succ, Int.pow_succ, Int.pow_zero, Int.one_mul])))
    rw [invZ, expE]
    split
    · exact h2
    · exact (eqv_mod _).trans ((h2.mul (Eqv.refl a)).trans (Eqv.of_eq (by rw [Int.pow_succ])))
theorem expE_last : expE 254 + 1 = Pn - 1 := by decide +kernel
theorem pow_last {a : Int} (h : ¬ Eqv a 0) : Eqv (a ^ (Pn - 1)) 1 := by
  obtain ⟨n, hn, he⟩ := toNat a
  have h1 : ¬ Pn ∣ n := fun hd => h (he.trans (eqv_nat.2 (by rw [Nat.zero_mod]; exact Nat.mod_eq_zero_of_dvd hd) : Eqv (n : Int) ((0 : Nat) : Int)))
  have h2 := fermat1 prPn h1
  have h3 : Eqv ((n ^ (Pn - 1) : Nat) : Int) ((1 : Nat) : Int) := eqv_nat.2 h2
  rw [Int.natCast_pow] at h3
  exact (he.pow _).trans h3
def iv (z : Int) : Int := invZ z 254
theorem iv_mul {z : Int} (h : ¬ Eqv z 0) : Eqv (z * iv z) 1 := by
  have h1 : Eqv (z * iv z) (z ^ (expE 254 + 1)) := by
    rw [Int.pow_succ, Int.mul_comm]
    exact (inv_pow z 254).mul (Eqv.refl z)
  rw [expE_last] at h1
  exact h1.trans (pow_last h)
theorem cancel {c a b : Int} (hc : ¬ Eqv c 0) (h : Eqv (c * a) (c * b)) : Eqv a b := by
  have h1 : Eqv (c * (a - b)) 0 := by
    refine (Eqv.of_eq (by grind : c * (a - b) = c * a - c * b)).trans ((h.sub (Eqv.refl _)).trans (Eqv.of_eq (by grind)))
  rcases zero_of_mul h1 with h2 | h2
  · exact absurd h2 hc
  · have := h2.add (Eqv.refl b)
    exact (Eqv.of_eq (by grind : a = a - b + b)).trans (this.trans (Eqv.of_eq (by grind)))
/-- The curve's numbers. -/
def cA : Int := 486664
def cD : Int := 486660
def rA : Int := 48802004052532134862652268456126542835229456083994414501085850622543968879637
theorem rA_sq : Eqv (rA * rA) cA := Eqv.of_mod (by decide +kernel)
theorem no_root (t : Int) : ¬ Eqv (t * t) cD := fun h => by
  obtain ⟨n, hn, he⟩ := toNat t
  have h0 : ¬ Eqv t 0 := fun h0 => by
    have h1 := (h0.mul h0).symm.trans h
    have := h1.mod
    revert this; decide
  have h1 := pow_last h0
  have h2 : Eqv (t ^ (Pn - 1)) (cD ^ ((Pn - 1) / 2)) := by
    have e : (Pn - 1) = 2 * ((Pn - 1) / 2) := by decide +kernel
    have e2 : t ^ (2 * ((Pn - 1) / 2)) = (t * t) ^ ((Pn - 1) / 2) := by rw [Int.pow_mul, Int.pow_succ, Int.pow_succ, Int.pow_zero, Int.one_mul]
    have e3 : t ^ (Pn - 1) = (t * t) ^ ((Pn - 1) / 2) := by
      generalize (Pn - 1) / 2 = j at e e2 ⊢
      rw [e]; exact e2
    rw [e3]
    exact h.pow _
  have h3 : 486660 ^ ((Pn - 1) / 2) % Pn = Pn - 1 := by
    rw [← pw_eq Pn 256 486660 ((Pn - 1) / 2) (by decide +kernel)]
    decide +kernel
  have h4 : Eqv (cD ^ ((Pn - 1) / 2)) ((Pn - 1 : Nat) : Int) := by
    have h5 : Eqv ((486660 ^ ((Pn - 1) / 2) : Nat) : Int) ((Pn - 1 : Nat) : Int) := eqv_nat.2 (by rw [h3]; decide +kernel)
    rw [Int.natCast_pow] at h5
    exact h5
  have h6 := (h2.trans h4).symm.trans h1
  have := h6.mod
  revert this; decide +kernel
end Go.Proofs.Ytlpoolcdoecodaa.Cv
