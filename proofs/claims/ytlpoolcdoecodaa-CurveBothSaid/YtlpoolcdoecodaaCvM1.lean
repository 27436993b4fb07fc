/-
  Whole numbers: primes, Fermat's theorem, and how a number is shown to be prime by what divides the number before it.
-/
namespace Go.Proofs.Ytlpoolcdoecodaa.Pq
set_option linter.unusedVariables false
/-- A prime number. -/
def Pr (n : Nat) : Prop := 2 ≤ n ∧ ∀ m, m ∣ n → m = 1 ∨ m = n
theorem Pr.coprime {q m : Nat} (h : Pr q) (hm : ¬ q ∣ m) : Nat.Coprime q m := by
  rcases h.2 _ (Nat.gcd_dvd_left q m) with h1 | h1
  · exact h1
  · exact absurd (h1 ▸ Nat.gcd_dvd_right q m) hm
theorem Pr.dvd_mul {q a b : Nat} (h : Pr q) (hd : q ∣ a * b) : q ∣ a ∨ q ∣ b := by
  by_cases h1 : q ∣ a
  · exact .inl h1
  · exact .inr ((h.coprime h1).dvd_of_dvd_mul_left hd)
theorem Pr.dvd_pow {q a : Nat} (h : Pr q) : ∀ n, q ∣ a ^ n → q ∣ a
  | 0, hd => by have := h.1; have := Nat.le_of_dvd (by simp) hd; simp at this; omega
  | n + 1, hd => by
    rw [Nat.pow_succ] at hd
    rcases h.dvd_mul hd with h1 | h1
    · exact Pr.dvd_pow h n h1
    · exact h1
theorem factor (n : Nat) (h : 2 ≤ n) : ∃ q, Pr q ∧ q ∣ n := by
  induction n using Nat.strongRecOn with
  | _ n ih =>
    by_cases hp : ∃ m, m ∣ n ∧ m ≠ 1 ∧ m ≠ n
    · obtain ⟨m, hm, h1, h2⟩ := hp
      have hle := Nat.le_of_dvd (by omega) hm
      have h0 : m ≠ 0 := fun e => by subst e; have := Nat.eq_zero_of_zero_dvd hm; omega
      obtain ⟨q, hq, hd⟩ := ih m (by omega) (by omega)
      exact ⟨q, hq, Nat.dvd_trans hd hm⟩
    · exact ⟨n, ⟨h, fun m hm => by
        by_cases h1 : m = 1
        · exact .inl h1
        · by_cases h2 : m = n
          · exact .inr h2
          · exact absurd ⟨m, hm, h1, h2⟩ hp⟩, Nat.dvd_refl n⟩
/-- Pascal's numbers. -/
def ch : Nat → Nat → Nat
  | _, 0 => 1
  | 0, _ + 1 => 0
  | n + 1, k + 1 => ch n k + ch n (k + 1)
theorem ch_zero (n : Nat) : ch n 0 = 1 := by cases n <;> rfl
theorem ch_succ (n k : Nat) : ch (n + 1) (k + 1) = ch n k + ch n (k + 1) := rfl
theorem ch_over : ∀ (n k : Nat), n < k → ch n k = 0
  | n, 0, h => by omega
  | 0, k + 1, _ => rfl
  | n + 1, k + 1, h => by rw [ch_succ, ch_over n k (by omega), ch_over n (k + 1) (by omega)]
theorem ch_self : ∀ n, ch n n = 1
  | 0 => rfl
  | n + 1 => by rw [ch_succ, ch_self n, ch_over n (n + 1) (by omega)]
theorem absorb : ∀ (n k : Nat), (k + 1) * ch (n + 1) (k + 1) = (n + 1) * ch n k
  | 0, 0 => rfl
  | 0, k + 1 => by rw [ch_succ, ch_over 0 (k + 1) (by omega), ch_over 0 (k + 2) (by omega)]; omega
  | n + 1, 0 => by
    have h := absorb n 0
    have h1 := ch_succ (n + 1) 0
    rw [ch_zero] at h h1 ⊢
    rw [Nat.zero_add] at *
    omega
  | n + 1, k + 1 => by
    have h1 := absorb n (k + 1)
    have h2 := absorb n k
    rw [ch_succ (n + 1) (k + 1)]
    have h3 := ch_succ n k
    grind
theorem dvd_ch {p k : Nat} (h : Pr p) (h0 : 0 < k) (hk : k < p) : p ∣ ch p k := by
  obtain ⟨j, rfl⟩ : ∃ j, k = j + 1 := ⟨k - 1, by omega⟩
  obtain ⟨n, rfl⟩ : ∃ n, p = n + 1 := ⟨p - 1, by omega⟩
  have ha := absorb n j
  rcases h.dvd_mul ((⟨_, ha⟩ : n + 1 ∣ (j + 1) * ch (n + 1) (j + 1))) with h1 | h1
  · have := Nat.le_of_dvd (by omega) h1; omega
  · exact h1
/-- The first j parts of (a + 1)^n. -/
def bs (a n : Nat) : Nat → Nat
  | 0 => 0
  | j + 1 => bs a n j + ch n j * a ^ j
theorem bs_step (a n : Nat) : ∀ j, bs a (n + 1) (j + 1) = bs a n (j + 1) + a * bs a n j
  | 0 => by simp [bs, ch_zero]
  | j + 1 => by
    rw [bs, bs_step a n j, ch_succ, bs, bs, bs, Nat.pow_succ]
    grind
theorem bs_all (a : Nat) : ∀ n, bs a n (n + 1) = (a + 1) ^ n
  | 0 => by simp [bs, ch_zero]
  | n + 1 => by
    rw [bs_step, bs, ch_over n (n + 1) (by omega), bs_all a n, Nat.pow_succ]
    grind
theorem bs_mod {p : Nat} (h : Pr p) (a : Nat) : ∀ j, j < p → bs a p (j + 1) % p = 1 % p
  | 0, _ => by simp [bs, ch_zero]
  | j + 1, hj => by
    obtain ⟨c, hc⟩ := dvd_ch (k := j + 1) h (by omega) hj
    rw [bs, Nat.add_mod, bs_mod h a j (by omega), hc, Nat.mul_assoc, Nat.mul_mod_right]
    simp
theorem fermat {p : Nat} (h : Pr p) : ∀ a : Nat, a ^ p % p = a % p
  | 0 => by rw [Nat.zero_pow (by have := h.1; omega)]
  | a + 1 => by
    rw [← bs_all, bs, ch_self, Nat.one_mul, Nat.add_mod, fermat h a]
    have h1 := bs_mod h a (p - 1) (by have := h.1; omega)
    rw [show p - 1 + 1 = p by have := h.1; omega] at h1
    rw [h1, ← Nat.add_mod, Nat.add_comm]
theorem mod_cancel {r c x y : Nat} (h : Pr r) (hc : ¬ r ∣ c) (he : (c * x) % r = (c * y) % r) : x % r = y % r := by
  have key : ∀ x y : Nat, y ≤ x → (c * x) % r = (c * y) % r → x % r = y % r := by
    intro x y hle he
    have hd : r ∣ c * x - c * y := Nat.dvd_of_mod_eq_zero (Nat.sub_mod_eq_zero_of_mod_eq he)
    rw [← Nat.mul_sub] at hd
    rcases h.dvd_mul hd with h1 | h1
    · exact absurd h1 hc
    · obtain ⟨k, hk⟩ := h1
      rw [show x = y + r * k by omega, Nat.add_mul_mod_self_left]
  rcases Nat.le_total y x with hle | hle
  · exact key x y hle he
  · exact (key y x hle he.symm).symm
theorem fermat1 {p a : Nat} (h : Pr p) (ha : ¬ p ∣ a) : a ^ (p - 1) % p = 1 % p := by
  refine mod_cancel h ha ?_
  have h1 := fermat h a
  have h2 : a * a ^ (p - 1) = a ^ p := by
    rw [Nat.mul_comm, ← Nat.pow_succ]
    congr 1
    have := h.1
    omega
  rw [h2, h1, Nat.mul_one]
theorem pow_mod_mul {r c m : Nat} (h1 : c ^ m % r = 1 % r) (k j : Nat) : c ^ (m * k + j) % r = c ^ j % r := by
  rw [Nat.pow_add, Nat.pow_mul, Nat.mul_mod, Nat.pow_mod, h1, ← Nat.pow_mod, Nat.one_pow, ← Nat.mul_mod, Nat.one_mul]
theorem ord_gcd {r c : Nat} (m n : Nat) : c ^ m % r = 1 % r → c ^ n % r = 1 % r → c ^ (Nat.gcd m n) % r = 1 % r := by
  induction m, n using Nat.gcd.induction with
  | H0 n => intro _ h; rw [Nat.gcd_zero_left]; exact h
  | H1 m n hm ih =>
    intro h1 h2
    rw [Nat.gcd_rec]
    refine ih ?_ h1
    have h3 := pow_mod_mul h1 (n / m) (n % m)
    rw [Nat.div_add_mod] at h3
    rw [← h3]; exact h2
/-- What divides a number's forerunner, as a prime, divides each of its prime divisors' forerunners. -/
theorem pock {N q R a w : Nat} (hq : Pr q) (hN : N = q * R + 1) (h1 : a ^ (N - 1) % N = 1 % N) (h2 : (a ^ R * w) % N = (w + 1) % N) {r : Nat} (hr : Pr r) (hd : r ∣ N) : q ∣ r - 1 := by
  have hr2 := hr.1
  have e1 : a ^ (N - 1) % r = 1 % r := by rw [← Nat.mod_mod_of_dvd _ hd, h1, Nat.mod_mod_of_dvd _ hd]
  have e2 : (a ^ R * w) % r = (w + 1) % r := by rw [← Nat.mod_mod_of_dvd _ hd, h2, Nat.mod_mod_of_dvd _ hd]
  have e3 : (a ^ R) ^ q % r = 1 % r := by
    rw [← Nat.pow_mul, Nat.mul_comm R q, show q * R = N - 1 by omega]; exact e1
  by_cases hb : q ∣ r - 1
  · exact hb
  · exfalso
    have hra : ¬ r ∣ a ^ R := fun h => by
      have hq0 : q ≠ 0 := by have := hq.1; omega
      have h4 : r ∣ (a ^ R) ^ q := by
        obtain ⟨k, rfl⟩ : ∃ k, q = k + 1 := ⟨q - 1, by omega⟩
        rw [Nat.pow_succ]; exact Nat.dvd_trans h (Nat.dvd_mul_left _ _)
      rw [Nat.mod_eq_zero_of_dvd h4, Nat.mod_eq_of_lt (by omega : 1 < r)] at e3
      omega
    have e4 := fermat1 hr hra
    have e5 := ord_gcd q (r - 1) e3 e4
    rw [Nat.Coprime.gcd_eq_one (hq.coprime hb), Nat.pow_one] at e5
    have e6 : (a ^ R * w) % r = w % r := by rw [Nat.mul_mod, e5, ← Nat.mul_mod, Nat.one_mul]
    rw [e6] at e2
    have e7 := Nat.sub_mod_eq_zero_of_mod_eq e2.symm
    rw [show w + 1 - w = 1 by omega, Nat.mod_eq_of_lt (by omega)] at e7
    omega
/-- A number is prime where each prime divisor leaves 1 by a number that is greater than its root. -/
theorem prime_of {N F : Nat} (h2 : 2 ≤ N) (hF : N < (F + 1) * (F + 1)) (h : ∀ r, Pr r → r ∣ N → F ∣ r - 1) : Pr N := by
  have hge : ∀ m, m ∣ N → m ≠ 1 → F + 1 ≤ m := by
    intro m hm h1
    have hm0 : m ≠ 0 := fun e => by subst e; have := Nat.eq_zero_of_zero_dvd hm; omega
    obtain ⟨r, hr, hd⟩ := factor m (by omega)
    have h3 := Nat.le_of_dvd (by have := hr.1; omega) (h r hr (Nat.dvd_trans hd hm))
    have h4 := Nat.le_of_dvd (by omega) hd
    have := hr.1
    omega
  refine ⟨h2, fun m hm => ?_⟩
  by_cases h1 : m = 1
  · exact .inl h1
  · obtain ⟨k, hk⟩ := hm
    by_cases hk1 : k = 1
    · subst hk1; exact .inr (by omega)
    · have a1 := hge m ⟨k, hk⟩ h1
      have a2 := hge k ⟨m, by rw [hk, Nat.mul_comm]⟩ hk1
      have := Nat.mul_le_mul a1 a2
      omega
/-- Powers, reckoned modulo m. -/
def pw (m a : Nat) : Nat → Nat → Nat
  | 0, _ => 1 % m
  | f + 1, e => if e % 2 = 1 then pw m (a * a % m) f (e / 2) * a % m else pw m (a * a % m) f (e / 2)
theorem pw_eq (m : Nat) : ∀ (f a e : Nat), e < 2 ^ f → pw m a f e % m = a ^ e % m
  | 0, a, e, h => by
    have : e = 0 := by simpa using h
    subst this
    simp [pw]
  | f + 1, a, e, h => by
    have ih := pw_eq m f (a * a % m) (e / 2) (by rw [Nat.pow_succ] at h; omega)
    have e1 : (a * a % m) ^ (e / 2) % m = a ^ (2 * (e / 2)) % m := by rw [← Nat.pow_mod, Nat.pow_mul, Nat.pow_two]
    rw [pw]
    split
    · rename_i ho
      have e2 : a ^ e = a ^ (2 * (e / 2)) * a := by rw [← Nat.pow_succ]; congr 1; omega
      rw [Nat.mod_mod, Nat.mul_mod, ih, e1, ← Nat.mul_mod, e2]
    · rename_i ho
      have e2 : a ^ e = a ^ (2 * (e / 2)) := by congr 1; omega
      rw [ih, e1, e2]
/-- No divisor below b. -/
def noDiv (n : Nat) : Nat → Bool
  | 0 => true
  | m + 1 => (decide (m < 2) || decide (n % m ≠ 0)) && noDiv n m
theorem noDiv_of (n : Nat) : ∀ b, noDiv n b = true → ∀ m, m < b → 2 ≤ m → ¬ m ∣ n
  | 0, _, m, hm, _ => by omega
  | b + 1, h, m, hm, h2 => by
    rw [noDiv, Bool.and_eq_true, Bool.or_eq_true] at h
    by_cases he : m = b
    · subst he
      rcases h.1 with h1 | h1
      · have := of_decide_eq_true h1; omega
      · intro hd; exact of_decide_eq_true h1 (Nat.mod_eq_zero_of_dvd hd)
    · exact noDiv_of n b h.2 m (by omega) h2
theorem prime_small {n : Nat} (b : Nat) (h2 : 2 ≤ n) (hb : n < b * b) (h : noDiv n b = true) : Pr n := by
  have hge : ∀ m, m ∣ n → m ≠ 1 → b ≤ m := by
    intro m hm h1
    have hm0 : m ≠ 0 := fun e => by subst e; have := Nat.eq_zero_of_zero_dvd hm; omega
    by_cases hlt : m < b
    · exact absurd hm (noDiv_of n b h m hlt (by omega))
    · omega
  refine ⟨h2, fun m hm => ?_⟩
  by_cases h1 : m = 1
  · exact .inl h1
  · obtain ⟨k, hk⟩ := hm
    by_cases hk1 : k = 1
    · subst hk1; exact .inr (by omega)
    · have a1 := hge m ⟨k, hk⟩ h1
      have a2 := hge k ⟨m, by rw [hk, Nat.mul_comm]⟩ hk1
      have := Nat.mul_le_mul a1 a2
      omega
end Go.Proofs.Ytlpoolcdoecodaa.Pq
