/-
  X25519 without a program: limbs of sixteen bits, what carry, times, inverse and the ladder make of them, and the same modulo 2^255 - 19.
-/
import Derived.Test.YtlpoolcdoecodaaArr
namespace Go.Proofs.Ytlpoolcdoecodaa.Cv
set_option linter.unusedVariables false
/-- 2^255 - 19. -/
def P : Int := 57896044618658097711785492504343953926634992332820282019728792003956564819949
/-- The number that limbs of sixteen bits stand for. -/
def val : List Int → Int
  | [] => 0
  | x :: r => x + 65536 * val r
/-- Alike, modulo P. -/
def Eqv (a b : Int) : Prop := ∃ k, a = b + k * P
theorem Eqv.refl (a : Int) : Eqv a a := ⟨0, by omega⟩
theorem Eqv.of_eq {a b : Int} (h : a = b) : Eqv a b := h ▸ Eqv.refl a
theorem Eqv.symm {a b : Int} (h : Eqv a b) : Eqv b a := by
  obtain ⟨k, rfl⟩ := h
  exact ⟨-k, by grind⟩
theorem Eqv.trans {a b c : Int} (h : Eqv a b) (h2 : Eqv b c) : Eqv a c := by
  obtain ⟨k, rfl⟩ := h
  obtain ⟨m, rfl⟩ := h2
  exact ⟨k + m, by grind⟩
theorem Eqv.add {a b c d : Int} (h : Eqv a b) (h2 : Eqv c d) : Eqv (a + c) (b + d) := by
  obtain ⟨k, rfl⟩ := h
  obtain ⟨m, rfl⟩ := h2
  exact ⟨k + m, by grind⟩
theorem Eqv.sub {a b c d : Int} (h : Eqv a b) (h2 : Eqv c d) : Eqv (a - c) (b - d) := by
  obtain ⟨k, rfl⟩ := h
  obtain ⟨m, rfl⟩ := h2
  exact ⟨k - m, by grind⟩
theorem Eqv.mul {a b c d : Int} (h : Eqv a b) (h2 : Eqv c d) : Eqv (a * c) (b * d) := by
  obtain ⟨k, rfl⟩ := h
  obtain ⟨m, rfl⟩ := h2
  exact ⟨k * d + m * b + k * m * P, by grind⟩
theorem Eqv.mod {a b : Int} (h : Eqv a b) : a % P = b % P := by
  obtain ⟨k, rfl⟩ := h
  exact Int.add_mul_emod_self_right b k P
theorem eqv_mod (a : Int) : Eqv (a % P) a := ⟨-(a / P), by have := Int.emod_add_mul_ediv a P; grind⟩
theorem Eqv.of_mod {a b : Int} (h : a % P = b % P) : Eqv a b := (eqv_mod a).symm.trans (h ▸ eqv_mod b)
/-- Entries. -/
theorem getD_set (l : List Int) (i j : Nat) (y : Int) (h : i < l.length) : (l.set i y).getD j 0 = if i = j then y else l.getD j 0 := by
  simp only [List.getD_eq_getElem?_getD, List.getElem?_set]
  by_cases hij : i = j
  · subst hij; simp [h]
  · simp [hij]
theorem val_set : ∀ (l : List Int) (i : Nat) (y : Int), i < l.length → val (l.set i y) = val l + 65536 ^ i * (y - l.getD i 0)
  | [], i, y, h => by simp at h
  | x :: r, 0, y, h => by simp [val]; omega
  | x :: r, i + 1, y, h => by
    have := val_set r i y (by simpa using h)
    simp only [List.set_cons_succ, val, this, List.getD_cons_succ, Int.pow_succ]
    grind
theorem val_app : ∀ (l r : List Int), val (l ++ r) = val l + 65536 ^ l.length * val r
  | [], r => by simp [val]
  | x :: l, r => by
    have := val_app l r
    simp only [List.cons_append, val, this, List.length_cons, Int.pow_succ]
    grind
theorem val_take_succ (l : List Int) (k : Nat) (h : k < l.length) : val (l.take (k + 1)) = val (l.take k) + 65536 ^ k * l.getD k 0 := by
  rw [List.take_add_one, List.getElem?_eq_getElem h, val_app, List.length_take, Nat.min_eq_left (by omega)]
  simp [val, List.getD_eq_getElem?_getD, List.getElem?_eq_getElem h]
theorem val_drop (l : List Int) (k : Nat) (h : k < l.length) : val (l.drop k) = l.getD k 0 + 65536 * val (l.drop (k + 1)) := by
  rw [List.drop_eq_getElem_cons h, val]
  simp [List.getD_eq_getElem?_getD, List.getElem?_eq_getElem h]
theorem val_split (l : List Int) (k : Nat) (h : k ≤ l.length) : val l = val (l.take k) + 65536 ^ k * val (l.drop k) := by
  have h1 := val_app (l.take k) (l.drop k)
  rw [List.take_append_drop, List.length_take, Nat.min_eq_left h] at h1
  exact h1
theorem val_zero : ∀ n, val (List.replicate n 0) = 0
  | 0 => rfl
  | n + 1 => by rw [List.replicate_succ, val, val_zero n]; rfl
theorem val_zip (f : Int → Int → Int) (hf : ∀ x y z t, f x y + 65536 * f z t = f (x + 65536 * z) (y + 65536 * t)) (h0 : f 0 0 = 0) : ∀ (a b : List Int), a.length = b.length → val (List.zipWith f a b) = f (val a) (val b)
  | [], [], _ => by simp [val, h0]
  | [], _ :: _, h => by simp at h
  | _ :: _, [], h => by simp at h
  | x :: a, y :: b, h => by
    have := val_zip f hf h0 a b (by simpa using h)
    simp only [List.zipWith_cons_cons, val, this, hf]
/-- plus, minus. -/
def plusF (a b : List Int) : List Int := List.zipWith (· + ·) a b
def minusF (a b : List Int) : List Int := List.zipWith (· - ·) a b
theorem val_plus (a b : List Int) (h : a.length = b.length) : val (plusF a b) = val a + val b := val_zip _ (by intros; grind) rfl a b h
theorem val_minus (a b : List Int) (h : a.length = b.length) : val (minusF a b) = val a - val b := val_zip _ (by intros; grind) rfl a b h
/-- carry, entry by entry. -/
def carStep (f : List Int) (i : Nat) : List Int :=
  if i < 15 then (f.set (i + 1) (f.getD (i + 1) 0 + f.getD i 0 / 65536)).set i (f.getD i 0 % 65536)
  else (f.set 0 (f.getD 0 0 + 38 * (f.getD i 0 / 65536))).set i (f.getD i 0 % 65536)
def carS (f : List Int) : Nat → List Int
  | 0 => f
  | i + 1 => carStep (carS f i) i
def car (f : List Int) : List Int := carS f 16
theorem len_carStep (f : List Int) (i : Nat) : (carStep f i).length = f.length := by unfold carStep; split <;> simp
theorem len_carS (f : List Int) : ∀ i, (carS f i).length = f.length
  | 0 => rfl
  | i + 1 => by rw [carS, len_carStep, len_carS f i]
theorem len_car (f : List Int) : (car f).length = f.length := len_carS f 16
theorem carStep_getD (f : List Int) (i j : Nat) (hl : f.length = 16) (hi : i < 15) : (carStep f i).getD j 0 = if j = i then f.getD i 0 % 65536 else if j = i + 1 then f.getD (i + 1) 0 + f.getD i 0 / 65536 else f.getD j 0 := by
  unfold carStep
  rw [if_pos hi, getD_set _ _ _ _ (by simp; omega), getD_set _ _ _ _ (by omega)]
  by_cases h1 : i = j
  · subst h1; simp
  · rw [if_neg h1, if_neg (Ne.symm h1)]
    by_cases h2 : i + 1 = j
    · subst h2; simp
    · rw [if_neg h2, if_neg (Ne.symm h2)]
theorem carStep_last (f : List Int) (j : Nat) (hl : f.length = 16) : (carStep f 15).getD j 0 = if j = 15 then f.getD 15 0 % 65536 else if j = 0 then f.getD 0 0 + 38 * (f.getD 15 0 / 65536) else f.getD j 0 := by
  unfold carStep
  rw [if_neg (by omega), getD_set _ _ _ _ (by simp; omega), getD_set _ _ _ _ (by omega)]
  by_cases h1 : 15 = j
  · subst h1; simp
  · rw [if_neg h1, if_neg (Ne.symm h1)]
    by_cases h2 : 0 = j
    · subst h2; simp
    · rw [if_neg h2, if_neg (Ne.symm h2)]
theorem val_carStep (f : List Int) (i : Nat) (hl : f.length = 16) (hi : i < 15) : val (carStep f i) = val f := by
  unfold carStep
  rw [if_pos hi, val_set _ _ _ (by simp; omega), val_set _ _ _ (by omega), getD_set _ _ _ _ (by omega), if_neg (by omega), Int.pow_succ]
  have := Int.emod_add_mul_ediv (f.getD i 0) 65536
  grind
theorem val_carLast (f : List Int) (hl : f.length = 16) : Eqv (val (carStep f 15)) (val f) := by
  unfold carStep
  rw [if_neg (by omega), val_set _ _ _ (by simp; omega), val_set _ _ _ (by omega), getD_set _ _ _ _ (by omega), if_neg (by omega)]
  have h := Int.emod_add_mul_ediv (f.getD 15 0) 65536
  refine ⟨-2 * (f.getD 15 0 / 65536), ?_⟩
  have e : (65536 : Int) ^ 15 * 65536 = 2 * P + 38 := by decide
  have e2 : f.getD 15 0 % 65536 - f.getD 15 0 = - (65536 * (f.getD 15 0 / 65536)) := by omega
  rw [e2]
  generalize f.getD 15 0 / 65536 = q at *
  have e3 : (65536 : Int) ^ 15 * -(65536 * q) = - (q * (2 * P + 38)) := by rw [← e]; grind
  rw [e3]
  grind
theorem val_carS (f : List Int) (hl : f.length = 16) : ∀ i, i ≤ 15 → val (carS f i) = val f
  | 0, _ => rfl
  | i + 1, h => by rw [carS, val_carStep _ _ (by rw [len_carS, hl]) (by omega), val_carS f hl i (by omega)]
theorem val_car (f : List Int) (hl : f.length = 16) : Eqv (val (car f)) (val f) := by
  show Eqv (val (carStep (carS f 15) 15)) _
  have h := val_carLast (carS f 15) (by rw [len_carS, hl])
  rwa [val_carS f hl 15 (Nat.le_refl _)] at h
/-- What carry leaves: the first i entries are small, entry i is not great, the rest is as it was. -/
theorem carS_facts (f : List Int) (hl : f.length = 16) (B : Int) (hB : 0 ≤ B) (hf : ∀ j, -B ≤ f.getD j 0 ∧ f.getD j 0 ≤ B) : ∀ i, i ≤ 15 →
    (∀ j, j < i → 0 ≤ (carS f i).getD j 0 ∧ (carS f i).getD j 0 ≤ 65535) ∧ (-(2 * B + 2) ≤ (carS f i).getD i 0 ∧ (carS f i).getD i 0 ≤ 2 * B + 2) ∧ ∀ j, i < j → (carS f i).getD j 0 = f.getD j 0
  | 0, _ => ⟨fun j h => by omega, by have := hf 0; simp only [carS]; omega, fun _ _ => rfl⟩
  | i + 1, h => by
    obtain ⟨h1, h2, h3⟩ := carS_facts f hl B hB hf i (by omega)
    have hlen : (carS f i).length = 16 := by rw [len_carS, hl]
    refine ⟨fun j hj => ?_, ?_, fun j hj => ?_⟩
    · rw [carS, carStep_getD _ _ _ hlen (by omega)]
      by_cases hji : j = i
      · rw [if_pos hji]; omega
      · rw [if_neg hji, if_neg (by omega)]; exact h1 j (by omega)
    · rw [carS, carStep_getD _ _ _ hlen (by omega), if_neg (by omega), if_pos rfl, h3 (i + 1) (by omega)]
      have := hf (i + 1)
      omega
    · rw [carS, carStep_getD _ _ _ hlen (by omega), if_neg (by omega), if_neg (by omega)]
      exact h3 j (by omega)
theorem car_facts (f : List Int) (hl : f.length = 16) (B : Int) (hB : 0 ≤ B) (hf : ∀ j, -B ≤ f.getD j 0 ∧ f.getD j 0 ≤ B) :
    (∀ j, 1 ≤ j → j ≤ 15 → 0 ≤ (car f).getD j 0 ∧ (car f).getD j 0 ≤ 65535) ∧ 38 * (-(2 * B + 2) / 65536) ≤ (car f).getD 0 0 ∧ (car f).getD 0 0 ≤ 65535 + 38 * ((2 * B + 2) / 65536) := by
  obtain ⟨h1, h2, h3⟩ := carS_facts f hl B hB hf 15 (Nat.le_refl _)
  have hlen : (carS f 15).length = 16 := by rw [len_carS, hl]
  refine ⟨fun j hj hj2 => ?_, ?_⟩
  · show 0 ≤ (carStep (carS f 15) 15).getD j 0 ∧ (carStep (carS f 15) 15).getD j 0 ≤ 65535
    rw [carStep_last _ _ hlen]
    by_cases h15 : j = 15
    · rw [if_pos h15]; omega
    · rw [if_neg h15, if_neg (by omega)]; exact h1 j (by omega)
  · show _ ≤ (carStep (carS f 15) 15).getD 0 0 ∧ (carStep (carS f 15) 15).getD 0 0 ≤ _
    rw [carStep_last _ _ hlen, if_neg (by omega), if_pos rfl]
    have := h1 0 (by omega)
    omega
/-- Carried twice: as small as may be. -/
structure Sm (f : List Int) : Prop where
  len : f.length = 16
  first : -38 ≤ f.getD 0 0 ∧ f.getD 0 0 ≤ 65573
  rest : ∀ j, 1 ≤ j → 0 ≤ f.getD j 0 ∧ f.getD j 0 ≤ 65535
/-- Carried once. -/
structure Md (f : List Int) : Prop where
  len : f.length = 16
  first : -549755813888 ≤ f.getD 0 0 ∧ f.getD 0 0 ≤ 549755813888
  rest : ∀ j, 1 ≤ j → 0 ≤ f.getD j 0 ∧ f.getD j 0 ≤ 65535
theorem getD_out (f : List Int) (j : Nat) (h : f.length ≤ j) : f.getD j 0 = 0 := by
  rw [List.getD_eq_getElem?_getD, List.getElem?_eq_none h]; rfl
theorem md_car (f : List Int) (hl : f.length = 16) (hf : ∀ j, -281474976710656 ≤ f.getD j 0 ∧ f.getD j 0 ≤ 281474976710656) : Md (car f) := by
  obtain ⟨h1, h2, h3⟩ := car_facts f hl 281474976710656 (by decide) hf
  refine ⟨by rw [len_car, hl], ⟨?_, ?_⟩, fun j hj => ?_⟩
  · exact Int.le_trans (by decide) h2
  · exact Int.le_trans h3 (by decide)
  · by_cases h : j ≤ 15
    · exact h1 j hj h
    · rw [getD_out _ _ (by rw [len_car, hl]; omega)]; decide
/-- The carries of what was carried once are small from the fourth entry on. -/
theorem carS_md (f : List Int) (h : Md f) : ∀ i, i ≤ 15 →
    (∀ j, j < i → 0 ≤ (carS f i).getD j 0 ∧ (carS f i).getD j 0 ≤ 65535) ∧ (∀ j, i < j → (carS f i).getD j 0 = f.getD j 0) ∧
    (i = 0 → (carS f i).getD i 0 = f.getD 0 0) ∧ (i = 1 → -8388608 ≤ (carS f i).getD i 0 ∧ (carS f i).getD i 0 ≤ 8454143) ∧ (i = 2 → -129 ≤ (carS f i).getD i 0 ∧ (carS f i).getD i 0 ≤ 65664) ∧ (3 ≤ i → -1 ≤ (carS f i).getD i 0 ∧ (carS f i).getD i 0 ≤ 65536)
  | 0, _ => ⟨fun j h => by omega, fun _ _ => rfl, fun _ => rfl, fun h => by omega, fun h => by omega, fun h => by omega⟩
  | i + 1, hi => by
    obtain ⟨h1, h3, z0, z1, z2, z3⟩ := carS_md f h i (by omega)
    have hlen : (carS f i).length = 16 := by rw [len_carS, h.len]
    have hr := h.rest (i + 1) (by omega)
    have hfi := h.first
    have hn : (carS f (i + 1)).getD (i + 1) 0 = f.getD (i + 1) 0 + (carS f i).getD i 0 / 65536 := by
      rw [carS, carStep_getD _ _ _ hlen (by omega), if_neg (by omega), if_pos rfl, h3 (i + 1) (by omega)]
    refine ⟨fun j hj => ?_, fun j hj => ?_, fun h => by omega, fun h => ?_, fun h => ?_, fun h => ?_⟩
    · rw [carS, carStep_getD _ _ _ hlen (by omega)]
      by_cases hji : j = i
      · rw [if_pos hji]; omega
      · rw [if_neg hji, if_neg (by omega)]; exact h1 j (by omega)
    · rw [carS, carStep_getD _ _ _ hlen (by omega), if_neg (by omega), if_neg (by omega)]
      exact h3 j (by omega)
    · rw [hn]
      have := z0 (by omega)
      omega
    · rw [hn]
      have := z1 (by omega)
      omega
    · rw [hn]
      by_cases h2 : i = 2
      · have := z2 h2
        omega
      · have := z3 (by omega)
        omega
theorem sm_car (f : List Int) (h : Md f) : Sm (car f) := by
  obtain ⟨h1, h3, _, _, _, z3⟩ := carS_md f h 15 (Nat.le_refl _)
  have hlen : (carS f 15).length = 16 := by rw [len_carS, h.len]
  have hz := z3 (by omega)
  refine ⟨by rw [len_car, h.len], ?_, fun j hj => ?_⟩
  · show _ ≤ (carStep (carS f 15) 15).getD 0 0 ∧ (carStep (carS f 15) 15).getD 0 0 ≤ _
    rw [carStep_last _ _ hlen, if_neg (by omega), if_pos rfl]
    have := h1 0 (by omega)
    omega
  · by_cases hj16 : 16 ≤ j
    · rw [getD_out _ _ (by rw [len_car, h.len]; omega)]; decide
    · show 0 ≤ (carStep (carS f 15) 15).getD j 0 ∧ (carStep (carS f 15) 15).getD j 0 ≤ 65535
      rw [carStep_last _ _ hlen]
      by_cases h15 : j = 15
      · rw [if_pos h15]; omega
      · rw [if_neg h15, if_neg (by omega)]; exact h1 j (by omega)
/-- times: the sums of products, row by row. -/
def rowS (t : List Int) (i : Nat) (x : Int) (b : List Int) : Nat → List Int
  | 0 => t
  | k + 1 => (rowS t i x b k).set (i + k) ((rowS t i x b k).getD (i + k) 0 + x * b.getD k 0)
def accS (a b : List Int) : Nat → List Int
  | 0 => List.replicate 31 0
  | i + 1 => rowS (accS a b i) i (a.getD i 0) b 16
def fldS (t : List Int) : Nat → List Int
  | 0 => t
  | i + 1 => (fldS t i).set i ((fldS t i).getD i 0 + 38 * (fldS t i).getD (i + 16) 0)
def mulF (a b : List Int) : List Int := car (car ((fldS (accS a b 16) 15).take 16))
theorem len_rowS (t : List Int) (i : Nat) (x : Int) (b : List Int) : ∀ k, (rowS t i x b k).length = t.length
  | 0 => rfl
  | k + 1 => by rw [rowS, List.length_set, len_rowS t i x b k]
theorem len_accS (a b : List Int) : ∀ i, (accS a b i).length = 31
  | 0 => by simp [accS]
  | i + 1 => by rw [accS, len_rowS, len_accS a b i]
theorem len_fldS (t : List Int) : ∀ i, (fldS t i).length = t.length
  | 0 => rfl
  | i + 1 => by rw [fldS, List.length_set, len_fldS t i]
theorem val_rowS (t : List Int) (i : Nat) (x : Int) (b : List Int) (hb : b.length = 16) (ht : t.length = 31) (hi : i ≤ 15) : ∀ k, k ≤ 16 → val (rowS t i x b k) = val t + 65536 ^ i * (x * val (b.take k))
  | 0, _ => by simp [rowS, val]
  | k + 1, h => by
    rw [rowS, val_set _ _ _ (by rw [len_rowS, ht]; omega), val_rowS t i x b hb ht hi k (by omega), val_take_succ _ _ (by omega), Int.pow_add]
    grind
theorem val_accS (a b : List Int) (ha : a.length = 16) (hb : b.length = 16) : ∀ i, i ≤ 16 → val (accS a b i) = val (a.take i) * val b
  | 0, _ => by rw [accS, val_zero]; simp [val]
  | i + 1, h => by
    rw [accS, val_rowS _ _ _ _ hb (len_accS a b i) (by omega) 16 (Nat.le_refl _), val_accS a b ha hb i (by omega), val_take_succ a i (by omega), List.take_of_length_le (l := b) (by omega)]
    grind
theorem fldS_ge (t : List Int) (ht : t.length = 31) : ∀ i, i ≤ 15 → ∀ j, i ≤ j → (fldS t i).getD j 0 = t.getD j 0
  | 0, _, _, _ => rfl
  | i + 1, h, j, hj => by
    rw [fldS, getD_set _ _ _ _ (by rw [len_fldS, ht]; omega), if_neg (by omega)]
    exact fldS_ge t ht i (by omega) j (by omega)
theorem fldS_lt (t : List Int) (ht : t.length = 31) : ∀ i, i ≤ 15 → ∀ j, j < i → (fldS t i).getD j 0 = t.getD j 0 + 38 * t.getD (j + 16) 0
  | 0, _, _, hj => by omega
  | i + 1, h, j, hj => by
    rw [fldS, getD_set _ _ _ _ (by rw [len_fldS, ht]; omega)]
    by_cases hij : i = j
    · subst hij
      rw [if_pos rfl, fldS_ge t ht i (by omega) i (Nat.le_refl _), fldS_ge t ht i (by omega) (i + 16) (by omega)]
    · rw [if_neg hij]; exact fldS_lt t ht i (by omega) j (by omega)
theorem take_set (l : List Int) (i n : Nat) (y : Int) : (l.set i y).take n = (l.take n).set i y := by
  rw [List.take_set]
theorem getD_take (l : List Int) (n j : Nat) (h : j < n) : (l.take n).getD j 0 = l.getD j 0 := by
  simp only [List.getD_eq_getElem?_getD]
  rw [List.getElem?_take_of_lt h]
theorem val_fldS (t : List Int) (ht : t.length = 31) : ∀ i, i ≤ 15 → val ((fldS t i).take 16) + 38 * (65536 ^ i * val (t.drop (16 + i))) = val (t.take 16) + 38 * val (t.drop 16)
  | 0, _ => by simp [fldS]
  | i + 1, h => by
    have h1 := val_fldS t ht i (by omega)
    rw [fldS, take_set _ _ _ _, val_set _ _ _ (by rw [List.length_take, len_fldS, ht]; omega), getD_take _ _ _ (by omega), fldS_ge t ht i (by omega) (i + 16) (by omega)]
    rw [val_drop t (16 + i) (by omega)] at h1
    rw [← h1, Int.pow_succ, show 16 + (i + 1) = 16 + i + 1 from rfl, show i + 16 = 16 + i from by omega]
    grind
theorem val_fold (t : List Int) (ht : t.length = 31) : Eqv (val ((fldS t 15).take 16)) (val t) := by
  have h := val_fldS t ht 15 (Nat.le_refl _)
  rw [show 16 + 15 = 31 from rfl, List.drop_eq_nil_of_le (by omega)] at h
  have h2 := val_split t 16 (by omega)
  have e : (65536 : Int) ^ 16 = 2 * P + 38 := by decide
  rw [e] at h2
  rw [h2]
  refine ⟨-2 * val (t.drop 16), ?_⟩
  simp only [val] at h
  grind
theorem val_mul (a b : List Int) (ha : a.length = 16) (hb : b.length = 16) : Eqv (val (mulF a b)) (val a * val b) := by
  have hl : ((fldS (accS a b 16) 15).take 16).length = 16 := by rw [List.length_take, len_fldS, len_accS]; rfl
  have h := (val_car (car ((fldS (accS a b 16) 15).take 16)) (by rw [len_car, hl])).trans ((val_car _ hl).trans (val_fold _ (len_accS a b 16)))
  rwa [val_accS a b ha hb 16 (Nat.le_refl _), List.take_of_length_le (l := a) (by omega)] at h
/-- The sums of products are far from the ends of 64 bits. -/
def Bd (B : Int) (l : List Int) : Prop := ∀ j, -B ≤ l.getD j 0 ∧ l.getD j 0 ≤ B
theorem prod_le {x y B : Int} (hB : 0 ≤ B) (hx : -B ≤ x ∧ x ≤ B) (hy : -B ≤ y ∧ y ≤ B) : -(B * B) ≤ x * y ∧ x * y ≤ B * B := by
  obtain ⟨b, rfl⟩ := Int.eq_ofNat_of_zero_le hB
  have h1 : x.natAbs ≤ b := by omega
  have h2 : y.natAbs ≤ b := by omega
  have h3 := Nat.mul_le_mul h1 h2
  rw [← Int.natAbs_mul] at h3
  have h4 : ((b * b : Nat) : Int) = (b : Int) * b := by simp
  omega
theorem bd_rowS (t : List Int) (i : Nat) (x : Int) (b : List Int) (K M : Int) (hM : 0 ≤ M) (ht : t.length = 31) (hi : i ≤ 15) (hK : Bd K t) (hx : ∀ j, -M ≤ x * b.getD j 0 ∧ x * b.getD j 0 ≤ M) : ∀ k : Nat, k ≤ 16 → Bd (K + k * M) (rowS t i x b k)
  | 0, _ => fun j => by have := hK j; simp only [rowS]; omega
  | k + 1, h => fun j => by
    have h1 := bd_rowS t i x b K M hM ht hi hK hx k (by omega)
    rw [rowS, getD_set _ _ _ _ (by rw [len_rowS, ht]; omega)]
    have h2 := h1 j
    have h3 := h1 (i + k)
    have h4 := hx k
    have e : K + ((k + 1 : Nat) : Int) * M = K + (k : Int) * M + M := by rw [Int.natCast_add, Int.add_mul]; omega
    rw [e]
    generalize K + (k : Int) * M = Z at *
    split <;> omega
theorem bd_accS (a b : List Int) (M : Int) (hM : 0 ≤ M) (hx : ∀ i j, -M ≤ a.getD i 0 * b.getD j 0 ∧ a.getD i 0 * b.getD j 0 ≤ M) : ∀ i : Nat, i ≤ 16 → Bd (i * (16 * M)) (accS a b i)
  | 0, _ => fun j => by
    have : (accS a b 0).getD j 0 = 0 := by rw [accS, List.getD_eq_getElem?_getD, List.getElem?_replicate]; split <;> rfl
    rw [this]; simp
  | i + 1, h => by
    have h1 := bd_rowS (accS a b i) i (a.getD i 0) b (i * (16 * M)) M hM (len_accS a b i) (by omega) (bd_accS a b M hM hx i (by omega)) (hx i) 16 (Nat.le_refl _)
    intro j
    have h2 := h1 j
    rw [accS]
    have e : ((i + 1 : Nat) : Int) * (16 * M) = (i : Int) * (16 * M) + ((16 : Nat) : Int) * M := by rw [Int.natCast_add, Int.add_mul]; omega
    rw [e]; exact h2
theorem mulF_facts (a b : List Int) (ha : a.length = 16) (hb : b.length = 16) (h1 : Bd 131200 a) (h2 : Bd 131200 b) :
    (∀ i j, -17213440000 ≤ a.getD i 0 * b.getD j 0 ∧ a.getD i 0 * b.getD j 0 ≤ 17213440000) ∧ (∀ i k : Nat, i ≤ 15 → k ≤ 16 → Bd 4406640640000 (rowS (accS a b i) i (a.getD i 0) b k)) ∧ Bd 4406640640000 (accS a b 16) ∧
    (∀ i, i ≤ 15 → Bd 171858984960000 (fldS (accS a b 16) i)) ∧ Md (car ((fldS (accS a b 16) 15).take 16)) ∧ Sm (mulF a b) := by
  have hM : ∀ i j, -17213440000 ≤ a.getD i 0 * b.getD j 0 ∧ a.getD i 0 * b.getD j 0 ≤ 17213440000 := fun i j => prod_le (B := 131200) (by decide) (h1 i) (h2 j)
  have hA : ∀ i : Nat, i ≤ 16 → Bd (i * (16 * 17213440000)) (accS a b i) := bd_accS a b 17213440000 (by decide) hM
  have hA16 : Bd 4406640640000 (accS a b 16) := fun j => by have := hA 16 (Nat.le_refl _) j; simp only [Int.reduceMul, Int.cast_ofNat_Int] at this; exact this
  have hF : ∀ i, i ≤ 15 → Bd 171858984960000 (fldS (accS a b 16) i) := fun i hi j => by
    by_cases hj : j < i
    · rw [fldS_lt _ (len_accS a b 16) i hi j hj]
      have := hA16 j
      have := hA16 (j + 16)
      omega
    · rw [fldS_ge _ (len_accS a b 16) i hi j (by omega)]
      have := hA16 j
      omega
  have hl : ((fldS (accS a b 16) 15).take 16).length = 16 := by rw [List.length_take, len_fldS, len_accS]; rfl
  have hmd : Md (car ((fldS (accS a b 16) 15).take 16)) := md_car _ hl (fun j => by
    by_cases hj : j < 16
    · rw [getD_take _ _ _ hj]
      have := hF 15 (Nat.le_refl _) j
      omega
    · rw [getD_out _ _ (by rw [hl]; omega)]; decide)
  refine ⟨hM, fun i k hi hk j => ?_, hA16, hF, hmd, sm_car _ hmd⟩
  have h3 := bd_rowS (accS a b i) i (a.getD i 0) b (i * (16 * 17213440000)) 17213440000 (by decide) (len_accS a b i) hi (hA i (by omega)) (hM i) k hk j
  have e1 : (i : Int) * (16 * 17213440000) ≤ 15 * (16 * 17213440000) := Int.mul_le_mul_of_nonneg_right (by omega) (by decide)
  have e2 : (k : Int) * 17213440000 ≤ 16 * 17213440000 := Int.mul_le_mul_of_nonneg_right (by omega) (by decide)
  omega
theorem bd_sm {f : List Int} (h : Sm f) : Bd 65573 f := fun j => by
  by_cases hj : j = 0
  · subst hj; have := h.first; omega
  · have := h.rest j (by omega); omega
theorem zip_getD (f : Int → Int → Int) (h0 : f 0 0 = 0) : ∀ (a b : List Int) (j : Nat), a.length = b.length → (List.zipWith f a b).getD j 0 = f (a.getD j 0) (b.getD j 0)
  | [], [], j, _ => by simp [h0]
  | [], _ :: _, _, h => by simp at h
  | _ :: _, [], _, h => by simp at h
  | x :: a, y :: b, 0, h => by simp
  | x :: a, y :: b, j + 1, h => by
    have := zip_getD f h0 a b j (by simpa using h)
    simpa using this
theorem plus_getD (a b : List Int) (j : Nat) (h : a.length = b.length) : (plusF a b).getD j 0 = a.getD j 0 + b.getD j 0 := zip_getD _ rfl a b j h
theorem minus_getD (a b : List Int) (j : Nat) (h : a.length = b.length) : (minusF a b).getD j 0 = a.getD j 0 - b.getD j 0 := zip_getD _ rfl a b j h
theorem len_plus (a b : List Int) (h : a.length = b.length) : (plusF a b).length = a.length := by simp [plusF, h]
theorem len_minus (a b : List Int) (h : a.length = b.length) : (minusF a b).length = a.length := by simp [minusF, h]
theorem bd_plus {a b : List Int} (h : a.length = b.length) (h1 : Bd 65573 a) (h2 : Bd 65573 b) : Bd 131200 (plusF a b) := fun j => by
  rw [plus_getD _ _ _ h]; have := h1 j; have := h2 j; omega
theorem bd_minus {a b : List Int} (h : a.length = b.length) (h1 : Bd 65573 a) (h2 : Bd 65573 b) : Bd 131200 (minusF a b) := fun j => by
  rw [minus_getD _ _ _ h]; have := h1 j; have := h2 j; omega
theorem Bd.wide {a : List Int} (h : Bd 65573 a) : Bd 131200 a := fun j => by have := h j; omega
/-- inverse. -/
def invS (a : List Int) : Nat → List Int
  | 0 => a
  | n + 1 => if n = 251 ∨ n = 249 then mulF (invS a n) (invS a n) else mulF (mulF (invS a n) (invS a n)) a
def invZ (a : Int) : Nat → Int
  | 0 => a
  | n + 1 => if n = 251 ∨ n = 249 then invZ a n * invZ a n % P else invZ a n * invZ a n % P * a % P
theorem sm_mul {a b : List Int} (ha : a.length = 16) (hb : b.length = 16) (h1 : Bd 131200 a) (h2 : Bd 131200 b) : Sm (mulF a b) := (mulF_facts a b ha hb h1 h2).2.2.2.2.2
theorem sm_inv {a : List Int} (h : Sm a) : ∀ n, Sm (invS a n)
  | 0 => h
  | n + 1 => by
    have h1 := sm_inv h n
    have h2 := sm_mul h1.len h1.len (bd_sm h1).wide (bd_sm h1).wide
    rw [invS]
    split
    · exact h2
    · exact sm_mul h2.len h.len (bd_sm h2).wide (bd_sm h).wide
theorem eqv_inv {a : List Int} (h : Sm a) {z : Int} (hz : Eqv (val a) z) : ∀ n, Eqv (val (invS a n)) (invZ z n)
  | 0 => hz
  | n + 1 => by
    have h1 := sm_inv h n
    have h2 := sm_mul h1.len h1.len (bd_sm h1).wide (bd_sm h1).wide
    have e1 := eqv_inv h hz n
    have e2 := (val_mul _ _ h1.len h1.len).trans ((e1.mul e1).trans (eqv_mod _).symm)
    rw [invS, invZ]
    split
    · exact e2
    · exact (val_mul _ _ h2.len h.len).trans ((e2.mul hz).trans (eqv_mod _).symm)
/-- One round of the ladder. -/
abbrev St := List Int × List Int × List Int × List Int
abbrev Sz := Int × Int × Int × Int
def kF : List Int := [56129, 1, 0, 0, 0, 0, 0, 0, 0, 0, 0, 0, 0, 0, 0, 0]
def swL (so : Int) (s : St) : St := if so = 1 then (s.2.1, s.1, s.2.2.2, s.2.2.1) else s
def swZ (so : Int) (s : Sz) : Sz := if so = 1 then (s.2.1, s.1, s.2.2.2, s.2.2.1) else s
def midL (x : List Int) (s : St) : St :=
  let a := s.1; let b := s.2.1; let c := s.2.2.1; let d := s.2.2.2
  let e := plusF a c
  let a1 := minusF a c
  let c1 := plusF b d
  let b1 := minusF b d
  let d1 := mulF e e
  let f := mulF a1 a1
  let a2 := mulF c1 a1
  let c2 := mulF b1 e
  let e2 := plusF a2 c2
  let a3 := minusF a2 c2
  let b2 := mulF a3 a3
  let c3 := minusF d1 f
  let a4 := plusF (mulF c3 kF) d1
  (mulF d1 f, mulF e2 e2, mulF c3 a4, mulF b2 x)
def midZ (x : Int) (s : Sz) : Sz :=
  let a := s.1; let b := s.2.1; let c := s.2.2.1; let d := s.2.2.2
  let e := a + c
  let a1 := a - c
  let c1 := b + d
  let b1 := b - d
  let d1 := e * e % P
  let f := a1 * a1 % P
  let a2 := c1 * a1 % P
  let c2 := b1 * e % P
  let e2 := a2 + c2
  let a3 := a2 - c2
  let b2 := a3 * a3 % P
  let c3 := d1 - f
  let a4 := c3 * 121665 + d1
  (d1 * f % P, e2 * e2 % P, c3 * a4 % P, b2 * x % P)
def rndL (x : List Int) (so : Int) (s : St) : St := swL so (midL x (swL so s))
def rndZ (x : Int) (so : Int) (s : Sz) : Sz := swZ so (midZ x (swZ so s))
structure Sms (s : St) : Prop where
  a : Sm s.1
  b : Sm s.2.1
  c : Sm s.2.2.1
  d : Sm s.2.2.2
structure Eqs (s : St) (z : Sz) : Prop where
  a : Eqv (val s.1) z.1
  b : Eqv (val s.2.1) z.2.1
  c : Eqv (val s.2.2.1) z.2.2.1
  d : Eqv (val s.2.2.2) z.2.2.2
theorem Sms.of {a b c d : List Int} (ha : Sm a) (hb : Sm b) (hc : Sm c) (hd : Sm d) : Sms (a, b, c, d) := ⟨ha, hb, hc, hd⟩
theorem Eqs.of {a b c d : List Int} {x y z t : Int} (ha : Eqv (val a) x) (hb : Eqv (val b) y) (hc : Eqv (val c) z) (hd : Eqv (val d) t) : Eqs (a, b, c, d) (x, y, z, t) := ⟨ha, hb, hc, hd⟩
theorem sms_sw {s : St} (so : Int) (h : Sms s) : Sms (swL so s) := by
  unfold swL
  split
  · exact ⟨h.b, h.a, h.d, h.c⟩
  · exact h
theorem eqs_sw {s : St} {z : Sz} (so : Int) (h : Eqs s z) : Eqs (swL so s) (swZ so z) := by
  unfold swL swZ
  split
  · exact ⟨h.b, h.a, h.d, h.c⟩
  · exact h
theorem sm_k : Sm kF := ⟨rfl, by decide, fun j hj => by
  by_cases h : j ≤ 15
  · have : j = 1 ∨ j = 2 ∨ j = 3 ∨ j = 4 ∨ j = 5 ∨ j = 6 ∨ j = 7 ∨ j = 8 ∨ j = 9 ∨ j = 10 ∨ j = 11 ∨ j = 12 ∨ j = 13 ∨ j = 14 ∨ j = 15 := by omega
    rcases this with rfl | rfl | rfl | rfl | rfl | rfl | rfl | rfl | rfl | rfl | rfl | rfl | rfl | rfl | rfl <;> decide
  · rw [getD_out _ _ (by simp [kF]; omega)]; decide⟩
theorem val_k : val kF = 121665 := by decide
theorem midL_def (x a b c d : List Int) : midL x (a, b, c, d) =
    (mulF (mulF (plusF a c) (plusF a c)) (mulF (minusF a c) (minusF a c)),
     mulF (plusF (mulF (plusF b d) (minusF a c)) (mulF (minusF b d) (plusF a c))) (plusF (mulF (plusF b d) (minusF a c)) (mulF (minusF b d) (plusF a c))),
     mulF (minusF (mulF (plusF a c) (plusF a c)) (mulF (minusF a c) (minusF a c))) (plusF (mulF (minusF (mulF (plusF a c) (plusF a c)) (mulF (minusF a c) (minusF a c))) kF) (mulF (plusF a c) (plusF a c))),
     mulF (mulF (minusF (mulF (plusF b d) (minusF a c)) (mulF (minusF b d) (plusF a c))) (minusF (mulF (plusF b d) (minusF a c)) (mulF (minusF b d) (plusF a c)))) x) := rfl
theorem midZ_def (x a b c d : Int) : midZ x (a, b, c, d) =
    ((a + c) * (a + c) % P * ((a - c) * (a - c) % P) % P,
     ((b + d) * (a - c) % P + (b - d) * (a + c) % P) * ((b + d) * (a - c) % P + (b - d) * (a + c) % P) % P,
     ((a + c) * (a + c) % P - (a - c) * (a - c) % P) * (((a + c) * (a + c) % P - (a - c) * (a - c) % P) * 121665 + (a + c) * (a + c) % P) % P,
     ((b + d) * (a - c) % P - (b - d) * (a + c) % P) * ((b + d) * (a - c) % P - (b - d) * (a + c) % P) % P * x % P) := rfl
/-- What one round makes, with all that its products ask for. -/
theorem mid_facts (x : List Int) (hx : Sm x) (s : St) (h : Sms s) : Sms (midL x s) := by
  obtain ⟨a, b, c, d⟩ := s
  obtain ⟨ha, hb, hc, hd⟩ := h
  have l1 : a.length = c.length := by rw [ha.len, hc.len]
  have l2 : b.length = d.length := by rw [hb.len, hd.len]
  have e1 := bd_plus l1 (bd_sm ha) (bd_sm hc)
  have a1 := bd_minus l1 (bd_sm ha) (bd_sm hc)
  have c1 := bd_plus l2 (bd_sm hb) (bd_sm hd)
  have b1 := bd_minus l2 (bd_sm hb) (bd_sm hd)
  have le1 := (len_plus a c l1).trans ha.len
  have la1 := (len_minus a c l1).trans ha.len
  have lc1 := (len_plus b d l2).trans hb.len
  have lb1 := (len_minus b d l2).trans hb.len
  have d1 := sm_mul le1 le1 e1 e1
  have f := sm_mul la1 la1 a1 a1
  have a2 := sm_mul lc1 la1 c1 a1
  have c2 := sm_mul lb1 le1 b1 e1
  have l3 : (mulF (plusF b d) (minusF a c)).length = (mulF (minusF b d) (plusF a c)).length := by rw [a2.len, c2.len]
  have e2 := bd_plus l3 (bd_sm a2) (bd_sm c2)
  have a3 := bd_minus l3 (bd_sm a2) (bd_sm c2)
  have le2 := (len_plus _ _ l3).trans a2.len
  have la3 := (len_minus _ _ l3).trans a2.len
  have b2 := sm_mul la3 la3 a3 a3
  have l4 : (mulF (plusF a c) (plusF a c)).length = (mulF (minusF a c) (minusF a c)).length := by rw [d1.len, f.len]
  have c3 := bd_minus l4 (bd_sm d1) (bd_sm f)
  have lc3 := (len_minus _ _ l4).trans d1.len
  have k3 := sm_mul lc3 sm_k.len c3 (bd_sm sm_k).wide
  have l5 : (mulF (minusF (mulF (plusF a c) (plusF a c)) (mulF (minusF a c) (minusF a c))) kF).length = (mulF (plusF a c) (plusF a c)).length := by rw [k3.len, d1.len]
  have a4 := bd_plus l5 (bd_sm k3) (bd_sm d1)
  have la4 := (len_plus _ _ l5).trans k3.len
  rw [midL_def]
  exact Sms.of (sm_mul d1.len f.len (bd_sm d1).wide (bd_sm f).wide) (sm_mul le2 le2 e2 e2) (sm_mul lc3 la4 c3 a4) (sm_mul b2.len hx.len (bd_sm b2).wide (bd_sm hx).wide)
theorem mid_eqv (x : List Int) (hx : Sm x) {y : Int} (hy : Eqv (val x) y) (s : St) (h : Sms s) {z : Sz} (hz : Eqs s z) : Eqs (midL x s) (midZ y z) := by
  obtain ⟨a, b, c, d⟩ := s
  obtain ⟨za, zb, zc, zd⟩ := z
  obtain ⟨ha, hb, hc, hd⟩ := h
  obtain ⟨va, vb, vc, vd⟩ := hz
  simp only at va vb vc vd ha hb hc hd
  have l1 : a.length = c.length := by rw [ha.len, hc.len]
  have l2 : b.length = d.length := by rw [hb.len, hd.len]
  have le1 := (len_plus a c l1).trans ha.len
  have la1 := (len_minus a c l1).trans ha.len
  have lc1 := (len_plus b d l2).trans hb.len
  have lb1 := (len_minus b d l2).trans hb.len
  have e1 := bd_plus l1 (bd_sm ha) (bd_sm hc)
  have a1 := bd_minus l1 (bd_sm ha) (bd_sm hc)
  have c1 := bd_plus l2 (bd_sm hb) (bd_sm hd)
  have b1 := bd_minus l2 (bd_sm hb) (bd_sm hd)
  have d1 := sm_mul le1 le1 e1 e1
  have f := sm_mul la1 la1 a1 a1
  have a2 := sm_mul lc1 la1 c1 a1
  have c2 := sm_mul lb1 le1 b1 e1
  have l3 : (mulF (plusF b d) (minusF a c)).length = (mulF (minusF b d) (plusF a c)).length := by rw [a2.len, c2.len]
  have e2 := bd_plus l3 (bd_sm a2) (bd_sm c2)
  have a3 := bd_minus l3 (bd_sm a2) (bd_sm c2)
  have le2 := (len_plus _ _ l3).trans a2.len
  have la3 := (len_minus _ _ l3).trans a2.len
  have b2 := sm_mul la3 la3 a3 a3
  have l4 : (mulF (plusF a c) (plusF a c)).length = (mulF (minusF a c) (minusF a c)).length := by rw [d1.len, f.len]
  have c3 := bd_minus l4 (bd_sm d1) (bd_sm f)
  have lc3 := (len_minus _ _ l4).trans d1.len
  have k3 := sm_mul lc3 sm_k.len c3 (bd_sm sm_k).wide
  have l5 : (mulF (minusF (mulF (plusF a c) (plusF a c)) (mulF (minusF a c) (minusF a c))) kF).length = (mulF (plusF a c) (plusF a c)).length := by rw [k3.len, d1.len]
  have la4 := (len_plus _ _ l5).trans k3.len
  have ve : Eqv (val (plusF a c)) (za + zc) := (Eqv.of_eq (val_plus a c l1)).trans (va.add vc)
  have va1 : Eqv (val (minusF a c)) (za - zc) := (Eqv.of_eq (val_minus a c l1)).trans (va.sub vc)
  have vc1 : Eqv (val (plusF b d)) (zb + zd) := (Eqv.of_eq (val_plus b d l2)).trans (vb.add vd)
  have vb1 : Eqv (val (minusF b d)) (zb - zd) := (Eqv.of_eq (val_minus b d l2)).trans (vb.sub vd)
  have mm : ∀ {p q : List Int} {u v : Int}, p.length = 16 → q.length = 16 → Eqv (val p) u → Eqv (val q) v → Eqv (val (mulF p q)) (u * v % P) := fun hp hq h1 h2 => (val_mul _ _ hp hq).trans ((h1.mul h2).trans (eqv_mod _).symm)
  have vd1 := mm le1 le1 ve ve
  have vf := mm la1 la1 va1 va1
  have va2 := mm lc1 la1 vc1 va1
  have vc2 := mm lb1 le1 vb1 ve
  have ve2 := (Eqv.of_eq (val_plus _ _ l3)).trans (va2.add vc2)
  have va3 := (Eqv.of_eq (val_minus _ _ l3)).trans (va2.sub vc2)
  have vb2 := mm la3 la3 va3 va3
  have vc3 := (Eqv.of_eq (val_minus _ _ l4)).trans (vd1.sub vf)
  have vk3 : Eqv (val (mulF (minusF (mulF (plusF a c) (plusF a c)) (mulF (minusF a c) (minusF a c))) kF)) _ := (val_mul _ _ lc3 sm_k.len).trans (vc3.mul (Eqv.of_eq val_k))
  have va4 := (Eqv.of_eq (val_plus _ _ l5)).trans (vk3.add vd1)
  rw [midL_def, midZ_def]
  exact Eqs.of (mm d1.len f.len vd1 vf) (mm le2 le2 ve2 ve2) (mm lc3 la4 vc3 va4) (mm b2.len hx.len vb2 hy)
/-- The bit of a scalar that lies in bytes. -/
def bitZ (z : List Int) (i : Nat) : Int := z.getD (i / 8) 0 / 2 ^ (i % 8) % 2
def clampF (s : List Int) : List Int := (s.set 31 (s.getD 31 0 % 64 + 64)).set 0 (s.getD 0 0 - s.getD 0 0 % 8)
def oneF : List Int := [1, 0, 0, 0, 0, 0, 0, 0, 0, 0, 0, 0, 0, 0, 0, 0]
def zeroF : List Int := [0, 0, 0, 0, 0, 0, 0, 0, 0, 0, 0, 0, 0, 0, 0, 0]
def ladL (x z : List Int) : Nat → St
  | 0 => (oneF, x, zeroF, oneF)
  | n + 1 => rndL x (bitZ z (254 - n)) (ladL x z n)
def ladZ (x : Int) (z : List Int) : Nat → Sz
  | 0 => (1, x, 0, 1)
  | n + 1 => rndZ x (bitZ z (254 - n)) (ladZ x z n)
theorem sm_small (l : List Int) (hl : l.length = 16) (h : ∀ x ∈ l, 0 ≤ x ∧ x ≤ 65535) : Sm l := by
  have hg : ∀ j, 0 ≤ l.getD j 0 ∧ l.getD j 0 ≤ 65535 := fun j => by
    rw [List.getD_eq_getElem?_getD]
    rcases hj : l[j]? with _ | y
    · simp
    · simpa using h y (List.mem_of_getElem? hj)
  exact ⟨hl, by have := hg 0; omega, fun j _ => hg j⟩
theorem sms_lad (x z : List Int) (hx : Sm x) : ∀ n, Sms (ladL x z n)
  | 0 => ⟨sm_small oneF rfl (by decide), hx, sm_small zeroF rfl (by decide), sm_small oneF rfl (by decide)⟩
  | n + 1 => sms_sw _ (mid_facts x hx _ (sms_sw _ (sms_lad x z hx n)))
theorem eqs_lad (x z : List Int) (hx : Sm x) {y : Int} (hy : Eqv (val x) y) : ∀ n, Eqs (ladL x z n) (ladZ y z n)
  | 0 => ⟨Eqv.of_eq (show val oneF = 1 by decide), hy, Eqv.of_eq (show val zeroF = 0 by decide), Eqv.of_eq (show val oneF = 1 by decide)⟩
  | n + 1 => eqs_sw _ (mid_eqv x hx hy _ (sms_sw _ (sms_lad x z hx n)) (eqs_sw _ (eqs_lad x z hx hy n)))
/-- A number less P, entry by entry; a borrow is left in the entry above. -/
def pF : List Int := [65517, 65535, 65535, 65535, 65535, 65535, 65535, 65535, 65535, 65535, 65535, 65535, 65535, 65535, 65535, 32767]
def lesS (f : List Int) : Nat → List Int
  | 0 => zeroF.set 0 (f.getD 0 0 - 65517)
  | n + 1 => ((lesS f n).set (n + 1) (f.getD (n + 1) 0 - pF.getD (n + 1) 0 - (lesS f n).getD n 0 / 65536 % 2)).set n ((lesS f n).getD n 0 % 65536)
def lesB (f : List Int) : Int := (lesS f 15).getD 15 0 / 65536 % 2
def lesM (f : List Int) : List Int := (lesS f 15).set 15 ((lesS f 15).getD 15 0 % 65536)
def redF (f : List Int) : List Int := if lesB f = 1 then f else lesM f
/-- All entries have sixteen bits. -/
structure Dg (f : List Int) : Prop where
  len : f.length = 16
  all : ∀ j, 0 ≤ f.getD j 0 ∧ f.getD j 0 ≤ 65535
theorem len_lesS (f : List Int) : ∀ n, (lesS f n).length = 16
  | 0 => by simp [lesS, zeroF]
  | n + 1 => by rw [lesS, List.length_set, List.length_set, len_lesS f n]
theorem lesS_getD (f : List Int) (n j : Nat) (h : n + 1 ≤ 15) : (lesS f (n + 1)).getD j 0 = if j = n then (lesS f n).getD n 0 % 65536 else if j = n + 1 then f.getD (n + 1) 0 - pF.getD (n + 1) 0 - (lesS f n).getD n 0 / 65536 % 2 else (lesS f n).getD j 0 := by
  rw [lesS, getD_set _ _ _ _ (by rw [List.length_set, len_lesS]; omega), getD_set _ _ _ _ (by rw [len_lesS]; omega)]
  by_cases h1 : n = j
  · subst h1; simp
  · rw [if_neg h1, if_neg (Ne.symm h1)]
    by_cases h2 : n + 1 = j
    · subst h2; simp
    · rw [if_neg h2, if_neg (Ne.symm h2)]
theorem pF_getD (n : Nat) (h1 : 1 ≤ n) (h2 : n ≤ 15) : 32767 ≤ pF.getD n 0 ∧ pF.getD n 0 ≤ 65535 := by
  have : n = 1 ∨ n = 2 ∨ n = 3 ∨ n = 4 ∨ n = 5 ∨ n = 6 ∨ n = 7 ∨ n = 8 ∨ n = 9 ∨ n = 10 ∨ n = 11 ∨ n = 12 ∨ n = 13 ∨ n = 14 ∨ n = 15 := by omega
  rcases this with rfl | rfl | rfl | rfl | rfl | rfl | rfl | rfl | rfl | rfl | rfl | rfl | rfl | rfl | rfl <;> decide
theorem lesS_facts (f : List Int) (hf : Dg f) : ∀ n, n ≤ 15 → (∀ j, j < n → 0 ≤ (lesS f n).getD j 0 ∧ (lesS f n).getD j 0 ≤ 65535) ∧ (-65536 ≤ (lesS f n).getD n 0 ∧ (lesS f n).getD n 0 ≤ 65535) ∧ (∀ j, n < j → (lesS f n).getD j 0 = 0) ∧
    val (lesS f n) = val (f.take (n + 1)) - val (pF.take (n + 1))
  | 0, _ => by
    have h0 : ∀ j, (lesS f 0).getD j 0 = if 0 = j then f.getD 0 0 - 65517 else zeroF.getD j 0 := fun j => getD_set _ _ _ _ (by decide)
    refine ⟨fun j h => by omega, ?_, fun j hj => ?_, ?_⟩
    · rw [h0, if_pos rfl]; have := hf.all 0; omega
    · rw [h0, if_neg (by omega)]
      by_cases h : j ≤ 15
      · have : j = 1 ∨ j = 2 ∨ j = 3 ∨ j = 4 ∨ j = 5 ∨ j = 6 ∨ j = 7 ∨ j = 8 ∨ j = 9 ∨ j = 10 ∨ j = 11 ∨ j = 12 ∨ j = 13 ∨ j = 14 ∨ j = 15 := by omega
        rcases this with rfl | rfl | rfl | rfl | rfl | rfl | rfl | rfl | rfl | rfl | rfl | rfl | rfl | rfl | rfl <;> rfl
      · exact getD_out _ _ (by simp [zeroF]; omega)
    · rw [lesS, val_set _ _ _ (by decide), val_take_succ _ _ (by rw [hf.len]; omega), val_take_succ _ _ (by decide)]
      rw [show val zeroF = 0 by decide, show zeroF.getD 0 0 = 0 from rfl, show pF.getD 0 0 = 65517 from rfl]
      simp only [List.take_zero, val]
      omega
  | n + 1, h => by
    obtain ⟨h1, h2, h3, h4⟩ := lesS_facts f hf n (by omega)
    have hp := pF_getD (n + 1) (by omega) h
    have hd := hf.all (n + 1)
    refine ⟨fun j hj => ?_, ?_, fun j hj => ?_, ?_⟩
    · rw [lesS_getD _ _ _ h]
      by_cases hjn : j = n
      · rw [if_pos hjn]; omega
      · rw [if_neg hjn, if_neg (by omega)]; exact h1 j (by omega)
    · rw [lesS_getD _ _ _ h, if_neg (by omega), if_pos rfl]
      omega
    · rw [lesS_getD _ _ _ h, if_neg (by omega), if_neg (by omega)]
      exact h3 j (by omega)
    · rw [lesS, val_set _ _ _ (by rw [List.length_set, len_lesS]; omega), val_set _ _ _ (by rw [len_lesS]; omega), getD_set _ _ _ _ (by rw [len_lesS]; omega), if_neg (by omega), h3 (n + 1) (by omega), h4,
        val_take_succ f (n + 1) (by rw [hf.len]; omega), val_take_succ pF (n + 1) (by show n + 1 < 16; omega), Int.pow_succ]
      have e : (lesS f n).getD n 0 % 65536 = (lesS f n).getD n 0 + 65536 * ((lesS f n).getD n 0 / 65536 % 2) := by omega
      rw [e]
      generalize (lesS f n).getD n 0 / 65536 % 2 = b
      grind
theorem val_bounds : ∀ (l : List Int), (∀ j, 0 ≤ l.getD j 0 ∧ l.getD j 0 ≤ 65535) → 0 ≤ val l ∧ val l < 65536 ^ l.length
  | [], _ => by simp [val]
  | x :: r, h => by
    have h0 := h 0
    have h1 := val_bounds r (fun j => by simpa using h (j + 1))
    simp only [List.getD_cons_zero] at h0
    simp only [val, List.length_cons, Int.pow_succ]
    omega
theorem les_facts (f : List Int) (hf : Dg f) : Dg (redF f) ∧ val (redF f) = if val f < P then val f else val f - P := by
  obtain ⟨h1, h2, _, h4⟩ := lesS_facts f hf 15 (Nat.le_refl _)
  rw [List.take_of_length_le (by rw [hf.len]; omega), List.take_of_length_le (by decide), show val pF = P by decide] at h4
  have hb := val_split (lesS f 15) 15 (by rw [len_lesS]; omega)
  rw [val_drop _ _ (by rw [len_lesS]; omega), List.drop_eq_nil_of_le (by rw [len_lesS]; omega)] at hb
  have ht := val_bounds ((lesS f 15).take 15) (fun j => by
    by_cases hj : j < 15
    · rw [getD_take _ _ _ hj]; exact h1 j hj
    · rw [getD_out _ _ (by rw [List.length_take, len_lesS]; omega)]; decide)
  rw [List.length_take, len_lesS, show min 15 16 = 15 from rfl] at ht
  have hv : val ([] : List Int) = 0 := rfl
  rw [hv] at hb
  generalize hm : (lesS f 15).getD 15 0 = m at *
  have hlb : lesB f = m / 65536 % 2 := by rw [lesB, hm]
  unfold redF
  by_cases hneg : m < 0
  · have hb1 : lesB f = 1 := by rw [hlb]; omega
    rw [if_pos hb1]
    refine ⟨hf, ?_⟩
    rw [if_pos]
    have e : (65536 : Int) ^ 15 * (m + 65536 * 0) ≤ 65536 ^ 15 * (-1) := Int.mul_le_mul_of_nonneg_left (by omega) (by decide)
    omega
  · have hb1 : ¬ lesB f = 1 := by rw [hlb]; omega
    rw [if_neg hb1]
    have e : (0 : Int) ≤ 65536 ^ 15 * (m + 65536 * 0) := Int.mul_nonneg (by decide) (by omega)
    have hM : lesM f = lesS f 15 := by
      unfold lesM
      rw [hm, show m % 65536 = m by omega, ← hm]
      apply List.ext_getElem?
      intro j
      rw [List.getElem?_set]
      split
      · rename_i h
        subst h
        rw [if_pos (by rw [len_lesS]; omega), List.getD_eq_getElem?_getD, List.getElem?_eq_getElem (by rw [len_lesS]; omega)]
        rfl
      · rfl
    rw [hM]
    refine ⟨⟨len_lesS f 15, fun j => ?_⟩, ?_⟩
    · by_cases hj : j < 15
      · exact h1 j hj
      · by_cases hj2 : j = 15
        · subst hj2; rw [hm]; omega
        · rw [getD_out _ _ (by rw [len_lesS]; omega)]; decide
    · rw [if_neg (by omega), h4]
/-- A number's entries of sixteen bits. -/
def dig : Nat → Int → List Int
  | 0, _ => []
  | n + 1, v => v % 65536 :: dig n (v / 65536)
theorem dig_val : ∀ (l : List Int), (∀ j, 0 ≤ l.getD j 0 ∧ l.getD j 0 ≤ 65535) → dig l.length (val l) = l
  | [], _ => rfl
  | x :: r, h => by
    have h0 := h 0
    have h1 := dig_val r (fun j => by simpa using h (j + 1))
    simp only [List.getD_cons_zero] at h0
    rw [List.length_cons, dig, val, show (x + 65536 * val r) % 65536 = x by omega, show (x + 65536 * val r) / 65536 = val r by omega, h1]
/-- The bytes of entries of sixteen bits. -/
def bytesL : List Int → List Int
  | [] => []
  | x :: r => x % 256 :: x / 256 % 256 :: bytesL r
theorem len_bytesL : ∀ l, (bytesL l).length = 2 * l.length
  | [] => rfl
  | x :: r => by simp only [bytesL, List.length_cons, len_bytesL r]; omega
theorem bytesL_app : ∀ a b, bytesL (a ++ b) = bytesL a ++ bytesL b
  | [], b => rfl
  | x :: a, b => by simp only [List.cons_append, bytesL, bytesL_app a b]
theorem len_dig : ∀ n v, (dig n v).length = n
  | 0, _ => rfl
  | n + 1, v => by rw [dig, List.length_cons, len_dig n]
def outF (v : Int) : List Int := bytesL (dig 16 (v % P))
def packF (f : List Int) : List Int := bytesL (redF (redF (car (car (car f)))))
/-- Carried a third time: all entries have sixteen bits. -/
theorem car_dg (f : List Int) (h : Sm f) : Dg (car f) ∧ Eqv (val (car f)) (val f) := by
  have hv := val_car f h.len
  refine ⟨?_, hv⟩
  have hs := sm_car f ⟨h.len, by have := h.first; omega, h.rest⟩
  have hlen : (carS f 15).length = 16 := by rw [len_carS, h.len]
  obtain ⟨h1, h3, _, _, _, z3⟩ := carS_md f ⟨h.len, by have := h.first; omega, h.rest⟩ 15 (Nat.le_refl _)
  have hz := z3 (by omega)
  have hv15 := val_carS f h.len 15 (Nat.le_refl _)
  -- the value of what was carried once more, by its last entry
  have hsplit := val_split (carS f 15) 15 (by omega)
  rw [val_drop _ _ (by omega), List.drop_eq_nil_of_le (by omega)] at hsplit
  have ht := val_bounds ((carS f 15).take 15) (fun j => by
    by_cases hj : j < 15
    · rw [getD_take _ _ _ hj]; exact h1 j hj
    · rw [getD_out _ _ (by rw [List.length_take, hlen]; omega)]; decide)
  rw [List.length_take, hlen, show min 15 16 = 15 from rfl] at ht
  have hv0 : val ([] : List Int) = 0 := rfl
  rw [hv0] at hsplit
  have hl0 : (carS f 15) = (carS f 15).getD 0 0 :: (carS f 15).drop 1 := by
    rcases hc : carS f 15 with _ | ⟨y, r⟩
    · rw [hc] at hlen; simp at hlen
    · simp
  have hr1 := hs.rest
  have hfst := hs.first
  refine ⟨by rw [len_car, h.len], fun j => ?_⟩
  by_cases hj0 : j = 0
  · subst hj0
    have e0 : (car f).getD 0 0 = (carS f 15).getD 0 0 + 38 * ((carS f 15).getD 15 0 / 65536) := by
      show (carStep (carS f 15) 15).getD 0 0 = _
      rw [carStep_last _ _ hlen, if_neg (by omega), if_pos rfl]
    rw [e0]
    have hb0 := h1 0 (by omega)
    generalize hm : (carS f 15).getD 15 0 = m at *
    -- f's own value
    have hff : f = f.getD 0 0 :: f.drop 1 := by
      have hfl := h.len
      rcases hc : f with _ | ⟨y, r⟩
      · rw [hc] at hfl; simp at hfl
      · simp
    have hvf : val f = f.getD 0 0 + 65536 * val (f.drop 1) := by conv => lhs; rw [hff, val]
    have hfb := val_bounds (f.drop 1) (fun j => by
      have := h.rest (j + 1) (by omega)
      have e : (f.drop 1).getD j 0 = f.getD (j + 1) 0 := by simp only [List.getD_eq_getElem?_getD, List.getElem?_drop]; rw [Nat.add_comm]
      rw [e]; exact this)
    rw [List.length_drop, h.len, show 16 - 1 = 15 from rfl] at hfb
    have hf0 := h.first
    have hvc : val (carS f 15) = (carS f 15).getD 0 0 + 65536 * val ((carS f 15).drop 1) := by conv => lhs; rw [hl0, val]
    have hcb := val_bounds (((carS f 15).drop 1).take 14) (fun j => by
      by_cases hj : j < 14
      · rw [getD_take _ _ _ hj]
        have e : ((carS f 15).drop 1).getD j 0 = (carS f 15).getD (j + 1) 0 := by simp only [List.getD_eq_getElem?_getD, List.getElem?_drop]; rw [Nat.add_comm]
        rw [e]; exact h1 (j + 1) (by omega)
      · rw [getD_out _ _ (by rw [List.length_take, List.length_drop, hlen]; omega)]; decide)
    have hcs := val_split ((carS f 15).drop 1) 14 (by rw [List.length_drop, hlen]; omega)
    rw [List.drop_drop, show 1 + 14 = 15 from rfl, val_drop (carS f 15) 15 (by omega), show (carS f 15).drop (15 + 1) = [] from List.drop_eq_nil_of_le (by omega), hv0, hm] at hcs
    have e15 : (65536 : Int) ^ 15 = 1766847064778384329583297500742918515827483896875618958121606201292619776 := by decide
    have e14 : (65536 : Int) ^ 14 = 26959946667150639794667015087019630673637144422540572481103610249216 := by decide
    rw [List.length_take, List.length_drop, hlen, show min 14 (16 - 1) = 14 from rfl, e14] at hcb
    generalize val (((carS f 15).drop 1).take 14) = u at *
    generalize (carS f 15).getD 0 0 = d0 at *
    generalize val ((carS f 15).drop 1) = t1 at *
    generalize f.getD 0 0 = f0 at *
    generalize val (f.drop 1) = t2 at *
    rw [e15] at hfb
    rw [e14] at hcs
    have hmm : m = -1 ∨ m = 65536 ∨ (0 ≤ m ∧ m ≤ 65535) := by omega
    rcases hmm with rfl | rfl | hm2
    · omega
    · omega
    · omega
  · exact hr1 j (by omega)
theorem car_id (f : List Int) (h : Dg f) : car f = f := by
  have key : ∀ i, i ≤ 15 → ∀ j, (carS f i).getD j 0 = f.getD j 0 := by
    intro i
    induction i with
    | zero => intro _ j; rfl
    | succ i ih =>
      intro hi j
      have hlen : (carS f i).length = 16 := by rw [len_carS, h.len]
      have ih2 := ih (by omega)
      rw [carS, carStep_getD _ _ _ hlen (by omega), ih2 i, ih2 (i + 1), ih2 j]
      have hb := h.all i
      split
      · rename_i e; subst e; omega
      · split
        · rename_i e; subst e; omega
        · rfl
  have hlen : (carS f 15).length = 16 := by rw [len_carS, h.len]
  apply List.ext_getElem?
  intro j
  have hj : (car f).getD j 0 = f.getD j 0 := by
    show (carStep (carS f 15) 15).getD j 0 = _
    rw [carStep_last _ _ hlen, key 15 (Nat.le_refl _) 15, key 15 (Nat.le_refl _) 0, key 15 (Nat.le_refl _) j]
    have hb := h.all 15
    split
    · rename_i e; subst e; omega
    · split
      · rename_i e; subst e; omega
      · rfl
  by_cases hlt : j < 16
  · rw [List.getD_eq_getElem?_getD, List.getD_eq_getElem?_getD, List.getElem?_eq_getElem (by rw [len_car, h.len]; exact hlt), List.getElem?_eq_getElem (by rw [h.len]; exact hlt)] at hj
    rw [List.getElem?_eq_getElem (by rw [len_car, h.len]; exact hlt), List.getElem?_eq_getElem (by rw [h.len]; exact hlt)]
    exact congrArg some hj
  · rw [List.getElem?_eq_none (by rw [len_car, h.len]; omega), List.getElem?_eq_none (by rw [h.len]; omega)]
theorem pack_eq (f : List Int) (h : Sm f) : packF f = outF (val f) := by
  obtain ⟨h1, h2⟩ := car_dg f h
  unfold packF outF
  rw [car_id _ h1, car_id _ h1]
  obtain ⟨d1, v1⟩ := les_facts _ h1
  obtain ⟨d2, v2⟩ := les_facts _ d1
  have hb := val_bounds _ h1.all
  rw [h1.len, show (65536 : Int) ^ 16 = 2 * P + 38 by decide] at hb
  have hP : (38 : Int) < P := by decide
  have e : val (redF (redF (car f))) = val f % P := by
    rw [← h2.mod, v2, v1]
    generalize val (car f) = v at *
    by_cases c1 : v < P
    · rw [if_pos c1, if_pos c1, Int.emod_eq_of_lt hb.1 c1]
    · rw [if_neg c1]
      by_cases c2 : v - P < P
      · rw [if_pos c2]
        have := Int.sub_emod_right v P
        rw [Int.emod_eq_of_lt (by omega) c2] at this
        exact this
      · rw [if_neg c2]
        have h3 := Int.sub_emod_right (v - P) P
        rw [Int.emod_eq_of_lt (by omega) (by omega), Int.sub_emod_right] at h3
        exact h3
  rw [← e, show (16 : Nat) = (redF (redF (car f))).length from d2.len.symm, dig_val _ d2.all]
/-- A point's bytes read. -/
def unpE (b : List Int) (i : Nat) : Int := b.getD (2 * i) 0 + 256 * b.getD (2 * i + 1) 0
def unpF (b : List Int) : List Int := ((List.range 16).map (unpE b)).set 15 (unpE b 15 % 32768)
theorem sm_unp (b : List Int) (h : ∀ x ∈ b, 0 ≤ x ∧ x < 256) : Sm (unpF b) := by
  have hg : ∀ j, 0 ≤ b.getD j 0 ∧ b.getD j 0 < 256 := fun j => by
    rw [List.getD_eq_getElem?_getD]
    rcases hj : b[j]? with _ | y
    · simp
    · simpa using h y (List.mem_of_getElem? hj)
  refine sm_small _ (by simp [unpF]) (fun x hx => ?_)
  rcases List.mem_or_eq_of_mem_set hx with hx | rfl
  · obtain ⟨i, _, rfl⟩ := List.mem_map.1 hx
    have := hg (2 * i)
    have := hg (2 * i + 1)
    unfold unpE
    omega
  · have := hg 30
    have := hg 31
    unfold unpE
    omega
/-- A point, so often: as the code has it, and modulo P. -/
def curveF (s p : List Int) : List Int := packF (mulF (ladL (unpF p) (clampF s) 255).1 (invS (ladL (unpF p) (clampF s) 255).2.2.1 254))
def curveZ (s : List Int) (y : Int) : List Int := outF ((ladZ y (clampF s) 255).1 * invZ (ladZ y (clampF s) 255).2.2.1 254)
theorem outF_congr {a b : Int} (h : Eqv a b) : outF a = outF b := by rw [outF, h.mod, outF]
theorem curve_eq (s p : List Int) (hp : ∀ x ∈ p, 0 ≤ x ∧ x < 256) (y : Int) (hy : Eqv (val (unpF p)) y) : curveF s p = curveZ s y := by
  have hx := sm_unp p hp
  have hs := sms_lad (unpF p) (clampF s) hx 255
  have he := eqs_lad (unpF p) (clampF s) hx hy 255
  have hi := sm_inv hs.c 254
  have hm := sm_mul hs.a.len hi.len (bd_sm hs.a).wide (bd_sm hi).wide
  unfold curveF curveZ
  rw [pack_eq _ hm]
  exact outF_congr ((val_mul _ _ hs.a.len hi.len).trans (he.a.mul (eqv_inv hs.c he.c 254)))
theorem len_curveF (s p : List Int) (hp : ∀ x ∈ p, 0 ≤ x ∧ x < 256) : (curveF s p).length = 32 := by
  rw [curve_eq s p hp _ (Eqv.refl _), curveZ, outF, len_bytesL, len_dig]
end Go.Proofs.Ytlpoolcdoecodaa.Cv
