/-
  Plain facts: with a first half that is one, a sum is the sum of the blocks.
-/
import Derived.Test.YtgnanhphdodhoaaPolyV4
namespace Go.Proofs.Ytgnanhphdodhoaa.Pol
open Go.RowKit Go.Proofs.YtgnanhphdodhoaaW.PrintWords Go.Proofs.Ytgnanhphdodhoaa.Arr Go.Proofs.Ytgnanhphdodhoaa.Bits

def oneKey : List Int := 1 :: List.replicate 31 0
/-- A block's bytes, added place by place. -/
def uK (u b : List Int) (i : Nat) : Nat → List Int
  | 0 => u
  | k + 1 => (uK u b i k).set k (wrap64 (rd (uK u b i k) k + wrap64 (rd b ((i + k : Nat) : Int))))
theorem len_uK (u b : List Int) (i : Nat) : ∀ k, (uK u b i k).length = u.length
  | 0 => rfl
  | k + 1 => by rw [uK, List.length_set, len_uK u b i k]
def uB (u b : List Int) (i : Nat) : List Int := (uK u b i (min (b.length - i) 16)).set (min (b.length - i) 16) (wrap64 (rd (uK u b i (min (b.length - i) 16)) ((min (b.length - i) 16 : Nat) : Int) + 1))
def uN (b : List Int) : Nat → List Int
  | 0 => List.replicate 18 0
  | j + 1 => uB (uN b j) b (16 * j)
theorem len_uN (b : List Int) : ∀ j, (uN b j).length = 18
  | 0 => by rw [uN, List.length_replicate]
  | j + 1 => by rw [uN, uB, List.length_set, len_uK, len_uN b j]

/-- What is above a byte is moved on. -/
def cU (u : List Int) (k : Nat) : List Int := u.set (k + 1) (wrap64 (rd u ((k + 1 : Nat) : Int) + rd u k / 256))
def cS (u : List Int) (k : Nat) : List Int := (cU u k).set k (Go.bits .and .i64 (rd (cU u k) k) 255)
def cN (u : List Int) : Nat → List Int
  | 0 => u
  | k + 1 => cS (cN u k) k
theorem len_cU (u : List Int) (k : Nat) : (cU u k).length = u.length := by rw [cU, List.length_set]
theorem len_cN (u : List Int) : ∀ k, (cN u k).length = u.length
  | 0 => rfl
  | k + 1 => by rw [cN, cS, List.length_set, len_cU, len_cN u k]
def uF (b : List Int) : List Int := cN (uN b ((b.length + 15) / 16)) 17
theorem len_uF (b : List Int) : (uF b).length = 18 := by rw [uF, len_cN, len_uN]
/-- A number as base-256 places of any size. -/
theorem bsum_set (u : List Int) (i : Nat) (v : Int) (hi : i < u.length) : ∀ n, bsum (u.set i v) n = bsum u n + if i < n then (v - rd u i) * 256 ^ i else 0
  | 0 => by rw [bsum, bsum, if_neg (by omega)]; rfl
  | n + 1 => by
    rw [bsum, bsum, bsum_set u i v hi n, rd_set _ _ _ _ hi]
    by_cases h : n = i
    · subst h
      rw [if_neg (by omega), if_pos rfl, if_pos (by omega), Int.sub_mul]
      omega
    · rw [if_neg h]
      by_cases h2 : i < n
      · rw [if_pos h2, if_pos (by omega)]; omega
      · rw [if_neg h2, if_neg (by omega)]; omega
/-- All places are noughts or more, and none is large. -/
def Places (u : List Int) (B : Int) : Prop := u.length = 18 ∧ ∀ k : Nat, 0 ≤ rd u k ∧ rd u k ≤ B
theorem Places.set {u : List Int} {B C : Int} (h : Places u B) (hBC : B ≤ C) (i : Nat) (v : Int) (hi : i < 18) (h0 : 0 ≤ v) (h1 : v ≤ C) : Places (u.set i v) C := by
  refine ⟨by rw [List.length_set]; exact h.1, fun k => ?_⟩
  rw [rd_set _ _ _ _ (by rw [h.1]; exact hi)]
  split
  · exact ⟨h0, h1⟩
  · exact ⟨(h.2 k).1, Int.le_trans (h.2 k).2 hBC⟩
theorem uK_val (u b : List Int) (i : Nat) (B : Int) (hu : Places u B) (hB : 0 ≤ B ∧ B ≤ 100000) (hb : Bytes b) (n : Nat) (hn : n ≤ 16) :
    bsum (uK u b i n) 18 = bsum u 18 + bsum (b.drop i) n ∧ (∀ k : Nat, 0 ≤ rd (uK u b i n) k ∧ rd (uK u b i n) k ≤ if k < n then B + 255 else B) ∧ (uK u b i n).length = 18 := by
  induction n with
  | zero => exact ⟨by rw [uK, bsum.eq_1 (b.drop i)]; omega, fun k => by rw [if_neg (by omega)]; exact hu.2 k, hu.1⟩
  | succ n ih =>
    obtain ⟨h1, h2, h3⟩ := ih (by omega)
    have hr := h2 n
    rw [if_neg (by omega)] at hr
    have hx := hb.rd ((i + n : Nat) : Int)
    have hd : rd (b.drop i) (n : Int) = rd b ((i + n : Nat) : Int) := rd_drop b i n
    have w2 : wrap64 (rd b ((i + n : Nat) : Int)) = rd b ((i + n : Nat) : Int) := wrap_id (by omega) (by omega)
    have w1 : wrap64 (rd (uK u b i n) n + rd b ((i + n : Nat) : Int)) = rd (uK u b i n) n + rd b ((i + n : Nat) : Int) := wrap_id (by omega) (by omega)
    rw [uK, w2, w1]
    refine ⟨?_, fun k => ?_, by rw [List.length_set]; exact h3⟩
    · rw [bsum_set _ _ _ (by omega), if_pos (by omega), h1, bsum_step (b.drop i), hd, Int.mul_comm (256 ^ n)]
      rw [show rd (uK u b i n) (n : Int) + rd b ((i + n : Nat) : Int) - rd (uK u b i n) (n : Int) = rd b ((i + n : Nat) : Int) by omega]
      omega
    · rw [rd_set _ _ _ _ (by omega)]
      have hk := h2 k
      by_cases hkn : k = n
      · subst hkn; rw [if_pos rfl, if_pos (by omega)]; omega
      · rw [if_neg hkn]
        by_cases hlt : k < n
        · rw [if_pos hlt] at hk; rw [if_pos (by omega)]; exact hk
        · rw [if_neg hlt] at hk; rw [if_neg (by omega)]; exact hk
theorem bsum_take (l : List Int) (m : Nat) : ∀ n, n ≤ m → bsum (l.take m) n = bsum l n
  | 0, _ => rfl
  | n + 1, h => by
    rw [bsum, bsum, bsum_take l m n (by omega)]
    have : rd (l.take m) (n : Int) = rd l n := by
      simp only [rd, Int.toNat_natCast, List.getD_eq_getElem?_getD]
      rw [List.getElem?_take, if_pos (by omega)]
    rw [this]
theorem bsum_last (y : List Int) : bsum (lastF y) 17 = bsum y (min y.length 16) + 256 ^ (min y.length 16) := by
  obtain ⟨n, hn⟩ : ∃ n, n = min y.length 16 := ⟨_, rfl⟩
  have hn16 : n ≤ 16 := by omega
  have hlt : (y.take n).length = n := by rw [List.length_take]; omega
  have e : lastF y = y.take n ++ [1] ++ List.replicate (16 - n) 0 := by unfold lastF; rw [← hn]
  rw [e, ← hn]
  have hh : ∀ m, m ≤ n → bsum (y.take n ++ [1] ++ List.replicate (16 - n) 0) m = bsum y m := by
    intro m
    induction m with
    | zero => intro _; rfl
    | succ m ih =>
      intro hm
      rw [bsum, bsum, ih (by omega), List.append_assoc, rd_append_left _ _ _ (by omega)]
      have : rd (y.take n) (m : Int) = rd y m := by
        simp only [rd, Int.toNat_natCast, List.getD_eq_getElem?_getD]
        rw [List.getElem?_take, if_pos (by omega)]
      rw [this]
  have h1 : rd (y.take n ++ [1] ++ List.replicate (16 - n) 0) (n : Int) = 1 := by
    rw [List.append_assoc]
    have := rd_append_right (y.take n) ([1] ++ List.replicate (16 - n) 0) 0
    rw [hlt, Nat.add_zero] at this
    rw [this]
    rfl
  have h2 : ∀ d, bsum (y.take n ++ [1] ++ List.replicate (16 - n) 0) (n + 1 + d) = bsum y n + 256 ^ n := by
    intro d
    induction d with
    | zero => rw [Nat.add_zero, bsum, hh n (Nat.le_refl _), h1, Int.one_mul]
    | succ d ih =>
      have := rd_append_right (y.take n ++ [1]) (List.replicate (16 - n) (0 : Int)) d
      rw [List.length_append, hlt] at this
      have hz : rd (List.replicate (16 - n) (0 : Int)) (d : Int) = 0 := by
        simp only [rd, Int.toNat_natCast, List.getD_eq_getElem?_getD, List.getElem?_replicate]
        split <;> rfl
      rw [show n + 1 + (d + 1) = (n + 1 + d) + 1 by omega, bsum, ih]
      rw [show (([1] : List Int).length) = 1 from rfl] at this
      rw [this, hz]
      omega
  have := h2 (16 - n)
  rwa [show n + 1 + (16 - n) = 17 by omega] at this
/-- The sum of the blocks. -/
def blkN (b : List Int) : Nat → Int
  | 0 => 0
  | j + 1 => blkN b j + bsum (lastF (b.drop (16 * j))) 17
theorem uN_val (b : List Int) (hb : Bytes b) (hl : b.length ≤ 60) : ∀ j, 16 * j < b.length + 16 → bsum (uN b j) 18 = blkN b j ∧ Places (uN b j) (256 * j)
  | 0, _ => by
    refine ⟨?_, List.length_replicate .., fun k => ?_⟩
    · show bsum (List.replicate 18 0) 18 = 0
      decide +kernel
    rw [uN]
    simp only [rd, Int.toNat_natCast, List.getD_eq_getElem?_getD, List.getElem?_replicate]
    split <;> simp
  | j + 1, hj => by
    obtain ⟨h1, h2⟩ := uN_val b hb hl j (by omega)
    obtain ⟨n, hn⟩ : ∃ n, n = min (b.length - 16 * j) 16 := ⟨_, rfl⟩
    have hn16 : n ≤ 16 := by omega
    obtain ⟨k1, k2, k3⟩ := uK_val (uN b j) b (16 * j) (256 * j) h2 (by omega) hb n hn16
    have hr := k2 n
    rw [if_neg (by omega)] at hr
    have w1 : wrap64 (rd (uK (uN b j) b (16 * j) n) (n : Int) + 1) = rd (uK (uN b j) b (16 * j) n) (n : Int) + 1 := wrap_id (by omega) (by omega)
    have e : uN b (j + 1) = (uK (uN b j) b (16 * j) n).set n (rd (uK (uN b j) b (16 * j) n) (n : Int) + 1) := by
      rw [uN, uB, ← hn, w1]
    have hd : (b.drop (16 * j)).length = b.length - 16 * j := List.length_drop
    rw [e]
    constructor
    · rw [bsum_set _ _ _ (by omega), if_pos (by omega), k1, h1, blkN, bsum_last, hd, ← hn]
      rw [show rd (uK (uN b j) b (16 * j) n) (n : Int) + 1 - rd (uK (uN b j) b (16 * j) n) (n : Int) = 1 by omega, Int.one_mul]
      omega
    · refine ⟨by rw [List.length_set]; exact k3, fun k => ?_⟩
      rw [rd_set _ _ _ _ (by omega)]
      have hk := k2 k
      split
      · omega
      · split at hk <;> omega
theorem and255_i64 (x : Int) (h0 : 0 ≤ x) (h1 : x < 9223372036854775808) : Go.bits .and .i64 x 255 = x % 256 := by
  have := bits_mask .i64 63 (by decide) (fun n a b => by rw [IntKind.wrap_i64]; omega) 8 (by decide) x h0 (by omega)
  rw [show (255 : Int) = 2 ^ 8 - 1 from rfl, this]
  omega
theorem cN_val (u : List Int) (hu : Places u 100000) : ∀ k, k ≤ 17 → bsum (cN u k) 18 = bsum u 18 ∧ Places (cN u k) 200000 ∧ (∀ i : Nat, i < k → rd (cN u k) i < 256) ∧ (∀ i : Nat, k < i → rd (cN u k) i = rd u i)
  | 0, _ => ⟨rfl, ⟨hu.1, fun k => by have := hu.2 k; rw [cN]; omega⟩, fun i hi => by omega, fun i _ => rfl⟩
  | k + 1, hk => by
    obtain ⟨h1, h2, h3, h4⟩ := cN_val u hu k (by omega)
    obtain ⟨v, hv⟩ : ∃ v, v = cN u k := ⟨_, rfl⟩
    rw [← hv] at h1 h2 h3 h4
    have hl : v.length = 18 := h2.1
    have a0 := h2.2 k
    have a1 := hu.2 (k + 1)
    have e1 : rd v ((k + 1 : Nat) : Int) = rd u ((k + 1 : Nat) : Int) := h4 (k + 1) (by omega)
    have w1 : wrap64 (rd v ((k + 1 : Nat) : Int) + rd v (k : Int) / 256) = rd v ((k + 1 : Nat) : Int) + rd v (k : Int) / 256 := wrap_id (by omega) (by omega)
    have e2 : cU v k = v.set (k + 1) (rd v ((k + 1 : Nat) : Int) + rd v (k : Int) / 256) := by rw [cU, w1]
    have e3 : rd (cU v k) (k : Int) = rd v (k : Int) := by rw [e2, rd_set _ _ _ _ (by omega), if_neg (by omega)]
    have e4 : cN u (k + 1) = (v.set (k + 1) (rd v ((k + 1 : Nat) : Int) + rd v (k : Int) / 256)).set k (rd v (k : Int) % 256) := by
      rw [cN, ← hv, cS, e3, and255_i64 _ a0.1 (by omega), e2]
    have hr : ∀ i : Nat, rd (cN u (k + 1)) i = if i = k then rd v (k : Int) % 256 else if i = k + 1 then rd v ((k + 1 : Nat) : Int) + rd v (k : Int) / 256 else rd v i := by
      intro i
      rw [e4, rd_set _ _ _ _ (by rw [List.length_set]; omega), rd_set _ _ _ _ (by omega)]
    refine ⟨?_, ⟨by rw [e4, List.length_set, List.length_set]; exact hl, fun i => ?_⟩, fun i hi => ?_, fun i hi => ?_⟩
    · rw [e4, bsum_set _ _ _ (by rw [List.length_set]; omega), if_pos (by omega), bsum_set _ _ _ (by omega), if_pos (by omega), ← h1, rd_set _ _ _ _ (by omega), if_neg (by omega), Int.pow_succ]
      have hq := Int.emod_add_mul_ediv (rd v (k : Int)) 256
      generalize hx : rd v (k : Int) = x at *
      generalize (256 : Int) ^ k = p at *
      rw [show rd v ((k + 1 : Nat) : Int) + x / 256 - rd v ((k + 1 : Nat) : Int) = x / 256 by omega]
      have e5 : (x % 256 - x) * p = -(256 * (x / 256)) * p := by congr 1; omega
      rw [e5]
      have e6 : -(256 * (x / 256)) * p = -(x / 256 * (p * 256)) := by grind
      rw [e6]
      omega
    · rw [hr i]
      have hi := h2.2 i
      split
      · omega
      · split
        · omega
        · exact hi
    · rw [hr i]
      split
      · omega
      · rw [if_neg (by omega)]; exact h3 i (by omega)
    · rw [hr i, if_neg (by omega), if_neg (by omega)]
      exact h4 i (by omega)
theorem blk_range (y : List Int) (hy : Bytes y) : 0 ≤ bsum (lastF y) 17 ∧ bsum (lastF y) 17 ≤ 680564733841876926926749214863536422912 := by
  rw [bsum_last]
  obtain ⟨n, hn⟩ : ∃ n, n = min y.length 16 := ⟨_, rfl⟩
  rw [← hn]
  have hr := bsum_range y hy n
  have hp := pow256 n
  have hq := pow256 (16 - n)
  have e : (340282366920938463463374607431768211456 : Int) = 256 ^ n * 256 ^ (16 - n) := by
    rw [← Int.pow_add, show n + (16 - n) = 16 by omega]; rfl
  have h1 : (256 : Int) ^ n * 1 ≤ 256 ^ n * 256 ^ (16 - n) := Int.mul_le_mul_of_nonneg_left (by omega) (Int.le_of_lt hp)
  rw [← e, Int.mul_one] at h1
  omega
theorem blkN_range (b : List Int) (hb : Bytes b) : ∀ j : Nat, 0 ≤ blkN b j ∧ blkN b j ≤ 680564733841876926926749214863536422912 * j
  | 0 => by simp [blkN]
  | j + 1 => by
    have := blkN_range b hb j
    have := blk_range (b.drop (16 * j)) (hb.drop _)
    rw [blkN]
    omega
theorem one_key : clampF oneKey = [1, 0, 0, 0, 0] := by decide +kernel
theorem poly_one (b : List Int) : ∀ j, polyN 1 b j = blkN b j % 1361129467683753853853498429727072845819
  | 0 => rfl
  | j + 1 => by rw [polyN, poly_one b j, Int.mul_one, blkN, Int.emod_add_emod]
theorem one_law (b : List Int) (hb : Bytes b) (hl : b.length ≤ 60) (h : ¬ (rd (uF b) 16 ≥ 4 ∨ rd (uF b) 16 = 3 ∧ rd (uF b) 15 = 255)) (k : Nat) (hk : k < 16) : rd (tagF oneKey b) (k : Int) = rd (uF b) k % 256 := by
  have hkb : Bytes oneKey := by
    intro x hx
    unfold oneKey at hx
    rw [List.mem_cons, List.mem_replicate] at hx
    omega
  have hV : V [1, 0, 0, 0, 0] = 1 := by decide
  have hlow : Low [1, 0, 0, 0, 0] := ⟨1, 0, 0, 0, 0, rfl, by decide, by decide, by decide, by decide, by decide⟩
  obtain ⟨J, hJ⟩ : ∃ J, J = (b.length + 15) / 16 := ⟨_, rfl⟩
  have hJ4 : J ≤ 4 := by omega
  obtain ⟨s1, p1⟩ := uN_val b hb hl J (by omega)
  obtain ⟨c1, c2, c3, _⟩ := cN_val (uN b J) ⟨p1.1, fun k => by have := p1.2 k; omega⟩ 17 (by omega)
  have eu : uF b = cN (uN b J) 17 := by rw [uF, ← hJ]
  rw [← eu] at c1 c2 c3
  rw [tag_val oneKey b hkb k hk, one_key, accV_val _ _ hb hlow, hV, poly_one, ← hJ]
  rw [show bsum (oneKey.drop 16) 16 = 0 by decide +kernel, Int.add_zero]
  -- the sum of the blocks, out of its places
  have hd : ∀ i : Nat, i < 17 → 0 ≤ rd (uF b) i ∧ rd (uF b) i ≤ 255 := fun i hi => ⟨(c2.2 i).1, by have := c3 i hi; omega⟩
  have hS := blkN_range b hb J
  rw [← s1, ← c1] at hS
  rw [← s1, ← c1]
  have ht : Bytes ((uF b).take 16) := by
    intro x hx
    obtain ⟨i, hi, rfl⟩ := List.mem_iff_getElem.1 hx
    rw [List.length_take] at hi
    have := hd i (by omega)
    simp only [rd, Int.toNat_natCast, List.getD_eq_getElem?_getD] at this
    rw [List.getElem?_eq_getElem (by omega)] at this
    rw [List.getElem_take]
    exact this
  have hD := bsum_range _ ht 16
  rw [bsum_take _ _ 16 (Nat.le_refl _)] at hD
  have hD15 := bsum_range _ ht 15
  rw [bsum_take _ _ 15 (by omega)] at hD15
  have hdig := bsum_digit _ ht 16 k hk
  rw [bsum_take _ _ 16 (Nat.le_refl _)] at hdig
  have hrt : rd ((uF b).take 16) (k : Int) = rd (uF b) k := by
    simp only [rd, Int.toNat_natCast, List.getD_eq_getElem?_getD]
    rw [List.getElem?_take, if_pos hk]
  rw [hrt] at hdig
  have e16 : bsum (uF b) 16 = bsum (uF b) 15 + rd (uF b) 15 * 1329227995784915872903807060280344576 := rfl
  have e18 : bsum (uF b) 18 = bsum (uF b) 16 + rd (uF b) 16 * 340282366920938463463374607431768211456 + rd (uF b) 17 * 87112285931760246646623899502532662132736 := rfl
  have h15 := hd 15 (by omega)
  have h16 := hd 16 (by omega)
  have h17 := (c2.2 17).1
  have hk' := hd k (by omega)
  have q15 : rd (uF b) ((15 : Nat) : Int) = rd (uF b) 15 := rfl
  have q16 : rd (uF b) ((16 : Nat) : Int) = rd (uF b) 16 := rfl
  have q17 : rd (uF b) ((17 : Nat) : Int) = rd (uF b) 17 := rfl
  rw [q15] at h15
  rw [q16] at h16
  rw [q17] at h17
  rw [show (256 : Int) ^ 15 = 1329227995784915872903807060280344576 by rfl] at hD15
  rw [show (256 : Int) ^ 16 = 340282366920938463463374607431768211456 by rfl] at hD
  clear hd ht hrt c1 c2 c3 s1 p1 eu hkb hV hlow q15 q16 q17
  generalize bsum (uF b) 18 = S at *
  generalize bsum (uF b) 16 = D at *
  generalize bsum (uF b) 15 = E at *
  generalize rd (uF b) 15 = x15 at *
  generalize rd (uF b) 16 = x16 at *
  generalize rd (uF b) 17 = x17 at *
  have h0 : x17 = 0 := by omega
  subst h0
  have e1 : S % 1361129467683753853853498429727072845819 = S := by omega
  rw [e1]
  have e2 : S % 340282366920938463463374607431768211456 = D := by omega
  rw [e2, hdig]
  omega
end Go.Proofs.Ytgnanhphdodhoaa.Pol
