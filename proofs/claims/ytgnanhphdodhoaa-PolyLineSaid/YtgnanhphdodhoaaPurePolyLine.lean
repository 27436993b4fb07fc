/-
  PolyLine: the key's second half is added on; with a first half of noughts the sum is the second half, whatever the bytes. No condition.
-/
import Derived.Test.YtgnanhphdodhoaaMPolyLinex2
import Derived.Test.YtgnanhphdodhoaaPolyV2
import Derived.Test.YtgnanhphdodhoaaStrN
namespace Go.Proofs.Ytgnanhphdodhoaa.Pure
open Go.RowKit Go.Proofs.Ytgnanhphdodhoaa.MPolyLine Go.Proofs.YtgnanhphdodhoaaW.PrintWords Go.Proofs.YtgnanhphdodhoaaW.PrintLast Go.Proofs.Ytgnanhphdodhoaa.Arr Go.Proofs.Ytgnanhphdodhoaa.Pol Go.Proofs.Ytgnanhphdodhoaa.Bits

theorem sum_some (key b : List Int) (hl : key.length = 32) : poly_Sum.f key b = some (tagF key b, 0) := by
  unfold poly_Sum.f Pol.sumAns
  rw [if_pos hl]
theorem drop_zeros (k : List Int) : (List.replicate 16 0 ++ k).drop 16 = k := by
  rw [List.drop_append_of_le_length (by simp), List.drop_of_length_le (by simp), List.nil_append]
theorem bytes_zeros (n : Nat) : Bytes (List.replicate n 0) := by
  intro x hx
  rw [List.mem_replicate] at hx
  omega
/-- A first half of noughts. -/
theorem tag_none (k b : List Int) (hk : Bytes k) (hl : k.length = 16) : tagF (List.replicate 16 0 ++ k) b = k := by
  refine ext_rd _ _ (by rw [len_tagF, hl]) (fun j hj => ?_)
  rw [len_tagF] at hj
  rw [tag_val _ _ ((bytes_zeros 16).append hk) j hj, clamp_zero, accV_zero, drop_zeros, Int.zero_add, bsum_digit k hk 16 j hj]
/-- A second half of noughts. -/
theorem tag_zero (key b : List Int) (hk : Bytes key) (hl : key.length = 32) (j : Nat) (hj : j < 16) : rd (tagF (key.take 16 ++ List.replicate 16 0) b) (j : Int) = accV (clampF key) b / 256 ^ j % 256 := by
  have e : clampF (key.take 16 ++ List.replicate 16 0) = clampF key := by
    unfold clampF
    rw [List.take_append_of_le_length (by rw [List.length_take]; omega), List.take_take]
    rfl
  have d : (key.take 16 ++ List.replicate 16 (0 : Int)).drop 16 = List.replicate 16 0 := by
    rw [List.drop_append_of_le_length (by rw [List.length_take]; omega), List.drop_of_length_le (by rw [List.length_take]; omega), List.nil_append]
  rw [tag_val _ _ ((hk.take 16).append (bytes_zeros 16)) j hj, e, d]
  rw [show bsum (List.replicate 16 (0 : Int)) 16 = 0 by decide +kernel, Int.add_zero]

/-- One digit, in plain numbers. -/
theorem line_step (A T Y Z p R S1 yi ki xi u R' : Int) (p0 : 0 < p) (r1 : 0 ≤ Y ∧ Y < p) (r2 : 0 ≤ Z ∧ Z < p) (hA : A = Y + p * R) (hT : T = Z + p * ki + p * 256 * S1) (hu : u = (Y + Z) / p) (hy : yi = A / p % 256) (hx : xi = (A + T) / p % 256) (hR' : R' = R / 256) :
    0 ≤ u ∧ u ≤ 1 ∧ A = Y + p * yi + p * 256 * R' ∧ xi = (u + yi + ki) % 256 ∧ (u + yi + ki) / 256 = (Y + p * yi + (Z + p * ki)) / (p * 256) := by
  have hne : p ≠ 0 := by omega
  have u0 : 0 ≤ u := by rw [hu]; exact Int.ediv_nonneg (by omega) (by omega)
  have u1 : u ≤ 1 := by
    have : (Y + Z) / p < 2 := Int.ediv_lt_of_lt_mul p0 (by omega)
    omega
  have hyR : yi = R % 256 := by
    rw [hy, hA, Int.add_mul_ediv_left _ _ hne, Int.ediv_eq_zero_of_lt r1.1 r1.2, Int.zero_add]
  have hA1 : A = Y + p * yi + p * 256 * R' := by
    rw [hA, hyR, hR', Int.mul_assoc, Int.add_assoc, ← Int.mul_add, Int.emod_add_mul_ediv]
  refine ⟨u0, u1, hA1, ?_, ?_⟩
  · rw [hx, hA1, hT, show Y + p * yi + p * 256 * R' + (Z + p * ki + p * 256 * S1) = (Y + Z) + p * (yi + ki + 256 * (R' + S1)) by simp only [Int.mul_add, Int.mul_assoc]; omega]
    rw [Int.add_mul_ediv_left _ _ hne, ← hu]
    omega
  · rw [show Y + p * yi + (Z + p * ki) = (Y + Z) + p * (yi + ki) by rw [Int.mul_add]; omega]
    rw [← Int.ediv_ediv_of_nonneg (Int.le_of_lt p0), Int.add_mul_ediv_left _ _ hne, ← hu, Int.add_assoc]

theorem line_l0 (key b x y s : List Int) (A T : Int) (hk : Bytes key) (hl : key.length = 32) (hlx : x.length = 16) (hly : y.length = 16) (hby : Bytes y) (hs : s = key.drop 16)
    (hTs : ∀ i : Nat, i < 16 → ∃ S, T = bsum s (i + 1) + 256 ^ (i + 1) * S) (hxd0 : ∀ j : Nat, j < 16 → rd x (j : Int) = (A + T) / 256 ^ j % 256) (hyd0 : ∀ j : Nat, j < 16 → rd y (j : Int) = A / 256 ^ j % 256) (d : Nat) :
    ∀ (k i : Nat) (u : Int), i + d = 16 → d + 1 < k → (∃ R, A = bsum y i + 256 ^ i * R) → u = (bsum y i + bsum s i) / 256 ^ i → strongroomlaw3_PolyLine.l0 k key b x y u (i : Int) = some true := by
  have hbk : Bytes s := by rw [hs]; exact hk.drop 16
  have ek0 : ∀ i : Nat, rd s (i : Int) = rd key ((16 + i : Nat) : Int) := fun i => by rw [hs]; exact rd_drop key 16 i
  induction d with
  | zero =>
    intro k i u hi hk1 _ _
    obtain ⟨k, rfl⟩ : ∃ m, k = m + 1 := ⟨k - 1, by omega⟩
    obtain rfl : i = 16 := by omega
    have hd : s.length = 16 := by rw [hs, List.length_drop]; omega
    have q1 : (16 : Int) ≤ (key.length : Int) := by omega
    have q2 : (List.replicate 16 (0 : Int)).length + s.length < 140737488355328 := by rw [List.length_replicate, hd]; decide
    simp only [strongroomlaw3_PolyLine.l0]
    rw [if_neg (by decide), if_pos (by decide), Option.bind_some, if_pos q1, Option.bind_some, ← hs, if_pos q2, sum_some _ _ (by rw [List.length_append, List.length_replicate, hd]), Option.bind_some, if_pos rfl, tag_none _ _ hbk hd, if_pos rfl]
    rfl
  | succ d ih =>
    intro k i u hi hk1 hR hu
    obtain ⟨k, rfl⟩ : ∃ m, k = m + 1 := ⟨k - 1, by omega⟩
    have hi16 : i < 16 := by omega
    have n1 : i + 1 + d = 16 := by omega
    have n2 : d + 1 < k := by omega
    obtain ⟨R, hR⟩ := hR
    obtain ⟨S1, hS1⟩ := hTs i hi16
    have hyi := hby.rd (i : Int)
    have hki := hbk.rd (i : Int)
    have ek := ek0 i
    have hst := line_step A T (bsum y i) (bsum s i) (256 ^ i) R S1 (rd y (i : Int)) (rd s (i : Int)) (rd x (i : Int)) u (R / 256) (pow256 i) (bsum_range y hby i) (bsum_range s hbk i) hR (by rw [hS1, bsum_step, Int.pow_succ]) hu (hyd0 i hi16) (hxd0 i hi16) rfl
    have ih' := ih k (i + 1)
    rw [bsum_step, bsum_step, Int.pow_succ] at ih'
    rw [ek] at hst hki ih'
    clear hTs hxd0 hyd0 hR hu hS1 ih ek
    generalize bsum y i = Y at *
    generalize bsum s i = Z at *
    generalize (256 : Int) ^ i = p at *
    obtain ⟨u0, u1, hA1, hxd, hun⟩ := hst
    have HA1 := Aside0.mk hA1
    have HXD := Aside0.mk hxd
    have HUN := Aside0.mk hun
    clear hA1 hxd hun
    have c1 : (i : Int) < 16 := by omega
    have c2 : (0 : Int) ≤ (i : Int) := by omega
    have c3 : (i : Int) < (y.length : Int) := by omega
    have c4 : (0 : Int) ≤ ((16 + i : Nat) : Int) := by omega
    have c5 : ((16 + i : Nat) : Int) < (key.length : Int) := by omega
    have c6 : (i : Int) < (x.length : Int) := by omega
    have w0 := Aside0.mk (show wrap64 (16 + (i : Int)) = ((16 + i : Nat) : Int) from by rw [wrap_id (by omega) (by omega)]; omega)
    have w1 := Aside0.mk (show wrap64 (rd y (i : Int)) = rd y (i : Int) from wrap_id (by omega) (by omega))
    have w2 := Aside0.mk (show wrap64 (rd key ((16 + i : Nat) : Int)) = rd key ((16 + i : Nat) : Int) from wrap_id (by omega) (by omega))
    have w3 := Aside0.mk (show wrap64 (u + rd y (i : Int)) = u + rd y (i : Int) from wrap_id (by omega) (by omega))
    have w4 := Aside0.mk (show wrap64 (u + rd y (i : Int) + rd key ((16 + i : Nat) : Int)) = u + rd y (i : Int) + rd key ((16 + i : Nat) : Int) from wrap_id (by omega) (by omega))
    have w5 := Aside0.mk (show wrap64 ((i : Int) + 1) = ((i + 1 : Nat) : Int) from by rw [wrap_id (by omega) (by omega)]; omega)
    simp only [strongroomlaw3_PolyLine.l0]
    rw [if_pos c1, if_pos c2, if_pos c3, w0.out, if_pos c4, if_pos c5, if_pos c6, w1.out, w2.out, w3.out, w4.out, if_pos HXD.out, w5.out]
    exact ih' _ n1 n2 ⟨_, HA1.out⟩ HUN.out

theorem PolyLine : strongroomlaw3_PolyLine.Pure := by
  intro l0 l1 m0 _ hw m1 _ _
  unfold maxLen at m0 m1
  have s0 : strongroomkeep_Sized.f l0 32 = some (sizedF l0 32) := sized_some l0 32 (by omega) (by omega)
  have c1 : strongroomkeep_CutR.f l1 400 = some (l1.take 400) := cut_some l1 400
  obtain ⟨key, hk⟩ : ∃ u, u = sizedF l0 32 := ⟨_, rfl⟩
  have hl : key.length = 32 := by rw [hk, len_sizedF]
  have hb : Bytes key := by
    rw [hk]
    unfold sizedF
    intro x hx
    rw [List.mem_map] at hx
    obtain ⟨i, _, rfl⟩ := hx
    split
    · omega
    · exact (bytes_of_wf hw).rd _
  obtain ⟨b, hb1⟩ : ∃ u, u = l1.take 400 := ⟨_, rfl⟩
  rw [← hk] at s0
  rw [← hb1] at c1
  refine ⟨18, ?_⟩
  have ht : (key.take 16).length = 16 := by rw [List.length_take]; omega
  unfold strongroomlaw3_PolyLine.f
  rw [s0, Option.bind_some, c1, Option.bind_some]
  simp only [Option.bind_some, List.nil_append, List.length_nil, Nat.zero_add]
  have q1 : (16 : Int) ≤ (key.length : Int) := by omega
  have q2 : (key.take 16).length < 140737488355328 := by omega
  have q3 : (key.take 16).length + 16 < 140737488355328 := by omega
  rw [if_pos q1, if_pos q2, if_pos q3, sum_some _ _ hl, sum_some _ _ (by rw [List.length_append, ht, List.length_replicate])]
  simp only [Option.bind_some, if_true, len_tagF]
  rw [if_pos (by decide)]
  have hx0 : ∀ j : Nat, j < 16 → rd (tagF key b) (j : Int) = (accV (clampF key) b + bsum (key.drop 16) 16) / 256 ^ j % 256 := fun j hj => tag_val key b hb j hj
  have hy0 : ∀ j : Nat, j < 16 → rd (tagF (key.take 16 ++ List.replicate 16 0) b) (j : Int) = accV (clampF key) b / 256 ^ j % 256 := fun j hj => tag_zero key b hb hl j hj
  have hT : ∀ i : Nat, i < 16 → ∃ S, bsum (key.drop 16) 16 = bsum (key.drop 16) (i + 1) + 256 ^ (i + 1) * S := by
    intro i hi
    have h := bsum_split (key.drop 16) (i + 1) (16 - (i + 1))
    rw [show i + 1 + (16 - (i + 1)) = 16 by omega] at h
    exact h
  have b1 := tagF_bytes (key.take 16 ++ List.replicate 16 0) b
  have b2 := len_tagF key b
  have b3 := len_tagF (key.take 16 ++ List.replicate 16 0) b
  have hR : ∀ (A : Int) (y : List Int), ∃ R, A = bsum y 0 + 256 ^ 0 * R := fun A y => ⟨A, by rw [bsum, Int.pow_zero, Int.one_mul, Int.zero_add]⟩
  have hu : ∀ (y s : List Int), (0 : Int) = (bsum y 0 + bsum s 0) / 256 ^ 0 := fun y s => by rw [bsum, bsum]; decide
  generalize tagF key b = x at *
  generalize tagF (key.take 16 ++ List.replicate 16 0) b = y at *
  generalize bsum (key.drop 16) 16 = T at *
  generalize accV (clampF key) b = A at *
  obtain ⟨k, hk18⟩ : ∃ k : Nat, k = 18 := ⟨_, rfl⟩
  have h := line_l0 key b x y (key.drop 16) A T hb hl b2 b3 b1 rfl hT hx0 hy0 16 k 0 0 (by decide) (by omega) (hR A y) (hu y _)
  rw [show ((0 : Nat) : Int) = 0 from rfl] at h
  rw [← hk18]
  exact h
end Go.Proofs.Ytgnanhphdodhoaa.Pure
