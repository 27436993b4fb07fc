/-
  The ladder climbs the multiples of a point: so what scalars make of a point, one behind the other, hangs on no order.
-/
import Derived.Test.YtlpoolcdoecodaaCvM6
import Derived.Test.YtlpoolcdoecodaaCvLow
namespace Go.Proofs.Ytlpoolcdoecodaa.Cv
open Go.Proofs.Ytlpoolcdoecodaa.Pq
set_option linter.unusedVariables false
set_option maxRecDepth 100000
theorem sub_symm (p q : Pt) : Eqv (add q (neg p)).y (add p (neg q)).y := by
  have h1 := sub_y p q
  have h2 := sub_y q p
  refine cancel (den1 p q) ?_
  refine (Eqv.of_eq (Int.mul_comm _ _)).trans (h1.trans ?_)
  refine Eqv.trans ?_ (Eqv.of_eq (Int.mul_comm _ _))
  refine Eqv.trans (Eqv.of_eq (by grind)) (h2.symm.trans (Eqv.of_eq ?_))
  rw [show cD * q.x * p.x * q.y * p.y = cD * p.x * q.x * p.y * q.y by grind]
theorem Rep.of_y {p q : Pt} {X Z : Int} (h : Rep p X Z) (e : Eqv q.y p.y) : Rep q X Z := by
  obtain ⟨l, hl, h1, h2⟩ := h
  exact ⟨l, hl, h1.trans ((Eqv.refl l).mul ((Eqv.refl 1).add e.symm)), h2.trans ((Eqv.refl l).mul ((Eqv.refl 1).sub e.symm))⟩
theorem add_sub (p q : Pt) : add (add p q) (neg p) = q := by rw [add_comm p q, assoc, add_neg, add_zero]
/-- One round of the ladder, twice. -/
theorem rep_mid {B p q : Pt} {u a b c d : Int} (hp : Rep p a c) (hq : Rep q b d) (hB : Rep B u 1) (hu : ¬ Eqv u 0) (hd : Eqv (add q (neg p)).y B.y) :
    Rep (add p p) (midZ u (a, b, c, d)).1 (midZ u (a, b, c, d)).2.2.1 ∧ Rep (add p q) (midZ u (a, b, c, d)).2.1 (midZ u (a, b, c, d)).2.2.2 := by
  obtain ⟨h1, h2, h3, h4⟩ := mid_poly u a b c d
  exact ⟨(rep_dbl hp).congr h1 h3, (rep_add hp hq (hB.of_y hd) hu).congr h2 h4⟩
/-- The number that a scalar's bits are, from the top on. -/
def nnZ (z : List Int) : Nat → Nat
  | 0 => 0
  | n + 1 => 2 * nnZ z n + (if bitZ z (254 - n) = 1 then 1 else 0)
theorem mulP_one (p : Pt) : mulP 1 p = p := zero_add p
theorem rep_lad (z : List Int) {B : Pt} {u : Int} (hB : Rep B u 1) (hu : ¬ Eqv u 0) : ∀ n,
    Rep (mulP (nnZ z n) B) (ladZ u z n).1 (ladZ u z n).2.2.1 ∧ Rep (mulP (nnZ z n + 1) B) (ladZ u z n).2.1 (ladZ u z n).2.2.2
  | 0 => by
    refine ⟨rep_of zeroP 1 0 (Eqv.of_eq (by decide)) (fun h => one_ne h.1), ?_⟩
    rw [show nnZ z 0 + 1 = 1 from rfl, mulP_one]
    exact hB
  | n + 1 => by
    obtain ⟨h1, h2⟩ := rep_lad z hB hu n
    have e2 : mulP (nnZ z n + 1) B = add (mulP (nnZ z n) B) B := rfl
    rw [ladZ, nnZ]
    generalize ladZ u z n = s at h1 h2 ⊢
    generalize nnZ z n = k at h1 h2 e2 ⊢
    obtain ⟨a, b, c, d⟩ := s
    by_cases hb : bitZ z (254 - n) = 1
    · rw [if_pos hb, hb]
      have hd : Eqv (add (mulP k B) (neg (mulP (k + 1) B))).y B.y := by
        refine (sub_symm _ _).trans (Eqv.of_eq ?_)
        rw [e2, add_sub]
      obtain ⟨r1, r2⟩ := rep_mid h2 h1 hB hu hd
      rw [show 2 * k + 1 + 1 = (k + 1) + (k + 1) by omega, show 2 * k + 1 = (k + 1) + k by omega, mulP_add (k + 1) B k, mulP_add (k + 1) B (k + 1)]
      unfold rndZ swZ
      rw [if_pos rfl, if_pos rfl]
      exact ⟨r2, r1⟩
    · rw [if_neg hb]
      have hd : Eqv (add (mulP (k + 1) B) (neg (mulP k B))).y B.y := by rw [e2, add_sub]; exact Eqv.refl _
      obtain ⟨r1, r2⟩ := rep_mid h1 h2 hB hu hd
      rw [show 2 * k + 0 + 1 = k + (k + 1) by omega, show 2 * k + 0 = k + k by omega, mulP_add k B (k + 1), mulP_add k B k]
      unfold rndZ swZ
      rw [if_neg hb, if_neg hb]
      exact ⟨r1, r2⟩
/-- A point's number as the ladder has it; nought where there is none. -/
def uu (p : Pt) : Int := (1 + p.y) * iv (1 - p.y)
theorem iv_zero {z : Int} (h : Eqv z 0) : Eqv (iv z) 0 := by
  have h1 := (inv_pow z 254).trans (h.pow (expE 254))
  refine h1.trans (Eqv.of_eq ?_)
  exact Int.zero_pow (by have := expE_last; have : Pn - 1 = 57896044618658097711785492504343953926634992332820282019728792003956564819948 := rfl; omega)
theorem rep_uu {p : Pt} {X Z : Int} (h : Rep p X Z) : Eqv (X * iv Z) (uu p) := by
  obtain ⟨l, hl, h1, h2⟩ := h
  unfold uu
  by_cases h0 : Eqv (1 - p.y) 0
  · have hz : Eqv Z 0 := h2.trans (mul_zero_r h0)
    exact (mul_zero_r (iv_zero hz)).trans (mul_zero_r (iv_zero h0)).symm
  · have hz : ¬ Eqv Z 0 := fun h => mul_ne hl h0 (h2.symm.trans h)
    refine cancel hz ?_
    refine (Eqv.of_eq (show Z * (X * iv Z) = X * (Z * iv Z) by grind)).trans ?_
    refine (((Eqv.refl X).mul (iv_mul hz)).trans (Eqv.of_eq (Int.mul_one X))).trans ?_
    refine h1.trans (Eqv.symm ?_)
    refine (h2.mul (Eqv.refl _)).trans ?_
    refine (Eqv.of_eq (show l * (1 - p.y) * ((1 + p.y) * iv (1 - p.y)) = l * (1 + p.y) * ((1 - p.y) * iv (1 - p.y)) by grind)).trans ?_
    exact ((Eqv.refl _).mul (iv_mul h0)).trans (Eqv.of_eq (Int.mul_one _))
theorem uu_zero {p : Pt} (h : Eqv (uu p) 0) : Eqv p.x 0 := by
  have h1 : Eqv ((1 + p.y) * (1 - p.y)) 0 := by
    rcases zero_of_mul h with h2 | h2
    · exact mul_zero_l h2
    · by_cases h0 : Eqv (1 - p.y) 0
      · exact mul_zero_r h0
      · exact absurd ((iv_mul h0).symm.trans (mul_zero_r h2)) one_ne
  have hon := p.on
  have h3 : Eqv (4 * (p.x * p.x)) 0 := by
    generalize p.x = x at *
    generalize p.y = y at *
    simp only [cA, cD] at hon
    refine lin2 1 (1 - 486660 * x * x) hon h1 ?_
    grind
  rcases zero_of_mul h3 with h4 | h4
  · exact absurd (half (half h4 : Eqv (2 * 1) 0)) one_ne
  · exact sq_zero h4
theorem zero_uu {p : Pt} (h : Eqv p.x 0) : Eqv (uu p) 0 := by
  have hon := p.on
  have h1 : Eqv ((1 + p.y) * (1 - p.y)) 0 := by
    refine lin2 (-1) (cA * p.x - cD * p.x * p.y * p.y) hon h ?_
    grind
  unfold uu
  rcases zero_of_mul h1 with h2 | h2
  · exact mul_zero_l h2
  · exact mul_zero_r (iv_zero h2)
theorem mulP_low {B : Pt} (h : Eqv B.x 0) : ∀ n, Eqv (mulP n B).x 0
  | 0 => Eqv.refl 0
  | n + 1 => by
    have ih := mulP_low h n
    show Eqv (addX (mulP n B) B) 0
    refine cancel (den1 (mulP n B) B) ?_
    refine (Eqv.of_eq (Int.mul_comm _ _)).trans ((addX_eq _ _).trans ?_)
    refine ((ih.mul (Eqv.refl B.y)).add (h.mul (Eqv.refl _))).trans (Eqv.of_eq ?_)
    omega
/-- What a scalar makes of a point. -/
def scal (s : List Int) : Nat := nnZ (clampF s) 255
theorem curve_pt (s : List Int) (B : Pt) : curveZ s (uu B) = outF (uu (mulP (scal s) B)) := by
  by_cases h0 : Eqv (uu B) 0
  · rw [low_zero s _ h0, outF_congr (zero_uu (mulP_low (uu_zero h0) (scal s)))]
    decide +kernel
  · have h1 : ¬ Eqv (1 - B.y) 0 := fun h => h0 (mul_zero_r (iv_zero h))
    have hB : Rep B (uu B) 1 := by
      refine rep_of B _ _ ?_ (fun h => one_ne h.2)
      unfold uu
      refine (Eqv.of_eq (show (1 + B.y) * iv (1 - B.y) * (1 - B.y) = (1 - B.y) * iv (1 - B.y) * (1 + B.y) by grind)).trans ?_
      exact (iv_mul h1).mul (Eqv.refl _)
    exact outF_congr (rep_uu (rep_lad (clampF s) hB h0 255).1)
/-- The point's number, out of its bytes. -/
theorem unp_out (v : Int) : Eqv (val (unpF (outF v))) v := by
  have hP : (0 : Int) < P := by decide
  have h1 := Int.emod_lt_of_pos v hP
  have h2 := Int.emod_nonneg v (b := P) (by decide)
  refine Eqv.trans ?_ (eqv_mod v)
  unfold outF
  generalize v % P = x at h1 h2 ⊢
  have key : ∀ a0 a1 a2 a3 a4 a5 a6 a7 a8 a9 b0 b1 b2 b3 b4 b5 : Int, (0 ≤ a0 ∧ a0 < 65536) → (0 ≤ a1 ∧ a1 < 65536) → (0 ≤ a2 ∧ a2 < 65536) → (0 ≤ a3 ∧ a3 < 65536) → (0 ≤ a4 ∧ a4 < 65536) → (0 ≤ a5 ∧ a5 < 65536) → (0 ≤ a6 ∧ a6 < 65536) → (0 ≤ a7 ∧ a7 < 65536) → (0 ≤ a8 ∧ a8 < 65536) → (0 ≤ a9 ∧ a9 < 65536) → (0 ≤ b0 ∧ b0 < 65536) → (0 ≤ b1 ∧ b1 < 65536) → (0 ≤ b2 ∧ b2 < 65536) → (0 ≤ b3 ∧ b3 < 65536) → (0 ≤ b4 ∧ b4 < 65536) → (0 ≤ b5 ∧ b5 < 32768) →
      unpF (bytesL [a0, a1, a2, a3, a4, a5, a6, a7, a8, a9, b0, b1, b2, b3, b4, b5]) = [a0, a1, a2, a3, a4, a5, a6, a7, a8, a9, b0, b1, b2, b3, b4, b5] := by
    intros
    have w : ∀ a : Int, 0 ≤ a ∧ a < 65536 → a % 256 + 256 * (a / 256 % 256) = a := fun a h => by omega
    have w2 : ∀ a : Int, 0 ≤ a ∧ a < 32768 → (a % 256 + 256 * (a / 256 % 256)) % 32768 = a := fun a h => by omega
    simp only [unpF, bytesL, unpE, List.range, List.range.loop, List.map, List.getD_cons_zero, List.getD_cons_succ, List.set_cons_zero, List.set_cons_succ, Nat.mul_zero, Nat.mul_one, Nat.reduceMul, Nat.reduceAdd, Nat.zero_add]
    rw [w _ (by assumption), w _ (by assumption), w _ (by assumption), w _ (by assumption), w _ (by assumption), w _ (by assumption), w _ (by assumption), w _ (by assumption), w _ (by assumption), w _ (by assumption), w _ (by assumption), w _ (by assumption), w _ (by assumption), w _ (by assumption), w _ (by assumption), w2 _ (by assumption)]
  have hd : ∀ y : Int, 0 ≤ y → (0 ≤ y % 65536 ∧ y % 65536 < 65536) ∧ 0 ≤ y / 65536 := fun y h => by omega
  simp only [dig]
  have q0 := hd x h2
  have q1 := hd _ q0.2
  have q2 := hd _ q1.2
  have q3 := hd _ q2.2
  have q4 := hd _ q3.2
  have q5 := hd _ q4.2
  have q6 := hd _ q5.2
  have q7 := hd _ q6.2
  have q8 := hd _ q7.2
  have q9 := hd _ q8.2
  have r0 := hd _ q9.2
  have r1 := hd _ r0.2
  have r2 := hd _ r1.2
  have r3 := hd _ r2.2
  have r4 := hd _ r3.2
  have hs1 : ∀ y : Int, y < 883423532389192164791648750371459257913741948437809479060803100646309888 → y / 65536 < 13479973333575319897333507543509815336818572211270286240551805124608 := fun y h => by omega
  have hs2 : ∀ y : Int, y < 13479973333575319897333507543509815336818572211270286240551805124608 → y / 65536 < 205688069665150755269371147819668813122841983204197482918576128 := fun y h => by omega
  have hs3 : ∀ y : Int, y < 205688069665150755269371147819668813122841983204197482918576128 → y / 65536 < 3138550867693340381917894711603833208051177722232017256448 := fun y h => by omega
  have hs4 : ∀ y : Int, y < 3138550867693340381917894711603833208051177722232017256448 → y / 65536 < 47890485652059026823698344598447161988085597568237568 := fun y h => by omega
  have hs5 : ∀ y : Int, y < 47890485652059026823698344598447161988085597568237568 → y / 65536 < 730750818665451459101842416358141509827966271488 := fun y h => by omega
  have hs6 : ∀ y : Int, y < 730750818665451459101842416358141509827966271488 → y / 65536 < 11150372599265311570767859136324180752990208 := fun y h => by omega
  have hs7 : ∀ y : Int, y < 11150372599265311570767859136324180752990208 → y / 65536 < 170141183460469231731687303715884105728 := fun y h => by omega
  have hs8 : ∀ y : Int, y < 170141183460469231731687303715884105728 → y / 65536 < 2596148429267413814265248164610048 := fun y h => by omega
  have hs9 : ∀ y : Int, y < 2596148429267413814265248164610048 → y / 65536 < 39614081257132168796771975168 := fun y h => by omega
  have hs10 : ∀ y : Int, y < 39614081257132168796771975168 → y / 65536 < 604462909807314587353088 := fun y h => by omega
  have hs11 : ∀ y : Int, y < 604462909807314587353088 → y / 65536 < 9223372036854775808 := fun y h => by omega
  have hs12 : ∀ y : Int, y < 9223372036854775808 → y / 65536 < 140737488355328 := fun y h => by omega
  have hs13 : ∀ y : Int, y < 140737488355328 → y / 65536 < 2147483648 := fun y h => by omega
  have hs14 : ∀ y : Int, y < 2147483648 → y / 65536 < 32768 := fun y h => by omega
  have t0 : x < 57896044618658097711785492504343953926634992332820282019728792003956564819968 := by
    have : P = 57896044618658097711785492504343953926634992332820282019728792003956564819949 := rfl
    omega
  have t1 : x / 65536 < 883423532389192164791648750371459257913741948437809479060803100646309888 := by omega
  have t2 := hs1 _ t1
  have t3 := hs2 _ t2
  have t4 := hs3 _ t3
  have t5 := hs4 _ t4
  have t6 := hs5 _ t5
  have t7 := hs6 _ t6
  have t8 := hs7 _ t7
  have t9 := hs8 _ t8
  have t10 := hs9 _ t9
  have t11 := hs10 _ t10
  have t12 := hs11 _ t11
  have t13 := hs12 _ t12
  have t14 := hs13 _ t13
  have t15 := hs14 _ t14
  have e15 : ∀ y : Int, 0 ≤ y → y < 32768 → y % 65536 = y := fun y h1 h2 => by omega
  rw [e15 _ r4.2 t15, key _ _ _ _ _ _ _ _ _ _ _ _ _ _ _ _ q0.1 q1.1 q2.1 q3.1 q4.1 q5.1 q6.1 q7.1 q8.1 q9.1 r0.1 r1.1 r2.1 r3.1 r4.1 ⟨r4.2, t15⟩]
  refine Eqv.of_eq ?_
  simp only [val]
  have dm : ∀ y : Int, y % 65536 + 65536 * (y / 65536) = y := fun y => by omega
  simp only [Int.mul_zero, Int.add_zero, dm]
end Go.Proofs.Ytlpoolcdoecodaa.Cv
