/-
  X25519 without a program: the points 0, 1 and -1 come to noughts.
-/
import Derived.Test.YtlpoolcdoecodaaCvV
namespace Go.Proofs.Ytlpoolcdoecodaa.Cv
set_option linter.unusedVariables false
/-- One round, without the reductions. -/
theorem mid_poly (y a b c d : Int) : Eqv (midZ y (a, b, c, d)).1 ((a * a - c * c) * (a * a - c * c)) ∧ Eqv (midZ y (a, b, c, d)).2.1 (4 * ((a * b - c * d) * (a * b - c * d))) ∧
    Eqv (midZ y (a, b, c, d)).2.2.1 (4 * (a * c) * (4 * (a * c) * 121665 + (a + c) * (a + c))) ∧ Eqv (midZ y (a, b, c, d)).2.2.2 (4 * ((a * d - b * c) * (a * d - b * c)) * y) := by
  rw [midZ_def]
  have d1 : Eqv ((a + c) * (a + c) % P) ((a + c) * (a + c)) := eqv_mod _
  have f1 : Eqv ((a - c) * (a - c) % P) ((a - c) * (a - c)) := eqv_mod _
  have a2 : Eqv ((b + d) * (a - c) % P) ((b + d) * (a - c)) := eqv_mod _
  have c2 : Eqv ((b - d) * (a + c) % P) ((b - d) * (a + c)) := eqv_mod _
  refine ⟨?_, ?_, ?_, ?_⟩
  · refine (eqv_mod _).trans ((d1.mul f1).trans (Eqv.of_eq ?_))
    grind
  · refine (eqv_mod _).trans (((a2.add c2).mul (a2.add c2)).trans (Eqv.of_eq ?_))
    grind
  · refine (eqv_mod _).trans (((d1.sub f1).mul (((d1.sub f1).mul (Eqv.refl 121665)).add d1)).trans (Eqv.of_eq ?_))
    grind
  · refine (eqv_mod _).trans ((((eqv_mod _).trans ((a2.sub c2).mul (a2.sub c2))).mul (Eqv.refl y)).trans (Eqv.of_eq ?_))
    grind
/-- Nought, the point itself, and twice the point, where the point's number is 1 or -1. -/
def PO (s : Int × Int) : Prop := Eqv s.2 0
def PP (y : Int) (s : Int × Int) : Prop := Eqv s.1 (y * s.2)
def PT (s : Int × Int) : Prop := Eqv s.1 0
theorem dbl_O (y a b c d : Int) (h : PO (a, c)) : PO ((midZ y (a, b, c, d)).1, (midZ y (a, b, c, d)).2.2.1) := by
  have h' : Eqv c 0 := h
  exact (mid_poly y a b c d).2.2.1.trans ((((Eqv.refl (4 : Int)).mul ((Eqv.refl a).mul h')).mul (Eqv.refl _)).trans (Eqv.of_eq (by grind)))
theorem dbl_T (y a b c d : Int) (h : PT (a, c)) : PO ((midZ y (a, b, c, d)).1, (midZ y (a, b, c, d)).2.2.1) := by
  have h' : Eqv a 0 := h
  exact (mid_poly y a b c d).2.2.1.trans ((((Eqv.refl (4 : Int)).mul (h'.mul (Eqv.refl c))).mul (Eqv.refl _)).trans (Eqv.of_eq (by grind)))
theorem dbl_P (y a b c d : Int) (hy : Eqv (y * y) 1) (h : PP y (a, c)) : PT ((midZ y (a, b, c, d)).1, (midZ y (a, b, c, d)).2.2.1) := by
  have h' : Eqv a (y * c) := h
  have h2 : Eqv (a * a - c * c) 0 := by
    refine ((h'.mul h').sub (Eqv.refl (c * c))).trans ?_
    refine (Eqv.of_eq (show y * c * (y * c) - c * c = y * y * (c * c) - c * c by grind)).trans ?_
    exact ((hy.mul (Eqv.refl (c * c))).sub (Eqv.refl (c * c))).trans (Eqv.of_eq (by grind))
  exact (mid_poly y a b c d).1.trans ((h2.mul h2).trans (Eqv.of_eq (by grind)))
/-- The sum is the point again where one is the point, and the other one nought or twice the point. -/
theorem add_of (y a b c d : Int) (hy : Eqv (y * y) 1) (h : Eqv ((a * b - c * d) * (a * b - c * d)) ((a * d - b * c) * (a * d - b * c))) : PP y ((midZ y (a, b, c, d)).2.1, (midZ y (a, b, c, d)).2.2.2) := by
  obtain ⟨_, h1, _, h2⟩ := mid_poly y a b c d
  refine h1.trans (((Eqv.refl (4 : Int)).mul h).trans ?_)
  refine Eqv.trans ?_ ((Eqv.refl y).mul h2).symm
  refine Eqv.trans ?_ (Eqv.of_eq (show y * y * (4 * ((a * d - b * c) * (a * d - b * c))) = y * (4 * ((a * d - b * c) * (a * d - b * c)) * y) by grind))
  exact Eqv.trans (Eqv.of_eq (by grind)) (hy.mul (Eqv.refl (4 * ((a * d - b * c) * (a * d - b * c))))).symm
theorem add_OP (y a b c d : Int) (hy : Eqv (y * y) 1) (h1 : PO (a, c)) (h2 : PP y (b, d)) : PP y ((midZ y (a, b, c, d)).2.1, (midZ y (a, b, c, d)).2.2.2) := by
  have e1 : Eqv c 0 := h1
  have e2 : Eqv b (y * d) := h2
  refine add_of y a b c d hy ?_
  have l : Eqv (a * b - c * d) (a * (y * d)) := (((Eqv.refl a).mul e2).sub (e1.mul (Eqv.refl d))).trans (Eqv.of_eq (by grind))
  have r : Eqv (a * d - b * c) (a * d) := (((Eqv.refl (a * d))).sub ((Eqv.refl b).mul e1)).trans (Eqv.of_eq (by grind))
  refine (l.mul l).trans (Eqv.trans ?_ (r.mul r).symm)
  refine (Eqv.of_eq (show a * (y * d) * (a * (y * d)) = y * y * (a * d * (a * d)) by grind)).trans ?_
  exact (hy.mul (Eqv.refl (a * d * (a * d)))).trans (Eqv.of_eq (by grind))
theorem add_TP (y a b c d : Int) (hy : Eqv (y * y) 1) (h1 : PT (a, c)) (h2 : PP y (b, d)) : PP y ((midZ y (a, b, c, d)).2.1, (midZ y (a, b, c, d)).2.2.2) := by
  have e1 : Eqv a 0 := h1
  have e2 : Eqv b (y * d) := h2
  refine add_of y a b c d hy ?_
  have l : Eqv (a * b - c * d) (-(c * d)) := ((e1.mul (Eqv.refl b)).sub (Eqv.refl (c * d))).trans (Eqv.of_eq (by grind))
  have r : Eqv (a * d - b * c) (-(y * d * c)) := ((e1.mul (Eqv.refl d)).sub (e2.mul (Eqv.refl c))).trans (Eqv.of_eq (by grind))
  refine (l.mul l).trans (Eqv.trans ?_ (r.mul r).symm)
  refine Eqv.trans ?_ (Eqv.of_eq (show y * y * (c * d * (c * d)) = -(y * d * c) * -(y * d * c) by grind))
  exact Eqv.trans (Eqv.of_eq (by grind)) (hy.mul (Eqv.refl (c * d * (c * d)))).symm
theorem add_PO (y a b c d : Int) (hy : Eqv (y * y) 1) (h1 : PP y (a, c)) (h2 : PO (b, d)) : PP y ((midZ y (a, b, c, d)).2.1, (midZ y (a, b, c, d)).2.2.2) := by
  have e1 : Eqv a (y * c) := h1
  have e2 : Eqv d 0 := h2
  refine add_of y a b c d hy ?_
  have l : Eqv (a * b - c * d) (y * c * b) := ((e1.mul (Eqv.refl b)).sub ((Eqv.refl c).mul e2)).trans (Eqv.of_eq (by grind))
  have r : Eqv (a * d - b * c) (-(b * c)) := (((Eqv.refl a).mul e2).sub (Eqv.refl (b * c))).trans (Eqv.of_eq (by grind))
  refine (l.mul l).trans (Eqv.trans ?_ (r.mul r).symm)
  refine (Eqv.of_eq (show y * c * b * (y * c * b) = y * y * (b * c * (b * c)) by grind)).trans ?_
  exact (hy.mul (Eqv.refl (b * c * (b * c)))).trans (Eqv.of_eq (by grind))
theorem add_PT (y a b c d : Int) (hy : Eqv (y * y) 1) (h1 : PP y (a, c)) (h2 : PT (b, d)) : PP y ((midZ y (a, b, c, d)).2.1, (midZ y (a, b, c, d)).2.2.2) := by
  have e1 : Eqv a (y * c) := h1
  have e2 : Eqv b 0 := h2
  refine add_of y a b c d hy ?_
  have l : Eqv (a * b - c * d) (-(c * d)) := (((Eqv.refl a).mul e2).sub (Eqv.refl (c * d))).trans (Eqv.of_eq (by grind))
  have r : Eqv (a * d - b * c) (y * c * d) := ((e1.mul (Eqv.refl d)).sub (e2.mul (Eqv.refl c))).trans (Eqv.of_eq (by grind))
  refine (l.mul l).trans (Eqv.trans ?_ (r.mul r).symm)
  refine Eqv.trans ?_ (Eqv.of_eq (show y * y * (c * d * (c * d)) = y * c * d * (y * c * d) by grind))
  exact Eqv.trans (Eqv.of_eq (by grind)) (hy.mul (Eqv.refl (c * d * (c * d)))).symm
/-- Where the ladder may stand. -/
def At (y : Int) (s : Sz) : Prop :=
  (PO (s.1, s.2.2.1) ∧ PP y (s.2.1, s.2.2.2)) ∨ (PP y (s.1, s.2.2.1) ∧ PT (s.2.1, s.2.2.2)) ∨ (PT (s.1, s.2.2.1) ∧ PP y (s.2.1, s.2.2.2)) ∨ (PP y (s.1, s.2.2.1) ∧ PO (s.2.1, s.2.2.2))
def At1 (y : Int) (s : Sz) : Prop := (PO (s.1, s.2.2.1) ∧ PP y (s.2.1, s.2.2.2)) ∨ (PT (s.1, s.2.2.1) ∧ PP y (s.2.1, s.2.2.2))
theorem at_mid (y : Int) (hy : Eqv (y * y) 1) (s : Sz) (h : At y s) : At1 y (midZ y s) := by
  obtain ⟨a, b, c, d⟩ := s
  rcases h with ⟨h1, h2⟩ | ⟨h1, h2⟩ | ⟨h1, h2⟩ | ⟨h1, h2⟩
  · exact .inl ⟨dbl_O y a b c d h1, add_OP y a b c d hy h1 h2⟩
  · exact .inr ⟨dbl_P y a b c d hy h1, add_PT y a b c d hy h1 h2⟩
  · exact .inl ⟨dbl_T y a b c d h1, add_TP y a b c d hy h1 h2⟩
  · exact .inr ⟨dbl_P y a b c d hy h1, add_PO y a b c d hy h1 h2⟩
theorem at_swap (y : Int) (s : Sz) (h : At y s) : At y (s.2.1, s.1, s.2.2.2, s.2.2.1) := by
  rcases h with ⟨h1, h2⟩ | ⟨h1, h2⟩ | ⟨h1, h2⟩ | ⟨h1, h2⟩
  · exact .inr (.inr (.inr ⟨h2, h1⟩))
  · exact .inr (.inr (.inl ⟨h2, h1⟩))
  · exact .inr (.inl ⟨h2, h1⟩)
  · exact .inl ⟨h2, h1⟩
theorem at_of_at1 (y : Int) (s : Sz) (h : At1 y s) : At y s := by
  rcases h with h | h
  · exact .inl h
  · exact .inr (.inr (.inl h))
theorem at_rnd (y so : Int) (hy : Eqv (y * y) 1) (s : Sz) (h : At y s) : At y (rndZ y so s) := by
  unfold rndZ swZ
  split
  · exact at_swap y _ (at_of_at1 y _ (at_mid y hy _ (at_swap y s h)))
  · exact at_of_at1 y _ (at_mid y hy _ h)
theorem at_rnd0 (y : Int) (hy : Eqv (y * y) 1) (s : Sz) (h : At y s) : At1 y (rndZ y 0 s) := by
  unfold rndZ swZ
  rw [if_neg (by decide), if_neg (by decide)]
  exact at_mid y hy _ h
theorem at_rnd00 (y : Int) (hy : Eqv (y * y) 1) (s : Sz) (h : At1 y s) : Eqv (rndZ y 0 s).2.2.1 0 := by
  unfold rndZ swZ
  rw [if_neg (by decide), if_neg (by decide)]
  obtain ⟨a, b, c, d⟩ := s
  rcases h with ⟨h1, h2⟩ | ⟨h1, h2⟩
  · exact dbl_O y a b c d h1
  · exact dbl_T y a b c d h1
theorem at_lad (y : Int) (z : List Int) (hy : Eqv (y * y) 1) : ∀ n, At y (ladZ y z n)
  | 0 => .inl ⟨Eqv.refl 0, Eqv.of_eq (by simp [ladZ])⟩
  | n + 1 => at_rnd y _ hy _ (at_lad y z hy n)
/-- The point is 0: both are nought from the first round on. -/
theorem zero_rnd (y so : Int) (hy : Eqv y 0) (s : Sz) (h : (Eqv s.2.2.1 0 ∧ Eqv s.2.2.2 0) ∨ (Eqv s.2.2.1 0 ∧ Eqv s.2.1 0)) : Eqv (rndZ y so s).2.2.1 0 ∧ Eqv (rndZ y so s).2.2.2 0 := by
  have key : ∀ a b c d : Int, (Eqv c 0 ∨ Eqv a 0) → Eqv (midZ y (a, b, c, d)).2.2.1 0 ∧ Eqv (midZ y (a, b, c, d)).2.2.2 0 := by
    intro a b c d h
    refine ⟨?_, (mid_poly y a b c d).2.2.2.trans (((Eqv.refl _).mul hy).trans (Eqv.of_eq (by grind)))⟩
    rcases h with h | h
    · exact dbl_O y a b c d h
    · exact dbl_T y a b c d h
  obtain ⟨a, b, c, d⟩ := s
  unfold rndZ swZ
  split
  · rcases h with ⟨h1, h2⟩ | ⟨h1, h2⟩
    · have := key b a d c (.inl h2); exact ⟨this.2, this.1⟩
    · have := key b a d c (.inr h2); exact ⟨this.2, this.1⟩
  · rcases h with ⟨h1, h2⟩ | ⟨h1, h2⟩
    · exact key a b c d (.inl h1)
    · exact key a b c d (.inl h1)
theorem zero_lad (y : Int) (z : List Int) (hy : Eqv y 0) : ∀ n, Eqv (ladZ y z (n + 1)).2.2.1 0 ∧ Eqv (ladZ y z (n + 1)).2.2.2 0
  | 0 => zero_rnd y _ hy _ (.inr ⟨Eqv.refl 0, hy⟩)
  | n + 1 => zero_rnd y _ hy _ (.inl (zero_lad y z hy n))
theorem inv_zero (z : Int) (h : Eqv z 0) : ∀ n, Eqv (invZ z n) 0
  | 0 => h
  | n + 1 => by
    have ih := inv_zero z h n
    have h2 : Eqv (invZ z n * invZ z n % P) 0 := (eqv_mod _).trans ((ih.mul ih).trans (Eqv.of_eq (by decide)))
    rw [invZ]
    split
    · exact h2
    · exact (eqv_mod _).trans ((h2.mul h).trans (Eqv.of_eq (by decide)))
def noneL : List Int := List.replicate 32 0
theorem out_zero (v : Int) (h : Eqv v 0) : outF v = noneL := by
  rw [outF_congr h]
  decide +kernel
theorem curveZ_zero (s : List Int) (y : Int) (h : Eqv (ladZ y (clampF s) 255).2.2.1 0) : curveZ s y = noneL := by
  unfold curveZ
  exact out_zero _ (((Eqv.refl _).mul (inv_zero _ h 254)).trans (Eqv.of_eq (by grind)))
theorem low_zero (s : List Int) (y : Int) (hy : Eqv y 0) : curveZ s y = noneL := curveZ_zero s y (zero_lad y _ hy 254).1
theorem bit_low (s : List Int) (hs : s.length = 32) (hb : 0 ≤ s.getD 0 0) (i : Nat) (hi : i < 3) : bitZ (clampF s) i = 0 := by
  unfold bitZ clampF
  rw [show i / 8 = 0 by omega, getD_set _ _ _ _ (by rw [List.length_set, hs]; decide), if_pos rfl]
  have : i = 0 ∨ i = 1 ∨ i = 2 := by omega
  rcases this with rfl | rfl | rfl
  · simp only [Nat.reduceMod, Int.pow_zero]; omega
  · simp only [Nat.reduceMod, Int.reducePow]; omega
  · simp only [Nat.reduceMod, Int.reducePow]; omega
theorem low_one (s : List Int) (y : Int) (hs : s.length = 32) (hb : 0 ≤ s.getD 0 0) (hy : Eqv (y * y) 1) : curveZ s y = noneL := by
  refine curveZ_zero s y ?_
  have b0 := bit_low s hs hb 0 (by decide)
  have b1 := bit_low s hs hb 1 (by decide)
  show Eqv (rndZ y (bitZ (clampF s) (254 - 254)) (rndZ y (bitZ (clampF s) (254 - 253)) (ladZ y (clampF s) 253))).2.2.1 0
  rw [show 254 - 254 = 0 from rfl, show 254 - 253 = 1 from rfl, b0, b1]
  exact at_rnd00 y hy _ (at_rnd0 y hy _ (at_lad y (clampF s) hy 253))
end Go.Proofs.Ytlpoolcdoecodaa.Cv
