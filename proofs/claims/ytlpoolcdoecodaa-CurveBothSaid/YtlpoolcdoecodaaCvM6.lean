/-
  The ladder climbs the multiples of a point: so what two scalars make of a point, one behind the other, hangs on no order.
-/
import Derived.Test.YtlpoolcdoecodaaCvM5

namespace Go.Proofs.Ytlpoolcdoecodaa.Cv
open Go.Proofs.Ytlpoolcdoecodaa.Pq
set_option linter.unusedVariables false
set_option maxRecDepth 100000
def zeroP : Pt := ⟨0, 1, by decide, by decide, Eqv.of_eq (by decide)⟩
theorem iv_one : Eqv (iv 1) 1 := by
  have h := iv_mul one_ne
  rwa [Int.one_mul] at h
theorem add_zero (p : Pt) : add p zeroP = p := by
  refine Pt.ext' ?_ ?_
  · show Eqv (addX p zeroP) p.x
    have h := addX_eq p zeroP
    simpa [zeroP] using h
  · show Eqv (addY p zeroP) p.y
    have h := addY_eq p zeroP
    simpa [zeroP] using h
theorem zero_add (p : Pt) : add zeroP p = p := by rw [add_comm, add_zero]
def neg (p : Pt) : Pt := ⟨-p.x % P, p.y, Int.emod_emod_of_dvd _ (Int.dvd_refl _), p.hy, by
  have h : Eqv (-p.x % P) (-p.x) := eqv_mod _
  refine Eqv.trans ?_ p.on
  refine Eqv.trans (Eqv.sub (Eqv.sub (Eqv.add (Eqv.mul (Eqv.mul (Eqv.refl _) h) h) (Eqv.refl _)) (Eqv.refl _)) (Eqv.mul (Eqv.mul (Eqv.mul (Eqv.mul (Eqv.refl _) h) h) (Eqv.refl _)) (Eqv.refl _))) (Eqv.of_eq (by grind))⟩
theorem neg_x (p : Pt) : Eqv (neg p).x (-p.x) := eqv_mod _
theorem neg_y (p : Pt) : (neg p).y = p.y := rfl
theorem add_neg (p : Pt) : add p (neg p) = zeroP := by
  have hn := neg_x p
  refine Pt.ext' ?_ ?_
  · show Eqv (addX p (neg p)) 0
    have h := addX_eq p (neg p)
    refine cancel (den1 p (neg p)) ?_
    refine (Eqv.of_eq (Int.mul_comm _ _)).trans (h.trans ?_)
    rw [neg_y]
    exact ((Eqv.refl (p.x * p.y)).add (hn.mul (Eqv.refl p.y))).trans (Eqv.of_eq (by grind))
  · show Eqv (addY p (neg p)) 1
    have h := addY_eq p (neg p)
    refine cancel (den2 p (neg p)) ?_
    refine (Eqv.of_eq (Int.mul_comm _ _)).trans (h.trans ?_)
    rw [neg_y]
    have h1 : Eqv (p.y * p.y - cA * p.x * (neg p).x) (p.y * p.y + cA * p.x * p.x) := ((Eqv.refl _).sub ((Eqv.refl _).mul hn)).trans (Eqv.of_eq (by grind))
    have h2 : Eqv ((1 - cD * p.x * (neg p).x * p.y * p.y) * 1) (1 + cD * p.x * p.x * p.y * p.y) := (((Eqv.refl 1).sub ((((Eqv.refl _).mul hn).mul (Eqv.refl _)).mul (Eqv.refl _))).mul (Eqv.refl 1)).trans (Eqv.of_eq (by grind))
    refine h1.trans (Eqv.trans ?_ h2.symm)
    exact Eqv.ofz ((Eqv.of_eq (by grind)).trans p.on)
def mulP : Nat → Pt → Pt
  | 0, _ => zeroP
  | n + 1, p => add (mulP n p) p
theorem mulP_add (m : Nat) (p : Pt) : ∀ n, mulP (m + n) p = add (mulP m p) (mulP n p)
  | 0 => by rw [mulP, add_zero]; rfl
  | n + 1 => by
    show add (mulP (m + n) p) p = add (mulP m p) (add (mulP n p) p)
    rw [mulP_add m p n, assoc]
theorem mulP_mul (n : Nat) (p : Pt) : ∀ m, mulP m (mulP n p) = mulP (m * n) p
  | 0 => by rw [Nat.zero_mul]; rfl
  | m + 1 => by
    rw [mulP, mulP_mul n p m, Nat.add_mul, Nat.one_mul, mulP_add]
theorem mulP_comm (m n : Nat) (p : Pt) : mulP m (mulP n p) = mulP n (mulP m p) := by
  rw [mulP_mul, mulP_mul, Nat.mul_comm]
/-- A point in two numbers, of which one counts over the other. -/
def Rep (p : Pt) (X Z : Int) : Prop := ∃ l, ¬ Eqv l 0 ∧ Eqv X (l * (1 + p.y)) ∧ Eqv Z (l * (1 - p.y))
theorem two_ne : ¬ Eqv 2 0 := fun h => by have := h.mod; revert this; decide
theorem half {a : Int} (h : Eqv (2 * a) 0) : Eqv a 0 := by
  rcases zero_of_mul h with h1 | h1
  · exact absurd h1 two_ne
  · exact h1
theorem rep_of (p : Pt) (X Z : Int) (h : Eqv (X * (1 - p.y)) (Z * (1 + p.y))) (hn : ¬ (Eqv X 0 ∧ Eqv Z 0)) : Rep p X Z := by
  have h2 : Eqv (2 * iv 2) 1 := iv_mul two_ne
  have hz := h.zero
  refine ⟨iv 2 * (X + Z), ?_, ?_, ?_⟩
  · intro h0
    refine hn ?_
    have h3 : Eqv (X + Z) 0 := by
      refine (Eqv.of_eq (show X + Z = 1 * (X + Z) by omega)).trans ((h2.symm.mul (Eqv.refl (X + Z))).trans ?_)
      refine (Eqv.of_eq (show 2 * iv 2 * (X + Z) = 2 * (iv 2 * (X + Z)) by grind)).trans ?_
      exact mul_zero_r h0
    constructor
    · exact half (lin2 1 (1 + p.y) hz h3 (by grind))
    · exact half (lin2 (-1) (1 - p.y) hz h3 (by grind))
  · refine cancel two_ne ?_
    refine Eqv.trans ?_ (Eqv.of_eq (show 2 * iv 2 * ((X + Z) * (1 + p.y)) = 2 * (iv 2 * (X + Z) * (1 + p.y)) by grind))
    refine Eqv.trans ?_ (h2.symm.mul (Eqv.refl ((X + Z) * (1 + p.y))))
    refine Eqv.ofz (lin2 1 0 hz hz ?_)
    grind
  · refine cancel two_ne ?_
    refine Eqv.trans ?_ (Eqv.of_eq (show 2 * iv 2 * ((X + Z) * (1 - p.y)) = 2 * (iv 2 * (X + Z) * (1 - p.y)) by grind))
    refine Eqv.trans ?_ (h2.symm.mul (Eqv.refl ((X + Z) * (1 - p.y))))
    refine Eqv.ofz (lin2 (-1) 0 hz hz ?_)
    grind
theorem Rep.congr {p : Pt} {X Z X' Z' : Int} (h : Rep p X Z) (hx : Eqv X' X) (hz : Eqv Z' Z) : Rep p X' Z' := by
  obtain ⟨l, hl, h1, h2⟩ := h
  exact ⟨l, hl, hx.trans h1, hz.trans h2⟩
/-- Twice a point. -/
theorem rep_dbl {p : Pt} {a c : Int} (h : Rep p a c) : Rep (add p p) ((a * a - c * c) * (a * a - c * c)) (4 * (a * c) * (4 * (a * c) * 121665 + (a + c) * (a + c))) := by
  obtain ⟨l, hl, ha, hc⟩ := h
  have hS := addY_eq p p
  have hD := den2 p p
  have hon := p.on
  change ¬ Eqv (1 - cD * p.x * p.x * p.y * p.y) 0 at hD
  have e1 : Eqv (a * a - c * c) (4 * (l * l) * p.y) := ((ha.mul ha).sub (hc.mul hc)).trans (Eqv.of_eq (by grind))
  have e2 : Eqv (4 * (a * c)) (4 * (l * l) * (1 - p.y * p.y)) := ((Eqv.refl 4).mul (ha.mul hc)).trans (Eqv.of_eq (by grind))
  have e3 : Eqv ((a + c) * (a + c)) (4 * (l * l)) := ((ha.add hc).mul (ha.add hc)).trans (Eqv.of_eq (by grind))
  have X2 : Eqv ((a * a - c * c) * (a * a - c * c)) (16 * (l * l * (l * l)) * (p.y * p.y)) := (e1.mul e1).trans (Eqv.of_eq (by grind))
  have Z2 : Eqv (4 * (a * c) * (4 * (a * c) * 121665 + (a + c) * (a + c))) (16 * (l * l * (l * l)) * ((1 - p.y * p.y) * (121665 * (1 - p.y * p.y) + 1))) := (e2.mul ((e2.mul (Eqv.refl 121665)).add e3)).trans (Eqv.of_eq (by grind))
  refine Rep.congr (rep_of _ _ _ ?_ ?_) X2 Z2
  · show Eqv (_ * (1 - addY p p)) (_ * (1 + addY p p))
    refine cancel hD ?_
    have hz := hS.zero
    generalize addY p p = S at hz ⊢
    generalize 16 * (l * l * (l * l)) = m at *
    refine Eqv.ofz ?_
    clear X2 Z2 e1 e2 e3 hS hD ha hc hl
    generalize p.y = y at *
    generalize p.x = x at *
    simp only [cA, cD] at *
    refine lin2 (-(m * (y * y)) - m * ((1 - y * y) * (121665 * (1 - y * y) + 1))) (m * (2 * (1 - y * y) * 121666 + y * y - (1 - y * y) * (121665 * (1 - y * y) + 1))) hz hon ?_
    grind
  · rintro ⟨h1, h2⟩
    have hl4 : ¬ Eqv (16 * (l * l * (l * l))) 0 := mul_ne (fun h => by have := h.mod; revert this; decide) (mul_ne (mul_ne hl hl) (mul_ne hl hl))
    rcases zero_of_mul h1 with h3 | h3
    · exact hl4 h3
    · have hy := sq_zero h3
      rcases zero_of_mul h2 with h4 | h4
      · exact hl4 h4
      · have h5 : Eqv ((1 - p.y * p.y) * (121665 * (1 - p.y * p.y) + 1)) 121666 := (((Eqv.refl 1).sub h3).mul (((Eqv.refl 121665).mul ((Eqv.refl 1).sub h3)).add (Eqv.refl 1))).trans (Eqv.of_eq (by decide))
        have := (h5.symm.trans h4).mod
        revert this; decide
theorem sub_y (p q : Pt) : Eqv ((add q (neg p)).y * (1 + cD * p.x * q.x * p.y * q.y)) (p.y * q.y + cA * p.x * q.x) := by
  have h := addY_eq q (neg p)
  have hn := neg_x p
  rw [neg_y] at h
  change Eqv ((add q (neg p)).y * _) _ at h
  refine Eqv.trans ?_ (h.trans ?_)
  · refine (Eqv.refl _).mul ?_
    refine (Eqv.of_eq ?_).trans ((Eqv.refl 1).sub ((((Eqv.refl (cD * q.x)).mul hn).mul (Eqv.refl q.y)).mul (Eqv.refl p.y))).symm
    grind
  · refine ((Eqv.refl (q.y * p.y)).sub ((Eqv.refl (cA * q.x)).mul hn)).trans (Eqv.of_eq ?_)
    grind
/-- The sum of two points whose difference is known. -/
theorem rep_add {p q : Pt} {a b c d u : Int} (hp : Rep p a c) (hq : Rep q b d) (hD : Rep (add q (neg p)) u 1) (hu : ¬ Eqv u 0) :
    Rep (add p q) (4 * ((a * b - c * d) * (a * b - c * d))) (4 * ((a * d - b * c) * (a * d - b * c)) * u) := by
  obtain ⟨l, hl, ha, hc⟩ := hp
  obtain ⟨m, hm, hb, hd⟩ := hq
  obtain ⟨n, hn, hu1, hu2⟩ := hD
  have hs := sub_y p q
  have hS := addY_eq p q
  have id := dadd_id cA cD p.x p.y q.x q.y p.on q.on
  have d1 := den1 p q
  have d2 := den2 p q
  have onp := p.on
  have onq := q.on
  have e1 : Eqv (a * b - c * d) (2 * (l * m) * (p.y + q.y)) := ((ha.mul hb).sub (hc.mul hd)).trans (Eqv.of_eq (by grind))
  have e2 : Eqv (a * d - b * c) (2 * (l * m) * (p.y - q.y)) := ((ha.mul hd).sub (hb.mul hc)).trans (Eqv.of_eq (by grind))
  have X2 : Eqv (4 * ((a * b - c * d) * (a * b - c * d))) (16 * (l * m * (l * m)) * ((p.y + q.y) * (p.y + q.y))) := ((Eqv.refl 4).mul (e1.mul e1)).trans (Eqv.of_eq (by grind))
  have Z2 : Eqv (4 * ((a * d - b * c) * (a * d - b * c)) * u) (16 * (l * m * (l * m)) * ((p.y - q.y) * (p.y - q.y)) * u) := (((Eqv.refl 4).mul (e2.mul e2)).mul (Eqv.refl u)).trans (Eqv.of_eq (by grind))
  have hlm : ¬ Eqv (16 * (l * m * (l * m))) 0 := mul_ne (fun h => by have := h.mod; revert this; decide) (mul_ne (mul_ne hl hm) (mul_ne hl hm))
  refine Rep.congr (rep_of _ _ _ ?_ ?_) X2 Z2
  · show Eqv (_ * (1 - addY p q)) (_ * (1 + addY p q))
    clear X2 Z2 e1 e2 ha hb hc hd hlm hl hm hn hu
    generalize addY p q = S at *
    generalize (add q (neg p)).y = D at *
    generalize 16 * (l * m * (l * m)) = k at *
    -- the identity, freed of its denominators
    have core : Eqv ((p.y + q.y) * (p.y + q.y) * ((1 - S) * (1 - D))) ((p.y - q.y) * (p.y - q.y) * ((1 + S) * (1 + D))) := by
      generalize 1 - cD * p.x * q.x * p.y * q.y = Dm at *
      generalize 1 + cD * p.x * q.x * p.y * q.y = Dp at *
      generalize p.y * q.y - cA * p.x * q.x = mn at *
      generalize p.y * q.y + cA * p.x * q.x = mp at *
      generalize p.y + q.y = A at *
      generalize p.y - q.y = B at *
      refine cancel (mul_ne d1 d2) (Eqv.ofz ?_)
      refine Eqv.trans ?_ id
      refine Eqv.trans (Eqv.of_eq (show Dp * Dm * (A * A * ((1 - S) * (1 - D))) - Dp * Dm * (B * B * ((1 + S) * (1 + D))) = A * A * (Dm - S * Dm) * (Dp - D * Dp) - B * B * (Dp + D * Dp) * (Dm + S * Dm) by grind)) ?_
      exact Eqv.sub (Eqv.mul (Eqv.mul (Eqv.refl _) (Eqv.sub (Eqv.refl _) hS)) (Eqv.sub (Eqv.refl _) hs)) (Eqv.mul (Eqv.mul (Eqv.refl _) (Eqv.add (Eqv.refl _) hs)) (Eqv.add (Eqv.refl _) hS))
    have cz := core.zero
    have z1 := hu1.zero
    have z2 := hu2.zero
    refine Eqv.ofz ?_
    generalize (p.y + q.y) * (p.y + q.y) = A at *
    generalize (p.y - q.y) * (p.y - q.y) = B at *
    refine lin3 (k * n) (-(k * B * (1 + S))) (k * A * (1 - S)) cz z1 z2 ?_
    grind
  · rintro ⟨h1, h2⟩
    have hy1 : Eqv (p.y + q.y) 0 := by
      rcases zero_of_mul h1 with h | h
      · exact absurd h hlm
      · exact sq_zero h
    have hy2 : Eqv (p.y - q.y) 0 := by
      rcases zero_of_mul h2 with h | h
      · rcases zero_of_mul h with h | h
        · exact absurd h hlm
        · exact sq_zero h
      · exact absurd h hu
    have py : Eqv p.y 0 := half (lin2 1 1 hy1 hy2 (by omega))
    have qy : Eqv q.y 0 := half (lin2 1 (-1) hy1 hy2 (by omega))
    have ap : Eqv (cA * p.x * p.x - 1) 0 := lin2 1 (cD * p.x * p.x * p.y - p.y) onp py (by grind)
    have aq : Eqv (cA * q.x * q.x - 1) 0 := lin2 1 (cD * q.x * q.x * q.y - q.y) onq qy (by grind)
    have hsz := hs.zero
    have hd0 : Eqv ((add q (neg p)).y - cA * p.x * q.x) 0 := lin2 1 (q.y - (add q (neg p)).y * cD * p.x * q.x * q.y) hsz py (by grind)
    have hd1 : Eqv ((1 + (add q (neg p)).y) * (1 - (add q (neg p)).y)) 0 := by
      refine lin3 (-((add q (neg p)).y + cA * p.x * q.x)) (-(cA * q.x * q.x)) (-1) hd0 ap aq ?_
      grind
    rcases zero_of_mul hd1 with h | h
    · exact hu (hu1.trans (mul_zero_r h))
    · exact one_ne (hu2.trans (mul_zero_r h))
end Go.Proofs.Ytlpoolcdoecodaa.Cv
