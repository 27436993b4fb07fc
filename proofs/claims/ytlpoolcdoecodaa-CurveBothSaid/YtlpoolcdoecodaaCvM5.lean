/-
  The points of the curve, added and multiplied.
-/
import Derived.Test.YtlpoolcdoecodaaCvM4
namespace Go.Proofs.Ytlpoolcdoecodaa.Cv
open Go.Proofs.Ytlpoolcdoecodaa.Pq
set_option linter.unusedVariables false
set_option maxRecDepth 100000
/-- A point, its numbers reduced. -/
structure Pt where
  x : Int
  y : Int
  hx : x % P = x
  hy : y % P = y
  on : Eqv (cA * x * x + y * y - 1 - cD * x * x * y * y) 0
theorem Pt.ext' {p q : Pt} (h1 : Eqv p.x q.x) (h2 : Eqv p.y q.y) : p = q := by
  have e1 : p.x = q.x := by rw [← p.hx, ← q.hx]; exact h1.mod
  have e2 : p.y = q.y := by rw [← p.hy, ← q.hy]; exact h2.mod
  cases p; cases q
  simp only [Pt.mk.injEq]
  exact ⟨e1, e2⟩
/-- The denominators are never nought: d is no square. -/
theorem den {p q : Pt} {s : Int} (hs : s * s = 1) : ¬ Eqv (1 + s * (cD * p.x * q.x * p.y * q.y)) 0 := fun h => by
  have hp := p.on
  have hq := q.on
  have hr := rA_sq
  generalize p.x = x1 at h hp
  generalize p.y = y1 at h hp
  generalize q.x = x2 at h hq
  generalize q.y = y2 at h hq
  generalize rA = r at hr
  have hr0 : Eqv (r * r - cA) 0 := hr.zero
  have hss : Eqv (s * s - 1) 0 := Eqv.of_eq (by omega)
  -- e = d x1 x2 y1 y2, s e = -1, so e = -s
  have he : Eqv (cD * x1 * x2 * y1 * y2 + s) 0 := by
    refine lin2 s (-(cD * x1 * x2 * y1 * y2)) h hss ?_
    grind
  -- (r x1 - t y1)^2 = d (x1 y1)^2 (r x2 + s' y2)^2 for both signs
  have key : ∀ t : Int, t * t = 1 → Eqv ((r * x1 - s * t * y1) * (r * x1 - s * t * y1)) (cD * ((x1 * y1 * (r * x2 + t * y2)) * (x1 * y1 * (r * x2 + t * y2)))) := by
    intro t ht
    refine Eqv.ofz ?_
    have h3 : Eqv (t * t - 1) 0 := Eqv.of_eq (by omega)
    exact lin4 1 (-(cD * x1 * x1 * y1 * y1)) (-(2 * r * t * x1 * y1) - (cD * x1 * x2 * y1 * y2 - s)) (x1 * x1 - cD * x1 * x1 * y1 * y1 * x2 * x2) hp hq he hr0 (by grind)
  have hx1 : ¬ Eqv x1 0 := fun h0 => by
    have h1 : Eqv (cD * x1 * x2 * y1 * y2) 0 := lin2 (cD * x2 * y1 * y2) 0 h0 h0 (by grind)
    have h2 : Eqv (s * s) 0 := lin2 s (-s) he h1 (by grind)
    rw [hs] at h2
    exact one_ne h2
  have hy1 : ¬ Eqv y1 0 := fun h0 => by
    have h1 : Eqv (cD * x1 * x2 * y1 * y2) 0 := lin2 (cD * x1 * x2 * y2) 0 h0 h0 (by grind)
    have h2 : Eqv (s * s) 0 := lin2 s (-s) he h1 (by grind)
    rw [hs] at h2
    exact one_ne h2
  have hy2 : ¬ Eqv y2 0 := fun h0 => by
    have h1 : Eqv (cD * x1 * x2 * y1 * y2) 0 := lin2 (cD * x1 * x2 * y1) 0 h0 h0 (by grind)
    have h2 : Eqv (s * s) 0 := lin2 s (-s) he h1 (by grind)
    rw [hs] at h2
    exact one_ne h2
  have fin : ∀ t : Int, t * t = 1 → Eqv (r * x2 + t * y2) 0 := by
    intro t ht
    by_cases h0 : Eqv (r * x2 + t * y2) 0
    · exact h0
    · exfalso
      have hm := mul_ne (mul_ne hx1 hy1) h0
      have hk := key t ht
      generalize x1 * y1 * (r * x2 + t * y2) = m at hm hk
      generalize r * x1 - s * t * y1 = n at hk
      have hi := iv_mul hm
      refine no_root (n * iv m) ?_
      refine (Eqv.of_eq (show n * iv m * (n * iv m) = n * n * (iv m * iv m) by grind)).trans ?_
      refine (hk.mul (Eqv.refl _)).trans ?_
      refine (Eqv.of_eq (show cD * (m * m) * (iv m * iv m) = cD * ((m * iv m) * (m * iv m)) by grind)).trans ?_
      exact ((Eqv.refl cD).mul (hi.mul hi)).trans (Eqv.of_eq (by omega))
  have f1 := fin 1 (by decide)
  have f2 := fin (-1) (by decide)
  have f3 : Eqv (2 * y2) 0 := lin2 1 (-1) f1 f2 (by grind)
  rcases zero_of_mul f3 with h5 | h5
  · have := h5.mod; revert this; decide
  · exact hy2 h5
theorem den1 (p q : Pt) : ¬ Eqv (1 + cD * p.x * q.x * p.y * q.y) 0 := by
  have h := den (p := p) (q := q) (s := 1) (by decide)
  rwa [Int.one_mul] at h
theorem den2 (p q : Pt) : ¬ Eqv (1 - cD * p.x * q.x * p.y * q.y) 0 := by
  have h := den (p := p) (q := q) (s := -1) (by decide)
  rwa [show 1 + -1 * (cD * p.x * q.x * p.y * q.y) = 1 - cD * p.x * q.x * p.y * q.y by omega] at h
def addX (p q : Pt) : Int := (p.x * q.y + q.x * p.y) * iv (1 + cD * p.x * q.x * p.y * q.y) % P
def addY (p q : Pt) : Int := (p.y * q.y - cA * p.x * q.x) * iv (1 - cD * p.x * q.x * p.y * q.y) % P
theorem quo {n D : Int} (h : ¬ Eqv D 0) : Eqv (n * iv D % P * D) n := by
  refine ((eqv_mod _).mul (Eqv.refl D)).trans ?_
  refine (Eqv.of_eq (show n * iv D * D = n * (D * iv D) by grind)).trans ?_
  exact ((Eqv.refl n).mul (iv_mul h)).trans (Eqv.of_eq (by omega))
theorem addX_eq (p q : Pt) : Eqv (addX p q * (1 + cD * p.x * q.x * p.y * q.y)) (p.x * q.y + q.x * p.y) := quo (den1 p q)
theorem addY_eq (p q : Pt) : Eqv (addY p q * (1 - cD * p.x * q.x * p.y * q.y)) (p.y * q.y - cA * p.x * q.x) := quo (den2 p q)
theorem add_on (p q : Pt) : Eqv (cA * addX p q * addX p q + addY p q * addY p q - 1 - cD * addX p q * addX p q * addY p q * addY p q) 0 := by
  have hX := addX_eq p q
  have hY := addY_eq p q
  have hc := close_id cA cD p.x p.y q.x q.y p.on q.on
  have hm := mul_ne (den1 p q) (den2 p q)
  rw [show p.x * q.y + q.x * p.y = p.x * q.y + q.x * p.y from rfl] at hX
  generalize hDp : 1 + cD * p.x * q.x * p.y * q.y = Dp at *
  generalize hDm : 1 - cD * p.x * q.x * p.y * q.y = Dm at *
  generalize p.x * q.y + q.x * p.y = nx at *
  generalize p.y * q.y - cA * p.x * q.x = ny at *
  generalize addX p q = X at *
  generalize addY p q = Y at *
  have hmm := mul_ne hm hm
  refine cancel hmm ?_
  refine Eqv.trans (Eqv.of_eq (show Dp * Dm * (Dp * Dm) * (cA * X * X + Y * Y - 1 - cD * X * X * Y * Y) = cA * ((X * Dp) * (X * Dp)) * (Dm * Dm) + (Y * Dm) * (Y * Dm) * (Dp * Dp) - Dp * Dp * (Dm * Dm) - cD * ((X * Dp) * (X * Dp)) * ((Y * Dm) * (Y * Dm)) by grind)) ?_
  refine Eqv.trans ?_ (Eqv.of_eq (show (0 : Int) = Dp * Dm * (Dp * Dm) * 0 by omega))
  refine Eqv.trans ?_ hc
  exact Eqv.sub (Eqv.sub (Eqv.add (Eqv.mul (Eqv.mul (Eqv.refl _) (Eqv.mul hX hX)) (Eqv.refl _)) (Eqv.mul (Eqv.mul hY hY) (Eqv.refl _))) (Eqv.refl _)) (Eqv.mul (Eqv.mul (Eqv.refl _) (Eqv.mul hX hX)) (Eqv.mul hY hY))
def add (p q : Pt) : Pt := ⟨addX p q, addY p q, Int.emod_emod_of_dvd _ (Int.dvd_refl _), Int.emod_emod_of_dvd _ (Int.dvd_refl _), add_on p q⟩
theorem add_comm (p q : Pt) : add p q = add q p := by
  refine Pt.ext' (Eqv.of_eq ?_) (Eqv.of_eq ?_)
  · show addX p q = addX q p
    unfold addX
    rw [show p.x * q.y + q.x * p.y = q.x * p.y + p.x * q.y by omega, show cD * p.x * q.x * p.y * q.y = cD * q.x * p.x * q.y * p.y by grind]
  · show addY p q = addY q p
    unfold addY
    rw [show p.y * q.y - cA * p.x * q.x = q.y * p.y - cA * q.x * p.x by grind, show cD * p.x * q.x * p.y * q.y = cD * q.x * p.x * q.y * p.y by grind]
/-- A sum of a sum, with the denominators of the inner one taken in. -/
theorem outer_x {sx sy Dp Dm nx ny x3 y3 u : Int} (h1 : Eqv (sx * Dp) nx) (h2 : Eqv (sy * Dm) ny) (h3 : Eqv (u * (1 + cD * sx * x3 * sy * y3)) (sx * y3 + x3 * sy)) :
    Eqv (u * (Dp * Dm + cD * nx * ny * x3 * y3)) (nx * Dm * y3 + x3 * ny * Dp) := by
  have a1 : Eqv (Dp * Dm + cD * (sx * Dp) * (sy * Dm) * x3 * y3) (Dp * Dm + cD * nx * ny * x3 * y3) :=
    Eqv.add (Eqv.refl _) (Eqv.mul (Eqv.mul (Eqv.mul (Eqv.mul (Eqv.refl _) h1) h2) (Eqv.refl _)) (Eqv.refl _))
  have a2 : Eqv ((sx * Dp) * Dm * y3 + x3 * (sy * Dm) * Dp) (nx * Dm * y3 + x3 * ny * Dp) :=
    Eqv.add (Eqv.mul (Eqv.mul h1 (Eqv.refl _)) (Eqv.refl _)) (Eqv.mul (Eqv.mul (Eqv.refl _) h2) (Eqv.refl _))
  refine ((Eqv.refl u).mul a1.symm).trans (Eqv.trans ?_ a2)
  refine (Eqv.of_eq (show u * (Dp * Dm + cD * (sx * Dp) * (sy * Dm) * x3 * y3) = Dp * Dm * (u * (1 + cD * sx * x3 * sy * y3)) by grind)).trans ?_
  exact ((Eqv.refl (Dp * Dm)).mul h3).trans (Eqv.of_eq (by grind))
theorem outer_y {sx sy Dp Dm nx ny x3 y3 u : Int} (h1 : Eqv (sx * Dp) nx) (h2 : Eqv (sy * Dm) ny) (h3 : Eqv (u * (1 - cD * sx * x3 * sy * y3)) (sy * y3 - cA * sx * x3)) :
    Eqv (u * (Dp * Dm - cD * nx * ny * x3 * y3)) (ny * Dp * y3 - cA * nx * Dm * x3) := by
  have a1 : Eqv (Dp * Dm - cD * (sx * Dp) * (sy * Dm) * x3 * y3) (Dp * Dm - cD * nx * ny * x3 * y3) :=
    Eqv.sub (Eqv.refl _) (Eqv.mul (Eqv.mul (Eqv.mul (Eqv.mul (Eqv.refl _) h1) h2) (Eqv.refl _)) (Eqv.refl _))
  have a2 : Eqv ((sy * Dm) * Dp * y3 - cA * (sx * Dp) * Dm * x3) (ny * Dp * y3 - cA * nx * Dm * x3) :=
    Eqv.sub (Eqv.mul (Eqv.mul h2 (Eqv.refl _)) (Eqv.refl _)) (Eqv.mul (Eqv.mul (Eqv.mul (Eqv.refl _) h1) (Eqv.refl _)) (Eqv.refl _))
  refine ((Eqv.refl u).mul a1.symm).trans (Eqv.trans ?_ a2)
  refine (Eqv.of_eq (show u * (Dp * Dm - cD * (sx * Dp) * (sy * Dm) * x3 * y3) = Dp * Dm * (u * (1 - cD * sx * x3 * sy * y3)) by grind)).trans ?_
  exact ((Eqv.refl (Dp * Dm)).mul h3).trans (Eqv.of_eq (by grind))
theorem outer_ne {sx sy Dp Dm nx ny x3 y3 : Int} (s : Int) (h1 : Eqv (sx * Dp) nx) (h2 : Eqv (sy * Dm) ny) (hp : ¬ Eqv Dp 0) (hm : ¬ Eqv Dm 0) (h3 : ¬ Eqv (1 + s * (cD * sx * x3 * sy * y3)) 0) :
    ¬ Eqv (Dp * Dm + s * (cD * nx * ny * x3 * y3)) 0 := fun h => by
  have a1 : Eqv (Dp * Dm + s * (cD * (sx * Dp) * (sy * Dm) * x3 * y3)) (Dp * Dm + s * (cD * nx * ny * x3 * y3)) :=
    Eqv.add (Eqv.refl _) (Eqv.mul (Eqv.refl _) (Eqv.mul (Eqv.mul (Eqv.mul (Eqv.mul (Eqv.refl _) h1) h2) (Eqv.refl _)) (Eqv.refl _)))
  have a2 := a1.trans h
  refine mul_ne (mul_ne hp hm) h3 ((Eqv.of_eq ?_).trans a2)
  grind
theorem outer_ne2 {sx sy Dp Dm nx ny x3 y3 : Int} (h1 : Eqv (sx * Dp) nx) (h2 : Eqv (sy * Dm) ny) (hp : ¬ Eqv Dp 0) (hm : ¬ Eqv Dm 0) (h3 : ¬ Eqv (1 + -1 * (cD * sx * x3 * sy * y3)) 0) :
    ¬ Eqv (Dp * Dm - cD * nx * ny * x3 * y3) 0 := fun h => outer_ne (-1) h1 h2 hp hm h3 ((Eqv.of_eq (by omega)).trans h)
theorem join {U V D1 D2 N1 N2 : Int} (n1 : ¬ Eqv D1 0) (n2 : ¬ Eqv D2 0) (u : Eqv (U * D1) N1) (v : Eqv (V * D2) N2) (h : Eqv (N1 * D2 - N2 * D1) 0) : Eqv U V := by
  refine cancel (mul_ne n1 n2) ?_
  refine (Eqv.of_eq (show D1 * D2 * U = (U * D1) * D2 by grind)).trans ?_
  refine (u.mul (Eqv.refl D2)).trans ?_
  refine (Eqv.ofz h).trans ?_
  exact (v.symm.mul (Eqv.refl D1)).trans (Eqv.of_eq (by grind))
theorem assoc (p q r : Pt) : add (add p q) r = add p (add q r) := by
  have ne1 := outer_ne 1 (addX_eq p q) (addY_eq p q) (den1 p q) (den2 p q) (x3 := r.x) (y3 := r.y) (den (p := add p q) (q := r) (by decide))
  have ne2 := outer_ne 1 (addX_eq q r) (addY_eq q r) (den1 q r) (den2 q r) (x3 := p.x) (y3 := p.y) (den (p := add q r) (q := p) (by decide))
  have me1 := outer_ne2 (addX_eq p q) (addY_eq p q) (den1 p q) (den2 p q) (x3 := r.x) (y3 := r.y) (den (p := add p q) (q := r) (by decide))
  have me2 := outer_ne2 (addX_eq q r) (addY_eq q r) (den1 q r) (den2 q r) (x3 := p.x) (y3 := p.y) (den (p := add q r) (q := p) (by decide))
  have ux := outer_x (addX_eq p q) (addY_eq p q) (addX_eq (add p q) r)
  have vx := outer_x (addX_eq q r) (addY_eq q r) (addX_eq (add q r) p)
  have uy := outer_y (addX_eq p q) (addY_eq p q) (addY_eq (add p q) r)
  have vy := outer_y (addX_eq q r) (addY_eq q r) (addY_eq (add q r) p)
  have ix := assoc_x cA cD p.x p.y q.x q.y r.x r.y p.on q.on r.on
  have iy := assoc_y cA cD p.x p.y q.x q.y r.x r.y p.on q.on r.on
  rw [add_comm p (add q r)]
  refine Pt.ext' ?_ ?_
  · show Eqv (addX (add p q) r) (addX (add q r) p)
    generalize addX (add p q) r = U at *
    generalize addX (add q r) p = V at *
    clear uy vy iy me1 me2
    simp only [Int.one_mul] at ne1 ne2
    generalize (1 + cD * p.x * q.x * p.y * q.y) * (1 - cD * p.x * q.x * p.y * q.y) + cD * (p.x * q.y + q.x * p.y) * (p.y * q.y - cA * p.x * q.x) * r.x * r.y = D1 at *
    generalize (1 + cD * q.x * r.x * q.y * r.y) * (1 - cD * q.x * r.x * q.y * r.y) + cD * (q.x * r.y + r.x * q.y) * (q.y * r.y - cA * q.x * r.x) * p.x * p.y = D2 at *
    exact join ne1 ne2 ux vx ix
  · show Eqv (addY (add p q) r) (addY (add q r) p)
    generalize addY (add p q) r = U at *
    generalize addY (add q r) p = V at *
    clear ux vx ix ne1 ne2
    generalize (1 + cD * p.x * q.x * p.y * q.y) * (1 - cD * p.x * q.x * p.y * q.y) - cD * (p.x * q.y + q.x * p.y) * (p.y * q.y - cA * p.x * q.x) * r.x * r.y = D1 at *
    generalize (1 + cD * q.x * r.x * q.y * r.y) * (1 - cD * q.x * r.x * q.y * r.y) - cD * (q.x * r.y + r.x * q.y) * (q.y * r.y - cA * q.x * r.x) * p.x * p.y = D2 at *
    exact join me1 me2 uy vy iy
end Go.Proofs.Ytlpoolcdoecodaa.Cv
