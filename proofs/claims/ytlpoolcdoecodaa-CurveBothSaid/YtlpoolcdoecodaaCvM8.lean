/-
  Scalars, one behind the other, from the base point on, come to one point in any order.
-/
import Derived.Test.YtlpoolcdoecodaaCvM7
namespace Go.Proofs.Ytlpoolcdoecodaa.Cv
open Go.Proofs.Ytlpoolcdoecodaa.Pq
set_option linter.unusedVariables false
set_option maxRecDepth 100000
/-- The base point. -/
def genP : Pt := ⟨38213832894368730265794714087330135568483813637251082400757400312561599933396, 46316835694926478169428394003475163141307993866256225615783033603165251855960, by decide +kernel, by decide +kernel, Eqv.of_mod (by decide +kernel)⟩
theorem gen_uu : Eqv 9 (uu genP) := Eqv.of_mod (by decide +kernel)
def nineZ : List Int := 9 :: List.replicate 31 0
theorem nine_bytes : ∀ x ∈ nineZ, 0 ≤ x ∧ x < 256 := by decide
theorem out_bytes (v : Int) : ∀ x ∈ outF v, 0 ≤ x ∧ x < 256 := by
  unfold outF
  have key : ∀ l : List Int, ∀ x ∈ bytesL l, 0 ≤ x ∧ x < 256 := by
    intro l
    induction l with
    | nil => intro x hx; cases hx
    | cons a r ih =>
      intro x hx
      simp only [bytesL, List.mem_cons] at hx
      rcases hx with rfl | rfl | hx
      · omega
      · omega
      · exact ih x hx
  exact key _
theorem curve_of (s p : List Int) (Q : Pt) (hp : ∀ x ∈ p, 0 ≤ x ∧ x < 256) (h : Eqv (val (unpF p)) (uu Q)) : curveF s p = outF (uu (mulP (scal s) Q)) := by
  rw [curve_eq s p hp _ h, curve_pt]
theorem curve_base (s : List Int) : curveF s nineZ = outF (uu (mulP (scal s) genP)) :=
  curve_of s nineZ genP nine_bytes ((Eqv.of_eq (by decide +kernel : val (unpF nineZ) = 9)).trans gen_uu)
theorem curve_next (s : List Int) (Q : Pt) : curveF s (outF (uu Q)) = outF (uu (mulP (scal s) Q)) := curve_of s _ Q (out_bytes _) (unp_out _)
theorem curve_both (a b : List Int) : curveF a (curveF b nineZ) = curveF b (curveF a nineZ) := by
  rw [curve_base, curve_base, curve_next, curve_next, mulP_comm]
theorem curve_three (a b c : List Int) : curveF c (curveF b (curveF a nineZ)) = curveF b (curveF a (curveF c nineZ)) := by
  rw [curve_base, curve_base, curve_next, curve_next, curve_next, curve_next, mulP_comm (scal c) (scal b), mulP_comm (scal c) (scal a)]
end Go.Proofs.Ytlpoolcdoecodaa.Cv
