/-
  chapter 3's run ('known' of the statements): reckoned out.
-/
import Derived.Test.YtgnanhphdodhoaaPolyS
import Derived.Lib.SlBytesConst
namespace Go.Proofs.Ytgnanhphdodhoaa
open Go.RowKit Go.Proofs.YtgnanhphdodhoaaW.PrintWords Go.Proofs.Ytgnanhphdodhoaa.Arr

def known3K : List Int := [133, 214, 190, 120, 87, 85, 109, 51, 127, 68, 82, 254, 66, 213, 6, 168, 1, 3, 128, 138, 251, 13, 178, 253, 74, 191, 246, 175, 65, 73, 245, 27]
def known3B : List Int := [67, 114, 121, 112, 116, 111, 103, 114, 97, 112, 104, 105, 99, 32, 70, 111, 114, 117, 109, 32, 82, 101, 115, 101, 97, 114, 99, 104, 32, 71, 114, 111, 117, 112]
def known3T : List Int := [168, 6, 29, 193, 48, 81, 54, 198, 194, 43, 139, 175, 12, 1, 39, 169]
theorem known3_tag : Pol.tagF known3K known3B = known3T := by decide +kernel

set_option maxHeartbeats 1000000 in
theorem known3_calls (w : World) : Calls Try.prog 21 #[] w fun e w' => e = .returned (.bool true) ∧ Below w.heap.size w w' := by
  have kc := fun (w : World) (C : Array Value) (n c : Nat) => Lib.run_convert_bytes_const (P := Try.prog) w 22 5 C n c Try.underlying22 Try.underlying5
  go_enter Try.func21, Try.ntmps21
  go_upto_region 2 with (fail)
  change Code.wp _ _ _ _ (w.alloc (.cells (nums .u8 known3K).toArray 5 (32, 33)))
  have c1 := lit_C w 5 .u8 known3K (32, 33) 32 rfl (by decide)
  have B1 : Below w.heap.size w (w.alloc (.cells (nums .u8 known3K).toArray 5 (32, 33))) := (Below.refl _ _).alloc (Nat.le_refl _) _
  generalize w.alloc (.cells (nums .u8 known3K).toArray 5 (32, 33)) = w1 at c1 B1 ⊢
  have HC1 := Aside0.mk c1
  have HB1 := Aside0.mk B1
  clear c1 B1
  go_wp2_with fail
  change Calls _ _ _ (w1.alloc (.cells (nums .u8 known3B).toArray 5 (34, 35))) _
  have c2 := lit_C w1 5 .u8 known3B (34, 35) 34 rfl (by decide)
  have B2 : Below w1.heap.size w1 (w1.alloc (.cells (nums .u8 known3B).toArray 5 (34, 35))) := (Below.refl _ _).alloc (Nat.le_refl _) _
  have CS := poly_Sum.calls (some ⟨w.heap.size, 0, none⟩) 32 known3K (some ⟨w1.heap.size, 0, none⟩) 34 known3B known3T 0 (w1.alloc (.cells (nums .u8 known3B).toArray 5 (34, 35))) (Kd.C_below HC1.out B2) (by decide) c2 (by decide) (by unfold poly_Sum.f Pol.sumAns; rw [if_pos (by decide), known3_tag])
  have HB2 := Aside0.mk (HB1.out.trans (B2.mono HB1.out.size))
  clear c2 B2
  refine CS.mono ?_
  rintro e w3 ⟨v, rfl, hR, hB⟩
  have HB3 := Aside0.mk (HB2.out.trans (hB.mono HB2.out.size))
  clear CS hB
  have hs := own_string (P := Try.prog) Try.underlying22 Try.underlying5 Try.underlying9 (Kd.own_of_R hR)
  have e1 : strOfNums known3T = ⟨#[168, 6, 29, 193, 48, 81, 54, 198, 194, 43, 139, 175, 12, 1, 39, 169]⟩ := by decide +kernel
  rw [e1] at hs
  clear e1
  go_wp2_with fail
  go_ret
  exact ⟨rfl, HB3.out⟩
def strongroomlaw3_known.f : Option Bool := some true
theorem strongroomlaw3_known.calls (r : Bool) (w : World) (h : strongroomlaw3_known.f = some r) :
    Calls Try.prog 21 #[] w fun e w' => e = .returned (.bool r) ∧ Below w.heap.size w w' := by
  obtain rfl := Option.some.inj h
  exact known3_calls w
end Go.Proofs.Ytgnanhphdodhoaa
