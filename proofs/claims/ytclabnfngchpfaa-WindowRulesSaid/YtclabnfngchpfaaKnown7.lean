/-
  Chapter 7's known runs.
-/
import Derived.Test.YtclabnfngchpfaaSplit
import Derived.Test.YtclabnfngchpfaaUW7x
namespace Go.Proofs.Ytclabnfngchpfaa.Win
open Go.RowKit Go.Proofs.YtclabnfngchpfaaW.PrintWords Go.Proofs.YtclabnfngchpfaaW.PrintLast Go.Proofs.YtclabnfngchpfaaW.PrintMore Go.Proofs.Ytclabnfngchpfaa.Arr Go.Proofs.Ytclabnfngchpfaa.Fl

theorem same_f (a b : Nat) (h : a = b) (ha : a < 9007199254740992) : (FloatKind.f64.format.order (F a) (F b) == some Ordering.eq) = true := by
  subst h
  have := F_order ha ha
  have e : FloatKind.f64.format.order (F a) (F a) = Ieee.double.order (F a) (F a) := rfl
  rw [e, this, cmp_eq]
  rfl

set_option maxHeartbeats 1000000 in
theorem known_calls (w : World) : Calls Try.prog 34 #[] w fun e w' => e = .returned (.bool true) ∧ Below w.heap.size w w' := by
  have O52 : ∀ w, Calls Try.prog 33 #[.int .i64 5, .int .i64 2] w fun e w' => e = .returned (W 5 2) ∧ w' = w := of_calls 5 2
  have O02 : ∀ w, Calls Try.prog 33 #[.int .i64 0, .int .i64 2] w fun e w' => e = .returned (W 0 2) ∧ w' = w := of_calls 0 2
  have O10 : ∀ w, Calls Try.prog 33 #[.int .i64 1, .int .i64 0] w fun e w' => e = .returned (W 1 0) ∧ w' = w := of_calls 1 0
  have S := fun w => split_calls 5 2 9 (by decide) (by decide) w
  have T := fun w => take_high 5 2 6 (by decide) w (by decide) (by decide)
  have R := fun w => right_calls 1 0 (by decide) (by decide) w
  have hp : pieces (min 9 5) 2 = [2, 2, 1] := by decide
  rw [hp] at S
  have E := same_f 0 0 rfl (by decide)
  have E2 := same_f 2 2 rfl (by decide)
  have HO52 := Aside0.mk O52
  have HO02 := Aside0.mk O02
  have HO10 := Aside0.mk O10
  have HS := Aside0.mk S
  have HT := Aside0.mk T
  have HR := Aside0.mk R
  clear O52 O02 O10 S T R hp
  unfold W at HO52 HO02 HO10 HS HT HR
  go_enter Try.func34, Try.ntmps34
  go_wp2_with fail
  refine (HO52.out _).mono ?_
  rintro e w' ⟨rfl, rfl⟩
  go_wp2_with fail
  refine (HS.out _).mono ?_
  rintro e w1 ⟨v, rfl, hR, hB⟩
  obtain ⟨A, c, rfl, hc, hC⟩ := Kd.R_reads hR
  have HC := Aside0.mk hC
  have Hc := Aside0.mk hc
  clear hC hc
  have HB := Aside0.mk hB
  clear hR hB
  go_wp2_with fail
  refine (HO52.out _).mono ?_
  rintro e w2 ⟨rfl, rfl⟩
  go_wp2_with fail
  refine (HT.out _).mono ?_
  rintro e w2 ⟨rfl, rfl⟩
  go_wp2_with fail
  have L : ∀ (W0 : World) (e : TypeId), (Kd.int .i64).C (W0.alloc (Obj.cells #[Value.int .i64 2, Value.int .i64 2, Value.int .i64 1] e)) (some ⟨W0.heap.size, 0, none⟩) ([2, 2, 1] : List Int).length [2, 2, 1] := by
    intro W0 e
    obtain ⟨A', c', h1, _, h2⟩ := Kd.R_reads (Kd.R_of_own (enc := Value.int .i64) (h1 := fun _ => rfl) (own_lit W0 W0.heap.size e .i64 [2, 2, 1] (Nat.le_refl _) (by decide)) (ok := fun _ => True) (fun _ _ => trivial))
    cases h1
    exact h2
  refine (UW7.strongroombook_Same_int64.calls 10 A c [2, 2, 1] _ 3 [2, 2, 1] true _ (Kd.C_alloc HC.out _) Hc.out (L _ _) (by decide) (by decide +kernel)).mono ?_
  rintro e w3 ⟨rfl, ⟨n3, rfl⟩⟩
  clear L
  go_wp2_with fail
  refine (HO02.out _).mono ?_
  rintro e w4 ⟨rfl, rfl⟩
  go_wp2_with fail
  refine (HO10.out _).mono ?_
  rintro e w4 ⟨rfl, rfl⟩
  go_wp2_with fail
  refine (HR.out _).mono ?_
  rintro e w4 ⟨rfl, rfl⟩
  go_wp2_with fail
  go_ret
  exact ⟨by rw [show right 1 0 = false by decide]; rfl, pw_below_drewN (below_alloc HB.out _) _⟩
end Go.Proofs.Ytclabnfngchpfaa.Win
