/-
  WindowTwice, walked.
-/
import Derived.Test.YtclabnfngchpfaaEnds
namespace Go.Proofs.Ytclabnfngchpfaa.Win
open Go.RowKit Go.Proofs.YtclabnfngchpfaaW.PrintWords Go.Proofs.YtclabnfngchpfaaW.PrintLast Go.Proofs.YtclabnfngchpfaaW.PrintMore Go.Proofs.Ytclabnfngchpfaa.Arr Go.Proofs.Ytclabnfngchpfaa.Fl

set_option maxHeartbeats 2000000 in
theorem twice_calls (a0 a1 a2 a3 a4 : Int) (w : World) : Calls Try.prog 10 #[.int .i64 a0, .int .i64 a1, .int .i64 a2, .int .i64 a3, .int .i64 a4] w fun e w' => e = .returned (.bool true) ∧ Below w.heap.size w w' := by
  obtain ⟨l, hl, hW0⟩ := within_ex a0 5000 (by decide)
  obtain ⟨k, hk, hW1⟩ := within_ex a1 99 (by decide)
  obtain ⟨x, hx, hW2⟩ := within_ex a2 l (by omega)
  obtain ⟨y, hy, hW3⟩ := within_ex a4 5000 (by decide)
  obtain ⟨z, hz, hW4⟩ := within_ex a3 (l - x + y) (by omega)
  obtain ⟨m, hm⟩ : ∃ m, m = 1 + k := ⟨_, rfl⟩
  have ek : wrap64 (1 + (k : Int)) = (m : Int) := by rw [wrap_id (by omega) (by omega)]; omega
  have s1 : wrap64 ((l : Int) - (x : Int)) = ((l - x : Nat) : Int) := by rw [wrap_id (by omega) (by omega)]; omega
  have s2 : wrap64 (((l - x : Nat) : Int) + (y : Int)) = ((l - x + y : Nat) : Int) := by rw [wrap_id (by omega) (by omega)]; omega
  have s3 : wrap64 ((((l - x : Nat) : Int) + (y : Int)) - (z : Int)) = ((l - x + y - z : Nat) : Int) := by rw [wrap_id (by omega) (by omega)]; omega
  have HW0 := Aside0.mk hW0
  have HW1 := Aside0.mk hW1
  have HW2 := Aside0.mk hW2
  have HW3 := Aside0.mk hW3
  have HW4 := Aside0.mk hW4
  have HOf := Aside0.mk (of_ok l m (by omega))
  have HKn := Aside0.mk known_calls
  have HS1 := Aside0.mk (fun w => split_calls l m x (right_ok (by omega) (by omega) (by omega)) (by omega) w)
  have HA := Aside0.mk (fun w => add_calls (l - x) m y (right_ok (by omega) (by omega) (by omega)) w (by omega))
  have HS2 := Aside0.mk (fun w => split_calls (l - x + y) m z (right_ok (by omega) (by omega) (by omega)) (by omega) w)
  have HL := Aside0.mk (left_ok (l - x + y - z) m (right_ok (by omega) (by omega) (by omega)))
  have HM := Aside0.mk (most_ok (l - x + y - z) m (right_ok (by omega) (by omega) (by omega)))
  rw [Nat.min_eq_left (show x ≤ l by omega)] at HS1
  rw [Nat.min_eq_left (show z ≤ l - x + y by omega)] at HS2
  clear hW0 hW1 hW2 hW3 hW4 hl hk hx hy hz hm
  simp only [W] at *
  go_enter Try.func10, Try.ntmps10
  go_wp2_with fail
  refine (HW0.out _).mono ?_
  rintro e w1 ⟨rfl, ⟨n1, rfl⟩⟩
  go_wp2_with fail
  refine (HW1.out _).mono ?_
  rintro e w1 ⟨rfl, ⟨n2, rfl⟩⟩
  go_wp2_with fail
  refine (HW2.out _).mono ?_
  rintro e w1 ⟨rfl, ⟨n3, rfl⟩⟩
  go_wp2_with fail
  refine (HW3.out _).mono ?_
  rintro e w1 ⟨rfl, ⟨n4, rfl⟩⟩
  go_wp2_with fail
  have hc : (((l - x : Nat) : Int) + (y : Int)) = ((l - x + y : Nat) : Int) := by omega
  rw [hc]
  clear hc
  refine (HW4.out _).mono ?_
  rintro e w1 ⟨rfl, ⟨n5, rfl⟩⟩
  go_wp2_with fail
  refine (HOf.out _).mono ?_
  rintro e w1 ⟨rfl, rfl⟩
  go_wp2_with fail
  refine (HS1.out _).mono ?_
  rintro e w1 ⟨v1, rfl, _, hb⟩
  have HB1 := Aside0.mk (below_step (pw_below_drewN (Below.refl w.heap.size w) _) hb)
  clear hb
  go_wp2_with fail
  refine (HA.out _).mono ?_
  rintro e w2 ⟨rfl, rfl⟩
  go_wp2_with fail
  refine (HS2.out _).mono ?_
  rintro e w3 ⟨v3, rfl, _, hb⟩
  have HB2 := Aside0.mk (below_step HB1.out hb)
  clear hb
  go_wp2_with fail
  refine (HL.out _).mono ?_
  rintro e w4 ⟨rfl, rfl⟩
  go_wp2_with fail
  refine (HM.out _).mono ?_
  rintro e w4 ⟨rfl, rfl⟩
  go_wp2_with fail
  refine (HKn.out _).mono ?_
  rintro e w4 ⟨rfl, hb⟩
  have HB3 := Aside0.mk (below_step HB2.out hb)
  clear hb
  go_wp2_with fail
  go_ret
  exact ⟨rfl, HB3.out⟩
end Go.Proofs.Ytclabnfngchpfaa.Win
