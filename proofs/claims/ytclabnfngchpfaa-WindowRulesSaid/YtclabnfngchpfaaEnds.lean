/-
  WindowEnds, walked.
-/
import Derived.Test.YtclabnfngchpfaaKnown7
import Derived.Test.YtclabnfngchpfaaBook
namespace Go.Proofs.Ytclabnfngchpfaa.Win
open Go.RowKit Go.Proofs.YtclabnfngchpfaaW.PrintWords Go.Proofs.YtclabnfngchpfaaW.PrintLast Go.Proofs.YtclabnfngchpfaaW.PrintMore Go.Proofs.Ytclabnfngchpfaa.Arr Go.Proofs.Ytclabnfngchpfaa.Fl

attribute [local irreducible] F
theorem and32_def (x : Int) : Go.bits .and .i64 x 4294967295 = x % 4294967296 := by
  have h32 : (BitVec.ofInt 64 4294967295).toNat = 2 ^ 32 - 1 := by decide
  have key : (BitVec.ofInt 64 x &&& BitVec.ofInt 64 4294967295).toNat = (x % ((2 ^ 64 : Nat) : Int)).toNat % 2 ^ 32 := by
    rw [BitVec.toNat_and, BitVec.toNat_ofInt, h32, Nat.and_two_pow_sub_one_eq_mod]
  show IntKind.i64.wrap ((BitVec.ofInt 64 x &&& BitVec.ofInt 64 4294967295).toNat : Nat) = x % 4294967296
  rw [key, IntKind.wrap_i64]
  omega
theorem and32_ex (x : Int) : ∃ l : Nat, l ≤ 4294967295 ∧ Go.bits .and .i64 x 4294967295 = (l : Int) := by
  refine ⟨(x % 4294967296).toNat, by omega, ?_⟩
  rw [and32_def]
  omega
theorem zero0 : W 0 0 = .complex .f64 0 0 := by unfold W; rw [F_zero]
theorem right_ok {l m : Nat} (hl : l ≤ 4294967295) (h1 : 1 ≤ m) (h2 : m ≤ 32768) : right l m = true := by unfold right; simp; omega
theorem of_ok (l m : Nat) (h : m ≤ 32768) (w : World) : Calls Try.prog 33 #[.int .i64 (l : Int), .int .i64 (m : Int)] w fun e w' => e = .returned (.complex .f64 (F l) (F m)) ∧ w' = w := by
  have := of_calls l m w
  rw [Nat.min_eq_left h] at this
  exact this
theorem left_ok (l m : Nat) (h : right l m = true) (w : World) : Calls Try.prog 25 #[.complex .f64 (F l) (F m)] w fun e w' => e = .returned (.int .i64 (l : Int)) ∧ w' = w := by
  have hb : l ≤ 4294967295 ∧ 1 ≤ m ∧ m ≤ 32768 := by unfold right at h; simpa using h
  have := left_calls l m (by omega) (by omega) w
  rw [h] at this
  exact this
theorem most_ok (l m : Nat) (h : right l m = true) (w : World) : Calls Try.prog 27 #[.complex .f64 (F l) (F m)] w fun e w' => e = .returned (.int .i64 (m : Int)) ∧ w' = w := by
  have hb : l ≤ 4294967295 ∧ 1 ≤ m ∧ m ≤ 32768 := by unfold right at h; simpa using h
  have := most_calls l m (by omega) (by omega) w
  rw [h] at this
  exact this

theorem within_ex (a : Int) (hi : Nat) (h : hi ≤ 100000) : ∃ k : Nat, k ≤ hi ∧ ∀ w, Calls Try.prog 22 #[.int .i64 a, .int .i64 0, .int .i64 (hi : Int)] w fun e w' => e = .returned (.int .i64 (k : Int)) ∧ Drawn0 w w' := by
  have hr := withinF_range a 0 hi (by omega)
  refine ⟨(withinF a 0 hi).toNat, by omega, fun w => ?_⟩
  rw [Int.toNat_of_nonneg hr.1]
  exact strongroombook_Within.calls a 0 hi _ w (within_some a 0 hi (by omega) (by omega) (by omega))

set_option maxHeartbeats 2000000 in
theorem ends_11 (a0 a1 a2 a3 : Int) (l n d k : Nat) (h0 : Go.bits .and .i64 a0 4294967295 = (l : Int)) (h1 : Go.bits .and .i64 a1 4294967295 = (n : Int)) (h2 : Go.bits .and .i64 a2 4294967295 = (d : Int)) (hl : l ≤ 4294967295) (hn0 : n ≤ 4294967295) (hd0 : d ≤ 4294967295) (hk : k ≤ 32767) (hW : ∀ w, Calls Try.prog 22 #[.int .i64 a3, .int .i64 0, .int .i64 32767] w fun e w' => e = .returned (.int .i64 (k : Int)) ∧ Drawn0 w w')
    (hn : n ≤ l) (hs : l + d ≤ 4294967295) (w : World) : Calls Try.prog 11 #[.int .i64 a0, .int .i64 a1, .int .i64 a2, .int .i64 a3] w fun e w' => e = .returned (.bool true) ∧ Below w.heap.size w w' := by
  have H0 := Aside0.mk h0
  have H1 := Aside0.mk h1
  have H2 := Aside0.mk h2
  clear h0 h1 h2
  obtain ⟨m, hm⟩ : ∃ m, m = 1 + k := ⟨_, rfl⟩
  have ek : wrap64 (1 + (k : Int)) = (m : Int) := by rw [wrap_id (by omega) (by omega)]; omega
  have hr : right l m = true := right_ok (by omega) (by omega) (by omega)
  have HWn := Aside0.mk hW
  have HOf := Aside0.mk (of_ok l m (by omega))
  have HKn := Aside0.mk known_calls
  have HT := Aside0.mk (fun w => take_calls l m n hr w hn)
  have HL1 := Aside0.mk (left_ok (l - n) m (right_ok (by omega) (by omega) (by omega)))
  have HM1 := Aside0.mk (most_ok (l - n) m (right_ok (by omega) (by omega) (by omega)))
  have s1 : wrap64 ((l : Int) - (n : Int)) = ((l - n : Nat) : Int) := by rw [wrap_id (by omega) (by omega)]; omega
  have t1 : decide (n ≤ l) = true := by simp; omega
  have s2 : wrap64 ((l : Int) + (d : Int)) = ((l + d : Nat) : Int) := by rw [wrap_id (by omega) (by omega)]; omega
  have HA := Aside0.mk (fun w => add_calls l m d hr w hs)
  have HL2 := Aside0.mk (left_ok (l + d) m (right_ok (by omega) (by omega) (by omega)))
  have HM2 := Aside0.mk (most_ok (l + d) m (right_ok (by omega) (by omega) (by omega)))
  have t2 : decide ((l : Int) + (d : Int) ≤ 4294967295) = true := by simp; omega
  have HA3 := Aside0.mk (fun w => add_calls (l - n) m d (right_ok (by omega) (by omega) (by omega)) w (by omega))
  have HT3 := Aside0.mk (fun w => take_calls (l + d) m n (right_ok (by omega) (by omega) (by omega)) w (by omega))
  rw [show l + d - n = l - n + d by omega] at HT3
  have HL3 := Aside0.mk (left_ok (l - n + d) m (right_ok (by omega) (by omega) (by omega)))
  have s3 : wrap64 (((l - n : Nat) : Int) + (d : Int)) = ((l - n + d : Nat) : Int) := by rw [wrap_id (by omega) (by omega)]; omega
  have E1 := same_f (l - n + d) (l - n + d) rfl (by omega)
  have E2 := same_f m m rfl (by omega)
  clear hr hm hW hl hn0 hd0 hk hn hs
  simp only [W] at *
  go_enter Try.func11, Try.ntmps11
  have h0 := H0.out
  have h1 := H1.out
  have h2 := H2.out
  clear H0 H1 H2
  go_wp2_with fail
  refine (HWn.out _).mono ?_
  rintro e w1 ⟨rfl, ⟨n1, rfl⟩⟩
  go_wp2_with fail
  rw [ek]
  refine (HOf.out _).mono ?_
  rintro e w1 ⟨rfl, rfl⟩
  go_wp2_with fail
  refine (HT.out _).mono ?_
  rintro e w1 ⟨rfl, rfl⟩
  go_wp2_with fail
  refine (HL1.out _).mono ?_
  rintro e w1 ⟨rfl, rfl⟩
  go_wp2_with fail
  refine (HM1.out _).mono ?_
  rintro e w1 ⟨rfl, rfl⟩
  go_wp2_with fail
  refine (HA.out _).mono ?_
  rintro e w1 ⟨rfl, rfl⟩
  go_wp2_with fail
  refine (HL2.out _).mono ?_
  rintro e w1 ⟨rfl, rfl⟩
  go_wp2_with fail
  refine (HM2.out _).mono ?_
  rintro e w1 ⟨rfl, rfl⟩
  go_wp2_with fail
  refine (HA3.out _).mono ?_
  rintro e w1 ⟨rfl, rfl⟩
  go_wp2_with fail
  refine (HT3.out _).mono ?_
  rintro e w1 ⟨rfl, rfl⟩
  go_wp2_with fail
  refine (HL3.out _).mono ?_
  rintro e w1 ⟨rfl, rfl⟩
  go_wp2_with fail
  refine (HKn.out _).mono ?_
  rintro e w2 ⟨rfl, hb⟩
  have HB := Aside0.mk hb
  clear hb
  go_wp2_with fail
  go_ret
  exact ⟨rfl, below_step (pw_below_drewN (Below.refl _ _) _) HB.out⟩
set_option maxHeartbeats 2000000 in
theorem ends_10 (a0 a1 a2 a3 : Int) (l n d k : Nat) (h0 : Go.bits .and .i64 a0 4294967295 = (l : Int)) (h1 : Go.bits .and .i64 a1 4294967295 = (n : Int)) (h2 : Go.bits .and .i64 a2 4294967295 = (d : Int)) (hl : l ≤ 4294967295) (hn0 : n ≤ 4294967295) (hd0 : d ≤ 4294967295) (hk : k ≤ 32767) (hW : ∀ w, Calls Try.prog 22 #[.int .i64 a3, .int .i64 0, .int .i64 32767] w fun e w' => e = .returned (.int .i64 (k : Int)) ∧ Drawn0 w w')
    (hn : n ≤ l) (hs : 4294967295 < l + d) (w : World) : Calls Try.prog 11 #[.int .i64 a0, .int .i64 a1, .int .i64 a2, .int .i64 a3] w fun e w' => e = .returned (.bool true) ∧ Below w.heap.size w w' := by
  have H0 := Aside0.mk h0
  have H1 := Aside0.mk h1
  have H2 := Aside0.mk h2
  clear h0 h1 h2
  obtain ⟨m, hm⟩ : ∃ m, m = 1 + k := ⟨_, rfl⟩
  have ek : wrap64 (1 + (k : Int)) = (m : Int) := by rw [wrap_id (by omega) (by omega)]; omega
  have hr : right l m = true := right_ok (by omega) (by omega) (by omega)
  have HWn := Aside0.mk hW
  have HOf := Aside0.mk (of_ok l m (by omega))
  have HKn := Aside0.mk known_calls
  have HT := Aside0.mk (fun w => take_calls l m n hr w hn)
  have HL1 := Aside0.mk (left_ok (l - n) m (right_ok (by omega) (by omega) (by omega)))
  have HM1 := Aside0.mk (most_ok (l - n) m (right_ok (by omega) (by omega) (by omega)))
  have s1 : wrap64 ((l : Int) - (n : Int)) = ((l - n : Nat) : Int) := by rw [wrap_id (by omega) (by omega)]; omega
  have t1 : decide (n ≤ l) = true := by simp; omega
  have s2 : wrap64 ((l : Int) + (d : Int)) = ((l + d : Nat) : Int) := by rw [wrap_id (by omega) (by omega)]; omega
  have HA := Aside0.mk (fun w => add_high l m d hr w hs (by omega))
  simp only [zero0] at HA
  have t2 : decide ((l : Int) + (d : Int) ≤ 4294967295) = false := by simp; omega
  have E1 : (FloatKind.f64.format.order 0 0 == some Ordering.eq) = true := by decide +kernel
  clear hr hm hW hl hn0 hd0 hk hn hs
  simp only [W] at *
  go_enter Try.func11, Try.ntmps11
  have h0 := H0.out
  have h1 := H1.out
  have h2 := H2.out
  clear H0 H1 H2
  go_wp2_with fail
  refine (HWn.out _).mono ?_
  rintro e w1 ⟨rfl, ⟨n1, rfl⟩⟩
  go_wp2_with fail
  rw [ek]
  refine (HOf.out _).mono ?_
  rintro e w1 ⟨rfl, rfl⟩
  go_wp2_with fail
  refine (HT.out _).mono ?_
  rintro e w1 ⟨rfl, rfl⟩
  go_wp2_with fail
  refine (HL1.out _).mono ?_
  rintro e w1 ⟨rfl, rfl⟩
  go_wp2_with fail
  refine (HM1.out _).mono ?_
  rintro e w1 ⟨rfl, rfl⟩
  go_wp2_with fail
  refine (HA.out _).mono ?_
  rintro e w1 ⟨rfl, rfl⟩
  go_wp2_with fail
  refine (HKn.out _).mono ?_
  rintro e w2 ⟨rfl, hb⟩
  have HB := Aside0.mk hb
  clear hb
  go_wp2_with fail
  go_ret
  exact ⟨rfl, below_step (pw_below_drewN (Below.refl _ _) _) HB.out⟩
set_option maxHeartbeats 2000000 in
theorem ends_01 (a0 a1 a2 a3 : Int) (l n d k : Nat) (h0 : Go.bits .and .i64 a0 4294967295 = (l : Int)) (h1 : Go.bits .and .i64 a1 4294967295 = (n : Int)) (h2 : Go.bits .and .i64 a2 4294967295 = (d : Int)) (hl : l ≤ 4294967295) (hn0 : n ≤ 4294967295) (hd0 : d ≤ 4294967295) (hk : k ≤ 32767) (hW : ∀ w, Calls Try.prog 22 #[.int .i64 a3, .int .i64 0, .int .i64 32767] w fun e w' => e = .returned (.int .i64 (k : Int)) ∧ Drawn0 w w')
    (hn : l < n) (hs : l + d ≤ 4294967295) (w : World) : Calls Try.prog 11 #[.int .i64 a0, .int .i64 a1, .int .i64 a2, .int .i64 a3] w fun e w' => e = .returned (.bool true) ∧ Below w.heap.size w w' := by
  have H0 := Aside0.mk h0
  have H1 := Aside0.mk h1
  have H2 := Aside0.mk h2
  clear h0 h1 h2
  obtain ⟨m, hm⟩ : ∃ m, m = 1 + k := ⟨_, rfl⟩
  have ek : wrap64 (1 + (k : Int)) = (m : Int) := by rw [wrap_id (by omega) (by omega)]; omega
  have hr : right l m = true := right_ok (by omega) (by omega) (by omega)
  have HWn := Aside0.mk hW
  have HOf := Aside0.mk (of_ok l m (by omega))
  have HKn := Aside0.mk known_calls
  have HT := Aside0.mk (fun w => take_high l m n hr w hn (by omega))
  simp only [zero0] at HT
  have t1 : decide (n ≤ l) = false := by simp; omega
  have s2 : wrap64 ((l : Int) + (d : Int)) = ((l + d : Nat) : Int) := by rw [wrap_id (by omega) (by omega)]; omega
  have HA := Aside0.mk (fun w => add_calls l m d hr w hs)
  have HL2 := Aside0.mk (left_ok (l + d) m (right_ok (by omega) (by omega) (by omega)))
  have HM2 := Aside0.mk (most_ok (l + d) m (right_ok (by omega) (by omega) (by omega)))
  have t2 : decide ((l : Int) + (d : Int) ≤ 4294967295) = true := by simp; omega
  have E1 : (FloatKind.f64.format.order 0 0 == some Ordering.eq) = true := by decide +kernel
  clear hr hm hW hl hn0 hd0 hk hn hs
  simp only [W] at *
  go_enter Try.func11, Try.ntmps11
  have h0 := H0.out
  have h1 := H1.out
  have h2 := H2.out
  clear H0 H1 H2
  go_wp2_with fail
  refine (HWn.out _).mono ?_
  rintro e w1 ⟨rfl, ⟨n1, rfl⟩⟩
  go_wp2_with fail
  rw [ek]
  refine (HOf.out _).mono ?_
  rintro e w1 ⟨rfl, rfl⟩
  go_wp2_with fail
  refine (HT.out _).mono ?_
  rintro e w1 ⟨rfl, rfl⟩
  go_wp2_with fail
  refine (HA.out _).mono ?_
  rintro e w1 ⟨rfl, rfl⟩
  go_wp2_with fail
  refine (HL2.out _).mono ?_
  rintro e w1 ⟨rfl, rfl⟩
  go_wp2_with fail
  refine (HM2.out _).mono ?_
  rintro e w1 ⟨rfl, rfl⟩
  go_wp2_with fail
  refine (HKn.out _).mono ?_
  rintro e w2 ⟨rfl, hb⟩
  have HB := Aside0.mk hb
  clear hb
  go_wp2_with fail
  go_ret
  exact ⟨rfl, below_step (pw_below_drewN (Below.refl _ _) _) HB.out⟩
set_option maxHeartbeats 2000000 in
theorem ends_00 (a0 a1 a2 a3 : Int) (l n d k : Nat) (h0 : Go.bits .and .i64 a0 4294967295 = (l : Int)) (h1 : Go.bits .and .i64 a1 4294967295 = (n : Int)) (h2 : Go.bits .and .i64 a2 4294967295 = (d : Int)) (hl : l ≤ 4294967295) (hn0 : n ≤ 4294967295) (hd0 : d ≤ 4294967295) (hk : k ≤ 32767) (hW : ∀ w, Calls Try.prog 22 #[.int .i64 a3, .int .i64 0, .int .i64 32767] w fun e w' => e = .returned (.int .i64 (k : Int)) ∧ Drawn0 w w')
    (hn : l < n) (hs : 4294967295 < l + d) (w : World) : Calls Try.prog 11 #[.int .i64 a0, .int .i64 a1, .int .i64 a2, .int .i64 a3] w fun e w' => e = .returned (.bool true) ∧ Below w.heap.size w w' := by
  have H0 := Aside0.mk h0
  have H1 := Aside0.mk h1
  have H2 := Aside0.mk h2
  clear h0 h1 h2
  obtain ⟨m, hm⟩ : ∃ m, m = 1 + k := ⟨_, rfl⟩
  have ek : wrap64 (1 + (k : Int)) = (m : Int) := by rw [wrap_id (by omega) (by omega)]; omega
  have hr : right l m = true := right_ok (by omega) (by omega) (by omega)
  have HWn := Aside0.mk hW
  have HOf := Aside0.mk (of_ok l m (by omega))
  have HKn := Aside0.mk known_calls
  have HT := Aside0.mk (fun w => take_high l m n hr w hn (by omega))
  simp only [zero0] at HT
  have t1 : decide (n ≤ l) = false := by simp; omega
  have s2 : wrap64 ((l : Int) + (d : Int)) = ((l + d : Nat) : Int) := by rw [wrap_id (by omega) (by omega)]; omega
  have HA := Aside0.mk (fun w => add_high l m d hr w hs (by omega))
  simp only [zero0] at HA
  have t2 : decide ((l : Int) + (d : Int) ≤ 4294967295) = false := by simp; omega
  have E1 : (FloatKind.f64.format.order 0 0 == some Ordering.eq) = true := by decide +kernel
  clear hr hm hW hl hn0 hd0 hk hn hs
  simp only [W] at *
  go_enter Try.func11, Try.ntmps11
  have h0 := H0.out
  have h1 := H1.out
  have h2 := H2.out
  clear H0 H1 H2
  go_wp2_with fail
  refine (HWn.out _).mono ?_
  rintro e w1 ⟨rfl, ⟨n1, rfl⟩⟩
  go_wp2_with fail
  rw [ek]
  refine (HOf.out _).mono ?_
  rintro e w1 ⟨rfl, rfl⟩
  go_wp2_with fail
  refine (HT.out _).mono ?_
  rintro e w1 ⟨rfl, rfl⟩
  go_wp2_with fail
  refine (HA.out _).mono ?_
  rintro e w1 ⟨rfl, rfl⟩
  go_wp2_with fail
  refine (HKn.out _).mono ?_
  rintro e w2 ⟨rfl, hb⟩
  have HB := Aside0.mk hb
  clear hb
  go_wp2_with fail
  go_ret
  exact ⟨rfl, below_step (pw_below_drewN (Below.refl _ _) _) HB.out⟩

theorem ends_calls (a0 a1 a2 a3 : Int) (w : World) : Calls Try.prog 11 #[.int .i64 a0, .int .i64 a1, .int .i64 a2, .int .i64 a3] w fun e w' => e = .returned (.bool true) ∧ Below w.heap.size w w' := by
  obtain ⟨k, hk, hW⟩ := within_ex a3 32767 (by decide)
  obtain ⟨l, hl, h0⟩ := and32_ex a0
  obtain ⟨n, hn, h1⟩ := and32_ex a1
  obtain ⟨d, hd, h2⟩ := and32_ex a2
  rcases Nat.lt_or_ge l n with c | c <;> rcases Nat.lt_or_ge 4294967295 (l + d) with c2 | c2
  · exact ends_00 a0 a1 a2 a3 l n d k h0 h1 h2 hl hn hd hk hW c c2 w
  · exact ends_01 a0 a1 a2 a3 l n d k h0 h1 h2 hl hn hd hk hW c c2 w
  · exact ends_10 a0 a1 a2 a3 l n d k h0 h1 h2 hl hn hd hk hW c c2 w
  · exact ends_11 a0 a1 a2 a3 l n d k h0 h1 h2 hl hn hd hk hW c c2 w
end Go.Proofs.Ytclabnfngchpfaa.Win
