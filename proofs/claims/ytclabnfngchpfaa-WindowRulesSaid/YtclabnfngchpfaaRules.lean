/-
  WindowRules, walked.
-/
import Derived.Test.YtclabnfngchpfaaEnds
namespace Go.Proofs.Ytclabnfngchpfaa.Win
open Go.RowKit Go.Proofs.YtclabnfngchpfaaW.PrintWords Go.Proofs.YtclabnfngchpfaaW.PrintLast Go.Proofs.YtclabnfngchpfaaW.PrintMore Go.Proofs.Ytclabnfngchpfaa.Arr Go.Proofs.Ytclabnfngchpfaa.Fl

theorem pieces_n (p m : Nat) : (pieces p m).length = p / m + if p % m = 0 then 0 else 1 := by
  unfold pieces
  rw [List.length_append, List.length_replicate]
  split <;> simp
theorem pieces_rd (p m i : Nat) (hm : 1 ≤ m) (hi : i < (pieces p m).length) : ∃ x : Nat, rd (pieces p m) (i : Int) = (x : Int) ∧ 1 ≤ x ∧ x ≤ m ∧ (i + 1 < (pieces p m).length → x = m) ∧ min (i * m) p + x = min ((i + 1) * m) p := by
  rw [pieces_n] at hi ⊢
  have hd := Nat.div_add_mod p m
  have hlt := Nat.mod_lt p hm
  rw [Nat.mul_comm] at hd
  have e1 : (i + 1) * m = i * m + m := Nat.succ_mul i m
  by_cases h : i < p / m
  · refine ⟨m, ?_, hm, Nat.le_refl _, fun _ => rfl, ?_⟩
    · simp only [rd, Int.toNat_natCast, List.getD_eq_getElem?_getD, pieces]
      rw [List.getElem?_append_left (by simpa using h)]
      simp [h]
    · have : (i + 1) * m ≤ p / m * m := Nat.mul_le_mul_right m h
      omega
  · have hr : p % m ≠ 0 := by
      intro h0
      rw [if_pos h0] at hi
      omega
    rw [if_neg hr] at hi ⊢
    obtain rfl : i = p / m := by omega
    refine ⟨p % m, ?_, by omega, by omega, fun h2 => absurd h2 (by omega), ?_⟩
    · simp only [rd, Int.toNat_natCast, List.getD_eq_getElem?_getD, pieces]
      rw [if_neg hr, List.getElem?_append_right (by simp)]
      simp
    · omega
theorem pieces_sum (p m : Nat) (hm : 1 ≤ m) : min ((pieces p m).length * m) p = p := by
  rw [pieces_n]
  have hd := Nat.div_add_mod p m
  have hlt := Nat.mod_lt p hm
  rw [Nat.mul_comm] at hd
  split
  · rw [Nat.add_zero]; omega
  · rw [Nat.succ_mul]; omega
theorem pieces_le (p m : Nat) (hm : 1 ≤ m) (hp : p ≤ 6000) : (pieces p m).length ≤ 6001 := by
  have := pieces_len p m
  omega
theorem wr_sum (a x b : Nat) (h : a + x = b) (hb : b ≤ 6000) : wrap64 ((a : Int) + (x : Int)) = (b : Int) := by rw [wrap_id (by omega) (by omega)]; omega
theorem wr_one (i : Nat) (h : i ≤ 7000) : wrap64 ((i : Int) + 1) = ((i + 1 : Nat) : Int) := by rw [wrap_id (by omega) (by omega)]; omega
theorem wr_sub (n : Nat) (h : n ≤ 7000) : wrap64 ((n : Int) - 1) = (n : Int) - 1 := wrap_id (by omega) (by omega)
set_option maxHeartbeats 4000000 in
theorem rules_calls (a0 a1 a2 : Int) (w : World) : Calls Try.prog 9 #[.int .i64 a0, .int .i64 a1, .int .i64 a2] w fun e w' => e = .returned (.bool true) ∧ Below w.heap.size w w' := by
  obtain ⟨l, hl, hW0⟩ := within_ex a0 5000 (by decide)
  obtain ⟨k, hk, hW1⟩ := within_ex a1 99 (by decide)
  obtain ⟨n, hn, hW2⟩ := within_ex a2 6000 (by decide)
  obtain ⟨m, hm⟩ : ∃ m, m = 1 + k := ⟨_, rfl⟩
  have ek : wrap64 (1 + (k : Int)) = (m : Int) := by rw [wrap_id (by omega) (by omega)]; omega
  have HW0 := Aside0.mk hW0
  have HW1 := Aside0.mk hW1
  have HW2 := Aside0.mk hW2
  have HOf := Aside0.mk (of_ok l m (by omega))
  have HKn := Aside0.mk known_calls
  have HS := Aside0.mk (fun w => split_calls l m n (right_ok (by omega) (by omega) (by omega)) (by omega) w)
  obtain ⟨p, hp⟩ : ∃ p, p = min n l := ⟨_, rfl⟩
  rw [← hp] at HS
  have HB := Aside0.mk (show l ≤ 5000 ∧ n ≤ 6000 ∧ 1 ≤ m ∧ m ≤ 100 ∧ p = min n l by omega)
  have HT := Aside0.mk (fun w => take_calls l m p (right_ok (by omega) (by omega) (by omega)) w (by omega))
  have HA := Aside0.mk (fun w => add_calls (l - p) m p (right_ok (by omega) (by omega) (by omega)) w (by omega))
  rw [show l - p + p = l by omega] at HA
  have HR := Aside0.mk (fun w => right_calls (l - p) m (by omega) (by omega) w)
  rw [right_ok (show l - p ≤ 4294967295 by omega) (show 1 ≤ m by omega) (show m ≤ 32768 by omega)] at HR
  have s1 := same_f (l - p) (l - p) rfl (by omega)
  have s2 := same_f m m rfl (by omega)
  have s3 := same_f l l rfl (by omega)
  obtain ⟨q, hq⟩ : ∃ q, q = l - p := ⟨_, rfl⟩
  rw [← hq] at HS HT HA HR s1
  have HSA := Aside0.mk (And.intro s1 (And.intro s2 s3))
  clear hq
  clear hW0 hW1 hW2 hl hk hn hm hp s1 s2 s3
  simp only [W] at *
  go_enter Try.func9, Try.ntmps9
  go_wp2_with fail
  refine (HW0.out _).mono ?_
  rintro e w1 ⟨rfl, ⟨n1, rfl⟩⟩
  go_wp2_with fail
  refine (HW1.out _).mono ?_
  rintro e w1 ⟨rfl, ⟨n2, rfl⟩⟩
  go_wp2_with fail
  refine (HW2.out _).mono ?_
  rintro e w1 ⟨rfl, ⟨n3, rfl⟩⟩
  go_wp2_with fail
  refine (HOf.out _).mono ?_
  rintro e w1 ⟨rfl, rfl⟩
  go_wp2_with fail
  refine (HS.out _).mono ?_
  rintro e w1 ⟨v1, rfl, hR, hb⟩
  have HB1 := Aside0.mk (below_step (pw_below_drewN (Below.refl w.heap.size w) _) hb)
  clear hb
  obtain ⟨A, c, rfl, hc, hC⟩ := Kd.R_reads hR
  have HC := Aside0.mk hC
  clear hC hc hR
  obtain ⟨N, hN⟩ : ∃ N, N = (pieces p m).length := ⟨_, rfl⟩
  have HN := Aside0.mk hN
  have HNL := Aside0.mk (show N ≤ 6001 by rw [hN]; exact pieces_le p m HB.out.2.2.1 (by have := HB.out; omega))
  rw [← hN] at HC ⊢
  clear hN
  go_wp2_with fail
  go_loopw [10, 11] (fun v u w' => ∃ i : Nat, i ≤ N ∧ u = .int .i64 (i : Int) ∧ v = .int .i64 ((min (i * m) p : Nat) : Int) ∧ w' = w1) (fun _ u _ => N - (intOf u).toNat)
  case atStart => exact ⟨0, by omega, rfl, by simp, rfl⟩
  case round =>
    obtain ⟨i, hi, rfl, rfl, hw'⟩ := hrel
    replace hw' := hw'.symm
    subst hw'
    by_cases hlt : i < N
    · obtain ⟨x, hx, h1, h2, h3, h4⟩ := pieces_rd p m i HB.out.2.2.1 (by rw [← HN.out]; exact hlt)
      obtain ⟨ad, hA, hcell⟩ := Kd.at_int HC.out (i : Int) (by omega) (by omega)
      subst hA
      rw [Int.toNat_natCast, hx] at hcell
      have i0 : (i : Int) < (N : Int) := by omega
      have d1 : decide ((x : Int) < 1) = false := decide_eq_false (by omega)
      have d2 : decide ((m : Int) < (x : Int)) = false := decide_eq_false (by omega)
      have d3 : decide (m < x) = false := decide_eq_false (by omega)
      have d5 : decide (x < 1) = false := decide_eq_false (by omega)
      have HP6 := Aside0.mk (show min ((i + 1) * m) p ≤ 6000 by have := HB.out; omega)
      by_cases hl2 : i + 1 < N
      · have hxm := h3 (by rw [← HN.out]; exact hl2)
        have d4 : decide ((i : Int) < (N : Int) - 1) = true := decide_eq_true (by omega)
        have d6 : ((x : Int) != (m : Int)) = false := by rw [hxm]; simp
        have hms : (N - (intOf (.int .i64 ((i + 1 : Nat) : Int))).toNat < N - (intOf (.int .i64 (i : Int))).toNat) := by simp [intOf]; omega
        have hwn := wr_sub N (Nat.le_trans HNL.out (by decide))
        have hws := wr_sum (min (i * m) p) x (min ((i + 1) * m) p) h4 HP6.out
        have hw1 := wr_one i (Nat.le_trans (Nat.le_of_lt hlt) (Nat.le_trans HNL.out (by decide)))
        clear h1 h2 h3 h4 hx
        subst hxm
        go_wp2_with fail
        rw [hw1, hws]
        exact ⟨⟨i + 1, Nat.le_of_lt hl2, rfl, rfl, trivial⟩, hms⟩
      · have d4 : decide ((i : Int) < (N : Int) - 1) = false := decide_eq_false (by omega)
        have hms : (N - (intOf (.int .i64 ((i + 1 : Nat) : Int))).toNat < N - (intOf (.int .i64 (i : Int))).toNat) := by simp [intOf]; omega
        have hwn := wr_sub N (Nat.le_trans HNL.out (by decide))
        have hws := wr_sum (min (i * m) p) x (min ((i + 1) * m) p) h4 HP6.out
        have hw1 := wr_one i (Nat.le_trans (Nat.le_of_lt hlt) (Nat.le_trans HNL.out (by decide)))
        clear h1 h2 h3 h4 hx
        go_wp2_with fail
        rw [hw1, hws]
        exact ⟨⟨i + 1, hlt, rfl, rfl, trivial⟩, hms⟩
    · obtain rfl : i = N := by omega
      have hsum : min (i * m) p = p := by rw [HN.out]; exact pieces_sum p m HB.out.2.2.1
      rw [hsum]
      obtain ⟨E1, E2, E3⟩ := HSA.out
      have hpp := HB.out.2.2.2.2
      by_cases hln : l < n
      · have d1 : decide ((l : Int) < (n : Int)) = true := decide_eq_true (by omega)
        have d2 : decide (l < n) = true := decide_eq_true hln
        obtain rfl : p = l := by omega
        clear hpp hln hi hlt hsum
        go_wp2_with fail
        refine (HT.out _).mono ?_
        rintro e w2 ⟨rfl, hw2⟩
        replace hw2 := hw2.symm
        subst hw2
        go_wp2_with fail
        refine (HA.out _).mono ?_
        rintro e w2 ⟨rfl, hw2⟩
        replace hw2 := hw2.symm
        subst hw2
        go_wp2_with fail
        refine (HR.out _).mono ?_
        rintro e w2 ⟨rfl, hw2⟩
        replace hw2 := hw2.symm
        subst hw2
        go_wp2_with fail
        refine (HKn.out _).mono ?_
        rintro e w3 ⟨rfl, hb⟩
        have HB3 := Aside0.mk (below_step HB1.out hb)
        clear hb
        go_wp2_with fail
        go_ret
        exact ⟨rfl, HB3.out⟩
      · have d1 : decide ((l : Int) < (n : Int)) = false := decide_eq_false (by omega)
        have d2 : decide (l < n) = false := decide_eq_false hln
        obtain rfl : p = n := by omega
        clear hpp hln hi hlt hsum
        go_wp2_with fail
        refine (HT.out _).mono ?_
        rintro e w2 ⟨rfl, hw2⟩
        replace hw2 := hw2.symm
        subst hw2
        go_wp2_with fail
        refine (HA.out _).mono ?_
        rintro e w2 ⟨rfl, hw2⟩
        replace hw2 := hw2.symm
        subst hw2
        go_wp2_with fail
        refine (HR.out _).mono ?_
        rintro e w2 ⟨rfl, hw2⟩
        replace hw2 := hw2.symm
        subst hw2
        go_wp2_with fail
        refine (HKn.out _).mono ?_
        rintro e w3 ⟨rfl, hb⟩
        have HB3 := Aside0.mk (below_step HB1.out hb)
        clear hb
        go_wp2_with fail
        go_ret
        exact ⟨rfl, HB3.out⟩
end Go.Proofs.Ytclabnfngchpfaa.Win
