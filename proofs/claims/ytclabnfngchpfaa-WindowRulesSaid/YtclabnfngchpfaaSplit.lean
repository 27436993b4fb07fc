/-
  Split: how n bytes go, packet by packet.
-/
import Derived.Test.YtclabnfngchpfaaWindow
import Derived.Test.YtclabnfngchpfaaWMore
import Derived.Test.YtclabnfngchpfaaWLast
namespace Go.Proofs.Ytclabnfngchpfaa.Win
open Go.RowKit Go.Proofs.YtclabnfngchpfaaW.PrintWords Go.Proofs.YtclabnfngchpfaaW.PrintLast Go.Proofs.YtclabnfngchpfaaW.PrintMore Go.Proofs.Ytclabnfngchpfaa.Arr Go.Proofs.Ytclabnfngchpfaa.Fl

/-- The first j packets, when n bytes go in packets of m. -/
def pieces (n m : Nat) : List Int := List.replicate (n / m) (m : Int) ++ (if n % m = 0 then [] else [((n % m : Nat) : Int)])

/-- One packet more. -/
theorem pieces_step {q m : Nat} (hm : 1 ≤ m) (hq : 0 < q) : pieces q m = ((min q m : Nat) : Int) :: pieces (q - min q m) m := by
  unfold pieces
  rcases Nat.lt_or_ge q m with h | h
  · rw [Nat.min_eq_left (by omega), Nat.div_eq_of_lt h, Nat.mod_eq_of_lt h, if_neg (by omega)]
    simp
  · rw [Nat.min_eq_right h, Nat.div_eq_sub_div (by omega) h, Nat.mod_eq_sub_mod h, List.replicate_succ]
    rfl
theorem info_i64 : (Try.prog.info? 2).map (fun i => (i.zero, i.size, i.bytes)) = some (some (.int .i64 0), 1, 8) := by kernel_rfl
theorem pieces_zero (m : Nat) : pieces 0 m = [] := by simp [pieces]
theorem pieces_len (q m : Nat) : (pieces q m).length ≤ q + 1 := by
  unfold pieces
  have := Nat.div_le_self q m
  split <;> simp <;> omega

theorem split_calls (l m n : Nat) (hr : right l m = true) (hn : n < 4294967296) (w : World) :
    Calls Try.prog 35 #[W l m, .int .i64 (n : Int)] w fun e w' => ∃ v : Value, e = .returned (.tuple #[v, W (l - min n l) m]) ∧ Kd.R (Kd.int .i64) 2 w' w.heap.size (fun _ => True) v (pieces (min n l) m) ∧ Below w.heap.size w w' := by
  have hb : l ≤ 4294967295 ∧ 1 ≤ m ∧ m ≤ 32768 := by unfold right at hr; simpa using hr
  have C0 := Aside0.mk (right_calls l m (by omega) (by omega) w)
  have C1 := Aside0.mk (left_calls l m (by omega) (by omega) w)
  have C2 := Aside0.mk (take_calls l m (min n l) hr w (by omega))
  rw [hr] at C0 C1
  simp only [if_true] at C1
  obtain ⟨p, hp⟩ : ∃ p, p = min n l := ⟨_, rfl⟩
  rw [← hp] at C2 ⊢
  have hr2 : right (l - p) m = true := by unfold right; simp; omega
  have C3 := Aside0.mk (fun w => most_calls (l - p) m (by omega) (by omega) w)
  simp only [hr2, if_true] at C3
  have e1 : (if (l : Int) < (n : Int) then (l : Int) else (n : Int)) = (p : Int) := by subst hp; split <;> omega
  have HB0 := Aside0.mk hb
  rcases Nat.eq_zero_or_pos n with h0 | h0
  · subst h0
    have e0 : p = 0 := by omega
    subst e0
    clear hr hp hr2 C2 C3 hb e1
    unfold W at C0 C1 ⊢
    go_enter Try.func35, Try.ntmps35
    go_wp2_with fail
    refine C0.out.mono ?_
    rintro e w' ⟨rfl, rfl⟩
    go_wp2_with fail
    go_ret2
    exact ⟨.slice none 0 0, rfl, by rw [show pieces 0 m = [] by simp [pieces]]; exact Kd.R_nil _ _ _ _ _, Below.refl _ _⟩
  · have e0 : decide ((n : Int) < 1) = false := by simp; omega
    have K : ∀ x : Int, (if (l : Int) < (n : Int) then (l : Int) else (n : Int)) = x → x = (p : Int) := by intro x hx; rw [← hx, e1]
    clear hr hr2 hb e1
    unfold W at C0 C1 C2 C3 ⊢
    have hs : ((l : Int) < (n : Int) ∧ (p : Int) = l) ∨ (¬ (l : Int) < (n : Int) ∧ (p : Int) = n) := by omega
    have HP := Aside0.mk (show p < 4294967296 by omega)
    clear hp K hn
    have HM := Aside0.mk HB0.out.2
    go_enter Try.func35, Try.ntmps35
    go_wp2_with fail
    refine C0.out.mono ?_
    rintro e w' ⟨rfl, rfl⟩
    go_wp2_with fail
    refine C1.out.mono ?_
    rintro e w' ⟨rfl, rfl⟩
    rcases hs with ⟨hs, ep⟩ | ⟨hs, ep⟩
    all_goals
      have ep := Aside0.mk ep
      go_wp2_with fail
      rw [← ep.out]
      clear hs
      refine C2.out.mono ?_
      rintro e w ⟨rfl, rfl⟩
      go_wp2_with fail
      clear C0 C1 C2 e0 h0 HB0
      go_loopw [6, 7] (fun v6 v7 w' => ∃ (q : Nat) (xs : List Int), v7 = .int .i64 (q : Int) ∧ Aside0 (q ≤ p) ∧ Aside0 (xs ++ pieces q m = pieces p m) ∧ Aside0 (Kd.R (Kd.int .i64) 2 w' w.heap.size (fun _ => True) v6 xs) ∧ Aside0 (Below w.heap.size w w')) (fun _ v7 _ => (intOf v7).toNat)
      case atStart => exact ⟨p, [], by rw [ep.out], ⟨Nat.le_refl _⟩, ⟨rfl⟩, ⟨Kd.R_nil _ _ _ _ _⟩, ⟨Below.refl _ _⟩⟩
      case round =>
        obtain ⟨q, xs, rfl, Hq, HX, HR, HB⟩ := hrel
        rcases Nat.eq_zero_or_pos q with q0 | q0
        · subst q0
          go_wp2_with fail
          go_ret2
          have e := HX.out
          rw [pieces_zero, List.append_nil] at e
          rw [e] at HR
          exact ⟨u6, rfl, HR.out, HB.out⟩
        · have d0 : decide ((0 : Int) < (q : Int)) = true := by simp; omega
          have HQ := Aside0.mk q0
          have d1 : 0 < q := q0
          clear q0
          have hs : ((m : Int) < (q : Int) ∧ min q m = m) ∨ (¬ (m : Int) < (q : Int) ∧ min q m = q) := by omega
          go_wp2_with fail
          refine (C3.out _).mono ?_
          rintro e w1 ⟨rfl, rfl⟩
          rcases hs with ⟨hs, hmin⟩ | ⟨hs, hmin⟩
          · have hpc : pieces q m = (m : Int) :: pieces (q - m) m := by
              rw [pieces_step HM.out.1 HQ.out, hmin]
            have e2 : wrap64 ((q : Int) - (m : Int)) = ((q - m : Nat) : Int) := by have := Hq.out; have := HP.out; rw [wrap_id (by omega) (by omega)]; omega
            have E2 : Value.int .i64 (wrap64 ((q : Int) - (m : Int))) = Value.int .i64 ((q - m : Nat) : Int) := by rw [e2]
            have HPC := Aside0.mk hpc
            have HMN := Aside0.mk hmin
            clear hmin hpc
            have HL : (xs.length + 1) * 8 ≤ 140737488355328 := by
              have e := congrArg List.length HX.out
              have e3 := pieces_len p m
              rw [List.length_append] at e
              have := HP.out
              omega
            have HL := Aside0.mk HL
            go_wp2_with (first | ((with_reducible refine gate_builtin (b := .append) (xs := #[.tmp 33, .tmp 35]) rfl ?_); at_builtin; refine Kd.R_append (Kd.int .i64) (w0 := w) w.heap.size rfl (.tmp 33) (.tmp 35) 45 2 (.int .i64 0) 8 rfl Try.underlying45 info_i64 rfl (by decide) (by omega) u6 xs (m : Int) [.int .i64 (m : Int)] (fun _ => True) (fun _ => False) rfl rfl ?aP (fun _ hk => hk.elim) ?aF ?aO ?aB ?aS ?aL ?_; (case aP => exact rfl); (case aB => exact (by repeat (first | (with_reducible first | exact HB.out | apply below_alloc | apply pw_below_drewN | apply below_drew1) | exact HB.out))); (case aF => exact (fun _ _ => trivial)); (case aO => exact (by (with_reducible repeat (first | apply Kd.R_alloc | apply Kd.R_drewN | apply Kd.R_drew)); exact HR.out)); (case aS => exact (below_size (by repeat (first | (with_reducible first | exact HB.out | apply below_alloc | apply pw_below_drewN | apply below_drew1) | exact HB.out)))); (case aL => exact HL.out); intro v109 w4 ho hb hg hat; have HB4 := Aside0.mk (hb); have HR4 := Aside0.mk (ho); clear HB HR; clear ho hb hg hat))
            refine ⟨⟨(q - m), xs ++ [(m : Int)], E2, ⟨by have := Hq.out; omega⟩, ⟨by rw [List.append_assoc]; have e := HX.out; rw [HPC.out] at e; exact e⟩, HR4, HB4⟩, ?_⟩
            have := HQ.out; have := HM.out.1; rw [E2]; simp [intOf]; omega
          · have hpc : pieces q m = (q : Int) :: pieces 0 m := by
              rw [pieces_step HM.out.1 HQ.out, hmin]; simp
            have e2 : wrap64 ((q : Int) - (q : Int)) = ((0 : Nat) : Int) := by simp [wrap64]
            have HPC := Aside0.mk hpc
            have HMN := Aside0.mk hmin
            clear hmin hpc
            have HL : (xs.length + 1) * 8 ≤ 140737488355328 := by
              have e := congrArg List.length HX.out
              have e3 := pieces_len p m
              rw [List.length_append] at e
              have := HP.out
              omega
            have HL := Aside0.mk HL
            go_wp2_with (first | ((with_reducible refine gate_builtin (b := .append) (xs := #[.tmp 33, .tmp 35]) rfl ?_); at_builtin; refine Kd.R_append (Kd.int .i64) (w0 := w) w.heap.size rfl (.tmp 33) (.tmp 35) 45 2 (.int .i64 0) 8 rfl Try.underlying45 info_i64 rfl (by decide) (by omega) u6 xs (q : Int) [.int .i64 (q : Int)] (fun _ => True) (fun _ => False) rfl rfl ?aP (fun _ hk => hk.elim) ?aF ?aO ?aB ?aS ?aL ?_; (case aP => exact rfl); (case aB => exact (by repeat (first | (with_reducible first | exact HB.out | apply below_alloc | apply pw_below_drewN | apply below_drew1) | exact HB.out))); (case aF => exact (fun _ _ => trivial)); (case aO => exact (by (with_reducible repeat (first | apply Kd.R_alloc | apply Kd.R_drewN | apply Kd.R_drew)); exact HR.out)); (case aS => exact (below_size (by repeat (first | (with_reducible first | exact HB.out | apply below_alloc | apply pw_below_drewN | apply below_drew1) | exact HB.out)))); (case aL => exact HL.out); intro v109 w4 ho hb hg hat; have HB4 := Aside0.mk (hb); have HR4 := Aside0.mk (ho); clear HB HR; clear ho hb hg hat))
            refine ⟨⟨0, xs ++ [(q : Int)], rfl, ⟨by have := Hq.out; omega⟩, ⟨by rw [List.append_assoc]; have e := HX.out; rw [HPC.out] at e; exact e⟩, HR4, HB4⟩, ?_⟩
            have := HQ.out; simp [intOf]; omega
end Go.Proofs.Ytclabnfngchpfaa.Win
