/-
  window's calls on windows of two whole parts: what they answer, as plain numbers.
-/
import Derived.Test.YtclabnfngchpfaaFloat
import Derived.Laws.Cover3
import Derived.Laws.Externs
namespace Go.Proofs.Ytclabnfngchpfaa.Win
open Go.RowKit Go.Proofs.YtclabnfngchpfaaW.PrintWords Go.Proofs.Ytclabnfngchpfaa.Arr Go.Proofs.Ytclabnfngchpfaa.Fl

/-- A window. -/
def W (l m : Nat) : Value := .complex .f64 (F l) (F m)
def right (l m : Nat) : Bool := decide (l ≤ 4294967295 ∧ 1 ≤ m ∧ m ≤ 32768)

theorem k0 : (0 : Nat) = F 0 := by decide +kernel
theorem k1 : (4607182418800017408 : Nat) = F 1 := by decide +kernel
theorem kMost : F 4294967295 = 4751297606873776128 := by decide +kernel
theorem kData : F 32768 = 4674736413210574848 := by decide +kernel

theorem arch_run (n : Nat) (h : n < 9007199254740992) (w : World) : (callFunc 49 #[.float .f64 (F n)]).run Try.prog w = .ok (.value (.float .f64 (F n))) w := by
  rw [run_callFunc_extern (P := Try.prog) (e := Extern.MathFloor.toIntegral "math.archTrunc" .zero) Try.func49 (by kernel_rfl) (by kernel_rfl) (by kernel_rfl) (by kernel_rfl)]
  have hd : FloatKind.f64.decode (F n) = Ieee.double.read (F n) := rfl
  have hr : (Extern.MathFloor.toIntegral "math.archTrunc" .zero #[.float .f64 (F n)]).run Try.prog w = .ok (.float .f64 (F n)) w := by
    show Sem.run Try.prog (match FloatKind.f64.decode (F n) with
      | .nan s t => if FloatKind.f64.format.quiet t = t then pure (Value.float .f64 (F n)) else do
        let kept ← choose (.extern "math.Floor,Ceil,Trunc,RoundToEven.signallingNaN kept" 2)
        pure (Value.float .f64 (if kept == 1 then F n else FloatKind.f64.encode (.nan s (FloatKind.f64.format.quiet t))))
      | d => pure (Value.float .f64 (FloatKind.f64.encode (d.integral .zero)))) w = _
    have ht := F_trunc h
    rw [hd]
    rcases Nat.eq_zero_or_pos n with rfl | h0
    · rw [F_zero] at ht ⊢
      rw [F_read_zero] at ht ⊢
      show Result.ok (Value.float .f64 (Ieee.double.write _)) w = _
      rw [ht]
    · rw [F_read h0 h] at ht ⊢
      show Result.ok (Value.float .f64 (Ieee.double.write _)) w = _
      rw [ht]
  rw [hr]
  rfl

theorem trunc_calls (n : Nat) (h : n < 9007199254740992) (w : World) : Calls Try.prog 47 #[.float .f64 (F n)] w fun e w' => e = .returned (.float .f64 (F n)) ∧ w' = w := by
  have hd := fun w => arch_run n h w
  go_enter Try.func47, Try.ntmps47
  go_wp2
  go_ret
  exact ⟨rfl, rfl⟩

/-- Is a part whole, and within bounds? -/
theorem whole_calls (x a b : Nat) (hx : x < 9007199254740992) (ha : a < 9007199254740992) (hb : b < 9007199254740992) (w : World) :
    Calls Try.prog 40 #[.float .f64 (F x), .float .f64 (F a), .float .f64 (F b)] w fun e w' => e = .returned (.bool (decide (a ≤ x ∧ x ≤ b))) ∧ w' = w := by
  have o1 : FloatKind.f64.format.order (F x) (F a) = some (compare (x : Int) (a : Int)) := F_order hx ha
  have o2 : FloatKind.f64.format.order (F x) (F b) = some (compare (x : Int) (b : Int)) := F_order hx hb
  have o3 : FloatKind.f64.format.order (F x) (F x) = some (compare (x : Int) (x : Int)) := F_order hx hx
  rw [cmp_eq] at o3
  by_cases h1 : a ≤ x
  · have o1' : FloatKind.f64.format.order (F x) (F a) = some .gt ∨ FloatKind.f64.format.order (F x) (F a) = some .eq := by
      rcases Nat.lt_or_eq_of_le h1 with h | h
      · left; rw [o1, cmp_gt (by omega)]
      · right; rw [o1, h, cmp_eq]
    have g1 : (FloatKind.f64.format.order (F x) (F a) == some Ordering.gt || FloatKind.f64.format.order (F x) (F a) == some Ordering.eq) = true := by
      rcases o1' with h | h <;> rw [h] <;> rfl
    clear o1 o1'
    by_cases h2 : x ≤ b
    · have g2 : (FloatKind.f64.format.order (F x) (F b) == some Ordering.lt || FloatKind.f64.format.order (F x) (F b) == some Ordering.eq) = true := by
        rcases Nat.lt_or_eq_of_le h2 with h | h
        · rw [o2, cmp_lt (by omega)]; rfl
        · rw [o2, h, cmp_eq]; rfl
      have e1 := Aside0.mk (show decide (a ≤ x ∧ x ≤ b) = true by simp; omega)
      clear o2 h1 h2
      go_enter Try.func40, Try.ntmps40
      go_wp2_with (go_at_call 47; refine (trunc_calls x hx _).mono ?_; rintro e w' ⟨rfl, rfl⟩)
      go_ret
      exact ⟨by rw [e1.out]; rfl, rfl⟩
    · have g2 : (FloatKind.f64.format.order (F x) (F b) == some Ordering.lt || FloatKind.f64.format.order (F x) (F b) == some Ordering.eq) = false := by
        rw [o2, cmp_gt (by omega)]; rfl
      have e1 := Aside0.mk (show decide (a ≤ x ∧ x ≤ b) = false by simp; omega)
      clear o2 o3 h1 h2
      go_enter Try.func40, Try.ntmps40
      go_wp2
      go_ret
      exact ⟨by rw [e1.out]; rfl, rfl⟩
  · have g1 : (FloatKind.f64.format.order (F x) (F a) == some Ordering.gt || FloatKind.f64.format.order (F x) (F a) == some Ordering.eq) = false := by
      rw [o1, cmp_lt (by omega)]; rfl
    have e1 := Aside0.mk (show decide (a ≤ x ∧ x ≤ b) = false by simp; omega)
    clear o1 o2 o3 h1
    go_enter Try.func40, Try.ntmps40
    go_wp2
    go_ret
    exact ⟨by rw [e1.out]; rfl, rfl⟩

theorem right_calls (l m : Nat) (hl : l < 9007199254740992) (hm : m < 9007199254740992) (w : World) :
    Calls Try.prog 23 #[W l m] w fun e w' => e = .returned (.bool (right l m)) ∧ w' = w := by
  have c0 : Calls Try.prog 40 #[.float .f64 (F l), .float .f64 0, .float .f64 4751297606873776128] w fun e w' => e = .returned (.bool (decide (0 ≤ l ∧ l ≤ 4294967295))) ∧ w' = w := by
    have := whole_calls l 0 4294967295 hl (by omega) (by omega) w
    rw [F_zero, kMost] at this
    exact this
  have c1 : Calls Try.prog 40 #[.float .f64 (F m), .float .f64 4607182418800017408, .float .f64 4674736413210574848] w fun e w' => e = .returned (.bool (decide (1 ≤ m ∧ m ≤ 32768))) ∧ w' = w := by
    have := whole_calls m 1 32768 hm (by omega) (by omega) w
    rw [← k1, kData] at this
    exact this
  have C0 := Aside0.mk c0
  have C1 := Aside0.mk c1
  clear c0 c1
  unfold W
  by_cases h0 : l ≤ 4294967295
  · have e0 := Aside0.mk (show decide (0 ≤ l ∧ l ≤ 4294967295) = true by simp; omega)
    have e1 := Aside0.mk (show right l m = decide (1 ≤ m ∧ m ≤ 32768) by unfold right; simp [h0])
    clear h0
    go_enter Try.func23, Try.ntmps23
    go_wp2_with fail
    refine C0.out.mono ?_
    rintro e w' ⟨rfl, rfl⟩
    rw [e0.out]
    go_wp2_with fail
    refine C1.out.mono ?_
    rintro e w' ⟨rfl, rfl⟩
    go_wp2_with fail
    go_ret
    exact ⟨by rw [e1.out]; simp, rfl⟩
  · have e0 := Aside0.mk (show decide (0 ≤ l ∧ l ≤ 4294967295) = false by simp; omega)
    have e1 := Aside0.mk (show right l m = false by unfold right; simp; omega)
    clear h0
    go_enter Try.func23, Try.ntmps23
    go_wp2_with fail
    refine C0.out.mono ?_
    rintro e w' ⟨rfl, rfl⟩
    rw [e0.out]
    go_wp2_with fail
    go_ret
    exact ⟨by rw [e1.out]; rfl, rfl⟩

theorem toIntVal (l : Nat) (h : l < 9007199254740992) : floatToIntVal .f64 (F l) .i64 = some (l : Int) := by
  unfold floatToIntVal
  have := F_toInt h
  have hd : FloatKind.f64.decode (F l) = Ieee.double.read (F l) := rfl
  rw [hd, this]
  have e1 : IntKind.i64.min = -9223372036854775808 := rfl
  have e2 : IntKind.i64.max = 9223372036854775807 := rfl
  simp only [e1, e2]
  rw [if_pos (by omega)]
theorem conv_run (l : Nat) (h : l < 9007199254740992) (w : World) : (convert 62 2 (.float .f64 (F l))).run Try.prog w = .ok (.int .i64 (l : Int)) w :=
  run_convert_float_int (P := Try.prog) w 62 2 .f64 .i64 (F l) l (by kernel_rfl) Try.underlying2 (toIntVal l h)

theorem left_calls (l m : Nat) (hl : l < 9007199254740992) (hm : m < 9007199254740992) (w : World) :
    Calls Try.prog 25 #[W l m] w fun e w' => e = .returned (.int .i64 (if right l m then (l : Int) else 0)) ∧ w' = w := by
  have c0 := right_calls l m hl hm w
  have C0 := Aside0.mk c0
  have cv := conv_run l hl
  clear c0
  cases hr : right l m
  · rw [hr] at C0
    clear cv hl hm
    unfold W at C0 ⊢
    go_enter Try.func25, Try.ntmps25
    go_wp2_with fail
    refine C0.out.mono ?_
    rintro e w' ⟨rfl, rfl⟩
    go_wp2_with fail
    go_ret
    exact ⟨rfl, rfl⟩
  · rw [hr] at C0
    clear hl hm
    unfold W at C0 ⊢
    go_enter Try.func25, Try.ntmps25
    go_wp2_with fail
    refine C0.out.mono ?_
    rintro e w' ⟨rfl, rfl⟩
    go_wp2_with fail
    go_ret
    exact ⟨rfl, rfl⟩
theorem most_calls (l m : Nat) (hl : l < 9007199254740992) (hm : m < 9007199254740992) (w : World) :
    Calls Try.prog 27 #[W l m] w fun e w' => e = .returned (.int .i64 (if right l m then (m : Int) else 0)) ∧ w' = w := by
  have c0 := right_calls l m hl hm w
  have C0 := Aside0.mk c0
  have cv := conv_run m hm
  clear c0
  cases hr : right l m
  · rw [hr] at C0
    clear cv hl hm
    unfold W at C0 ⊢
    go_enter Try.func27, Try.ntmps27
    go_wp2_with fail
    refine C0.out.mono ?_
    rintro e w' ⟨rfl, rfl⟩
    go_wp2_with fail
    go_ret
    exact ⟨rfl, rfl⟩
  · rw [hr] at C0
    clear hl hm
    unfold W at C0 ⊢
    go_enter Try.func27, Try.ntmps27
    go_wp2_with fail
    refine C0.out.mono ?_
    rintro e w' ⟨rfl, rfl⟩
    go_wp2_with fail
    go_ret
    exact ⟨rfl, rfl⟩

theorem fof (l : Nat) : floatOfInt .f64 (l : Int) = F l := by
  unfold floatOfInt F FloatKind.nearest
  rfl

theorem of_calls (l m : Nat) (w : World) :
    Calls Try.prog 33 #[.int .i64 (l : Int), .int .i64 (m : Int)] w fun e w' => e = .returned (W l (min m 32768)) ∧ w' = w := by
  by_cases h : 32768 < m
  · have h1 : (32768 : Int) < (m : Int) := by omega
    have h2 : min m 32768 = 32768 := by omega
    have h3 := fof l
    have h4 : floatOfInt .f64 32768 = F 32768 := fof 32768
    rw [h2]
    unfold W
    clear h h2
    go_enter Try.func33, Try.ntmps33
    go_wp2_with fail
    go_ret
    exact ⟨rfl, rfl⟩
  · have h1 : ¬ (32768 : Int) < (m : Int) := by omega
    have h2 : min m 32768 = m := by omega
    have h3 := fof l
    have h4 := fof m
    rw [h2]
    unfold W
    clear h h2
    go_enter Try.func33, Try.ntmps33
    go_wp2_with fail
    go_ret
    exact ⟨rfl, rfl⟩

/-- Another first part. -/
theorem turned_calls (l m x : Nat) (w : World) (hx : x ≤ 4294967295) :
    Calls Try.prog 41 #[W l m, .int .i64 (x : Int), .bool true] w fun e w' => e = .returned (.tuple #[W x m, .bool true]) ∧ w' = w := by
  have h1 : decide ((x : Int) < 0) = false := by simp
  have h2 : decide ((4294967295 : Int) < (x : Int)) = false := by simp; omega
  have h3 := fof x
  unfold W
  clear hx
  go_enter Try.func41, Try.ntmps41
  go_wp2_with fail
  go_ret2
  exact ⟨rfl, rfl⟩
theorem turned_low (l m : Nat) (x : Int) (w : World) (hx : x < 0) :
    Calls Try.prog 41 #[W l m, .int .i64 x, .bool true] w fun e w' => e = .returned (.tuple #[W 0 0, .bool false]) ∧ w' = w := by
  have h1 : decide (x < 0) = true := by simp; omega
  unfold W
  rw [F_zero]
  clear hx
  go_enter Try.func41, Try.ntmps41
  go_wp2_with fail
  go_ret2
  exact ⟨rfl, rfl⟩
theorem turned_high (l m : Nat) (x : Int) (w : World) (hx : 4294967295 < x) :
    Calls Try.prog 41 #[W l m, .int .i64 x, .bool true] w fun e w' => e = .returned (.tuple #[W 0 0, .bool false]) ∧ w' = w := by
  have h1 : decide (x < 0) = false := by simp; omega
  have h2 : decide (4294967295 < x) = true := by simp; omega
  unfold W
  rw [F_zero]
  clear hx
  go_enter Try.func41, Try.ntmps41
  go_wp2_with fail
  go_ret2
  exact ⟨rfl, rfl⟩

theorem take_calls (l m n : Nat) (hr : right l m = true) (w : World) (hn : n ≤ l) :
    Calls Try.prog 29 #[W l m, .int .i64 (n : Int)] w fun e w' => e = .returned (.tuple #[W (l - n) m, .bool true]) ∧ w' = w := by
  have hb : l ≤ 4294967295 ∧ 1 ≤ m ∧ m ≤ 32768 := by unfold right at hr; simpa using hr
  have C0 := Aside0.mk (left_calls l m (by omega) (by omega) w)
  have C1 := Aside0.mk (right_calls l m (by omega) (by omega) w)
  have C2 := Aside0.mk (turned_calls l m (l - n) w (by omega))
  rw [hr] at C0 C1
  have e0 : ¬ ((0 : Int) > (n : Int)) := by omega
  have e1 : wrap64 ((l : Int) - (n : Int)) = ((l - n : Nat) : Int) := by rw [wrap_id (by omega) (by omega)]; omega
  have e2 : decide ((n : Int) < 0) = false := by simp
  clear hn hb hr
  unfold W at C0 C1 C2 ⊢
  go_enter Try.func29, Try.ntmps29
  go_wp2_with fail
  refine C0.out.mono ?_
  rintro e w' ⟨rfl, rfl⟩
  go_wp2_with fail
  refine C1.out.mono ?_
  rintro e w' ⟨rfl, rfl⟩
  go_wp2_with fail
  refine C2.out.mono ?_
  rintro e w' ⟨rfl, rfl⟩
  go_wp2_with fail
  go_ret2
  exact ⟨rfl, rfl⟩

theorem take_high (l m n : Nat) (hr : right l m = true) (w : World) (hn : l < n) (hn2 : n < 9223372036854775808) :
    Calls Try.prog 29 #[W l m, .int .i64 (n : Int)] w fun e w' => e = .returned (.tuple #[W 0 0, .bool false]) ∧ w' = w := by
  have hb : l ≤ 4294967295 ∧ 1 ≤ m ∧ m ≤ 32768 := by unfold right at hr; simpa using hr
  have C0 := Aside0.mk (left_calls l m (by omega) (by omega) w)
  have C1 := Aside0.mk (right_calls l m (by omega) (by omega) w)
  have C2 := Aside0.mk (turned_low l m ((l : Int) - n) w (by omega))
  rw [hr] at C0 C1
  have e0 : ¬ ((0 : Int) > (n : Int)) := by omega
  have e1 : wrap64 ((l : Int) - (n : Int)) = (l : Int) - n := by rw [wrap_id (by omega) (by omega)]
  have e2 : decide ((n : Int) < 0) = false := by simp
  clear hn hn2 hb hr
  unfold W at C0 C1 C2 ⊢
  go_enter Try.func29, Try.ntmps29
  go_wp2_with fail
  refine C0.out.mono ?_
  rintro e w' ⟨rfl, rfl⟩
  go_wp2_with fail
  refine C1.out.mono ?_
  rintro e w' ⟨rfl, rfl⟩
  go_wp2_with fail
  refine C2.out.mono ?_
  rintro e w' ⟨rfl, rfl⟩
  go_wp2_with fail
  go_ret2
  exact ⟨rfl, rfl⟩

theorem add_calls (l m n : Nat) (hr : right l m = true) (w : World) (hn : l + n ≤ 4294967295) :
    Calls Try.prog 31 #[W l m, .int .i64 (n : Int)] w fun e w' => e = .returned (.tuple #[W (l + n) m, .bool true]) ∧ w' = w := by
  have hb : l ≤ 4294967295 ∧ 1 ≤ m ∧ m ≤ 32768 := by unfold right at hr; simpa using hr
  have C0 := Aside0.mk (left_calls l m (by omega) (by omega) w)
  have C1 := Aside0.mk (right_calls l m (by omega) (by omega) w)
  have C2 := Aside0.mk (turned_calls l m (l + n) w (by omega))
  rw [hr] at C0 C1
  have e0 : ¬ ((4294967296 : Int) < (n : Int)) := by omega
  have e1 : wrap64 ((l : Int) + (n : Int)) = ((l + n : Nat) : Int) := by rw [wrap_id (by omega) (by omega)]; omega
  have e2 : decide ((n : Int) < 0) = false := by simp
  clear hn hb hr
  unfold W at C0 C1 C2 ⊢
  go_enter Try.func31, Try.ntmps31
  go_wp2_with fail
  refine C0.out.mono ?_
  rintro e w' ⟨rfl, rfl⟩
  go_wp2_with fail
  refine C1.out.mono ?_
  rintro e w' ⟨rfl, rfl⟩
  go_wp2_with fail
  refine C2.out.mono ?_
  rintro e w' ⟨rfl, rfl⟩
  go_wp2_with fail
  go_ret2
  exact ⟨rfl, rfl⟩

theorem add_high (l m n : Nat) (hr : right l m = true) (w : World) (hn : 4294967295 < l + n) (hn2 : n ≤ 4294967296) :
    Calls Try.prog 31 #[W l m, .int .i64 (n : Int)] w fun e w' => e = .returned (.tuple #[W 0 0, .bool false]) ∧ w' = w := by
  have hb : l ≤ 4294967295 ∧ 1 ≤ m ∧ m ≤ 32768 := by unfold right at hr; simpa using hr
  have C0 := Aside0.mk (left_calls l m (by omega) (by omega) w)
  have C1 := Aside0.mk (right_calls l m (by omega) (by omega) w)
  have C2 := Aside0.mk (turned_high l m ((l : Int) + (n : Int)) w (by omega))
  rw [hr] at C0 C1
  have e0 : ¬ ((4294967296 : Int) < (n : Int)) := by omega
  have e1 : wrap64 ((l : Int) + (n : Int)) = (l : Int) + (n : Int) := by rw [wrap_id (by omega) (by omega)]
  have e2 : decide ((n : Int) < 0) = false := by simp
  clear hn hn2 hb hr
  unfold W at C0 C1 C2 ⊢
  go_enter Try.func31, Try.ntmps31
  go_wp2_with fail
  refine C0.out.mono ?_
  rintro e w' ⟨rfl, rfl⟩
  go_wp2_with fail
  refine C1.out.mono ?_
  rintro e w' ⟨rfl, rfl⟩
  go_wp2_with fail
  refine C2.out.mono ?_
  rintro e w' ⟨rfl, rfl⟩
  go_wp2_with fail
  go_ret2
  exact ⟨rfl, rfl⟩

end Go.Proofs.Ytclabnfngchpfaa.Win
