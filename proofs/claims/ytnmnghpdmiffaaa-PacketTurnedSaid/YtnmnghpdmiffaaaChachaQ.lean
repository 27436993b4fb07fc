/-
  chacha.quarter and the reference's quarter: both mix four words of an array of sixteen, in one and the same way.
-/
import Derived.Test.YtnmnghpdmiffaaaArr
namespace Go.Proofs.Ytnmnghpdmiffaaa.Cha
open Go.RowKit Go.Proofs.YtnmnghpdmiffaaaW.PrintWords Go.Proofs.Ytnmnghpdmiffaaa.Arr
set_option maxRecDepth 100000

/-- A word turned left. -/
def rotl (x : Int) (n : Nat) : Int := Go.bits .or .u32 (x * 2 ^ n % 4294967296) (x / 2 ^ (32 - n))

theorem rot_any (x : Int) (n : Nat) (hn : n ≤ 31) (w : World) : Calls Try.prog 70 #[.int .u32 x, .int .i64 n] w fun e w' => e = .returned (.int .u32 (rotl x n)) ∧ w' = w := by
  have h1 : IntKind.u64.wrap (n : Int) = n := by simp [IntKind.wrap, IntKind.bits, IntKind.signed]; omega
  have h2 : Go.bits .and .u64 (n : Int) 31 = n := by
    obtain ⟨m, rfl⟩ : ∃ m : Fin 32, n = m.val := ⟨⟨n, by omega⟩, rfl⟩
    revert m; decide
  have h3 : IntKind.u64.wrap (32 - (n : Int)) = (32 - n : Nat) := by simp [IntKind.wrap, IntKind.bits, IntKind.signed]; omega
  go_enter Try.func70, Try.ntmps70
  go_wp2
  go_ret
  exact ⟨rfl, rfl⟩

theorem turn_any (x : Int) (n : Nat) (hn : n ≤ 31) (w : World) : Calls Try.prog 77 #[.int .u32 x, .int .u64 n] w fun e w' => e = .returned (.int .u32 (rotl x n)) ∧ w' = w := by
  have h3 : IntKind.u64.wrap (32 - (n : Int)) = (32 - n : Nat) := by simp [IntKind.wrap, IntKind.bits, IntKind.signed]; omega
  go_enter Try.func77, Try.ntmps77
  go_wp2
  go_ret
  exact ⟨rfl, rfl⟩

/-- One step: x[i] += x[j]. -/
def stepA (xs : List Int) (i j : Nat) : List Int := xs.set i ((rd xs i + rd xs j) % 4294967296)
/-- One step: x[i] = turn(x[i] ^ x[j], n). -/
def stepX (xs : List Int) (i j n : Nat) : List Int := xs.set i (rotl (Go.bits .xor .u32 (rd xs i) (rd xs j)) n)
def qr (xs : List Int) (a b c d : Nat) : List Int :=
  stepX (stepA (stepX (stepA (stepX (stepA (stepX (stepA xs a b) d a 16) c d) b c 12) a b) d a 8) c d) b c 7
theorem len_stepA (xs : List Int) (i j : Nat) : (stepA xs i j).length = xs.length := by simp [stepA]
theorem len_stepX (xs : List Int) (i j n : Nat) : (stepX xs i j n).length = xs.length := by simp [stepX]
theorem len_qr (xs : List Int) (a b c d : Nat) : (qr xs a b c d).length = xs.length := by simp [qr, len_stepA, len_stepX]

set_option maxHeartbeats 2000000 in
set_option maxRecDepth 100000 in
theorem quarter_calls (T : TypeId) (xs : List Int) (g a b c d : Nat) (w : World) (hw : Is w g T .u32 xs) (hl : xs.length = 16) (ha : a < 16) (hb : b < 16) (hc : c < 16) (hd : d < 16) :
    Calls Try.prog 65 #[.pointer (some ⟨g, 0, none⟩), .int .i64 a, .int .i64 b, .int .i64 c, .int .i64 d] w fun e w' => e = .returned (.tuple #[]) ∧ To w w' g .u32 (qr xs a b c d) := by
  have ha' : (a : Int) < 16 := by omega
  have hb' : (b : Int) < 16 := by omega
  have hc' : (c : Int) < 16 := by omega
  have hd' : (d : Int) < 16 := by omega
  have t0 := To.refl hw
  have l0 := hl
  have i0 := hw
  obtain ⟨x0, q0⟩ : ∃ u, u = xs := ⟨_, rfl⟩
  rw [← q0] at t0 l0 i0
  have Q0 := Aside0.mk q0
  obtain ⟨w0, v0⟩ : ∃ u, u = w := ⟨_, rfl⟩
  have t0' : To w w0 g .u32 x0 := by rw [v0]; exact t0
  rw [← v0] at i0
  have V0 := Aside0.mk v0
  have L0 := Aside0.mk l0
  clear t0 l0
  rw [show Calls Try.prog 65 #[.pointer (some ⟨g, 0, none⟩), .int .i64 a, .int .i64 b, .int .i64 c, .int .i64 d] w = Calls Try.prog 65 #[.pointer (some ⟨g, 0, none⟩), .int .i64 a, .int .i64 b, .int .i64 c, .int .i64 d] w0 from by rw [v0]]
  clear q0 v0 hl
  have t0 := t0'
  clear t0'
  go_enter Try.func65, Try.ntmps65
  go_wp2
  have H1 := i0.cell a (by rw [L0.out]; omega)
  have H2 := i0.cell b (by rw [L0.out]; omega)
  have F1 := i0.free a
  go_still_tail 13, (by kernel_rfl)
  change wpList _ _ _ _ _ w0.drew
  go_wp2
  rw [put_set i0]
  obtain ⟨w1, e1⟩ : ∃ u, u = (put w0 g .u32 (stepA x0 a b)).drew := ⟨_, rfl⟩
  have t1' := To.step t0 e1
  change Code.wp _ _ _ _ (put w0 g .u32 (stepA x0 a b)).drew
  rw [← e1]
  clear e1 H1 H2 F1
  obtain ⟨x1, q1⟩ : ∃ u, u = stepA x0 a b := ⟨_, rfl⟩
  rw [← q1] at t1'
  have t1 := t1'
  have i1 := To.is t1 hw
  have L1 := Aside0.mk (show x1.length = 16 by rw [q1, len_stepA, L0.out])
  have Q1 := Aside0.mk q1
  clear q1 t0 i0 t1'
  have H1 := i1.cell d (by rw [L1.out]; omega)
  have H2 := i1.cell a (by rw [L1.out]; omega)
  have F1 := i1.free d
  go_still_tail 16, (by kernel_rfl)
  still_call (rot_any _ 16 (by omega) _)
  repeat still_step
  try refine wpStill_nil ?_
  change wpList _ _ _ _ _ w1.drew
  go_wp2
  rw [put_set i1]
  obtain ⟨w2, e2⟩ : ∃ u, u = (put w1 g .u32 (stepX x1 d a 16)).drew := ⟨_, rfl⟩
  have t2' := To.step t1 e2
  change Code.wp _ _ _ _ (put w1 g .u32 (stepX x1 d a 16)).drew
  rw [← e2]
  clear e2 H1 H2 F1
  obtain ⟨x2, q2⟩ : ∃ u, u = stepX x1 d a 16 := ⟨_, rfl⟩
  rw [← q2] at t2'
  have t2 := t2'
  have i2 := To.is t2 hw
  have L2 := Aside0.mk (show x2.length = 16 by rw [q2, len_stepX, L1.out])
  have Q2 := Aside0.mk q2
  clear q2 t1 i1 t2'
  have H1 := i2.cell c (by rw [L2.out]; omega)
  have H2 := i2.cell d (by rw [L2.out]; omega)
  have F1 := i2.free c
  go_still_tail 13, (by kernel_rfl)
  change wpList _ _ _ _ _ w2.drew
  go_wp2
  rw [put_set i2]
  obtain ⟨w3, e3⟩ : ∃ u, u = (put w2 g .u32 (stepA x2 c d)).drew := ⟨_, rfl⟩
  have t3' := To.step t2 e3
  change Code.wp _ _ _ _ (put w2 g .u32 (stepA x2 c d)).drew
  rw [← e3]
  clear e3 H1 H2 F1
  obtain ⟨x3, q3⟩ : ∃ u, u = stepA x2 c d := ⟨_, rfl⟩
  rw [← q3] at t3'
  have t3 := t3'
  have i3 := To.is t3 hw
  have L3 := Aside0.mk (show x3.length = 16 by rw [q3, len_stepA, L2.out])
  have Q3 := Aside0.mk q3
  clear q3 t2 i2 t3'
  have H1 := i3.cell b (by rw [L3.out]; omega)
  have H2 := i3.cell c (by rw [L3.out]; omega)
  have F1 := i3.free b
  go_still_tail 16, (by kernel_rfl)
  still_call (rot_any _ 12 (by omega) _)
  repeat still_step
  try refine wpStill_nil ?_
  change wpList _ _ _ _ _ w3.drew
  go_wp2
  rw [put_set i3]
  obtain ⟨w4, e4⟩ : ∃ u, u = (put w3 g .u32 (stepX x3 b c 12)).drew := ⟨_, rfl⟩
  have t4' := To.step t3 e4
  change Code.wp _ _ _ _ (put w3 g .u32 (stepX x3 b c 12)).drew
  rw [← e4]
  clear e4 H1 H2 F1
  obtain ⟨x4, q4⟩ : ∃ u, u = stepX x3 b c 12 := ⟨_, rfl⟩
  rw [← q4] at t4'
  have t4 := t4'
  have i4 := To.is t4 hw
  have L4 := Aside0.mk (show x4.length = 16 by rw [q4, len_stepX, L3.out])
  have Q4 := Aside0.mk q4
  clear q4 t3 i3 t4'
  have H1 := i4.cell a (by rw [L4.out]; omega)
  have H2 := i4.cell b (by rw [L4.out]; omega)
  have F1 := i4.free a
  go_still_tail 13, (by kernel_rfl)
  change wpList _ _ _ _ _ w4.drew
  go_wp2
  rw [put_set i4]
  obtain ⟨w5, e5⟩ : ∃ u, u = (put w4 g .u32 (stepA x4 a b)).drew := ⟨_, rfl⟩
  have t5' := To.step t4 e5
  change Code.wp _ _ _ _ (put w4 g .u32 (stepA x4 a b)).drew
  rw [← e5]
  clear e5 H1 H2 F1
  obtain ⟨x5, q5⟩ : ∃ u, u = stepA x4 a b := ⟨_, rfl⟩
  rw [← q5] at t5'
  have t5 := t5'
  have i5 := To.is t5 hw
  have L5 := Aside0.mk (show x5.length = 16 by rw [q5, len_stepA, L4.out])
  have Q5 := Aside0.mk q5
  clear q5 t4 i4 t5'
  have H1 := i5.cell d (by rw [L5.out]; omega)
  have H2 := i5.cell a (by rw [L5.out]; omega)
  have F1 := i5.free d
  go_still_tail 16, (by kernel_rfl)
  still_call (rot_any _ 8 (by omega) _)
  repeat still_step
  try refine wpStill_nil ?_
  change wpList _ _ _ _ _ w5.drew
  go_wp2
  rw [put_set i5]
  obtain ⟨w6, e6⟩ : ∃ u, u = (put w5 g .u32 (stepX x5 d a 8)).drew := ⟨_, rfl⟩
  have t6' := To.step t5 e6
  change Code.wp _ _ _ _ (put w5 g .u32 (stepX x5 d a 8)).drew
  rw [← e6]
  clear e6 H1 H2 F1
  obtain ⟨x6, q6⟩ : ∃ u, u = stepX x5 d a 8 := ⟨_, rfl⟩
  rw [← q6] at t6'
  have t6 := t6'
  have i6 := To.is t6 hw
  have L6 := Aside0.mk (show x6.length = 16 by rw [q6, len_stepX, L5.out])
  have Q6 := Aside0.mk q6
  clear q6 t5 i5 t6'
  have H1 := i6.cell c (by rw [L6.out]; omega)
  have H2 := i6.cell d (by rw [L6.out]; omega)
  have F1 := i6.free c
  go_still_tail 13, (by kernel_rfl)
  change wpList _ _ _ _ _ w6.drew
  go_wp2
  rw [put_set i6]
  obtain ⟨w7, e7⟩ : ∃ u, u = (put w6 g .u32 (stepA x6 c d)).drew := ⟨_, rfl⟩
  have t7' := To.step t6 e7
  change Code.wp _ _ _ _ (put w6 g .u32 (stepA x6 c d)).drew
  rw [← e7]
  clear e7 H1 H2 F1
  obtain ⟨x7, q7⟩ : ∃ u, u = stepA x6 c d := ⟨_, rfl⟩
  rw [← q7] at t7'
  have t7 := t7'
  have i7 := To.is t7 hw
  have L7 := Aside0.mk (show x7.length = 16 by rw [q7, len_stepA, L6.out])
  have Q7 := Aside0.mk q7
  clear q7 t6 i6 t7'
  have H1 := i7.cell b (by rw [L7.out]; omega)
  have H2 := i7.cell c (by rw [L7.out]; omega)
  have F1 := i7.free b
  go_still_tail 16, (by kernel_rfl)
  still_call (rot_any _ 7 (by omega) _)
  repeat still_step
  try refine wpStill_nil ?_
  change wpList _ _ _ _ _ w7.drew
  go_wp2
  rw [put_set i7]
  obtain ⟨w8, e8⟩ : ∃ u, u = (put w7 g .u32 (stepX x7 b c 7)).drew := ⟨_, rfl⟩
  have t8' := To.step t7 e8
  change bodyPost _ _ _ _ _ (put w7 g .u32 (stepX x7 b c 7)).drew
  rw [← e8]
  clear e8 H1 H2 F1
  obtain ⟨x8, q8⟩ : ∃ u, u = stepX x7 b c 7 := ⟨_, rfl⟩
  rw [← q8] at t8'
  have t8 := t8'
  have i8 := To.is t8 hw
  have L8 := Aside0.mk (show x8.length = 16 by rw [q8, len_stepX, L7.out])
  have Q8 := Aside0.mk q8
  clear q8 t7 i7 t8'
  go_end0
  refine ⟨rfl, ?_⟩
  have hq : x8 = qr xs a b c d := by rw [Q8.out, Q7.out, Q6.out, Q5.out, Q4.out, Q3.out, Q2.out, Q1.out, Q0.out]; rfl
  rw [← hq]; exact t8

set_option maxHeartbeats 2000000 in
set_option maxRecDepth 100000 in
theorem ref_quarter_calls (T : TypeId) (xs : List Int) (g a b c d : Nat) (w : World) (hw : Is w g T .u32 xs) (hl : xs.length = 16) (ha : a < 16) (hb : b < 16) (hc : c < 16) (hd : d < 16) :
    Calls Try.prog 68 #[.pointer (some ⟨g, 0, none⟩), .int .i64 a, .int .i64 b, .int .i64 c, .int .i64 d] w fun e w' => e = .returned (.tuple #[]) ∧ To w w' g .u32 (qr xs a b c d) := by
  have ha' : (a : Int) < 16 := by omega
  have hb' : (b : Int) < 16 := by omega
  have hc' : (c : Int) < 16 := by omega
  have hd' : (d : Int) < 16 := by omega
  have t0 := To.refl hw
  have l0 := hl
  have i0 := hw
  obtain ⟨x0, q0⟩ : ∃ u, u = xs := ⟨_, rfl⟩
  rw [← q0] at t0 l0 i0
  have Q0 := Aside0.mk q0
  obtain ⟨w0, v0⟩ : ∃ u, u = w := ⟨_, rfl⟩
  have t0' : To w w0 g .u32 x0 := by rw [v0]; exact t0
  rw [← v0] at i0
  have V0 := Aside0.mk v0
  have L0 := Aside0.mk l0
  clear t0 l0
  rw [show Calls Try.prog 68 #[.pointer (some ⟨g, 0, none⟩), .int .i64 a, .int .i64 b, .int .i64 c, .int .i64 d] w = Calls Try.prog 68 #[.pointer (some ⟨g, 0, none⟩), .int .i64 a, .int .i64 b, .int .i64 c, .int .i64 d] w0 from by rw [v0]]
  clear q0 v0 hl
  have t0 := t0'
  clear t0'
  go_enter Try.func68, Try.ntmps68
  go_wp2
  have H1 := i0.cell a (by rw [L0.out]; omega)
  have H2 := i0.cell b (by rw [L0.out]; omega)
  have F1 := i0.free a
  go_still_tail 15, (by kernel_rfl)
  change wpList _ _ _ _ _ w0.drew
  go_wp2
  rw [put_set i0]
  obtain ⟨w1, e1⟩ : ∃ u, u = (put w0 g .u32 (stepA x0 a b)).drew := ⟨_, rfl⟩
  have t1' := To.step t0 e1
  change Code.wp _ _ _ _ (put w0 g .u32 (stepA x0 a b)).drew
  rw [← e1]
  clear e1 H1 H2 F1
  obtain ⟨x1, q1⟩ : ∃ u, u = stepA x0 a b := ⟨_, rfl⟩
  rw [← q1] at t1'
  have t1 := t1'
  have i1 := To.is t1 hw
  have L1 := Aside0.mk (show x1.length = 16 by rw [q1, len_stepA, L0.out])
  have Q1 := Aside0.mk q1
  clear q1 t0 i0 t1'
  have H1 := i1.cell d (by rw [L1.out]; omega)
  have H2 := i1.cell a (by rw [L1.out]; omega)
  have F1 := i1.free d
  go_still_tail 16, (by kernel_rfl)
  still_call (turn_any _ 16 (by omega) _)
  repeat still_step
  try refine wpStill_nil ?_
  change wpList _ _ _ _ _ w1.drew
  go_wp2
  rw [put_set i1]
  obtain ⟨w2, e2⟩ : ∃ u, u = (put w1 g .u32 (stepX x1 d a 16)).drew := ⟨_, rfl⟩
  have t2' := To.step t1 e2
  change Code.wp _ _ _ _ (put w1 g .u32 (stepX x1 d a 16)).drew
  rw [← e2]
  clear e2 H1 H2 F1
  obtain ⟨x2, q2⟩ : ∃ u, u = stepX x1 d a 16 := ⟨_, rfl⟩
  rw [← q2] at t2'
  have t2 := t2'
  have i2 := To.is t2 hw
  have L2 := Aside0.mk (show x2.length = 16 by rw [q2, len_stepX, L1.out])
  have Q2 := Aside0.mk q2
  clear q2 t1 i1 t2'
  have H1 := i2.cell c (by rw [L2.out]; omega)
  have H2 := i2.cell d (by rw [L2.out]; omega)
  have F1 := i2.free c
  go_still_tail 15, (by kernel_rfl)
  change wpList _ _ _ _ _ w2.drew
  go_wp2
  rw [put_set i2]
  obtain ⟨w3, e3⟩ : ∃ u, u = (put w2 g .u32 (stepA x2 c d)).drew := ⟨_, rfl⟩
  have t3' := To.step t2 e3
  change Code.wp _ _ _ _ (put w2 g .u32 (stepA x2 c d)).drew
  rw [← e3]
  clear e3 H1 H2 F1
  obtain ⟨x3, q3⟩ : ∃ u, u = stepA x2 c d := ⟨_, rfl⟩
  rw [← q3] at t3'
  have t3 := t3'
  have i3 := To.is t3 hw
  have L3 := Aside0.mk (show x3.length = 16 by rw [q3, len_stepA, L2.out])
  have Q3 := Aside0.mk q3
  clear q3 t2 i2 t3'
  have H1 := i3.cell b (by rw [L3.out]; omega)
  have H2 := i3.cell c (by rw [L3.out]; omega)
  have F1 := i3.free b
  go_still_tail 16, (by kernel_rfl)
  still_call (turn_any _ 12 (by omega) _)
  repeat still_step
  try refine wpStill_nil ?_
  change wpList _ _ _ _ _ w3.drew
  go_wp2
  rw [put_set i3]
  obtain ⟨w4, e4⟩ : ∃ u, u = (put w3 g .u32 (stepX x3 b c 12)).drew := ⟨_, rfl⟩
  have t4' := To.step t3 e4
  change Code.wp _ _ _ _ (put w3 g .u32 (stepX x3 b c 12)).drew
  rw [← e4]
  clear e4 H1 H2 F1
  obtain ⟨x4, q4⟩ : ∃ u, u = stepX x3 b c 12 := ⟨_, rfl⟩
  rw [← q4] at t4'
  have t4 := t4'
  have i4 := To.is t4 hw
  have L4 := Aside0.mk (show x4.length = 16 by rw [q4, len_stepX, L3.out])
  have Q4 := Aside0.mk q4
  clear q4 t3 i3 t4'
  have H1 := i4.cell a (by rw [L4.out]; omega)
  have H2 := i4.cell b (by rw [L4.out]; omega)
  have F1 := i4.free a
  go_still_tail 15, (by kernel_rfl)
  change wpList _ _ _ _ _ w4.drew
  go_wp2
  rw [put_set i4]
  obtain ⟨w5, e5⟩ : ∃ u, u = (put w4 g .u32 (stepA x4 a b)).drew := ⟨_, rfl⟩
  have t5' := To.step t4 e5
  change Code.wp _ _ _ _ (put w4 g .u32 (stepA x4 a b)).drew
  rw [← e5]
  clear e5 H1 H2 F1
  obtain ⟨x5, q5⟩ : ∃ u, u = stepA x4 a b := ⟨_, rfl⟩
  rw [← q5] at t5'
  have t5 := t5'
  have i5 := To.is t5 hw
  have L5 := Aside0.mk (show x5.length = 16 by rw [q5, len_stepA, L4.out])
  have Q5 := Aside0.mk q5
  clear q5 t4 i4 t5'
  have H1 := i5.cell d (by rw [L5.out]; omega)
  have H2 := i5.cell a (by rw [L5.out]; omega)
  have F1 := i5.free d
  go_still_tail 16, (by kernel_rfl)
  still_call (turn_any _ 8 (by omega) _)
  repeat still_step
  try refine wpStill_nil ?_
  change wpList _ _ _ _ _ w5.drew
  go_wp2
  rw [put_set i5]
  obtain ⟨w6, e6⟩ : ∃ u, u = (put w5 g .u32 (stepX x5 d a 8)).drew := ⟨_, rfl⟩
  have t6' := To.step t5 e6
  change Code.wp _ _ _ _ (put w5 g .u32 (stepX x5 d a 8)).drew
  rw [← e6]
  clear e6 H1 H2 F1
  obtain ⟨x6, q6⟩ : ∃ u, u = stepX x5 d a 8 := ⟨_, rfl⟩
  rw [← q6] at t6'
  have t6 := t6'
  have i6 := To.is t6 hw
  have L6 := Aside0.mk (show x6.length = 16 by rw [q6, len_stepX, L5.out])
  have Q6 := Aside0.mk q6
  clear q6 t5 i5 t6'
  have H1 := i6.cell c (by rw [L6.out]; omega)
  have H2 := i6.cell d (by rw [L6.out]; omega)
  have F1 := i6.free c
  go_still_tail 15, (by kernel_rfl)
  change wpList _ _ _ _ _ w6.drew
  go_wp2
  rw [put_set i6]
  obtain ⟨w7, e7⟩ : ∃ u, u = (put w6 g .u32 (stepA x6 c d)).drew := ⟨_, rfl⟩
  have t7' := To.step t6 e7
  change Code.wp _ _ _ _ (put w6 g .u32 (stepA x6 c d)).drew
  rw [← e7]
  clear e7 H1 H2 F1
  obtain ⟨x7, q7⟩ : ∃ u, u = stepA x6 c d := ⟨_, rfl⟩
  rw [← q7] at t7'
  have t7 := t7'
  have i7 := To.is t7 hw
  have L7 := Aside0.mk (show x7.length = 16 by rw [q7, len_stepA, L6.out])
  have Q7 := Aside0.mk q7
  clear q7 t6 i6 t7'
  have H1 := i7.cell b (by rw [L7.out]; omega)
  have H2 := i7.cell c (by rw [L7.out]; omega)
  have F1 := i7.free b
  go_still_tail 16, (by kernel_rfl)
  still_call (turn_any _ 7 (by omega) _)
  repeat still_step
  try refine wpStill_nil ?_
  change wpList _ _ _ _ _ w7.drew
  go_wp2
  rw [put_set i7]
  obtain ⟨w8, e8⟩ : ∃ u, u = (put w7 g .u32 (stepX x7 b c 7)).drew := ⟨_, rfl⟩
  have t8' := To.step t7 e8
  change bodyPost _ _ _ _ _ (put w7 g .u32 (stepX x7 b c 7)).drew
  rw [← e8]
  clear e8 H1 H2 F1
  obtain ⟨x8, q8⟩ : ∃ u, u = stepX x7 b c 7 := ⟨_, rfl⟩
  rw [← q8] at t8'
  have t8 := t8'
  have i8 := To.is t8 hw
  have L8 := Aside0.mk (show x8.length = 16 by rw [q8, len_stepX, L7.out])
  have Q8 := Aside0.mk q8
  clear q8 t7 i7 t8'
  go_end0
  refine ⟨rfl, ?_⟩
  have hq : x8 = qr xs a b c d := by rw [Q8.out, Q7.out, Q6.out, Q5.out, Q4.out, Q3.out, Q2.out, Q1.out, Q0.out]; rfl
  rw [← hq]; exact t8

theorem quarter_int (T : TypeId) (xs : List Int) (g : Nat) (a b c d : Int) (w : World) (hw : Is w g T .u32 xs) (hl : xs.length = 16) (ha : 0 ≤ a) (ha' : a < 16) (hb : 0 ≤ b) (hb' : b < 16) (hc : 0 ≤ c) (hc' : c < 16) (hd : 0 ≤ d) (hd' : d < 16) :
    Calls Try.prog 65 #[.pointer (some ⟨g, 0, none⟩), .int .i64 a, .int .i64 b, .int .i64 c, .int .i64 d] w fun e w' => e = .returned (.tuple #[]) ∧ To w w' g .u32 (qr xs a.toNat b.toNat c.toNat d.toNat) := by
  obtain ⟨a, rfl⟩ := Int.eq_ofNat_of_zero_le ha
  obtain ⟨b, rfl⟩ := Int.eq_ofNat_of_zero_le hb
  obtain ⟨c, rfl⟩ := Int.eq_ofNat_of_zero_le hc
  obtain ⟨d, rfl⟩ := Int.eq_ofNat_of_zero_le hd
  exact quarter_calls T xs g a b c d w hw hl (by omega) (by omega) (by omega) (by omega)

theorem ref_quarter_int (T : TypeId) (xs : List Int) (g : Nat) (a b c d : Int) (w : World) (hw : Is w g T .u32 xs) (hl : xs.length = 16) (ha : 0 ≤ a) (ha' : a < 16) (hb : 0 ≤ b) (hb' : b < 16) (hc : 0 ≤ c) (hc' : c < 16) (hd : 0 ≤ d) (hd' : d < 16) :
    Calls Try.prog 68 #[.pointer (some ⟨g, 0, none⟩), .int .i64 a, .int .i64 b, .int .i64 c, .int .i64 d] w fun e w' => e = .returned (.tuple #[]) ∧ To w w' g .u32 (qr xs a.toNat b.toNat c.toNat d.toNat) := by
  obtain ⟨a, rfl⟩ := Int.eq_ofNat_of_zero_le ha
  obtain ⟨b, rfl⟩ := Int.eq_ofNat_of_zero_le hb
  obtain ⟨c, rfl⟩ := Int.eq_ofNat_of_zero_le hc
  obtain ⟨d, rfl⟩ := Int.eq_ofNat_of_zero_le hd
  exact ref_quarter_calls T xs g a b c d w hw hl (by omega) (by omega) (by omega) (by omega)
end Go.Proofs.Ytnmnghpdmiffaaa.Cha
