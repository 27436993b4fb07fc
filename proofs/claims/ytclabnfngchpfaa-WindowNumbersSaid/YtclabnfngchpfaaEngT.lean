/-
  math.Trunc's core in an abstract run. No statement of the program is proved here.
-/
import Derived.Test.YtclabnfngchpfaaEngP4
import Derived.Test.YtclabnfngchpfaaProg
import Derived.Laws.Externs
namespace Go.Proofs.Ytclabnfngchpfaa.Eng
open Go.RowKit

def truncF (x : Nat) : Option Nat :=
  match FloatKind.f64.decode x with
  | .nan _ _ => none
  | d => some (FloatKind.f64.encode (d.integral .zero))
theorem truncF_run (P : Program) {x y : Nat} (h : truncF x = some y) (w : World) : (Extern.MathFloor.toIntegral "math.archTrunc" .zero #[.float .f64 x]).run P w = .ok (.float .f64 y) w := by
  unfold truncF at h
  show Sem.run P (match FloatKind.f64.decode x with
      | .nan s t => if FloatKind.f64.format.quiet t = t then pure (Value.float .f64 x) else do
        let kept ← choose (.extern "math.Floor,Ceil,Trunc,RoundToEven.signallingNaN kept" 2)
        pure (Value.float .f64 (if kept == 1 then x else FloatKind.f64.encode (.nan s (FloatKind.f64.format.quiet t))))
      | d => pure (Value.float .f64 (FloatKind.f64.encode (d.integral .zero)))) w = _
  split at h
  · cases h
  · rename_i d hd
    have h := Option.some.inj h
    subst h
    rfl
def xtTrunc (f : Nat) (args : List Value) : Option Value :=
  if Nat.beq f 49 then match args with
    | [.float .f64 x] => match truncF x with
      | some y => some (.float .f64 y)
      | none => none
    | _ => none
  else none
def ovT : Ov := ⟨fun _ => none, xtTrunc⟩
theorem ovT_ok : OvOK Try.prog ovT := by
  refine ⟨fun f g h => (by simp [ovT] at h), fun f args v h _ w => ?_⟩
  simp only [ovT, xtTrunc] at h
  split at h
  · rename_i hf
    have hf' : f = 49 := Nat.eq_of_beq_eq_true hf
    subst hf'
    split at h
    · rename_i x
      split at h
      · rename_i y hy
        obtain rfl := Option.some.inj h
        rw [run_callFunc_extern (P := Try.prog) (e := Extern.MathFloor.toIntegral "math.archTrunc" .zero) Try.func49 (by kernel_rfl) (by kernel_rfl) (by kernel_rfl) (by kernel_rfl)]
        rw [truncF_run Try.prog hy w]
        rfl
      · cases h
    · cases h
  · cases h

section
variable {P : Program} {IP : Nat → Option IFunc} {ov : Ov} {n : Nat} {a b : ICode} {s s1 : XSt} {r : Option (XR × XSt)} {id : Nat}
theorem ex_seq (h1 : ex P IP ov n a s = some (.normal, s1)) (h2 : ex P IP ov n b s1 = r) : ex P IP ov (n + 1) (.seq a b) s = r := by
  simp only [ex, h1]
  exact h2
theorem ex_loop (h1 : ex P IP ov n b s = some (.normal, s1)) (h2 : ex P IP ov n (.loop b) s1 = r) : ex P IP ov (n + 1) (.loop b) s = r := by
  simp only [ex, h1]
  exact h2
theorem ex_loop_out (h1 : ex P IP ov n b s = some (.exit id, s1)) : ex P IP ov (n + 1) (.loop b) s = some (.exit id, s1) := by
  simp only [ex, h1]
theorem ex_block (h1 : ex P IP ov n b s = some (.exit id, s1)) : ex P IP ov (n + 1) (.block id b) s = some (.normal, s1) := by
  simp only [ex, h1, if_true]
theorem ex_scope (h1 : ex P IP ov n b s = r) : ex P IP ov (n + 1) (.scope b) s = r := by
  simp only [ex, h1]
theorem enter_yes {exn : ICode → XSt → Option (XR × XSt)} {f : Nat} {fn : IFunc} {s s0 : XSt} (h1 : IP f = some fn) (h0 : s0 = (List.replicate fn.ntmps undef, [], 0)) (h2 : exn fn.code s0 = some (.ret, s)) (h3 : resVals s.1 s.2.1 fn.results = some [.bool true]) : resIs isYes (enter IP exn f [] [] 0) = true := by
  subst h0
  simp [enter, h1, h2, h3, resIs, oneOf, isYes]
end
end Go.Proofs.Ytclabnfngchpfaa.Eng
