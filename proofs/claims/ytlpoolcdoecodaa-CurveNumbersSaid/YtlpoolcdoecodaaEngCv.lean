/-
  Chapter 5's Mul, in the code and in the reference, in an abstract run: what is proved of them stands in for their code. No statement of the program is proved here.
-/
import Derived.Test.YtlpoolcdoecodaaEngA
import Derived.Test.YtlpoolcdoecodaaCvRH
set_option linter.unusedVariables false
set_option linter.unusedSimpArgs false
namespace Go.Proofs.Ytlpoolcdoecodaa.Eng
open Go.RowKit Go.Proofs.YtlpoolcdoecodaaW.PrintWords
open Go.Proofs.Ytlpoolcdoecodaa.Cv (curveZ unpF val mulV mulE curve_eq len_bytesL len_dig)
def bytesB (l : List Int) : Bool := l.all fun x => decide (0 ≤ x ∧ x < 256)
theorem bytesB_ok {l : List Int} (h : bytesB l = true) : ∀ x ∈ l, 0 ≤ x ∧ x < 256 := fun x hx => by
  have := List.all_eq_true.1 h x hx
  exact of_decide_eq_true this
def outP (r : List Int) (M : Mem) (nx : Nat) : Option (Value × Mem × Nat) :=
  if 0 < r.length then some (.tuple #[.slice (some ⟨nx, 0, none⟩) r.length (OPEN + 1), .int .i64 0], (nx, ⟨5, 1, nums .u8 r, false⟩) :: M, nx + 1) else none
def gMul (args : List Value) (M : Mem) (nx : Nat) : Option (Value × Mem × Nat) :=
  match args with
  | [a0, a1] => match listArg .u8 M a0, listArg .u8 M a1 with
    | some l0, some l1 => if l0.length = 32 ∧ l1.length = 32 ∧ bytesB l0 = true ∧ bytesB l1 = true then outP (curveZ l0 (val (unpF l1))) M nx else none
    | _, _ => none
  | _ => none
section
variable {w0 w : World} {W : Fr} {e : Env} {nx : Nat} {M : Mem}
theorem outP_some {r1 : List Int} {v : Value} {M' : Mem} {nx' : Nat} (h : outP r1 M nx = some (v, M', nx')) : 0 < r1.length ∧ v = .tuple #[.slice (some ⟨nx, 0, none⟩) r1.length (OPEN + 1), .int .i64 0] ∧ M' = (nx, ⟨5, 1, nums .u8 r1, false⟩) :: M ∧ nx' = nx + 1 := by
  unfold outP at h
  split at h
  · simp only [Option.some.injEq, Prod.mk.injEq] at h
    exact ⟨by assumption, h.1.symm, h.2.1.symm, h.2.2.symm⟩
  · cases h
theorem outP_sound (hM : MS w0 W e nx M w) {r1 : List Int} (hpos : 0 < r1.length) (hB : nx + 1 ≤ W.top) {w' : World} {v : Value} (hR : Kd.R (Kd.int .u8) 5 w' w.heap.size (fun _ => True) v r1) (hb : Below w.heap.size w w') :
    ∃ e', Ext e e' ∧ VR e' (.tuple #[.slice (some ⟨nx, 0, none⟩) r1.length (OPEN + 1), .int .i64 0]) (.tuple #[v, .int .i64 0]) ∧ MS w0 W e' (nx + 1) ((nx, ⟨5, 1, nums .u8 r1, false⟩) :: M) w' := by
  obtain ⟨e', h1, h2, h3⟩ := hM.list hb hR hpos hB
  exact ⟨e', h1, .tuple [_, _] [_, _] (.cons _ _ _ _ h2 (.cons _ _ _ _ (.flat _ rfl) .nil)), h3⟩
end
/-- A function of two lists of bytes that answers as Mul does. -/
def MulLike (f : Nat) : Prop := ∀ (A0 : Option Addr) (c0 : Nat) (s : List Int) (A1 : Option Addr) (c1 : Nat) (p : List Int) (w : World), (∀ x ∈ s, 0 ≤ x ∧ x < 256) → (∀ x ∈ p, 0 ≤ x ∧ x < 256) →
    (Kd.int .u8).C w A0 s.length s → s.length ≤ c0 → (Kd.int .u8).C w A1 p.length p → p.length ≤ c1 →
    Calls Try.prog f #[.slice A0 s.length c0, .slice A1 p.length c1] w fun e w' => ∃ v, e = .returned (.tuple #[v, .int .i64 (mulE s p)]) ∧ (Kd.int .u8).R 5 w' w.heap.size (fun _ => True) v (mulV s p) ∧ Below w.heap.size w w'
theorem gMul_ok (f : Nat) (hm : MulLike f) (hf : ∃ fn, Try.prog.funcs[f]? = some fn ∧ (fn.name == "runtime.NumGoroutine") = false ∧ fn.body.isSome = true) : CallOK Try.prog ⟨fun f' args M nx => if f' = f then gMul args M nx else none, fun _ _ => none⟩ := by
  refine ⟨fun f' args M nx v M' nx' h => ?_, fun _ _ _ h => by cases h⟩
  simp only at h
  split at h
  · rename_i hfe
    subst hfe
    unfold gMul at h
    split at h
    · rename_i a0 a1
      split at h
      · rename_i l0 l1 e0 e1
        split at h
        · rename_i hl
          obtain ⟨hl0, hl1, hb0, hb1⟩ := hl
          obtain ⟨hpos, rfl, rfl, rfl⟩ := outP_some h
          refine ⟨Nat.le_succ _, hf, fun w0 W e w args' hB hv hM => ?_⟩
          cases hv with
          | cons _ v0 _ _ k0 hv =>
            cases hv with
            | cons _ v1 _ _ k1 hv =>
              cases hv
              obtain ⟨A0, c0, rfl, hc0, hr0⟩ := listArg_sound hM e0 k0 (by omega)
              obtain ⟨A1, c1, rfl, hc1, hr1⟩ := listArg_sound hM e1 k1 (by omega)
              refine (hm A0 c0 l0 A1 c1 l1 w (bytesB_ok hb0) (bytesB_ok hb1) hr0 hc0 hr1 hc1).mono ?_
              rintro en w' ⟨v0', rfl, hR, hb⟩
              have hE : mulE l0 l1 = 0 := if_pos ⟨hl0, hl1⟩
              have hV : mulV l0 l1 = curveZ l0 (val (unpF l1)) := by
                unfold mulV
                rw [if_pos ⟨hl0, hl1⟩]
                exact curve_eq l0 l1 (bytesB_ok hb1) _ (Cv.Eqv.refl _)
              rw [hV] at hR
              rw [hE]
              obtain ⟨e', h1, h2, h3⟩ := outP_sound hM hpos hB hR hb
              exact ⟨_, e', rfl, h1, h2, h3⟩
        · cases h
      · cases h
    · cases h
  · cases h
def ovM : Ov := ⟨fun f => if Nat.beq f 8 then some gMul else if Nat.beq f 12 then some gMul else none, fun _ _ => none⟩
theorem ovM_ok (hf : ∀ f, f ∈ [8, 12] → ∃ fn, Try.prog.funcs[f]? = some fn ∧ (fn.name == "runtime.NumGoroutine") = false ∧ fn.body.isSome = true) : OvOK Try.prog ovM := by
  refine ⟨fun f g h => ?_, fun _ _ _ h => by cases h⟩
  unfold ovM at h
  simp only at h
  split at h
  · rename_i hb
    obtain rfl := Nat.eq_of_beq_eq_true hb
    obtain rfl := Option.some.inj h
    exact gMul_ok _ (fun A0 c0 s A1 c1 p w h1 h2 h3 h4 h5 h6 => Cv.mul_calls A0 c0 s A1 c1 p w h1 h2 h3 h4 h5 h6) (hf _ (by simp))
  · split at h
    · rename_i hb
      obtain rfl := Nat.eq_of_beq_eq_true hb
      obtain rfl := Option.some.inj h
      exact gMul_ok _ (fun A0 c0 s A1 c1 p w h1 h2 h3 h4 h5 h6 => Cv.rmul5_calls A0 c0 s A1 c1 p w h1 h2 h3 h4 h5 h6) (hf _ (by simp))
    · cases h
end Go.Proofs.Ytlpoolcdoecodaa.Eng
