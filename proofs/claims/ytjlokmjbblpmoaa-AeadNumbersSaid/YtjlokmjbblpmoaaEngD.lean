/-
  Chapter 2's and chapter 3's functions in an abstract run: what is proved of them stands in for their code. No statement of the program is proved here.
-/
import Derived.Test.YtjlokmjbblpmoaaEngC0
import Derived.Test.YtjlokmjbblpmoaaPolyS
namespace Go.Proofs.Ytjlokmjbblpmoaa.Eng
open Go.RowKit Go.Proofs.YtjlokmjbblpmoaaW.PrintWords

def gSum (args : List Value) (M : Mem) (nx : Nat) : Option (Value × Mem × Nat) :=
  match args with
  | [a0, a1] => match listArg .u8 M a0, listArg .u8 M a1 with
    | some l0, some l1 => if l0.length = 32 ∧ l1.length ≤ 1000000 then outL (Pol.tagF l0 l1) 0 M nx else none
    | _, _ => none
  | _ => none
theorem gSum_ok (hf : ∃ fn, Try.prog.funcs[29]? = some fn ∧ (fn.name == "runtime.NumGoroutine") = false ∧ fn.body.isSome = true) : CallOK Try.prog ⟨fun f' args M nx => if f' = 29 then gSum args M nx else none, fun _ _ => none⟩ := by
  refine ⟨fun f args M nx v M' nx' h => ?_, fun _ _ _ h => by cases h⟩
  simp only at h
  split at h
  · rename_i hfe
    subst hfe
    unfold gSum at h
    split at h
    · rename_i a0 a1
      split at h
      · rename_i l0 l1 e0 e1
        split at h
        · rename_i hl
          obtain ⟨hl0, hl1⟩ := hl
          obtain ⟨hpos, rfl, rfl, rfl⟩ := outL_some h
          refine ⟨Nat.le_succ _, hf, fun w0 W e w args' hB hv hM => ?_⟩
          cases hv with
          | cons _ v0 _ _ k0 hv =>
            cases hv with
            | cons _ v1 _ _ k1 hv =>
              cases hv
              obtain ⟨A0, c0, rfl, hc0, hr0⟩ := listArg_sound hM e0 k0 (by omega)
              obtain ⟨A1, c1, rfl, hc1, hr1⟩ := listArg_sound hM e1 k1 (by omega)
              refine (poly_Sum.calls A0 c0 l0 A1 c1 l1 (Pol.tagF l0 l1) 0 w hr0 hc0 hr1 hc1 ?_).mono ?_
              · simp [poly_Sum.f, Pol.sumAns, hl0]
              · rintro en w' ⟨v0', rfl, hR, hb⟩
                obtain ⟨e', h1, h2, h3⟩ := outL_sound (r2 := 0) hM hpos hB hR hb
                exact ⟨_, e', rfl, h1, h2, h3⟩
        · cases h
      · cases h
    · cases h
  · cases h

def ovD : Ov := ⟨fun f => if Nat.beq f 21 then some gBlock else if Nat.beq f 19 then some gXor else if Nat.beq f 29 then some gSum else none, fun _ _ => none⟩
theorem ovD_ok (hf : ∀ f, f ∈ [21, 19, 29] → ∃ fn, Try.prog.funcs[f]? = some fn ∧ (fn.name == "runtime.NumGoroutine") = false ∧ fn.body.isSome = true) : OvOK Try.prog ovD := by
  refine ⟨fun f g h => ?_, fun _ _ _ h => by cases h⟩
  unfold ovD at h
  simp only at h
  split at h
  · rename_i hb
    obtain rfl := Nat.eq_of_beq_eq_true hb
    obtain rfl := Option.some.inj h
    exact gBlock_ok (hf _ (by simp))
  · split at h
    · rename_i hb
      obtain rfl := Nat.eq_of_beq_eq_true hb
      obtain rfl := Option.some.inj h
      exact gXor_ok (F := chacha_Xor.f) (fun l0 c l2 l3 h0 h2 h3 => xorF_some h0 h2 h3) chacha_Xor.calls (hf _ (by simp))
    · split at h
      · rename_i hb
        obtain rfl := Nat.eq_of_beq_eq_true hb
        obtain rfl := Option.some.inj h
        exact gSum_ok (hf _ (by simp))
      · cases h
end Go.Proofs.Ytjlokmjbblpmoaa.Eng
