/-
  Chapter 2's functions in an abstract run: what is proved of them stands in for their code. No statement of the program is proved here.
-/
import Derived.Test.YtjlokmjbblpmoaaEngA
import Derived.Test.YtjlokmjbblpmoaaChachaX
namespace Go.Proofs.Ytjlokmjbblpmoaa.Eng
open Go.RowKit Go.Proofs.YtjlokmjbblpmoaaW.PrintWords

/-- Bytes with the stream xored on; each block once. -/
def xorQ (key : List Int) (ctr : Int) (nonce b : List Int) : List Int :=
  let bs := (List.range (b.length / 64 + 1)).map fun m => Cha.blockF key (Cha.ctrN ctr m) nonce
  (List.range b.length).map fun (j : Nat) => Go.bits .xor .u8 (rd b (j : Int)) (rd (bs.getD (j / 64) []) ((j % 64 : Nat) : Int))
theorem xorQ_eq (key : List Int) (ctr : Int) (nonce b : List Int) : xorQ key ctr nonce b = Cha.xorF key ctr nonce b := by
  unfold xorQ Cha.xorF Cha.xorAt Cha.strm
  refine List.map_congr_left fun j hj => ?_
  have hj := List.mem_range.1 hj
  have hlt : j / 64 < b.length / 64 + 1 := by omega
  have : ((List.range (b.length / 64 + 1)).map fun m => Cha.blockF key (Cha.ctrN ctr m) nonce).getD (j / 64) [] = Cha.blockF key (Cha.ctrN ctr (j / 64)) nonce := by
    rw [List.getD_eq_getElem?_getD, List.getElem?_map, List.getElem?_range hlt]
    rfl
  rw [this]

/-- A new list, and a number. -/
def outL (r1 : List Int) (r2 : Int) (M : Mem) (nx : Nat) : Option (Value × Mem × Nat) :=
  if 0 < r1.length then some (.tuple #[.slice (some ⟨nx, 0, none⟩) r1.length (OPEN + 1), .int .i64 r2], (nx, ⟨5, 1, nums .u8 r1, false⟩) :: M, nx + 1) else none
def gBlock (args : List Value) (M : Mem) (nx : Nat) : Option (Value × Mem × Nat) :=
  match args with
  | [a0, .int .u32 ctr, a2] => match listArg .u8 M a0, listArg .u8 M a2 with
    | some l0, some l2 => if l0.length = 32 ∧ l2.length = 12 then outL (Cha.blockF l0 ctr l2) 0 M nx else none
    | _, _ => none
  | _ => none
def gXor (args : List Value) (M : Mem) (nx : Nat) : Option (Value × Mem × Nat) :=
  match args with
  | [a0, .int .u32 ctr, a2, a3] => match listArg .u8 M a0, listArg .u8 M a2, listArg .u8 M a3 with
    | some l0, some l2, some l3 => if l0.length = 32 ∧ l2.length = 12 ∧ l3.length ≤ 1000000 then outL (xorQ l0 ctr l2 l3) 0 M nx else none
    | _, _, _ => none
  | _ => none
section
variable {w0 w : World} {W : Fr} {e : Env} {nx : Nat} {M : Mem}

theorem outL_some {r1 : List Int} {r2 : Int} {v : Value} {M' : Mem} {nx' : Nat} (h : outL r1 r2 M nx = some (v, M', nx')) : 0 < r1.length ∧ v = .tuple #[.slice (some ⟨nx, 0, none⟩) r1.length (OPEN + 1), .int .i64 r2] ∧ M' = (nx, ⟨5, 1, nums .u8 r1, false⟩) :: M ∧ nx' = nx + 1 := by
  unfold outL at h
  split at h
  · simp only [Option.some.injEq, Prod.mk.injEq] at h
    exact ⟨by assumption, h.1.symm, h.2.1.symm, h.2.2.symm⟩
  · cases h
theorem outL_sound (hM : MS w0 W e nx M w) {r1 : List Int} {r2 : Int} (hpos : 0 < r1.length) (hB : nx + 1 ≤ W.top) {w' : World} {v : Value} (hR : Kd.R (Kd.int .u8) 5 w' w.heap.size (fun _ => True) v r1) (hb : Below w.heap.size w w') :
    ∃ e', Ext e e' ∧ VR e' (.tuple #[.slice (some ⟨nx, 0, none⟩) r1.length (OPEN + 1), .int .i64 r2]) (.tuple #[v, .int .i64 r2]) ∧ MS w0 W e' (nx + 1) ((nx, ⟨5, 1, nums .u8 r1, false⟩) :: M) w' := by
  obtain ⟨e', h1, h2, h3⟩ := hM.list hb hR hpos hB
  exact ⟨e', h1, .tuple [_, _] [_, _] (.cons _ _ _ _ h2 (.cons _ _ _ _ (.flat _ rfl) .nil)), h3⟩
end

theorem known_of {P : Program} {f : Nat} {ifn : IFunc} (h : mkI P f ifn.keep = some ifn) : ∃ fn, P.funcs[f]? = some fn ∧ (fn.name == "runtime.NumGoroutine") = false ∧ fn.body.isSome = true := by
  obtain ⟨fn, c, h1, h2, h3, _⟩ := mkI_sound h
  exact ⟨fn, h1, h3, by rw [h2]; rfl⟩
theorem gBlock_ok (hf : ∃ fn, Try.prog.funcs[21]? = some fn ∧ (fn.name == "runtime.NumGoroutine") = false ∧ fn.body.isSome = true) : CallOK Try.prog ⟨fun f' args M nx => if f' = 21 then gBlock args M nx else none, fun _ _ => none⟩ := by
  refine ⟨fun f args M nx v M' nx' h => ?_, fun _ _ _ h => by cases h⟩
  simp only at h
  split at h
  · rename_i hfe
    subst hfe
    unfold gBlock at h
    split at h
    · rename_i a0 ctr a2
      split at h
      · rename_i l0 l2 e0 e2
        split at h
        · rename_i hl
          obtain ⟨hpos, rfl, rfl, rfl⟩ := outL_some h
          refine ⟨Nat.le_succ _, hf, fun w0 W e w args' hB hv hM => ?_⟩
          cases hv with
          | cons _ v0 _ _ k0 hv =>
            cases hv with
            | cons _ v1 _ _ k1 hv =>
              cases hv with
              | cons _ v2 _ _ k2 hv =>
                cases hv
                obtain ⟨A0, c0, rfl, hc0, hr0⟩ := listArg_sound hM e0 k0 (by omega)
                obtain ⟨A2, c2, rfl, hc2, hr2⟩ := listArg_sound hM e2 k2 (by omega)
                obtain rfl := k1.int
                refine (chacha_Block.calls A0 c0 l0 ctr A2 c2 l2 (Cha.blockF l0 ctr l2) 0 w hr0 hc0 hr2 hc2 ?_).mono ?_
                · simp [chacha_Block.f, Cha.refBlockF, hl]
                · rintro en w' ⟨v0', rfl, hR, hb⟩
                  obtain ⟨e', h1, h2, h3⟩ := outL_sound (r2 := 0) hM hpos hB hR hb
                  exact ⟨_, e', rfl, h1, h2, h3⟩
        · cases h
      · cases h
    · cases h
  · cases h
theorem gXor_ok {f : Nat} {F : List Int → Int → List Int → List Int → Option (List Int × Int)} (hF : ∀ l0 c l2 l3, l0.length = 32 → l2.length = 12 → l3.length ≤ 1000000 → F l0 c l2 l3 = some (xorQ l0 c l2 l3, 0))
    (hC : ∀ (A0 : Option Addr) (c0 : Nat) (l0 : List Int) (a1 : Int) (A2 : Option Addr) (c2 : Nat) (l2 : List Int) (A3 : Option Addr) (c3 : Nat) (l3 : List Int) (r1 : List Int) (r2 : Int) (w : World) (_ : Kd.C (Kd.int .u8) w A0 l0.length l0) (_ : l0.length ≤ c0) (_ : Kd.C (Kd.int .u8) w A2 l2.length l2) (_ : l2.length ≤ c2) (_ : Kd.C (Kd.int .u8) w A3 l3.length l3) (_ : l3.length ≤ c3) (_ : F l0 a1 l2 l3 = some (r1, r2)),
      Calls Try.prog f #[.slice A0 l0.length c0, .int .u32 a1, .slice A2 l2.length c2, .slice A3 l3.length c3] w fun e w' => ∃ v0_ : Value, e = .returned (.tuple #[v0_, .int .i64 r2]) ∧ Kd.R (Kd.int .u8) 5 w' w.heap.size (fun _ => True) v0_ r1 ∧ Below w.heap.size w w')
    (hf : ∃ fn, Try.prog.funcs[f]? = some fn ∧ (fn.name == "runtime.NumGoroutine") = false ∧ fn.body.isSome = true) : CallOK Try.prog ⟨fun f' args M nx => if f' = f then gXor args M nx else none, fun _ _ => none⟩ := by
  refine ⟨fun f args M nx v M' nx' h => ?_, fun _ _ _ h => by cases h⟩
  simp only at h
  split at h
  · rename_i hfe
    subst hfe
    unfold gXor at h
    split at h
    · rename_i a0 ctr a2 a3
      split at h
      · rename_i l0 l2 l3 e0 e2 e3
        split at h
        · rename_i hl
          obtain ⟨hl0, hl2, hl3⟩ := hl
          obtain ⟨hpos, rfl, rfl, rfl⟩ := outL_some h
          refine ⟨Nat.le_succ _, hf, fun w0 W e w args' hB hv hM => ?_⟩
          cases hv with
          | cons _ v0 _ _ k0 hv =>
            cases hv with
            | cons _ v1 _ _ k1 hv =>
              cases hv with
              | cons _ v2 _ _ k2 hv =>
                cases hv with
                | cons _ v3 _ _ k3 hv =>
                  cases hv
                  obtain ⟨A0, c0, rfl, hc0, hr0⟩ := listArg_sound hM e0 k0 (by omega)
                  obtain ⟨A2, c2, rfl, hc2, hr2⟩ := listArg_sound hM e2 k2 (by omega)
                  obtain ⟨A3, c3, rfl, hc3, hr3⟩ := listArg_sound hM e3 k3 (by omega)
                  obtain rfl := k1.int
                  refine (hC A0 c0 l0 ctr A2 c2 l2 A3 c3 l3 _ 0 w hr0 hc0 hr2 hc2 hr3 hc3 (hF l0 ctr l2 l3 hl0 hl2 hl3)).mono ?_
                  rintro en w' ⟨v0', rfl, hR, hb⟩
                  obtain ⟨e', h1, h2, h3⟩ := outL_sound (r2 := 0) hM hpos hB hR hb
                  exact ⟨_, e', rfl, h1, h2, h3⟩
        · cases h
      · cases h
    · cases h
  · cases h
theorem xorF_some {l0 l2 l3 : List Int} {c : Int} (h0 : l0.length = 32) (h2 : l2.length = 12) (h3 : l3.length ≤ 1000000) : chacha_Xor.f l0 c l2 l3 = some (xorQ l0 c l2 l3, 0) := by
  rw [xorQ_eq]
  exact xor_some l0 l2 l3 c h0 h2 (by omega)
end Go.Proofs.Ytjlokmjbblpmoaa.Eng
