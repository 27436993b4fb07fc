/-
  wire.Writer's methods, walked.
-/
import Derived.Test.YthahhjkokdillaaArr2
import Derived.Test.YthahhjkokdillaaPolyB
import Derived.Test.YthahhjkokdillaaWMore
import Derived.Test.YthahhjkokdillaaCl
import Derived.Deep.Cut
import Derived.ScopeJumps
namespace Go.Proofs.Ythahhjkokdillaa.Wire
open Go.RowKit Go.Proofs.YthahhjkokdillaaW.PrintWords Go.Proofs.YthahhjkokdillaaW.PrintLast Go.Proofs.YthahhjkokdillaaW.PrintMore Go.Proofs.Ythahhjkokdillaa.Arr
set_option linter.unusedVariables false
/-- What a Writer holds. -/
structure WS (w : World) (g base : Nat) (ok : Nat → Prop) (v : Value) (xs : List Int) : Prop where
  ptr : w.heap[g]? = some (.cells #[v] 71 (0, 0))
  row : (Kd.int .u8).R 5 w base ok v xs
  ng : ¬ ok g
  fresh : ∀ k, w.heap.size ≤ k → ok k
  base_le : base ≤ w.heap.size
/-- What of the memory is as it was. -/
structure Fr (w w' : World) (g base : Nat) (ok : Nat → Prop) : Prop where
  os : w'.os = w.os
  tape : w'.tape = w.tape
  output : w'.output = w.output
  size : w.heap.size ≤ w'.heap.size
  block : ∀ k, k < w.heap.size → k ≠ g → (base ≤ k → ¬ ok k) → w'.heap[k]? = w.heap[k]?
variable {w w' w1 : World} {g base : Nat} {ok : Nat → Prop} {v v1 : Value} {xs ys : List Int}
theorem Fr.refl : Fr w w g base ok := ⟨rfl, rfl, rfl, Nat.le_refl _, fun _ _ _ _ => rfl⟩
theorem Fr.trans (h : Fr w w1 g base ok) (h2 : Fr w1 w' g base ok) : Fr w w' g base ok :=
  ⟨h2.os.trans h.os, h2.tape.trans h.tape, h2.output.trans h.output, Nat.le_trans h.size h2.size, fun k hk hg hb => (h2.block k (Nat.lt_of_lt_of_le hk h.size) hg hb).trans (h.block k hk hg hb)⟩
theorem Fr.below (h : Fr w w1 g base ok) (hg : base ≤ g) (hb : base ≤ w.heap.size) : Below base w w1 :=
  ⟨h.os, h.tape, h.output, h.size, fun k hk => h.block k (by omega) (by omega) (by omega)⟩
theorem WS.lt (h : WS w g base ok v xs) : g < w.heap.size := (Array.getElem?_eq_some_iff.1 h.ptr).1
theorem WS.cell (h : WS w g base ok v xs) (hb : Below w.heap.size w w') : w'.cell? ⟨g, 0, none⟩ = some v := by
  have h1 := (hb.block g h.lt).trans h.ptr
  unfold World.cell?
  simp only [h1]
  rfl
theorem WS.keep (h : WS w g base ok v xs) (hb : Below w.heap.size w w') : WS w' g base ok v xs :=
  ⟨(hb.block g h.lt).trans h.ptr, Kd.R_below h.row hb, h.ng, fun k hk => h.fresh k (Nat.le_trans hb.size hk), Nat.le_trans h.base_le hb.size⟩
theorem WS.own_ne (h : WS w g base ok v xs) : some g ≠ v.ownBlock := fun e => h.ng (h.row.1 g e.symm)
theorem WS.place {W : World} (h : WS w g base ok v xs) (hb : Below w.heap.size w W) (hg : W.grownBy w1 v.ownBlock) : w1.cell? ⟨g, 0, none⟩ = some v ∧ w1.frozen? ⟨g, 0, none⟩ = false := by
  have h1 := (hg.block g (Nat.lt_of_lt_of_le h.lt hb.size) h.own_ne).trans ((hb.block g h.lt).trans h.ptr)
  constructor
  · unfold World.cell?
    simp only [h1]
    rfl
  · unfold World.frozen?
    simp only [h1]
    rfl
theorem setCell_self (h : w.heap[g]? = some (.cells #[v] 71 (0, 0))) : (w.setCell ⟨g, 0, none⟩ v1).heap[g]? = some (.cells #[v1] 71 (0, 0)) := by
  have := blk_set h 0 v1
  simpa using this
theorem setCell_other {k : Nat} (h : k ≠ g) : (w.setCell ⟨g, 0, none⟩ v1).heap[k]? = w.heap[k]? := by
  unfold World.setCell
  simp only
  rw [Array.getElem?_modify]
  simp [Ne.symm h]
theorem setCell_size : (w.setCell ⟨g, 0, none⟩ v1).heap.size = w.heap.size := by simp [World.setCell]
/-- The field is stored anew. -/
theorem WS.push {W : World} (h : WS w g base ok v xs) (hb : Below w.heap.size w W) (ho : (Kd.int .u8).R 5 w1 base ok v1 ys) (hg : W.grownBy w1 v.ownBlock) :
    WS (w1.setCell ⟨g, 0, none⟩ v1) g base ok v1 ys ∧ Fr w (w1.setCell ⟨g, 0, none⟩ v1) g base ok := by
  have h1 := (hg.block g (Nat.lt_of_lt_of_le h.lt hb.size) h.own_ne).trans ((hb.block g h.lt).trans h.ptr)
  refine ⟨⟨setCell_self h1, Kd.R_far ho (fun k hk he => h.ng (by rw [← show k = g from he]; exact hk)) _, h.ng, fun k hk => h.fresh k ?_, ?_⟩, ⟨?_, ?_, ?_, ?_, fun k hk hkg hkb => ?_⟩⟩
  · rw [setCell_size] at hk
    exact Nat.le_trans hb.size (Nat.le_trans hg.size hk)
  · rw [setCell_size]
    exact Nat.le_trans h.base_le (Nat.le_trans hb.size hg.size)
  · exact hg.os.trans hb.os
  · exact hg.tape.trans hb.tape
  · exact hg.output.trans hb.output
  · rw [setCell_size]; exact Nat.le_trans hb.size hg.size
  · rw [setCell_other hkg]
    refine (hg.block k (Nat.lt_of_lt_of_le hk hb.size) (fun e => ?_)).trans (hb.block k hk)
    exact hkb (Kd.R_base h.row k e.symm) (h.row.1 k e.symm)
/-- A number's lowest bytes, the highest first. -/
def beB (n : Int) : Nat → List Int
  | 0 => []
  | s + 1 => (n / 2 ^ (8 * s) % 256) :: beB n s
theorem len_beB (n : Int) : ∀ s, (beB n s).length = s
  | 0 => rfl
  | s + 1 => by rw [beB, List.length_cons, len_beB n s]
theorem byte_eq (n : Int) (s : Nat) (h : s < 8) : IntKind.u8.wrap (n / 2 ^ min (8 * (s : Int)).toNat 64) = n / 2 ^ (8 * s) % 256 := by
  rw [show min (8 * (s : Int)).toNat 64 = 8 * s by omega]
  simp [IntKind.wrap, IntKind.bits, IntKind.signed]
theorem jump_mono {l : Nat} {J : Act → World → Prop} {K : Act → World → Prop} {Q : Exit → Act → World → Prop} : ∀ (e : Exit) (a : Act) (w : World), Exit.jump l (fun a' w' => J a' w' ∧ K a' w') Q e a w → Exit.jump l J Q e a w := fun e a w h => by
  cases e <;> first | exact h | exact ⟨h.1, h.2.1⟩
theorem scope_jumps {P : Program} {a : Act} {w : World} {Q : Exit → Act → World → Prop} {X : Code} (l : Nat) (J : Act → World → Prop) (μ : Act → World → Nat) (hf : findLabel ((Code.label l).seq X) l = some (Code.skip.seq X)) (h0 : J a w)
    (pass : ∀ a w, J a w → X.wp P (Exit.jump l (fun a' w' => J a' w' ∧ μ a' w' < μ a w) Q) a w) : (Code.scope ((Code.label l).seq X)).wp P Q a w :=
  wp_scope_jumps l J μ hf (wp_seq (wp_label (show X.wp P _ a w from Code.wp_mono jump_mono (pass a w h0)))) (fun a w hJ => wp_seq (wp_skip (show X.wp P _ a w from pass a w hJ)))
set_option maxHeartbeats 8000000
set_option maxRecDepth 100000
theorem put_calls (n : Int) (size : Nat) (hz : size ≤ 8) (H0 : WS w g base ok v xs) (hl : xs.length ≤ 100000000) :
    Calls Try.prog 44 #[.pointer (some ⟨g, 0, none⟩), .int .u64 n, .int .i64 (size : Int)] w fun e w' => e = .returned (.tuple #[]) ∧ ∃ v', WS w' g base ok v' (xs ++ beB n size) ∧ Fr w w' g base ok := by
  have A0 := Aside0.mk H0
  have HL := Aside0.mk hl
  have HZ := Aside0.mk hz
  clear H0 hl hz
  go_enter Try.func44, Try.ntmps44
  go_wp2
  refine scope_jumps 0 (fun a' w' => ∃ (s : Nat) (ys : List Int) (v' : Value) (u3 u4 u5 u6 u7 u8 u9 u10 u11 u12 u13 u14 u15 u16 u17 u18 u19 u20 u21 u22 u23 : Value), a' = { tmps := #[.pointer (some ⟨g, 0, none⟩), .int .u64 n, .int .i64 (s : Int), u3, u4, u5, u6, u7, u8, u9, u10, u11, u12, u13, u14, u15, u16, u17, u18, u19, u20, u21, u22, u23], defers := [] } ∧ s ≤ size ∧ Aside0 (ys ++ beB n s = xs ++ beB n size) ∧ Aside0 (WS w' g base ok v' ys) ∧ Aside0 (Fr w w' g base ok)) (fun a' _ => (intOf (a'.tmps.getD 2 undef)).toNat) rfl ?_ ?_
  · exact ⟨size, xs, v, _, _, _, _, _, _, _, _, _, _, _, _, _, _, _, _, _, _, _, _, _, rfl, Nat.le_refl _, ⟨rfl⟩, A0, ⟨Fr.refl⟩⟩
  · rintro a' wr ⟨s, ys, v', u3, u4, u5, u6, u7, u8, u9, u10, u11, u12, u13, u14, u15, u16, u17, u18, u19, u20, u21, u22, u23, rfl, hs, HY, HW, HF⟩
    rcases s with _ | s
    · rw [show ((0 : Nat) : Int) = 0 from rfl]
      go_wp2
      simp only [Exit.jump]
      go_end0
      have h := HY.out
      rw [beB, List.append_nil] at h
      exact ⟨rfl, v', by rw [← h]; exact HW.out, HF.out⟩
    · have k1 : (0 : Int) < ((s + 1 : Nat) : Int) := by omega
      have hz8 := HZ.out
      have k2 : wrap64 (s : Int) = (s : Int) := by rw [wrap_id (by omega) (by omega)]
      have k8 : IntKind.i64.wrap (8 * (s : Int)) = 8 * (s : Int) := by rw [i64_w, wrap_id (by omega) (by omega)]
      have k9 : (0 : Int) ≤ 8 * (s : Int) := by omega
      clear hz8
      go_upto_region 2 with (fail)
      rw [k2]
      clear k2
      have HX := Aside0.mk (show ys.length + 1 ≤ 200000000 by have h1 := congrArg List.length HY.out; rw [List.length_append, List.length_append, len_beB, len_beB] at h1; have := HL.out; have := HZ.out; omega)
      have Q0 := Aside0.mk (fun (w' : World) (h : Below wr.heap.size wr w') => HW.out.cell h)
      refine start_ (n := 15) (S := fun w' => Below wr.heap.size wr w') (ds := [11, 14]) #[false, false, false, false, false, false, false, false, false, false, false, false, false, false, false] (by kernel_rfl) rfl rfl (below_drew1 (Below.refl _ _)) (fun hHeld => ?_)
      refine pure_ (i := 0) (N := some 10) (v := ?_) (a' := ?_) #[true, false, false, false, false, false, false, false, false, false, false, false, false, false, false] rfl rfl (by kernel_rfl) (fun _ _ _ h => h) (Or.inl ⟨by rfl, ?_⟩) ?_ ?_
      rotate_left
      · intro w'
        go_simp
        with_reducible rfl
      rotate_left
      · simp only [Act.put, List.setIfInBounds_toArray, List.set_cons_zero, List.set_cons_succ]
        rfl
      refine pure_ (i := 1) (N := some 11) (v := ?_) (a' := ?_) #[true, true, false, false, false, false, false, false, false, false, false, false, false, false, false] rfl rfl (by kernel_rfl) (fun _ _ _ h => h) (Or.inl ⟨by rfl, ?_⟩) ?_ ?_
      rotate_left
      · intro w'
        go_simp
        with_reducible rfl
      rotate_left
      · simp only [Act.put, List.setIfInBounds_toArray, List.set_cons_zero, List.set_cons_succ]
        rfl
      refine pure_ (i := 2) (N := some 12) (v := ?_) (a' := ?_) #[true, true, true, false, false, false, false, false, false, false, false, false, false, false, false] rfl rfl (by kernel_rfl) (fun _ _ _ h => h) (Or.inl ⟨by rfl, ?_⟩) ?_ ?_
      rotate_left
      · intro w'
        go_simp
        with_reducible rfl
      rotate_left
      · simp only [Act.put, List.setIfInBounds_toArray, List.set_cons_zero, List.set_cons_succ]
        rfl
      refine pure_ (i := 3) (N := some 13) (v := ?_) (a' := ?_) #[true, true, true, true, false, false, false, false, false, false, false, false, false, false, false] rfl rfl (by kernel_rfl) (fun _ _ _ h => h) (Or.inl ⟨by rfl, ?_⟩) ?_ ?_
      rotate_left
      · intro w'
        go_simp
        with_reducible rfl
      rotate_left
      · simp only [Act.put, List.setIfInBounds_toArray, List.set_cons_zero, List.set_cons_succ]
        rfl
      refine pure_ (i := 5) (N := some 15) (v := ?_) (a' := ?_) #[true, true, true, true, false, true, false, false, false, false, false, false, false, false, false] rfl rfl (by kernel_rfl) (fun _ _ _ h => h) (Or.inl ⟨by rfl, ?_⟩) ?_ ?_
      rotate_left
      · intro w'
        go_simp
        with_reducible rfl
      rotate_left
      · simp only [Act.put, List.setIfInBounds_toArray, List.set_cons_zero, List.set_cons_succ]
        rfl
      refine pure_ (i := 6) (N := some 16) (v := ?_) (a' := ?_) #[true, true, true, true, false, true, true, false, false, false, false, false, false, false, false] rfl rfl (by kernel_rfl) (fun _ _ _ h => h) (Or.inl ⟨by rfl, ?_⟩) ?_ ?_
      rotate_left
      · intro w'
        go_simp
        with_reducible rfl
      rotate_left
      · simp only [Act.put, List.setIfInBounds_toArray, List.set_cons_zero, List.set_cons_succ]
        rfl
      refine pure_ (i := 7) (N := some 17) (v := ?_) (a' := ?_) #[true, true, true, true, false, true, true, true, false, false, false, false, false, false, false] rfl rfl (by kernel_rfl) (fun _ _ _ h => h) (Or.inl ⟨by rfl, ?_⟩) ?_ ?_
      rotate_left
      · intro w'
        go_simp
        with_reducible rfl
      rotate_left
      · simp only [Act.put, List.setIfInBounds_toArray, List.set_cons_zero, List.set_cons_succ]
        rfl
      refine pure_ (i := 8) (N := some 18) (v := ?_) (a' := ?_) #[true, true, true, true, false, true, true, true, true, false, false, false, false, false, false] rfl rfl (by kernel_rfl) (fun _ _ _ h => h) (Or.inl ⟨by rfl, ?_⟩) ?_ ?_
      rotate_left
      · intro w'
        go_simp
        with_reducible rfl
      rotate_left
      · simp only [Act.put, List.setIfInBounds_toArray, List.set_cons_zero, List.set_cons_succ]
        rfl
      refine pure_ (i := 9) (N := some 19) (v := ?_) (a' := ?_) #[true, true, true, true, false, true, true, true, true, true, false, false, false, false, false] rfl rfl (by kernel_rfl) (fun _ _ _ h => h) (Or.inl ⟨by rfl, ?_⟩) ?_ ?_
      rotate_left
      · intro w'
        go_simp
        with_reducible rfl
      rotate_left
      · simp only [Act.put, List.setIfInBounds_toArray, List.set_cons_zero, List.set_cons_succ]
        rfl
      refine take_ (i := 4) (N := some 14) (v := ?_) (a' := ?_) #[true, true, true, true, true, true, true, true, true, true, false, false, false, false, false] rfl rfl (by kernel_rfl) (fun _ _ _ h => h) (Or.inl ⟨by rfl, ?_⟩) hHeld ?_ ?_
      rotate_left
      · intro w' s0
        have q0_ := Q0.out w' s0
        go_simp
        with_reducible rfl
      rotate_left
      · simp only [Act.put, List.setIfInBounds_toArray, List.set_cons_zero, List.set_cons_succ]
        rfl
      refine one_ (i := 10) (N := some 20) #[true, true, true, true, true, true, true, true, true, true, true, false, false, false, false] rfl rfl (by kernel_rfl) (by decide) (fun K hK => ?_)
      have S10 := Aside0.mk hHeld
      refine value_ (w1 := ?_) (v := ?_) (by rfl) rfl ?_ ?_
      rotate_left 2
      · go_simp
        constructor
        · rfl
        · rfl
      refine hK.out _ _ (below_alloc hHeld _) (fun hHeld => ?_)
      clear hK K
      refine norm_ (a' := ?_) ?_ ?_
      rotate_left
      · show Act.put _ (some 20) _ = _
        simp only [Act.put, List.setIfInBounds_toArray, List.set_cons_zero, List.set_cons_succ]
        rfl
      refine last_ (i := 11) (N := some 21) #[true, true, true, true, true, true, true, true, true, true, true, true, false, false, false] rfl rfl (by kernel_rfl) (by decide) (fun K hK => ?_)
      refine Kd.R_append_rows_step (Kd.int .u8) (w0 := wr) base (by rfl) (.tmp 14) (.tmp 20) 22 5 (.int .u8 0) 1 rfl Try.underlying22 Pol.info_u8 rfl (by decide) (by omega) v' ys [IntKind.u8.wrap (n / 2 ^ min (8 * (s : Int)).toNat 64)] (some ⟨_, 0, none⟩) 1 1 ok (fun _ => False) rfl rfl ?aO ?aR (fun _ _ h => h) (fun _ h => h.elim) ?aF ?aB ?aS ?aL ?_
      (case aO => exact Kd.R_drew (Kd.R_alloc HW.out.row _))
      (case aR => exact Kd.C_drew (lit_C wr 5 .u8 [IntKind.u8.wrap (n / 2 ^ min (8 * (s : Int)).toNat 64)] (0, 0) 1 rfl (by decide)))
      (case aF => exact fun k hk => HW.out.fresh k (Nat.le_trans hHeld.size hk))
      (case aB => exact hHeld.mono HW.out.base_le)
      (case aS => exact Nat.le_trans HW.out.base_le hHeld.size)
      (case aL => have := HX.out; (try simp only [List.length_cons, List.length_nil]); omega)
      intro v21 w21 ho hb hg hn
      obtain ⟨A21, c21, hv21⟩ := Kd.R_slice ho
      obtain ⟨q21, hq21⟩ : ∃ q, q = List.length (ys ++ [IntKind.u8.wrap (n / 2 ^ min (8 * (s : Int)).toNat 64)]) := ⟨_, rfl⟩
      rw [← hq21] at hv21
      subst hv21
      clear hq21
      have P21 := Aside0.mk (HW.out.place hHeld hg)
      have N21 := Aside0.mk (HW.out.push hHeld ho hg)
      clear ho hb hg hn
      refine hK.out _ _ ?_
      clear hK K
      refine norm_ (a' := ?_) ?_ ?_
      rotate_left
      · show Act.put _ (some 21) _ = _
        simp only [Act.put, List.setIfInBounds_toArray, List.set_cons_zero, List.set_cons_succ]
        rfl
      refine pure_ (i := 12) (N := some 22) (v := ?_) (a' := ?_) #[true, true, true, true, true, true, true, true, true, true, true, true, true, false, false] rfl rfl (by kernel_rfl) (fun _ _ _ h => h) (Or.inl ⟨by rfl, ?_⟩) ?_ ?_
      rotate_left
      · intro w'
        go_simp
        with_reducible rfl
      rotate_left
      · simp only [Act.put, List.setIfInBounds_toArray, List.set_cons_zero, List.set_cons_succ]
        rfl
      refine pure_ (i := 13) (N := some 23) (v := ?_) (a' := ?_) #[true, true, true, true, true, true, true, true, true, true, true, true, true, true, false] rfl rfl (by kernel_rfl) (fun _ _ _ h => h) (Or.inl ⟨by rfl, ?_⟩) ?_ ?_
      rotate_left
      · intro w'
        go_simp
        with_reducible rfl
      rotate_left
      · simp only [Act.put, List.setIfInBounds_toArray, List.set_cons_zero, List.set_cons_succ]
        rfl
      refine last_ (i := 14) (N := none) #[true, true, true, true, true, true, true, true, true, true, true, true, true, true, true] rfl rfl (by kernel_rfl) (by decide) (fun K hK => ?_)
      have hc21 := P21.out.1
      have hf21 := P21.out.2
      refine skip_ (w1 := ?_) (by rfl) rfl ?_ ?_
      rotate_left
      · go_simp
        rfl
      refine hK.out _ _ ?_
      clear hK K
      refine done_ (by kernel_rfl) ?_
      go_wp2_with fail
      go_step3
      refine ⟨rfl, ⟨s, ys ++ [IntKind.u8.wrap (n / 2 ^ min (8 * (s : Int)).toNat 64)], _, _, _, _, _, _, _, _, _, _, _, _, _, _, _, _, _, _, _, _, _, _, rfl, by omega, ⟨?_⟩, ⟨N21.out.1⟩, ⟨HF.out.trans N21.out.2⟩⟩, ?_⟩
      · rw [byte_eq n s (by have := HZ.out; omega), ← HY.out, beB, List.append_assoc]
        rfl
      · simp only [Array.getD_eq_getD_getElem?]
        simp [intOf]
theorem u32_calls (n : Int) (h0 : 0 ≤ n) (h1 : n < 4294967296) (H0 : WS w g base ok v xs) (hl : xs.length ≤ 100000000) :
    Calls Try.prog 43 #[.pointer (some ⟨g, 0, none⟩), .int .u32 n] w fun e w' => e = .returned (.tuple #[]) ∧ ∃ v', WS w' g base ok v' (xs ++ beB n 4) ∧ Fr w w' g base ok := by
  have CP := Aside0.mk (put_calls n 4 (by decide) H0 hl)
  clear H0 hl
  go_enter Try.func43, Try.ntmps43
  go_wp2_with fail
  refine CP.out.mono ?_
  rintro e w1 ⟨rfl, hq⟩
  go_wp2_with fail
  go_end0
  exact ⟨rfl, hq⟩
theorem byte_calls (n : Int) (h0 : 0 ≤ n) (h1 : n < 256) (H0 : WS w g base ok v xs) (hl : xs.length ≤ 100000000) :
    Calls Try.prog 25 #[.pointer (some ⟨g, 0, none⟩), .int .i64 n] w fun e w' => e = .returned (.tuple #[]) ∧ ∃ v', WS w' g base ok v' (xs ++ [n]) ∧ Fr w w' g base ok := by
  have CP := Aside0.mk (put_calls n 1 (by decide) H0 hl)
  have HN := Aside0.mk (And.intro h0 h1)
  clear H0 hl
  go_enter Try.func25, Try.ntmps25
  go_wp2_with fail
  refine CP.out.mono ?_
  rintro e w1 ⟨rfl, hq⟩
  go_wp2_with fail
  go_end0
  have e1 : beB n 1 = [n] := by
    have := HN.out
    simp only [beB, Nat.mul_zero, Int.pow_zero, Int.ediv_one]
    rw [Int.emod_eq_of_lt (by omega) (by omega)]
  rw [e1] at hq
  exact ⟨rfl, hq⟩
theorem append_str_at {P : Program} (w : World) (base : Nat) (t u ty e : TypeId) (i : TypeInfo) (ht : P.underlying t = some (.slice e)) (hu : P.underlying u = some .string) (hi : P.info? e = some i) (hz : i.zero = some (.int .u8 0))
    (hsize : i.size = 1) (hby : i.bytes = 1) (v : Value) (n : Nat) (xs : List Value) (hown : w.ownsRow base e 1 v n xs) (s : ByteArray)
    (hbytes : n + s.size ≤ 140737488355328) (hbase : base ≤ w.heap.size) :
    ∃ v' w', (Builtin.append_ #[t, u] ty #[v, .string s]).run P w = .ok v' w' ∧ w'.ownsRow base e 1 v' (n + s.size) (xs ++ Lib.strCells s) ∧ w.grownBy w' v.ownBlock ∧ (v'.ownBlock = v.ownBlock ∨ v'.ownBlock = some w.heap.size) := by
  have h63 : n + s.size ≤ maxLen := by simp only [maxLen]; omega
  obtain ⟨v', w', hr, h2, h3, h4⟩ := Lib.run_append_own_string (P := P) w base t u ty e i ht hu hi hz hsize hby v n xs hown s h63 hbytes hbase
  refine ⟨v', w', hr, h2, h3, ?_⟩
  have hxl : xs.length = n := by simpa using hown.1
  rcases hown.2 with ⟨rfl, rfl⟩ | ⟨g, cap, cur, rfl, hbg, hg, hnc, hcm, hcs, htake⟩
  · by_cases hm : s.size = 0
    · rw [h4.2 ⟨rfl, hm⟩]
      exact .inl rfl
    · have hr2 := run_append_nil_string (P := P) w t u ty e i (.int .u8 0) ht hu hi hz s (by omega) (by omega) (by rw [hby]; omega)
      have h5 := hr.symm.trans hr2
      injection h5 with h5 _
      rw [h5]
      exact .inr rfl
  · by_cases hroom : n + s.size ≤ cap
    · have hcs' : cur.size = cap := by simpa using hcs
      have hr2 := Lib.run_append_room_string (P := P) w t u ty e i ht hu hi hsize g n cap cur hg s hroom (by omega)
      have h5 := hr.symm.trans hr2
      injection h5 with h5 _
      rw [h5]
      exact .inl rfl
    · have holds : ∀ j u, xs[j]? = some u → w.cell? ((⟨g, 0, none⟩ : Addr).add j) = some u := hown.cells (g := g) rfl
      have hr2 := Lib.run_append_grow_string (P := P) w t u ty e i (.int .u8 0) ht hu hi hz ⟨g, 0, none⟩ n cap xs (by rw [hsize]; simpa using hxl) holds s (by omega) (by omega) (by rw [hby]; exact growslice_fits (by omega) (by omega))
      have h5 := hr.symm.trans hr2
      injection h5 with h5 _
      rw [h5]
      exact .inr rfl
theorem append_strR {P : Program} {ops : Array Oper} {rest : List Oper} {o : Oper} {a : Act} {Q : Exit → Act → World → Prop} {W : World} (base : Nat) (hgd : o.guard = none) (s x : Operand) (t u e : TypeId)
    (ho : o.op = .call { callee := .builtin .append, args := #[s, x], argTypes := #[t, u] })
    (ht : P.underlying t = some (.slice e)) (hu : P.underlying u = some .string) (hinfo : (P.info? e).map (fun i => (i.zero, i.size, i.bytes)) = some (some (.int .u8 0), 1, 1))
    (v : Value) (xs : List Int) (y : ByteArray) (ok : Nat → Prop) (hs : a.eval s = v) (hx : a.eval x = .string y) (hf : ∀ k, W.heap.size ≤ k → ok k)
    (HO : (Kd.int .u8).R e W base ok v xs) (hbase : base ≤ W.heap.size) (hl : xs.length + y.size ≤ 140737488355328)
    (h : ∀ v1 w1, (Kd.int .u8).R e w1 base ok v1 (xs ++ bytesOf y) → W.grownBy w1 v.ownBlock → wpList P ops Q rest (a.put o.dst v1) w1) :
    wpList P ops Q (o :: rest) a W := by
  obtain ⟨i0, hi, hzz⟩ := Option.map_eq_some_iff.1 hinfo
  simp only [Prod.mk.injEq] at hzz
  obtain ⟨hz0, hz1, hz2⟩ := hzz
  obtain ⟨v1, w1, hr, hown, hg, hat⟩ := append_str_at (P := P) W base t u o.type e i0 ht hu hi hz0 hz1 hz2 v xs.length (nums .u8 xs) (Kd.own_of_R HO) y hl hbase
  have hl2 : (xs ++ bytesOf y).length = xs.length + y.size := by rw [List.length_append, bytesOf_length]
  have hc : nums .u8 (xs ++ bytesOf y) = nums .u8 xs ++ Lib.strCells y := by
    rw [nums_append]
    congr 1
    simp [nums, bytesOf, Lib.strCells]
  refine wpList_plain hgd fun K hK => ?_
  unfold Oper.wp execOp
  simp only [ho, resolve, invoke, builtin, Sem.run_bind, Sem.run_pure, Result.andThen_ok, List.map_toArray, List.map_cons, List.map_nil, hs, hx, hr]
  refine hK _ _ (h v1 w1 (Kd.R_of_own (by rw [hl2]; exact (show w1.ownsRow base e 1 v1 (xs.length + y.size) (nums .u8 (xs ++ bytesOf y)) by rw [hc]; exact hown)) (fun k hk => ?_)) hg)
  rcases hat with h1 | h1
  · exact HO.1 k (by rw [← h1]; exact hk)
  · rw [h1] at hk
    obtain rfl := Option.some.inj hk
    exact hf _ (Nat.le_refl _)
theorem text_calls (s : ByteArray) (hz : s.size ≤ 10000000) (H0 : WS w g base ok v xs) (hl : xs.length ≤ 50000000) :
    Calls Try.prog 21 #[.pointer (some ⟨g, 0, none⟩), .string s] w fun e w' => e = .returned (.tuple #[]) ∧ ∃ v', WS w' g base ok v' (xs ++ beB s.size 4 ++ bytesOf s) ∧ Fr w w' g base ok := by
  have CP := Aside0.mk (u32_calls (s.size : Int) (by omega) (by omega) H0 (by omega))
  have HN := Aside0.mk (And.intro hz hl)
  have k0 : IntKind.u32.wrap (s.size : Int) = (s.size : Int) := by simp [IntKind.wrap, IntKind.bits, IntKind.signed]; omega
  have k1 : (s.size : Int) % 4294967296 = (s.size : Int) := by omega
  clear H0 hl hz
  go_enter Try.func21, Try.ntmps21
  go_wp2_with fail
  refine CP.out.mono ?_
  rintro e w1 ⟨rfl, v1, H1, F1⟩
  obtain ⟨zs, hzs⟩ : ∃ zs, zs = xs ++ beB s.size 4 := ⟨_, rfl⟩
  rw [← hzs] at H1
  have ZL := Aside0.mk (show zs.length ≤ 50000004 by rw [hzs, List.length_append, len_beB]; have := HN.out.2; omega)
  have q0_ := H1.cell (Below.refl _ _)
  have W1 := Aside0.mk H1
  have G1 := Aside0.mk F1
  have HZS := Aside0.mk hzs
  clear H1 F1 hzs k0 k1
  go_wp2_with (at_builtin; refine append_strR base rfl (.tmp 13) (.tmp 14) 22 9 5 rfl Try.underlying22 Try.underlying9 Pol.info_u8 v1 zs s ok rfl rfl W1.out.fresh W1.out.row W1.out.base_le (by have := ZL.out; have := HN.out.1; omega) ?_; intro v21 w21 ho hg; obtain ⟨A21, c21, hv21⟩ := Kd.R_slice ho; obtain ⟨q21, hq21⟩ : ∃ q, q = List.length (zs ++ bytesOf s) := ⟨_, rfl⟩; rw [← hq21] at hv21; subst hv21; clear hq21; have hc21 := (W1.out.place (Below.refl _ _) hg).1; have hf21 := (W1.out.place (Below.refl _ _) hg).2; have N21 := Aside0.mk (W1.out.push (Below.refl _ _) ho hg); clear ho hg)
  go_end0
  exact ⟨rfl, _, by rw [← HZS.out]; exact N21.out.1, G1.out.trans N21.out.2⟩
theorem raw_calls (A1 : Option Addr) (c1 : Nat) (l1 : List Int) (hr : (Kd.int .u8).C w A1 l1.length l1) (hz : l1.length ≤ 100000000) (H0 : WS w g base ok v xs) (hl : xs.length ≤ 100000000) :
    Calls Try.prog 24 #[.pointer (some ⟨g, 0, none⟩), .slice A1 l1.length c1] w fun e w' => e = .returned (.tuple #[]) ∧ ∃ v', WS w' g base ok v' (xs ++ l1) ∧ Fr w w' g base ok := by
  have W1 := Aside0.mk H0
  have CR := Aside0.mk hr
  have HN := Aside0.mk (And.intro hz hl)
  have q0_ := H0.cell (Below.refl _ _)
  clear H0 hr hz hl
  go_enter Try.func24, Try.ntmps24
  go_wp2_with (at_builtin; (refine Kd.R_append_row (w0 := w) (Value.int .u8) (0 : Int) (h1 := fun _ => rfl) base rfl (.tmp 8) (.tmp 9) 22 5 (.int .u8 0) 1 rfl Try.underlying22 Pol.info_u8 rfl Nat.one_pos v xs l1 A1 l1.length c1 ok rfl rfl W1.out.fresh ?q1 ?q2 ?q3 ?q4 ?q5 ?_; (case q1 => exact W1.out.row); (case q2 => exact CR.out); (case q3 => exact Below.refl _ _); (case q4 => exact W1.out.base_le); (case q5 => have := HN.out; omega); intro v21 w21 ho hB hg hn; obtain ⟨A21, c21, hv21⟩ := Kd.R_slice (show (Kd.int .u8).R 5 w21 base ok v21 (xs ++ l1) from ho); obtain ⟨q21, hq21⟩ : ∃ q, q = List.length (xs ++ l1) := ⟨_, rfl⟩; rw [← hq21] at hv21; subst hv21; clear hq21; have hc21 := (W1.out.place (Below.refl _ _) hg).1; have hf21 := (W1.out.place (Below.refl _ _) hg).2; have N21 := Aside0.mk (W1.out.push (Below.refl _ _) ho hg); clear ho hg hB hn))
  go_end0
  exact ⟨rfl, _, N21.out.1, N21.out.2⟩
theorem done_calls (H0 : WS w g base ok v xs) (hl : xs.length ≤ 100000000) :
    Calls Try.prog 26 #[.pointer (some ⟨g, 0, none⟩)] w fun e w' => ∃ v', e = .returned v' ∧ (Kd.int .u8).R 5 w' w.heap.size (fun _ => True) v' xs ∧ Below w.heap.size w w' := by
  obtain ⟨A1, c1, rfl, hc1, hC1⟩ := Kd.R_reads H0.row
  have q0_ := H0.cell (Below.refl _ _)
  have CC := Aside0.mk (slices_Clone.calls A1 c1 xs w hC1 hc1 hl)
  clear H0 hl hc1 hC1
  go_enter Try.func26, Try.ntmps26
  go_wp2_with fail
  refine CC.out.mono ?_
  rintro e w1 ⟨v1, rfl, hR, hB⟩
  have R1 := Aside0.mk hR
  have B1 := Aside0.mk hB
  clear hR hB q0_
  go_wp2_with fail
  go_ret
  exact ⟨_, rfl, R1.out, B1.out⟩
theorem newWriter_calls (w : World) :
    Calls Try.prog 20 #[] w fun e w' => e = .returned (.pointer (some ⟨w.heap.size, 0, none⟩)) ∧ w' = w.alloc (.cells #[.slice none 0 0] 71) := by
  go_enter Try.func20, Try.ntmps20
  go_wp2_with fail
  go_ret
  exact ⟨rfl, rfl⟩
end Go.Proofs.Ythahhjkokdillaa.Wire
