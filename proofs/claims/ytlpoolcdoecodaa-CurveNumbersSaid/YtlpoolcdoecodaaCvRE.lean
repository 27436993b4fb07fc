/-
  The reference's swap, walked.
-/
import Derived.Test.YtlpoolcdoecodaaCvL
import Derived.Test.YtlpoolcdoecodaaCvRD
namespace Go.Proofs.Ytlpoolcdoecodaa.Cv
open Go.RowKit Go.Proofs.YtlpoolcdoecodaaW.PrintWords Go.Proofs.YtlpoolcdoecodaaW.PrintLast Go.Proofs.YtlpoolcdoecodaaW.PrintMore Go.Proofs.Ytlpoolcdoecodaa.Arr
set_option linter.unusedVariables false
set_option maxHeartbeats 8000000
set_option maxRecDepth 100000
theorem rload_ev {ρ : Operand → Value} {o : Oper} (X : Operand) (ho : o.op = .load 40 X) (b : Nat) (xs : List Int) (hX : ρ X = .pointer (some ⟨b, 0, none⟩)) {W : World} (h : Is W b 40 .i64 xs) (hl : xs.length = 16) : (execOp ρ o).run Try.prog W = .ok (.value (.agg (nums .i64 xs).toArray)) W := by
  have hv : (loadVar 40 ⟨b, 0, none⟩).run Try.prog W = .ok (.agg (nums .i64 xs).toArray) W := run_loadVar_row W b 40 40 (nums .i64 xs).toArray (0, 0) _ h Try.underlying40 rfl (by rw [info_n]; simp [nums, hl])
  simp only [execOp, ho, hX, Instr.loadAt, Instr.sureAddr, Sem.run_bind, Sem.run_pure, Result.andThen_ok, hv]
theorem results_cells {P : Program} {fn : Func} {p q : Tmp} {ty n : TypeId} {m b c : Nat} {e1 e2 : TypeId} {xs ys : List Int} (h : fn.results = #[.cell p ty, .cell q ty]) (tmps : Array Value) {W : World} (hp : tmps.getD p undef = .pointer (some ⟨b, 0, none⟩)) (hq : tmps.getD q undef = .pointer (some ⟨c, 0, none⟩)) (hs : Is W b e1 .i64 xs) (ht : Is W c e2 .i64 ys)
    (hu : P.underlying ty = some (.array m n)) (hi : (P.info? ty).map (·.size) = some xs.length) (hj : (P.info? ty).map (·.size) = some ys.length) : (results fn tmps).run P W = .ok (.tuple #[.agg (nums .i64 xs).toArray, .agg (nums .i64 ys).toArray]) W := by
  have hp' : tmps[p]?.getD undef = .pointer (some ⟨b, 0, none⟩) := by simpa using hp
  have hq' : tmps[q]?.getD undef = .pointer (some ⟨c, 0, none⟩) := by simpa using hq
  have hl := run_loadVar_row (P := P) W b e1 ty (nums .i64 xs).toArray (0, 0) (.array m n) hs hu rfl (by rw [hi]; simp [nums])
  have hm := run_loadVar_row (P := P) W c e2 ty (nums .i64 ys).toArray (0, 0) (.array m n) ht hu rfl (by rw [hj]; simp [nums])
  simp [results, h, hp', hq', asAddr, hl, hm]
theorem rswap_calls (a b : List Int) (so : Int) (ha : a.length = 16) (hb : b.length = 16) (w : World) :
    Calls Try.prog 18 #[ag a, ag b, .int .i64 so] w fun e w' => e = .returned (.tuple #[ag (if so = 1 then b else a), ag (if so = 1 then a else b)]) ∧ Below w.heap.size w w' := by
  have HA := Aside0.mk ha
  have HB := Aside0.mk hb
  clear ha hb
  have n0 := new_is w 40 .i64 a
  go_enter Try.func18, Try.ntmps18
  go_upto_region 1 with (fail)
  change Code.wp _ _ _ _ ((((w.alloc (.cells (nums .i64 a).toArray 40)).alloc (.cells (nums .i64 b).toArray 40)).alloc (.cells (nums .i64 z16).toArray 40)).alloc (.cells (nums .i64 z16).toArray 40))
  obtain ⟨i1, i2, i3, b3⟩ := three w 40 40 40 a b z16 _ rfl
  have sz : (((w.alloc (.cells (nums .i64 a).toArray 40)).alloc (.cells (nums .i64 b).toArray 40)).alloc (.cells (nums .i64 z16).toArray 40)).heap.size = w.heap.size + 1 + 1 + 1 := by rw [World.size_alloc, World.size_alloc, World.size_alloc]
  clear n0
  generalize ((w.alloc (.cells (nums .i64 a).toArray 40)).alloc (.cells (nums .i64 b).toArray 40)).alloc (.cells (nums .i64 z16).toArray 40) = w3 at i1 i2 i3 b3 sz ⊢
  have i4 : Is (w3.alloc (.cells (nums .i64 z16).toArray 40)) w3.heap.size 40 .i64 z16 := new_is w3 40 .i64 _
  have b4 : Below w3.heap.size w3 (w3.alloc (.cells (nums .i64 z16).toArray 40)) := (Below.refl _ _).alloc (Nat.le_refl _) _
  replace i1 := i1.below b4
  replace i2 := i2.below b4
  replace i3 := i3.below b4
  replace b4 := below_step b3 b4
  generalize w3.alloc (.cells (nums .i64 z16).toArray 40) = w4 at i1 i2 i3 i4 b4 ⊢
  rw [sz] at i4
  clear b3 sz
  obtain ⟨g1, hg1⟩ : ∃ g, g = w.heap.size := ⟨_, rfl⟩
  obtain ⟨g2, hg2⟩ : ∃ g, g = w.heap.size + 1 := ⟨_, rfl⟩
  obtain ⟨g3, hg3⟩ : ∃ g, g = w.heap.size + 1 + 1 := ⟨_, rfl⟩
  obtain ⟨g4, hg4⟩ : ∃ g, g = w.heap.size + 1 + 1 + 1 := ⟨_, rfl⟩
  try rw [← hg4] at i4 ⊢
  try rw [← hg3] at i3 ⊢
  try rw [← hg2] at i2 ⊢
  try rw [← hg1] at i1 ⊢
  have I1 := Aside0.mk i1
  have I2 := Aside0.mk i2
  have I3 := Aside0.mk i3
  have I4 := Aside0.mk i4
  have B4 := Aside0.mk b4
  have NG := Aside0.mk (show w.heap.size ≤ g3 ∧ w.heap.size ≤ g4 ∧ g3 ≠ g4 by omega)
  have NL := Aside0.mk (show g1 < g3 ∧ g2 < g3 by omega)
  have HIa := Aside0.mk (show (Try.prog.info? 40).map (·.size) = some a.length by rw [HA.out]; exact info_n)
  have HIb := Aside0.mk (show (Try.prog.info? 40).map (·.size) = some b.length by rw [HB.out]; exact info_n)
  have HLa := Aside0.mk (show z16.length = a.length by rw [HA.out]; rfl)
  have HLb := Aside0.mk (show z16.length = b.length by rw [HB.out]; rfl)
  clear i1 i2 i3 i4 b4 hg1 hg2 hg3 hg4
  by_cases hso : so = 1
  · subst hso
    go_upto_region 2 with (fail)
    change Code.wp _ _ _ _ w4
    refine start_ (n := 4) (S := fun w' => Below g3 w4 w') (ds := [3]) #[false, false, false, false] (by kernel_rfl) rfl rfl (pw_below_drewN (Below.refl g3 w4) 1) (fun hHeld => ?_)
    refine take_ (i := 0) (N := some 10) (v := ?_) (a' := ?_) #[true, false, false, false] rfl rfl (by kernel_rfl) (fun _ _ _ h => h) (Or.inl ⟨by rfl, ?_⟩) hHeld ?_ ?_
    rotate_left
    · intro w' s0
      refine rload_ev (.tmp 4) ?_ g2 b ?_ (I2.out.belowB s0 NL.out.2) HB.out <;> rfl
    rotate_left
    · simp only [Act.put, List.setIfInBounds_toArray, List.set_cons_zero, List.set_cons_succ]
      rfl
    refine take_ (i := 1) (N := some 11) (v := ?_) (a' := ?_) #[true, true, false, false] rfl rfl (by kernel_rfl) (fun _ _ _ h => h) (Or.inl ⟨by rfl, ?_⟩) hHeld ?_ ?_
    rotate_left
    · intro w' s0
      refine rload_ev (.tmp 3) ?_ g1 a ?_ (I1.out.belowB s0 NL.out.1) HA.out <;> rfl
    rotate_left
    · simp only [Act.put, List.setIfInBounds_toArray, List.set_cons_zero, List.set_cons_succ]
      rfl
    refine one_ (i := 2) (N := none) #[true, true, true, false] rfl rfl (by kernel_rfl) (by decide) (fun K hK => ?_)
    refine store_is (b := g3) (e := 40) (k := .i64) (xs := z16) 40 (.tmp 6) (.tmp 10) (by rfl) rfl rfl b rfl rfl (show Is _ g3 40 .i64 z16 from I3.out) HLb.out HIb.out ?_
    refine hK.out _ _ (below_put hHeld (Nat.le_refl _)) (fun hHeld => ?_)
    clear hK K
    refine last_ (i := 3) (N := none) #[true, true, true, true] rfl rfl (by kernel_rfl) (by decide) (fun K hK => ?_)
    refine store_is (b := g4) (e := 40) (k := .i64) (xs := z16) 40 (.tmp 7) (.tmp 11) (by rfl) rfl rfl a rfl rfl (show Is (put w4.drew g3 .i64 b) g4 40 .i64 z16 from (put_other g4 (Ne.symm NG.out.2.2)).trans I4.out) HLa.out HIa.out ?_
    refine hK.out _ _ ?_
    clear hK K
    refine done_ (by kernel_rfl) ?_
    go_wp2_with fail
    have J3 := Aside0.mk (show Is (put (put w4.drew g3 .i64 b) g4 .i64 a) g3 40 .i64 b from (put_other g3 NG.out.2.2).trans (put_heap (show Is w4.drew g3 40 .i64 z16 from I3.out)))
    have J4 := Aside0.mk (show Is (put (put w4.drew g3 .i64 b) g4 .i64 a) g4 40 .i64 a from put_heap ((put_other g4 (Ne.symm NG.out.2.2)).trans I4.out))
    have BZ := Aside0.mk (below_put (k := .i64) (ys := a) (below_put (k := .i64) (ys := b) (show Below w.heap.size w w4.drew from pw_below_drewN B4.out 1) NG.out.1) NG.out.2.1)
    refine bodyPost_ret (v := .tuple #[ag b, ag a]) (results_cells (b := g3) (c := g4) (e1 := 40) (e2 := 40) Try.results18 _ rfl rfl J3.out J4.out Try.underlying40 HIb.out HIa.out) rfl ?_
    exact ⟨rfl, BZ.out⟩
  · have d1 : (so == 1) = false := by simp [hso]
    go_upto_region 3 with (fail)
    change Code.wp _ _ _ _ w4
    refine start_ (n := 4) (S := fun w' => Below g3 w4 w') (ds := [3]) #[false, false, false, false] (by kernel_rfl) rfl rfl (pw_below_drewN (Below.refl g3 w4) 1) (fun hHeld => ?_)
    refine take_ (i := 0) (N := some 12) (v := ?_) (a' := ?_) #[true, false, false, false] rfl rfl (by kernel_rfl) (fun _ _ _ h => h) (Or.inl ⟨by rfl, ?_⟩) hHeld ?_ ?_
    rotate_left
    · intro w' s0
      refine rload_ev (.tmp 3) ?_ g1 a ?_ (I1.out.belowB s0 NL.out.1) HA.out <;> rfl
    rotate_left
    · simp only [Act.put, List.setIfInBounds_toArray, List.set_cons_zero, List.set_cons_succ]
      rfl
    refine take_ (i := 1) (N := some 13) (v := ?_) (a' := ?_) #[true, true, false, false] rfl rfl (by kernel_rfl) (fun _ _ _ h => h) (Or.inl ⟨by rfl, ?_⟩) hHeld ?_ ?_
    rotate_left
    · intro w' s0
      refine rload_ev (.tmp 4) ?_ g2 b ?_ (I2.out.belowB s0 NL.out.2) HB.out <;> rfl
    rotate_left
    · simp only [Act.put, List.setIfInBounds_toArray, List.set_cons_zero, List.set_cons_succ]
      rfl
    refine one_ (i := 2) (N := none) #[true, true, true, false] rfl rfl (by kernel_rfl) (by decide) (fun K hK => ?_)
    refine store_is (b := g3) (e := 40) (k := .i64) (xs := z16) 40 (.tmp 6) (.tmp 12) (by rfl) rfl rfl a rfl rfl (show Is _ g3 40 .i64 z16 from I3.out) HLa.out HIa.out ?_
    refine hK.out _ _ (below_put hHeld (Nat.le_refl _)) (fun hHeld => ?_)
    clear hK K
    refine last_ (i := 3) (N := none) #[true, true, true, true] rfl rfl (by kernel_rfl) (by decide) (fun K hK => ?_)
    refine store_is (b := g4) (e := 40) (k := .i64) (xs := z16) 40 (.tmp 7) (.tmp 13) (by rfl) rfl rfl b rfl rfl (show Is (put w4.drew g3 .i64 a) g4 40 .i64 z16 from (put_other g4 (Ne.symm NG.out.2.2)).trans I4.out) HLb.out HIb.out ?_
    refine hK.out _ _ ?_
    clear hK K
    refine done_ (by kernel_rfl) ?_
    go_wp2_with fail
    have J3 := Aside0.mk (show Is (put (put w4.drew g3 .i64 a) g4 .i64 b) g3 40 .i64 a from (put_other g3 NG.out.2.2).trans (put_heap (show Is w4.drew g3 40 .i64 z16 from I3.out)))
    have J4 := Aside0.mk (show Is (put (put w4.drew g3 .i64 a) g4 .i64 b) g4 40 .i64 b from put_heap ((put_other g4 (Ne.symm NG.out.2.2)).trans I4.out))
    have BZ := Aside0.mk (below_put (k := .i64) (ys := b) (below_put (k := .i64) (ys := a) (show Below w.heap.size w w4.drew from pw_below_drewN B4.out 1) NG.out.1) NG.out.2.1)
    refine bodyPost_ret (v := .tuple #[ag a, ag b]) (results_cells (b := g3) (c := g4) (e1 := 40) (e2 := 40) Try.results18 _ rfl rfl J3.out J4.out Try.underlying40 HIa.out HIb.out) rfl ?_
    exact ⟨rfl, BZ.out⟩
end Go.Proofs.Ytlpoolcdoecodaa.Cv
