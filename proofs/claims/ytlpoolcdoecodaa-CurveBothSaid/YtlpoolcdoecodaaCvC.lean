/-
  times, square and inverse, walked.
-/
import Derived.Test.YtlpoolcdoecodaaCvB
namespace Go.Proofs.Ytlpoolcdoecodaa.Cv
open Go.RowKit Go.Proofs.YtlpoolcdoecodaaW.PrintWords Go.Proofs.YtlpoolcdoecodaaW.PrintLast Go.Proofs.YtlpoolcdoecodaaW.PrintMore Go.Proofs.Ytlpoolcdoecodaa.Arr
set_option linter.unusedVariables false
set_option maxHeartbeats 8000000
set_option maxRecDepth 100000
/-- The first places of an array, as an array. -/
theorem load_pre {P : Program} {ops : Array Oper} {rest : List Oper} {o : Oper} {a : Act} {w : World} {Q : Exit → Act → World → Prop} {b : Nat} {e : TypeId} {xs ys : List Int} (ty n : TypeId) (m : Nat) (x : Operand) (hgd : o.guard = none)
    (ho : o.op = .load ty x) (hx : a.eval x = .pointer (some ⟨b, 0, none⟩)) (hs : Is w b e .i64 xs) (hu : P.underlying ty = some (.array m n)) (hi : (P.info? ty).map (·.size) = some ys.length) (hy : ys = xs.take 16)
    (h : wpList P ops Q rest (a.put o.dst (.agg (nums .i64 ys).toArray)) w) : wpList P ops Q (o :: rest) a w := by
  have hl : (loadCells ⟨b, 0, none⟩ (nums .i64 ys).length).run P w = .ok (nums .i64 ys).toArray w :=
    run_loadCells_list (P := P) w ⟨b, 0, none⟩ (nums .i64 ys) (fun j v hv => by
      have hadd : (⟨b, 0, none⟩ : Addr).add j = ⟨b, j, none⟩ := by unfold Addr.add; split <;> simp_all
      have hj : j < ys.length := by
        have := (List.getElem?_eq_some_iff.1 hv).1
        simpa [nums] using this
      have hjx : j < xs.length := by rw [hy, List.length_take] at hj; omega
      rw [hadd, hs.cell j hjx]
      have hv2 : (nums .i64 ys)[j]? = some (.int .i64 (ys.getD j 0)) := by simp [nums, List.getElem?_eq_getElem hj, List.getD_eq_getElem?_getD]
      rw [hv2] at hv
      rw [← hv, rd_nat, hy, getD_take xs 16 j (by rw [hy, List.length_take] at hj; omega)])
  refine wpList_plain hgd fun _ hK => ?_
  unfold Oper.wp execOp
  cases hq : P.info? ty with
  | none => simp [hq] at hi
  | some i =>
    have hsz : i.size = (nums .i64 ys).length := by simpa [hq, nums] using hi
    have hagg : (isAgg ty).run P w = .ok true w := by
      unfold isAgg
      rw [Sem.run_bind, run_underlying hu w]
      rfl
    have hlv : (loadVar ty ⟨b, 0, none⟩).run P w = .ok (.agg (nums .i64 ys).toArray) w := by simp [loadVar, Sem.run_bind, hagg, sizeOf, typeInfo, hq, hsz, hl]
    simp only [ho, hx, Instr.loadAt, Instr.sureAddr, Sem.run_bind, Sem.run_pure, Result.andThen_ok, hlv]
    exact hK _ _ h
theorem arr_at (W : World) (g : Nat) : (Instr.arrayAt 48 (.slice (some ⟨g, 0, none⟩) 16 31)).run Try.prog W = .ok (.pointer (some ⟨g, 0, none⟩)) W := by
  simp only [Instr.arrayAt, Sem.run_bind, run_underlying Try.underlying48 W, Result.andThen_ok]
  rfl
theorem times_calls (a b : List Int) (ha : a.length = 16) (hb : b.length = 16) (ba : Bd 131200 a) (bb : Bd 131200 b) (w : World) :
    Calls Try.prog 29 #[ag a, ag b] w fun e w' => e = .returned (ag (mulF a b)) ∧ Below w.heap.size w w' := by
  have HA := Aside0.mk (And.intro ha hb)
  have HF := Aside0.mk (mulF_facts a b ha hb ba bb)
  clear ha hb ba bb
  go_enter Try.func29, Try.ntmps29
  go_wp2_with fail
  change Code.wp _ _ _ _ ((((w.alloc (.cells (nums .i64 a).toArray 48)).alloc (.cells (nums .i64 b).toArray 48)).alloc (.cells (nums .i64 z16).toArray 48)).alloc (.cells (nums .i64 (accS a b 0)).toArray 55))
  obtain ⟨i1, i2, i3, b3⟩ := three w 48 48 48 a b z16 _ rfl
  have sz : (((w.alloc (.cells (nums .i64 a).toArray 48)).alloc (.cells (nums .i64 b).toArray 48)).alloc (.cells (nums .i64 z16).toArray 48)).heap.size = w.heap.size + 1 + 1 + 1 := by rw [World.size_alloc, World.size_alloc, World.size_alloc]
  generalize ((w.alloc (.cells (nums .i64 a).toArray 48)).alloc (.cells (nums .i64 b).toArray 48)).alloc (.cells (nums .i64 z16).toArray 48) = w3 at i1 i2 i3 b3 sz ⊢
  have i4 : Is (w3.alloc (.cells (nums .i64 (accS a b 0)).toArray 55)) w3.heap.size 55 .i64 (accS a b 0) := new_is w3 55 .i64 _
  have b4 : Below w3.heap.size w3 (w3.alloc (.cells (nums .i64 (accS a b 0)).toArray 55)) := (Below.refl _ _).alloc (Nat.le_refl _) _
  replace i1 := i1.below b4
  replace i2 := i2.below b4
  replace i3 := i3.below b4
  replace b4 := below_step b3 b4
  generalize w3.alloc (.cells (nums .i64 (accS a b 0)).toArray 55) = w4 at i1 i2 i3 i4 b4 ⊢
  rw [sz] at i4
  clear b3 sz
  obtain ⟨g1, hg1⟩ : ∃ g, g = w.heap.size := ⟨_, rfl⟩
  obtain ⟨g2, hg2⟩ : ∃ g, g = w.heap.size + 1 := ⟨_, rfl⟩
  obtain ⟨g3, hg3⟩ : ∃ g, g = w.heap.size + 1 + 1 := ⟨_, rfl⟩
  obtain ⟨g4, hg4⟩ : ∃ g, g = w.heap.size + 1 + 1 + 1 := ⟨_, rfl⟩
  try rw [← hg4] at i4 ⊢
  try rw [← hg3] at i3 ⊢
  try rw [← hg2] at i2 ⊢
  try rw [← hg1] at i1 ⊢
  have I1 := Aside0.mk i1
  have I2 := Aside0.mk i2
  have I3 := Aside0.mk i3
  have I4 := Aside0.mk i4
  have B4 := Aside0.mk b4
  have NG := Aside0.mk (show w.heap.size ≤ g4 ∧ g1 ≠ g4 ∧ g2 ≠ g4 ∧ g3 ≠ g4 ∧ w.heap.size ≤ g3 by omega)
  clear i1 i2 i3 i4 b4 hg1 hg2 hg3 hg4
  go_loopw [10] (fun v w' => ∃ i : Nat, i ≤ 16 ∧ v = .int .i64 (i : Int) ∧ Aside0 (To w4 w' g4 .i64 (accS a b i))) (fun v _ => 16 - (intOf v).toNat)
  case atStart => exact ⟨0, by omega, rfl, ⟨To.refl I4.out⟩⟩
  case round =>
    obtain ⟨i, hi, rfl, HT⟩ := hrel
    by_cases h16 : i < 16
    · have i0 : (i : Int) < 16 := by omega
      go_wp2
      go_loopw [13] (fun v w' => ∃ k : Nat, k ≤ 16 ∧ v = .int .i64 (k : Int) ∧ Aside0 (To w4 w' g4 .i64 (rowS (accS a b i) i (a.getD i 0) b k))) (fun v _ => 16 - (intOf v).toNat)
      case atStart => exact ⟨0, by omega, rfl, HT⟩
      case round =>
        obtain ⟨k, hk, rfl, HR⟩ := hrel
        obtain ⟨x, hx⟩ : ∃ y_, y_ = rowS (accS a b i) i (a.getD i 0) b k := ⟨_, rfl⟩
        rw [← hx] at HR
        have Lx := Aside0.mk (show x.length = 31 by rw [hx, len_rowS, len_accS])
        have Q0 := Aside0.mk hx
        by_cases k16 : k < 16
        · have k0 : (k : Int) < 16 := by omega
          have hb := HF.out.2.1 i k (by omega) (by omega) (i + k)
          rw [← hx, ← rd_nat] at hb
          have hp := HF.out.1 i k
          rw [← rd_nat, ← rd_nat] at hp
          have m1 : wrap64 (rd a (i : Int) * rd b (k : Int)) = rd a (i : Int) * rd b (k : Int) := wrap_id (by omega) (by omega)
          have eik : ((i + k : Nat) : Int) = (i : Int) + (k : Int) := by omega
          rw [eik] at hb
          have m2 : wrap64 (rd x ((i : Int) + (k : Int)) + rd a (i : Int) * rd b (k : Int)) = rd x ((i : Int) + (k : Int)) + rd a (i : Int) * rd b (k : Int) := wrap_id (by omega) (by omega)
          clear hb hp hx
          have q1 : wrap64 ((i : Int) + (k : Int)) = (i : Int) + (k : Int) := wrap_id (by omega) (by omega)
          have q2 : IntKind.i64.wrap ((i : Int) + (k : Int)) = (i : Int) + (k : Int) := by rw [i64_w, q1]
          have p0 : (0 : Int) ≤ (i : Int) + (k : Int) := by omega
          have p1 : ((i : Int) + (k : Int)).toNat = i + k := by omega
          have p2 : (i : Int) + (k : Int) < 31 := by omega
          have ix := HR.out.is I4.out
          have H1 := ix.cell (i + k) (by rw [Lx.out]; omega)
          rw [eik] at H1
          have F1 := ix.free (i + k)
          have H2 := (HR.out.other NG.out.2.1 I1.out).cell i (by rw [HA.out.1]; omega)
          have H3 := (HR.out.other NG.out.2.2.1 I2.out).cell k (by rw [HA.out.2]; omega)
          clear eik
          go_wp2
          go_still_tail 14, (by kernel_rfl)
          change wpList _ _ _ _ _ wr.drew
          go_wp2_with fail
          try rw [m1]
          try rw [m2]
          rw [put_set ix]
          have e3 : rowS (accS a b i) i (a.getD i 0) b (k + 1) = x.set (i + k) (rd x ((i : Int) + (k : Int)) + rd a (i : Int) * rd b (k : Int)) := by
            rw [rowS, ← Q0.out, rd_nat, rd_nat]
            congr 2
          rw [← e3]
          have t3 := HR.out.put_dr (zs := rowS (accS a b i) i (a.getD i 0) b (k + 1))
          exact ⟨⟨k + 1, by omega, rfl, ⟨t3⟩⟩, by simp only [intOf]; omega⟩
        · obtain rfl : k = 16 := by omega
          rw [show ((16 : Nat) : Int) = 16 from rfl]
          have hq : x = accS a b (i + 1) := Q0.out
          rw [hq] at HR
          clear k16 hx Q0 Lx hq
          go_wp2_with fail
          exact ⟨⟨i + 1, by omega, rfl, HR⟩, by simp only [intOf]; omega⟩
    · obtain rfl : i = 16 := by omega
      rw [show ((16 : Nat) : Int) = 16 from rfl]
      clear h16
      go_wp2
      go_loopw [32] (fun v w' => ∃ k : Nat, k ≤ 15 ∧ v = .int .i64 (k : Int) ∧ Aside0 (To w4 w' g4 .i64 (fldS (accS a b 16) k))) (fun v _ => 15 - (intOf v).toNat)
      case atStart => exact ⟨0, by omega, rfl, HT⟩
      case round =>
        obtain ⟨k, hk, rfl, HR⟩ := hrel
        obtain ⟨x, hx⟩ : ∃ y_, y_ = fldS (accS a b 16) k := ⟨_, rfl⟩
        rw [← hx] at HR
        have Lx := Aside0.mk (show x.length = 31 by rw [hx, len_fldS, len_accS])
        have Q0 := Aside0.mk hx
        by_cases k15 : k < 15
        · have k0 : (k : Int) < 15 := by omega
          have hb := HF.out.2.2.2.1 k (by omega)
          have hb1 := hb k
          have hb2 := hb (k + 16)
          rw [← hx, ← rd_nat] at hb1 hb2
          have e16 : ((k + 16 : Nat) : Int) = (k : Int) + 16 := by omega
          rw [e16] at hb2
          have m1 : wrap64 (38 * rd x ((k : Int) + 16)) = 38 * rd x ((k : Int) + 16) := wrap_id (by omega) (by omega)
          have m2 : wrap64 (rd x (k : Int) + 38 * rd x ((k : Int) + 16)) = rd x (k : Int) + 38 * rd x ((k : Int) + 16) := wrap_id (by omega) (by omega)
          clear hb hb1 hb2 hx
          have q1 : wrap64 ((k : Int) + 16) = (k : Int) + 16 := wrap_id (by omega) (by omega)
          have q2 : IntKind.i64.wrap ((k : Int) + 16) = (k : Int) + 16 := by rw [i64_w, q1]
          have p0 : (0 : Int) ≤ (k : Int) + 16 := by omega
          have p1 : ((k : Int) + 16).toNat = k + 16 := by omega
          have p2 : (k : Int) + 16 < 31 := by omega
          have p3 : (k : Int) < 31 := by omega
          have ix := HR.out.is I4.out
          have H1 := ix.cell k (by rw [Lx.out]; omega)
          have F1 := ix.free k
          have H2 := ix.cell (k + 16) (by rw [Lx.out]; omega)
          rw [e16] at H2
          clear e16
          go_wp2
          go_still_tail 9, (by kernel_rfl)
          change wpList _ _ _ _ _ wr.drew
          go_wp2_with fail
          try rw [m1]
          try rw [m2]
          rw [put_set ix]
          have e3 : fldS (accS a b 16) (k + 1) = x.set k (rd x (k : Int) + 38 * rd x ((k : Int) + 16)) := by
            rw [fldS, ← Q0.out, rd_nat]
            congr 2
          rw [← e3]
          have t3 := HR.out.put_dr (zs := fldS (accS a b 16) (k + 1))
          exact ⟨⟨k + 1, by omega, rfl, ⟨t3⟩⟩, by simp only [intOf]; omega⟩
        · obtain rfl : k = 15 := by omega
          rw [show ((15 : Nat) : Int) = 15 from rfl]
          clear k15
          have bm := HF.out.2.2.2.1 15 (by omega)
          rw [← hx] at bm
          obtain ⟨y, hy⟩ : ∃ y, y = x.take 16 := ⟨_, rfl⟩
          have Ly := Aside0.mk (show y.length = 16 by rw [hy, List.length_take, Lx.out]; rfl)
          have BY := Aside0.mk (show Bd 281474976710656 y from fun j => by
            by_cases hj : j < 16
            · rw [hy, getD_take _ _ _ hj]; have := bm j; omega
            · rw [getD_out _ _ (by rw [Ly.out]; omega)]; decide)
          have MD := Aside0.mk (show Md (car y) by rw [hy, hx]; exact HF.out.2.2.2.2.1)
          have YM := Aside0.mk (show car (car y) = mulF a b by rw [hy, hx]; rfl)
          have J4 := Aside0.mk (HR.out.is I4.out)
          have J3 := Aside0.mk (HR.out.other NG.out.2.2.2.1 I3.out)
          have BR := Aside0.mk (To.below B4.out HR.out NG.out.1)
          have GL := Aside0.mk J3.out.lt
          have HYY := Aside0.mk hy
          clear HR bm hx Q0 hy
          have hsa : ∀ W : World, (Instr.arrayAt 48 (.slice (some ⟨g4, 0, none⟩) 16 31)).run Try.prog W = .ok (.pointer (some ⟨g4, 0, none⟩)) W := fun W => arr_at W g4
          have HI := Aside0.mk (show (Try.prog.info? 48).map (·.size) = some y.length by rw [Ly.out]; exact info_f)
          have HLz := Aside0.mk (show z16.length = y.length by rw [Ly.out]; rfl)
          have N5 := Aside0.mk (show Is (wr.alloc (.cells #[.int .i64 0, .int .i64 0, .int .i64 0, .int .i64 0, .int .i64 0, .int .i64 0, .int .i64 0, .int .i64 0, .int .i64 0, .int .i64 0, .int .i64 0, .int .i64 0, .int .i64 0, .int .i64 0, .int .i64 0, .int .i64 0] 48)) wr.heap.size 48 .i64 z16 from new_is wr 48 .i64 z16)
          have B5 := Aside0.mk (show Below wr.heap.size wr (wr.alloc (.cells (nums .i64 z16).toArray 48)) from (Below.refl _ _).alloc (Nat.le_refl _) _)
          go_upto_region 17 with (first | (with_reducible refine load_pre (b := g4) (e := 55) (xs := x) (ys := y) 48 2 16 (.tmp 47) rfl rfl rfl J4.out Try.underlying48 HI.out HYY.out ?_) | (with_reducible refine storeL_is (b := wr.heap.size) (e := 48) (k := .i64) (xs := z16) 48 (.tmp 9) (.tmp 48) rfl rfl rfl y rfl rfl N5.out HLz.out HI.out ?_))
          change Code.wp _ _ _ _ (put (wr.alloc (.cells (nums .i64 z16).toArray 48)) wr.heap.size .i64 y)
          have i5 : Is (put (wr.alloc (.cells (nums .i64 z16).toArray 48)) wr.heap.size .i64 y) wr.heap.size 48 .i64 y := put_heap (ys := y) N5.out
          have b5 : Below wr.heap.size wr (put (wr.alloc (.cells (nums .i64 z16).toArray 48)) wr.heap.size .i64 y) := below_put (k := .i64) (ys := y) B5.out (Nat.le_refl _)
          generalize put (wr.alloc (.cells (nums .i64 z16).toArray 48)) wr.heap.size .i64 y = w5 at i5 b5 ⊢
          obtain ⟨g5, hg5⟩ : ∃ g, g = wr.heap.size := ⟨_, rfl⟩
          rw [← hg5] at i5 ⊢
          have I5 := Aside0.mk i5
          have K3 := Aside0.mk (J3.out.below b5)
          have BS := Aside0.mk (below_step BR.out b5)
          have NH := Aside0.mk (show g3 ≠ g5 ∧ w.heap.size ≤ g5 by have h1 := GL.out; have h2 := BR.out.size; omega)
          clear i5 b5 hg5 N5 B5 J3 J4 BR hsa
          go_wp2_with fail
          refine (carry_calls g5 y w5 I5.out Ly.out BY.out).mono ?_
          rintro e w6 ⟨rfl, h6⟩
          have I6 := Aside0.mk (h6.is I5.out)
          have K6 := Aside0.mk (h6.other NH.out.1 K3.out)
          have B6 := Aside0.mk (To.below BS.out h6 NH.out.2)
          clear h6
          go_wp2_with fail
          refine (carry_calls g5 (car y) w6 I6.out MD.out.len (fun j => by
            by_cases hj : j = 0
            · subst hj; have := MD.out.first; omega
            · have := MD.out.rest j (by omega); omega)).mono ?_
          rintro e w7 ⟨rfl, h7⟩
          have i7 := h7.is I6.out
          rw [YM.out] at i7
          have I7 := Aside0.mk i7
          have K7 := Aside0.mk (h7.other NH.out.1 K6.out)
          have B7 := Aside0.mk (To.below B6.out h7 NH.out.2)
          have L7 := Aside0.mk (show (mulF a b).length = 16 from HF.out.2.2.2.2.2.len)
          have HI1 := Aside0.mk (show (Try.prog.info? 48).map (·.size) = some (mulF a b).length by rw [L7.out]; exact info_f)
          have HLL := Aside0.mk (show z16.length = (mulF a b).length by rw [L7.out]; rfl)
          clear h7 i7
          go_wp2_with (first | (with_reducible refine loadL_is (b := g5) (e := 48) (k := .i64) (xs := mulF a b) 48 2 16 (.tmp 9) rfl rfl rfl I7.out Try.underlying48 HI1.out ?_) | (with_reducible refine storeL_is (b := g3) (e := 48) (k := .i64) (xs := z16) 48 (.tmp 4) (.tmp 51) rfl rfl rfl (mulF a b) rfl rfl K7.out HLL.out HI1.out ?_))
          refine bodyPost_ret (v := ag (mulF a b)) (results_is (b := g3) (e := 48) Try.results29 _ rfl (put_heap K7.out) Try.underlying48 HI1.out) rfl ?_
          exact ⟨rfl, below_put B7.out NG.out.2.2.2.2⟩
end Go.Proofs.Ytlpoolcdoecodaa.Cv
