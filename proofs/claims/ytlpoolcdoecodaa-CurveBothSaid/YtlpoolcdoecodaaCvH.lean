/-
  pack, walked.
-/
import Derived.Test.YtlpoolcdoecodaaCvG
namespace Go.Proofs.Ytlpoolcdoecodaa.Cv
open Go.RowKit Go.Proofs.YtlpoolcdoecodaaW.PrintWords Go.Proofs.YtlpoolcdoecodaaW.PrintLast Go.Proofs.YtlpoolcdoecodaaW.PrintMore Go.Proofs.Ytlpoolcdoecodaa.Arr
set_option linter.unusedVariables false
set_option maxHeartbeats 8000000
set_option maxRecDepth 100000
def outS (l : List Int) (i : Nat) : List Int := bytesL (l.take i)
theorem outS_step (l : List Int) (i : Nat) (h : i < l.length) : outS l (i + 1) = outS l i ++ [rd l (i : Int) % 256, rd l (i : Int) / 256 % 256] := by
  unfold outS
  rw [List.take_add_one, List.getElem?_eq_getElem h, bytesL_app, rd_nat, List.getD_eq_getElem?_getD, List.getElem?_eq_getElem h]
  rfl
theorem len_outS (l : List Int) (i : Nat) : (outS l i).length ≤ 2 * i := by unfold outS; rw [len_bytesL, List.length_take]; omega
theorem u8w (x : Int) : IntKind.u8.wrap x = x % 256 := by simp [IntKind.wrap, IntKind.bits, IntKind.signed]
theorem info_u8 : (Try.prog.info? 5).map (fun i => (i.zero, i.size, i.bytes)) = some (some (.int .u8 0), 1, 1) := by kernel_rfl
theorem meas16 (i : Nat) (h : i < 16) : 16 - (intOf (.int .i64 ((i : Int) + 1))).toNat < 16 - (intOf (.int .i64 (i : Int))).toNat := by simp only [intOf]; omega
def redS (g : List Int) : Nat → List Int
  | 0 => g
  | n + 1 => redF (redS g n)
theorem dg_redS {g : List Int} (h : Dg g) : ∀ n, Dg (redS g n)
  | 0 => h
  | n + 1 => (les_facts _ (dg_redS h n)).1
theorem bd_dg {g : List Int} (h : Dg g) : Bd 281474976710656 g := fun j => by have := h.all j; omega
theorem pack_calls (f : List Int) (hf : Sm f) (w : World) :
    Calls Try.prog 30 #[ag f] w fun e w' => ∃ v, e = .returned v ∧ (Kd.int .u8).R 5 w' w.heap.size (fun _ => True) v (packF f) ∧ Below w.heap.size w w' := by
  obtain ⟨d1, v1⟩ := car_dg f hf
  obtain ⟨y, hy⟩ : ∃ y, y = car f := ⟨_, rfl⟩
  rw [← hy] at d1
  have DY := Aside0.mk d1
  have EY := Aside0.mk hy
  have CY := Aside0.mk (show car y = y from car_id y d1)
  have HF := Aside0.mk hf
  clear hf d1 v1 hy
  go_enter Try.func30, Try.ntmps30
  go_upto_region 1 with (fail)
  change Code.wp _ _ _ _ (w.alloc (.cells (nums .i64 f).toArray 48))
  have i1 : Is (w.alloc (.cells (nums .i64 f).toArray 48)) w.heap.size 48 .i64 f := new_is w 48 .i64 f
  have b1 : Below w.heap.size w (w.alloc (.cells (nums .i64 f).toArray 48)) := (Below.refl _ _).alloc (Nat.le_refl _) _
  generalize w.alloc (.cells (nums .i64 f).toArray 48) = w1 at i1 b1 ⊢
  obtain ⟨g1, hg1⟩ : ∃ g, g = w.heap.size := ⟨_, rfl⟩
  try rw [← hg1] at i1 ⊢
  have I1 := Aside0.mk i1
  have B1 := Aside0.mk b1
  have NG := Aside0.mk (show w.heap.size ≤ g1 by omega)
  clear i1 b1 hg1
  go_wp2_with fail
  refine (carry_calls g1 f w1 I1.out HF.out.len (fun j => by have := bd_sm HF.out j; omega)).mono ?_
  rintro e w2 ⟨rfl, h2⟩
  have i2 := h2.is I1.out
  rw [← EY.out] at i2
  have I2 := Aside0.mk i2
  have B2 := Aside0.mk (To.below B1.out h2 NG.out)
  clear h2 i2 I1 B1
  go_wp2_with fail
  refine (carry_calls g1 y w2 I2.out DY.out.len (bd_dg DY.out)).mono ?_
  rintro e w3 ⟨rfl, h3⟩
  have i3 := h3.is I2.out
  rw [CY.out] at i3
  have I3 := Aside0.mk i3
  have B3 := Aside0.mk (To.below B2.out h3 NG.out)
  clear h3 i3 I2 B2
  go_wp2_with fail
  refine (carry_calls g1 y w3 I3.out DY.out.len (bd_dg DY.out)).mono ?_
  rintro e w4 ⟨rfl, h4⟩
  have i4 := h4.is I3.out
  rw [CY.out] at i4
  have I4 := Aside0.mk i4
  have B4 := Aside0.mk (To.below B3.out h4 NG.out)
  clear h4 i4 I3 B3
  go_wp2_with fail
  go_loopw [10] (fun v w' => ∃ n : Nat, n ≤ 2 ∧ v = .int .i64 (n : Int) ∧ Aside0 (Is w' g1 48 .i64 (redS y n)) ∧ Aside0 (Below w.heap.size w w')) (fun v _ => 2 - (intOf v).toNat)
  case atStart => exact ⟨0, by omega, rfl, I4, B4⟩
  case round =>
    obtain ⟨n, hn, rfl, HI, HB⟩ := hrel
    obtain ⟨c, hc⟩ : ∃ c, c = redS y n := ⟨_, rfl⟩
    rw [← hc] at HI
    have QC := Aside0.mk hc
    have HC := Aside0.mk (show Dg c by rw [hc]; exact dg_redS DY.out n)
    by_cases h2 : n < 2
    · have n0 : (n : Int) < 2 := by omega
      have HIc := Aside0.mk (show (Try.prog.info? 48).map (·.size) = some c.length by rw [HC.out.len]; exact info_f)
      have N2 := Aside0.mk h2
      clear hc hn h2
      go_wp2_with (first | (with_reducible refine loadL_is (b := g1) (e := 48) (k := .i64) (xs := c) 48 2 16 (.tmp 1) rfl rfl rfl HI.out Try.underlying48 HIc.out ?_))
      refine (less_calls c HC.out wr).mono ?_
      rintro e w5 ⟨rfl, h5⟩
      have J1 := Aside0.mk (HI.out.below h5)
      have B5 := Aside0.mk (below_step HB.out h5)
      have LM := Aside0.mk (show (lesM c).length = 16 by rw [lesM, List.length_set, len_lesS])
      have HIm := Aside0.mk (show (Try.prog.info? 48).map (·.size) = some (lesM c).length by rw [LM.out]; exact info_f)
      have HLm := Aside0.mk (show z16.length = (lesM c).length by rw [LM.out]; rfl)
      have HLc := Aside0.mk (show c.length = (lesM c).length by rw [LM.out, HC.out.len])
      have N5 := Aside0.mk (show Is (w5.alloc (.cells #[.int .i64 0, .int .i64 0, .int .i64 0, .int .i64 0, .int .i64 0, .int .i64 0, .int .i64 0, .int .i64 0, .int .i64 0, .int .i64 0, .int .i64 0, .int .i64 0, .int .i64 0, .int .i64 0, .int .i64 0, .int .i64 0] 48)) w5.heap.size 48 .i64 z16 from new_is w5 48 .i64 z16)
      have A5 := Aside0.mk (show Below w5.heap.size w5 (w5.alloc (.cells #[.int .i64 0, .int .i64 0, .int .i64 0, .int .i64 0, .int .i64 0, .int .i64 0, .int .i64 0, .int .i64 0, .int .i64 0, .int .i64 0, .int .i64 0, .int .i64 0, .int .i64 0, .int .i64 0, .int .i64 0, .int .i64 0] 48)) from (Below.refl _ _).alloc (Nat.le_refl _) _)
      clear h5
      obtain ⟨bo, hbo⟩ : ∃ bo, bo = (lesB c == 1) := ⟨_, rfl⟩
      rw [← hbo]
      have HBO := Aside0.mk hbo
      clear hbo
      go_upto_region 7 with (first | (with_reducible refine storeL_is (b := w5.heap.size) (e := 48) (k := .i64) (xs := z16) 48 (.tmp 3) (.tmp 15) rfl rfl rfl (lesM c) rfl rfl N5.out HLm.out HIm.out ?_))
      change Code.wp _ _ _ _ (put (w5.alloc (.cells (nums .i64 z16).toArray 48)) w5.heap.size .i64 (lesM c))
      have i6 : Is (put (w5.alloc (.cells (nums .i64 z16).toArray 48)) w5.heap.size .i64 (lesM c)) w5.heap.size 48 .i64 (lesM c) := put_heap (ys := lesM c) N5.out
      have b6 : Below w5.heap.size w5 (put (w5.alloc (.cells (nums .i64 z16).toArray 48)) w5.heap.size .i64 (lesM c)) := below_put (k := .i64) (ys := lesM c) A5.out (Nat.le_refl _)
      generalize put (w5.alloc (.cells (nums .i64 z16).toArray 48)) w5.heap.size .i64 (lesM c) = w6 at i6 b6 ⊢
      obtain ⟨g3, hg3⟩ : ∃ g, g = w5.heap.size := ⟨_, rfl⟩
      rw [← hg3] at i6 ⊢
      have K1 := Aside0.mk (J1.out.below b6)
      have K3 := Aside0.mk i6
      have B6 := Aside0.mk (below_step B5.out b6)
      clear i6 b6 hg3 N5 A5 J1 B5
      cases bo with
      | true =>
        have HR := Aside0.mk (show redS y (n + 1) = c by rw [redS, ← QC.out, redF, if_pos (by simpa using HBO.out.symm)])
        go_wp2_with fail
        exact ⟨⟨n + 1, N2.out, rfl, ⟨by rw [HR.out]; exact K1.out⟩, B6⟩, by have := N2.out; simp only [intOf]; omega⟩
      | false =>
        have HR := Aside0.mk (show redS y (n + 1) = lesM c by rw [redS, ← QC.out, redF, if_neg (by simpa using HBO.out.symm)])
        go_wp2_with (first | (with_reducible refine loadL_is (b := g3) (e := 48) (k := .i64) (xs := lesM c) 48 2 16 (.tmp 3) rfl rfl rfl K3.out Try.underlying48 HIm.out ?_) | (with_reducible refine storeL_is (b := g1) (e := 48) (k := .i64) (xs := c) 48 (.tmp 1) (.tmp 19) rfl rfl rfl (lesM c) rfl rfl K1.out HLc.out HIm.out ?_))
        refine ⟨⟨n + 1, N2.out, rfl, ⟨by rw [HR.out]; exact put_heap K1.out⟩, ⟨below_put B6.out NG.out⟩⟩, by have := N2.out; simp only [intOf]; omega⟩
    · obtain rfl : n = 2 := by omega
      rw [show ((2 : Nat) : Int) = 2 from rfl]
      obtain ⟨l, hl⟩ : ∃ l : List Int, l = c := ⟨_, rfl⟩
      rw [← hl] at HI
      have LL := Aside0.mk (show l.length = 16 by rw [hl]; exact HC.out.len)
      have LP := Aside0.mk (show bytesL l = packF f by rw [hl, QC.out, packF, ← EY.out, CY.out, CY.out]; rfl)
      have IX := Aside0.mk HI.out
      have HB0 := Aside0.mk HB.out
      obtain ⟨w5, rfl⟩ : ∃ w5 : World, w5 = wr := ⟨_, rfl⟩
      clear hl hc h2 hn QC HC c HI
      go_wp2_with fail
      obtain ⟨bO, hbO⟩ : ∃ u, u = w5.heap.size := ⟨_, rfl⟩
      have HBO := Aside0.mk hbO
      clear hbO
      go_loopw [5, 21] (fun u v w' => ∃ i : Nat, i ≤ 16 ∧ v = .int .i64 (i : Int) ∧ Aside0 ((Kd.int .u8).R 5 w' bO (fun _ => True) u (outS l i)) ∧ Aside0 (Below bO w5 w')) (fun _ v _ => 16 - (intOf v).toNat)
      case atStart => exact ⟨0, by omega, rfl, ⟨Kd.R_nil _ _ _ _ _⟩, ⟨Below.refl _ _⟩⟩
      case round =>
        obtain ⟨i, hi, rfl, HR, HB⟩ := hrel
        obtain ⟨Av2, cv2, rfl, _, _⟩ := Kd.R_reads HR.out
        obtain ⟨n22, hn22⟩ : ∃ n, n = (outS l i).length := ⟨_, rfl⟩
        rw [← hn22] at HR ⊢
        have HN22 := Aside0.mk hn22
        clear hn22
        by_cases h8 : i < 16
        · have q8 : (i : Int) < 16 := by omega
          have H8 := Aside0.mk h8
          have HBZ := Aside0.mk (show bO ≤ wr.heap.size by have := HB.out.size; have := HBO.out; omega)
          have IXr := Aside0.mk (IX.out.below (show Below w5.heap.size w5 wr by rw [← HBO.out]; exact HB.out))
          have Q0 := Aside0.mk (fun (w' : World) (h : Below wr.heap.size wr w') => (IXr.out.below h).cell i (by rw [LL.out]; exact H8.out))
          clear h8
          go_upto_region 14 with (fail)
          change Code.wp _ _ _ _ wr
          refine start_ (n := 13) (S := fun w' => Below wr.heap.size wr w') (ds := [11]) #[false, false, false, false, false, false, false, false, false, false, false, false, false] (by kernel_rfl) rfl rfl (below_drew1 (Below.refl _ _)) (fun hHeld => ?_)
          refine pure_ (i := 0) (N := some 24) (v := ?_) (a' := ?_) #[true, false, false, false, false, false, false, false, false, false, false, false, false] rfl rfl (by kernel_rfl) (fun _ _ _ h => h) (Or.inl ⟨by rfl, ?_⟩) ?_ ?_
          rotate_left
          · intro w'
            go_simp
            with_reducible rfl
          rotate_left
          · simp only [Act.put, List.setIfInBounds_toArray, List.set_cons_zero, List.set_cons_succ]
            rfl
          refine pure_ (i := 1) (N := some 25) (v := ?_) (a' := ?_) #[true, true, false, false, false, false, false, false, false, false, false, false, false] rfl rfl (by kernel_rfl) (fun _ _ _ h => h) (Or.inl ⟨by rfl, ?_⟩) ?_ ?_
          rotate_left
          · intro w'
            go_simp
            with_reducible rfl
          rotate_left
          · simp only [Act.put, List.setIfInBounds_toArray, List.set_cons_zero, List.set_cons_succ]
            rfl
          refine pure_ (i := 2) (N := some 26) (v := ?_) (a' := ?_) #[true, true, true, false, false, false, false, false, false, false, false, false, false] rfl rfl (by kernel_rfl) (fun _ _ _ h => h) (Or.inl ⟨by rfl, ?_⟩) ?_ ?_
          rotate_left
          · intro w'
            go_simp
            with_reducible rfl
          rotate_left
          · simp only [Act.put, List.setIfInBounds_toArray, List.set_cons_zero, List.set_cons_succ]
            rfl
          refine pure_ (i := 5) (N := some 29) (v := ?_) (a' := ?_) #[true, true, true, false, false, true, false, false, false, false, false, false, false] rfl rfl (by kernel_rfl) (fun _ _ _ h => h) (Or.inl ⟨by rfl, ?_⟩) ?_ ?_
          rotate_left
          · intro w'
            go_simp
            with_reducible rfl
          rotate_left
          · simp only [Act.put, List.setIfInBounds_toArray, List.set_cons_zero, List.set_cons_succ]
            rfl
          refine pure_ (i := 6) (N := some 30) (v := ?_) (a' := ?_) #[true, true, true, false, false, true, true, false, false, false, false, false, false] rfl rfl (by kernel_rfl) (fun _ _ _ h => h) (Or.inl ⟨by rfl, ?_⟩) ?_ ?_
          rotate_left
          · intro w'
            go_simp
            with_reducible rfl
          rotate_left
          · simp only [Act.put, List.setIfInBounds_toArray, List.set_cons_zero, List.set_cons_succ]
            rfl
          refine take_ (i := 3) (N := some 27) (v := ?_) (a' := ?_) #[true, true, true, true, false, true, true, false, false, false, false, false, false] rfl rfl (by kernel_rfl) (fun _ _ _ h => h) (Or.inl ⟨by rfl, ?_⟩) hHeld ?_ ?_
          rotate_left
          · intro w' s0
            have q0_ := Q0.out w' s0
            go_simp
            with_reducible rfl
          rotate_left
          · simp only [Act.put, List.setIfInBounds_toArray, List.set_cons_zero, List.set_cons_succ]
            rfl
          refine pure_ (i := 4) (N := some 28) (v := ?_) (a' := ?_) #[true, true, true, true, true, true, true, false, false, false, false, false, false] rfl rfl (by kernel_rfl) (fun _ _ _ h => h) (Or.inl ⟨by rfl, ?_⟩) ?_ ?_
          rotate_left
          · intro w'
            go_simp
            with_reducible rfl
          rotate_left
          · simp only [Act.put, List.setIfInBounds_toArray, List.set_cons_zero, List.set_cons_succ]
            rfl
          refine take_ (i := 7) (N := some 31) (v := ?_) (a' := ?_) #[true, true, true, true, true, true, true, true, false, false, false, false, false] rfl rfl (by kernel_rfl) (fun _ _ _ h => h) (Or.inl ⟨by rfl, ?_⟩) hHeld ?_ ?_
          rotate_left
          · intro w' s0
            have q0_ := Q0.out w' s0
            go_simp
            with_reducible rfl
          rotate_left
          · simp only [Act.put, List.setIfInBounds_toArray, List.set_cons_zero, List.set_cons_succ]
            rfl
          refine pure_ (i := 8) (N := some 32) (v := ?_) (a' := ?_) #[true, true, true, true, true, true, true, true, true, false, false, false, false] rfl rfl (by kernel_rfl) (fun _ _ _ h => h) (Or.inl ⟨by rfl, ?_⟩) ?_ ?_
          rotate_left
          · intro w'
            go_simp
            with_reducible rfl
          rotate_left
          · simp only [Act.put, List.setIfInBounds_toArray, List.set_cons_zero, List.set_cons_succ]
            rfl
          refine pure_ (i := 9) (N := some 33) (v := ?_) (a' := ?_) #[true, true, true, true, true, true, true, true, true, true, false, false, false] rfl rfl (by kernel_rfl) (fun _ _ _ h => h) (Or.inl ⟨by rfl, ?_⟩) ?_ ?_
          rotate_left
          · intro w'
            go_simp
            with_reducible rfl
          rotate_left
          · simp only [Act.put, List.setIfInBounds_toArray, List.set_cons_zero, List.set_cons_succ]
            rfl
          refine one_ (i := 10) (N := some 34) #[true, true, true, true, true, true, true, true, true, true, true, false, false] rfl rfl (by kernel_rfl) (by decide) (fun K hK => ?_)
          refine value_ (w1 := ?_) (v := ?_) (by rfl) rfl ?_ ?_
          rotate_left 2
          · go_simp
            constructor
            · rfl
            · rfl
          refine hK.out _ _ (below_alloc hHeld _) (fun hHeld => ?_)
          clear hK K
          refine norm_ (a' := ?_) ?_ ?_
          rotate_left
          · show Act.put _ (some 34) _ = _
            simp only [Act.put, List.setIfInBounds_toArray, List.set_cons_zero, List.set_cons_succ]
            rfl
          refine last_ (i := 11) (N := some 35) #[true, true, true, true, true, true, true, true, true, true, true, true, false] rfl rfl (by kernel_rfl) (by decide) (fun K hK => ?_)
          refine Kd.R_append_rows_step (Kd.int .u8) (w0 := wr) bO (by rfl) (.tmp 24) (.tmp 34) 22 5 (.int .u8 0) 1 rfl Try.underlying22 info_u8 rfl (by decide) (by omega) (.slice Av2 n22 cv2) (outS l i) [IntKind.u8.wrap (rd l (i : Int)), IntKind.u8.wrap (rd l (i : Int) / 256)] (some ⟨_, 0, none⟩) 2 2 (fun _ => True) (fun _ => False) rfl rfl ?aO ?aR (fun _ _ h => h) (fun _ h => h.elim) ?aF ?aB ?aS ?aL ?_
          (case aO => exact Kd.R_drew (Kd.R_alloc HR.out _))
          (case aR => exact Kd.C_drew (lit_C wr 5 .u8 [IntKind.u8.wrap (rd l (i : Int)), IntKind.u8.wrap (rd l (i : Int) / 256)] (0, 0) 2 rfl (by decide)))
          (case aF => exact fun _ _ => trivial)
          (case aB => exact hHeld.mono HBZ.out)
          (case aS => exact Nat.le_trans HBZ.out hHeld.size)
          (case aL => have := H8.out; have := len_outS l i; (try simp only [List.length_cons, List.length_nil]); omega)
          intro v21 w21 ho hb hg hn
          have N21 := Aside0.mk (show (Kd.int .u8).R 5 w21 bO (fun _ => True) v21 (outS l (i + 1)) by rw [outS_step l i (by rw [LL.out]; exact H8.out), ← u8w, ← u8w]; exact ho)
          have L21 := Aside0.mk hb
          clear ho hb hg hn
          refine hK.out _ _ ?_
          clear hK K
          refine norm_ (a' := ?_) ?_ ?_
          rotate_left
          · show Act.put _ (some 35) _ = _
            simp only [Act.put, List.setIfInBounds_toArray, List.set_cons_zero, List.set_cons_succ]
            rfl
          refine pure_ (i := 12) (N := some 5) (v := ?_) (a' := ?_) #[true, true, true, true, true, true, true, true, true, true, true, true, true] rfl rfl (by kernel_rfl) (fun _ _ _ h => h) (Or.inl ⟨by rfl, ?_⟩) ?_ ?_
          rotate_left
          · intro w'
            go_simp
            with_reducible rfl
          rotate_left
          · simp only [Act.put, List.setIfInBounds_toArray, List.set_cons_zero, List.set_cons_succ]
            rfl
          refine done_ (by kernel_rfl) ?_
          go_wp2_with fail
          refine ⟨⟨i + 1, H8.out, congrArg (Value.int .i64) rfl, ⟨N21.out⟩, ⟨HB.out.trans L21.out⟩⟩, meas16 i H8.out⟩
        · obtain rfl : i = 16 := by omega
          rw [show ((16 : Nat) : Int) = 16 from rfl]
          have EL := Aside0.mk (show outS l 16 = bytesL l by unfold outS; rw [List.take_of_length_le (by rw [LL.out]; exact Nat.le_refl _)])
          clear h8
          go_wp2_with fail
          go_ret
          refine ⟨_, rfl, ?_, ?_⟩
          · rw [← LP.out, ← EL.out]
            exact Kd.R_lower HR.out (by rw [HBO.out]; exact HB0.out.size)
          · exact HB0.out.trans (HB.out.mono (by rw [HBO.out]; exact HB0.out.size))
end Go.Proofs.Ytlpoolcdoecodaa.Cv
