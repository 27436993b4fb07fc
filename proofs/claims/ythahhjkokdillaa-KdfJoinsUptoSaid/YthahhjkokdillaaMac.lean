/-
  kdf.Mac, walked.
-/
import Derived.Test.YthahhjkokdillaaShaG
import Derived.Test.YthahhjkokdillaaPolyB
import Derived.Deep.Cut
import Derived.Deep.OwnRows
import Derived.RegionTactic
namespace Go.Proofs.Ythahhjkokdillaa.Sha
open Go.RowKit Go.Proofs.YthahhjkokdillaaW.PrintWords Go.Proofs.YthahhjkokdillaaW.PrintLast Go.Proofs.YthahhjkokdillaaW.PrintMore Go.Proofs.Ythahhjkokdillaa.Arr
theorem is_R {w : World} {b : Nat} {e : TypeId} {k : IntKind} {xs : List Int} (h : Is w b e k xs) (base n : Nat) (hb : base ≤ b) (hn : xs.length = n) (hm : n ≤ 9223372036854775807) : (Kd.int k).R e w base (fun _ => True) (.slice (some ⟨b, 0, none⟩) n n) xs := by
  subst hn
  refine Kd.R_of_own ⟨by simp [encs], .inr ⟨b, xs.length, (nums k xs).toArray, rfl, hb, h, Nat.le_refl _, by simpa [maxLen] using hm, by simp [nums], ?_⟩⟩ (fun _ _ => trivial)
  simp only [Nat.mul_one]
  exact List.take_of_length_le (by simp [nums])
theorem setCells_put {b : Nat} {e : TypeId} {k : IntKind} : ∀ (ys : List Int) (o : Nat) (w : World) (xs : List Int), Is w b e k xs → o + ys.length ≤ xs.length → w.setCells b o (nums k ys) = put w b k (xs.take o ++ ys ++ xs.drop (o + ys.length))
  | [], o, w, xs, h, _ => by
    rw [List.append_nil, List.length_nil, Nat.add_zero, List.take_append_drop, put_self h]
    rfl
  | y :: r, o, w, xs, h, hl => by
    simp only [List.length_cons] at hl
    have e1 : w.setCells b o (nums k (y :: r)) = (w.setCell ⟨b, o, none⟩ (.int k y)).setCells b (o + 1) (nums k r) := rfl
    rw [e1, put_set h, setCells_put r (o + 1) _ _ (put_heap h) (by rw [List.length_set]; omega), put_put]
    congr 1
    apply List.ext_getElem?
    intro j
    simp only [List.getElem?_append, List.getElem?_take, List.getElem?_drop, List.length_append, List.length_take, List.length_set, List.length_cons, List.getElem?_set, List.getElem?_cons]
    grind
theorem copy_is {P : Program} {ops : Array Oper} {rest : List Oper} {o : Oper} {a : Act} {Q : Exit → Act → World → Prop} {W : World} {b n : Nat} (hgd : o.guard = none) (s x : Operand) (t t' e : TypeId)
    (ho : o.op = .call { callee := .builtin .copy, args := #[s, x], argTypes := #[t, t'] }) (ht : P.underlying t = some (.slice e)) (hinfo : (P.info? e).map (·.size) = some 1)
    (k : IntKind) (xs ys : List Int) (A : Option Addr) (m c : Nat) (hs : a.eval s = .slice (some ⟨b, 0, none⟩) n n) (hx : a.eval x = .slice A m c) (hn : xs.length = n) (hI : Is W b e k xs) (HR : (Kd.int k).C W A m ys) (hle : m ≤ n)
    (h : wpList P ops Q rest (a.put o.dst (.int .i64 (m : Int))) (put W b k (ys ++ xs.drop m))) : wpList P ops Q (o :: rest) a W := by
  have hR := Kd.reads_of_C (enc := Value.int k) (d := (0 : Int)) (h1 := fun _ => rfl) HR
  have hm : ys.length = m := hR.1
  have hrun : (Builtin.copy_ #[t, t'] o.type #[.slice (some ⟨b, 0, none⟩) n n, .slice A m c]).run P W = .ok (goInt (m : Int)) (put W b k (ys ++ xs.drop m)) := by
    have hmin : min m n = m := Nat.min_eq_left hle
    rcases Nat.eq_zero_or_pos m with h0 | hp
    · subst h0
      have hy : ys = [] := List.length_eq_zero_iff.1 hm
      rw [hy, List.nil_append, List.drop_zero, put_self hI]
      exact run_copy_none W t t' o.type e _ A n n 0 c ht hinfo (by show min 0 n = 0; omega)
    · obtain ⟨ad, hA, hc⟩ := hR.2.2 (by omega)
      have hl : (nums k ys).length = m := by simp [nums, hm]
      have hr := run_copy_cells (P := P) W t t' o.type e b 0 n n ad m c (nums k ys) ht hinfo (by rw [hl]; exact hmin.symm)
        (fun j v hv => by
          have hj : j < ys.length := by
            rcases Nat.lt_or_ge j ys.length with h | h
            · exact h
            · rw [List.getElem?_eq_none (by simp [nums]; exact h)] at hv; cases hv
          rw [hc j (by omega), ← hv]
          simp [nums, List.getD_eq_getElem?_getD, hj])
        (fun j hj => by rw [Nat.zero_add, hI.cell j (by omega)]; rfl) (fun j _ => hI.free _) (by intro v hv; simp only [nums, List.mem_map] at hv; obtain ⟨q, _, rfl⟩ := hv; rfl)
      rw [hl, setCells_put ys 0 W xs hI (by omega)] at hr
      rw [hA, hr, List.take_zero, List.nil_append, Nat.zero_add, hm]
  refine wpList_plain hgd fun K hK => ?_
  unfold Oper.wp execOp
  simp only [ho, resolve, invoke, builtin, Sem.run_bind, Sem.run_pure, Result.andThen_ok, List.map_toArray, List.map_cons, List.map_nil, hs, hx, hrun]
  exact hK _ _ h
/-- The walk. -/
theorem info_sz : (Try.prog.info? 5).map (·.size) = some 1 := by kernel_rfl
def padF (l : List Int) : List Int := l ++ z64.drop l.length
theorem len_padF (l : List Int) (h : l.length ≤ 64) : (padF l).length = 64 := by rw [padF, List.length_append, List.length_drop, show z64.length = 64 from rfl]; omega
def xorN (c : Int) (p : List Int) : Nat → List Int
  | 0 => p
  | i + 1 => (xorN c p i).set i (Go.bits .xor .u8 (rd (xorN c p i) i) c)
theorem len_xorN (c : Int) (p : List Int) : ∀ i, (xorN c p i).length = p.length
  | 0 => rfl
  | i + 1 => by rw [xorN, List.length_set, len_xorN c p i]
theorem meas64 (i : Nat) (h : i < 64) : 64 - (intOf (.int .i64 ((i : Int) + 1))).toNat < 64 - (intOf (.int .i64 (i : Int))).toNat := by simp only [intOf]; omega
theorem ne_own {b c n k : Nat} (h : c ≠ b) : some c ≠ Value.ownBlock (.slice (some ⟨b, 0, none⟩) n k) := by
  intro e
  exact h (Option.some.inj e)
/-- The answer, for a key of up to 64 bytes. -/
def macS (l0 l1 : List Int) : List Int := shaF (xorN 92 (padF l0) 64 ++ shaF (xorN 54 (padF l0) 64 ++ l1))
set_option maxHeartbeats 8000000 in
set_option maxRecDepth 100000 in
theorem mac_short (A0 : Option Addr) (c0 : Nat) (l0 : List Int) (A1 : Option Addr) (c1 : Nat) (l1 : List Int) (w : World) (hr0 : (Kd.int .u8).C w A0 l0.length l0) (hc0 : l0.length ≤ c0) (hr1 : (Kd.int .u8).C w A1 l1.length l1) (hc1 : l1.length ≤ c1) (hl0 : l0.length ≤ 64) (hl1 : l1.length ≤ 90000000) :
    Calls Try.prog 14 #[.slice A0 l0.length c0, .slice A1 l1.length c1] w fun e w' => ∃ v, e = .returned v ∧ (Kd.int .u8).R 5 w' w.heap.size (fun _ => True) v (macS l0 l1) ∧ Below w.heap.size w w' := by
  have C0 := Aside0.mk (And.intro hr0 hc0)
  have C1 := Aside0.mk (And.intro hr1 hc1)
  have d0 : decide (64 < l0.length) = false := decide_eq_false (by omega)
  have d1 : ¬ 64 < (l0.length : Int) := by omega
  have d2 : ¬ 64 < l0.length := by omega
  have HL := Aside0.mk (And.intro hl0 hl1)
  clear hr0 hc0 hr1 hc1 hl0 hl1
  go_enter Try.func14, Try.ntmps14
  go_wp2_with fail
  have e64 : madeCells #[.int .u8 0] 64 = (nums .u8 z64).toArray := by kernel_rfl
  have hmk : ∀ W : World, (Instr.makeSlice 22 (.int .i64 64) (.int .i64 64)).run Try.prog W = .ok (.slice (some ⟨W.heap.size, 0, none⟩) 64 64) (W.alloc (.cells (nums .u8 z64).toArray 5)) := by
    intro W
    have h := run_make_row' (P := Try.prog) 22 5 (.int .u8 0) 1 Try.underlying22 Pol.info_u8 rfl .i64 .i64 64 (by decide) (by decide) W
    rw [e64] at h
    exact h
  clear d0 d1 d2 e64
  have n1 : Is ((w.alloc (.cells (nums .u8 z64).toArray 5)).alloc (.cells (nums .u8 z64).toArray 5)).drew w.heap.size 5 .u8 z64 := ((new_is w 5 .u8 z64).below ((Below.refl _ _).alloc (Nat.le_refl _) _)).drew
  have n2 : Is ((w.alloc (.cells (nums .u8 z64).toArray 5)).alloc (.cells (nums .u8 z64).toArray 5)).drew (w.heap.size + 1) 5 .u8 z64 := by
    have h := (new_is (w.alloc (.cells (nums .u8 z64).toArray 5)) 5 .u8 z64).drew
    rw [World.size_alloc] at h
    exact h
  have n3 : Below w.heap.size w ((w.alloc (.cells (nums .u8 z64).toArray 5)).alloc (.cells (nums .u8 z64).toArray 5)).drew := pw_below_drewN (((Below.refl _ _).alloc (Nat.le_refl _) _).alloc (by rw [World.size_alloc]; omega) _) 1
  generalize hW : ((w.alloc (.cells (nums .u8 z64).toArray 5)).alloc (.cells (nums .u8 z64).toArray 5)).drew = w3 at n1 n2 n3
  go_region
  · skip
    obtain ⟨bI, hbI⟩ : ∃ b, b = w.heap.size := ⟨_, rfl⟩
    obtain ⟨bO, hbO⟩ : ∃ b, b = w.heap.size + 1 := ⟨_, rfl⟩
    have i3 : Is w3 bI 5 .u8 z64 := by rw [hbI]; exact n1
    have o3 : Is w3 bO 5 .u8 z64 := by rw [hbO]; exact n2
    have b3 := n3
    clear hW n1 n2 n3
    rw [← hbO, ← hbI]
    have NE : bI ≠ bO := by omega
    have NE2 : bO ≠ bI := by omega
    have I3 := Aside0.mk i3
    have O3 := Aside0.mk o3
    have B3 := Aside0.mk b3
    have HBI := Aside0.mk (show w.heap.size ≤ bI ∧ w.heap.size ≤ bO by omega)
    have HNE := Aside0.mk (And.intro NE NE2)
    clear NE NE2 i3 o3 b3 hbI hbO hmk
    go_wp2_with (first | ((with_reducible refine gate_builtin (b := .copy) (xs := #[.tmp 15, .tmp 16]) rfl ?_); refine copy_is (b := bI) (n := 64) rfl (.tmp 15) (.tmp 16) 22 22 5 rfl Try.underlying22 info_sz .u8 z64 l0 A0 l0.length c0 rfl rfl rfl I3.out (Kd.C_below C0.out.1 B3.out) HL.out.1 ?_; have i4 := put_heap (ys := padF l0) I3.out; have o4 := (put_other (k := .u8) (ys := padF l0) bO HNE.out.2).trans O3.out; have b4 := below_put (k := .u8) (ys := padF l0) B3.out HBI.out.1; change wpList _ _ _ _ _ (put w3 bI .u8 (padF l0)); generalize put w3 bI .u8 (padF l0) = w4 at i4 o4 b4 ⊢; have I4 := Aside0.mk i4; have O4 := Aside0.mk (show Is w4 bO 5 .u8 z64 from o4); have B4 := Aside0.mk b4; clear i4 o4 b4) | ((with_reducible refine gate_builtin (b := .copy) (xs := #[.tmp 18, .tmp 19]) rfl ?_); refine copy_is (b := bO) (n := 64) rfl (.tmp 18) (.tmp 19) 22 22 5 rfl Try.underlying22 info_sz .u8 z64 l0 A0 l0.length c0 rfl rfl rfl O4.out (Kd.C_below C0.out.1 B4.out) HL.out.1 ?_; have o5 := put_heap (ys := padF l0) O4.out; have i5 := (put_other (k := .u8) (ys := padF l0) bI HNE.out.1).trans I4.out; have b5 := below_put (k := .u8) (ys := padF l0) B4.out HBI.out.2; change wpList _ _ _ _ _ (put w4 bO .u8 (padF l0)); generalize put w4 bO .u8 (padF l0) = w5 at i5 o5 b5 ⊢; have I5 := Aside0.mk (show Is w5 bI 5 .u8 (padF l0) from i5); have O5 := Aside0.mk o5; have B5 := Aside0.mk b5; clear i5 o5 b5))
    obtain ⟨p, hp⟩ : ∃ p, p = padF l0 := ⟨_, rfl⟩
    rw [← hp] at I5 O5
    have LP := Aside0.mk (show p.length = 64 by rw [hp]; exact len_padF l0 HL.out.1)
    have HP := Aside0.mk hp
    clear hp
    go_loopw [21] (fun v w' => ∃ i : Nat, i ≤ 64 ∧ v = .int .i64 i ∧ Aside0 (Is w' bI 5 .u8 (xorN 54 p i)) ∧ Aside0 (Is w' bO 5 .u8 (xorN 92 p i)) ∧ Aside0 (Below w.heap.size w w')) (fun v _ => 64 - (intOf v).toNat)
    case atStart => exact ⟨0, by omega, rfl, I5, O5, B5⟩
    case round =>
      obtain ⟨i, hi, rfl, HI, HO, HB⟩ := hrel
      by_cases h64 : i < 64
      · have q64 : (i : Int) < 64 := by omega
        have k1 := HI.out.cell i (by rw [len_xorN, LP.out]; exact h64)
        have f1 := HI.out.free i
        have H64 := Aside0.mk h64
        clear h64
        go_upto_region 10 with (fail)
        change Code.wp _ _ _ _ (wr.setCell ⟨bI, i, none⟩ (.int .u8 (Go.bits .xor .u8 (rd (xorN 54 p i) (i : Int)) 54)))
        rw [put_set HI.out]
        have i6 : Is (put wr bI .u8 (xorN 54 p (i + 1))) bI 5 .u8 (xorN 54 p (i + 1)) := put_heap HI.out
        have o6 : Is (put wr bI .u8 (xorN 54 p (i + 1))) bO 5 .u8 (xorN 92 p i) := (put_other bO HNE.out.2).trans HO.out
        have b6 : Below w.heap.size w (put wr bI .u8 (xorN 54 p (i + 1))) := below_put HB.out HBI.out.1
        change Code.wp _ _ _ _ (put wr bI .u8 (xorN 54 p (i + 1)))
        clear k1 f1
        generalize put wr bI .u8 (xorN 54 p (i + 1)) = w6 at i6 o6 b6 ⊢
        have k2 := o6.cell i (by rw [len_xorN, LP.out]; exact H64.out)
        have f2 := o6.free i
        have I6 := Aside0.mk i6
        have O6 := Aside0.mk o6
        have B6 := Aside0.mk b6
        clear i6 o6 b6
        go_wp2_with fail
        rw [put_set O6.out]
        exact ⟨⟨i + 1, H64.out, congrArg (Value.int .i64) rfl, ⟨(put_other bI HNE.out.1).trans I6.out⟩, ⟨put_heap O6.out⟩, ⟨below_put B6.out HBI.out.2⟩⟩, meas64 i H64.out⟩
      · obtain rfl : i = 64 := by omega
        clear h64
        obtain ⟨x, hx⟩ : ∃ x, x = xorN 54 p 64 := ⟨_, rfl⟩
        obtain ⟨y, hy⟩ : ∃ y, y = xorN 92 p 64 := ⟨_, rfl⟩
        rw [← hx] at HI
        rw [← hy] at HO
        have LX := Aside0.mk (show x.length = 64 ∧ y.length = 64 by rw [hx, hy, len_xorN, len_xorN, LP.out]; exact ⟨rfl, rfl⟩)
        have HXY := Aside0.mk (And.intro hx hy)
        clear hx hy
        obtain ⟨s7, h7⟩ : ∃ s, s = x ++ l1 := ⟨_, rfl⟩
        obtain ⟨d8, h8⟩ : ∃ s, s = shaF s7 := ⟨_, rfl⟩
        obtain ⟨s9, h9⟩ : ∃ s, s = y ++ d8 := ⟨_, rfl⟩
        have S7 := Aside0.mk (And.intro h7 (show s7.length ≤ 90000064 by rw [h7, List.length_append]; have := HL.out.2; have := LX.out.1; omega))
        have S8 := Aside0.mk (And.intro h8 (show d8.length = 32 by rw [h8, len_shaF]))
        have S9 := Aside0.mk (And.intro h9 (show s9.length ≤ 96 by rw [h9, List.length_append, h8, len_shaF]; have := LX.out.2; omega))
        clear h7 h8 h9
        go_wp2_with ((with_reducible refine gate_builtin (b := .append) (xs := #[.tmp 38, .tmp 39]) rfl ?_); at_builtin; (refine Kd.R_append_row (w0 := w) (Value.int .u8) (0 : Int) (h1 := fun _ => rfl) w.heap.size rfl (.tmp 38) (.tmp 39) 22 5 (.int .u8 0) 1 rfl Try.underlying22 Pol.info_u8 rfl Nat.one_pos _ x l1 A1 l1.length c1 (fun _ => True) rfl rfl (fun _ _ => trivial) ?q1 ?q2 ?q3 ?q4 ?q5 ?_; (case q1 => exact is_R HI.out w.heap.size 64 HBI.out.1 LX.out.1 (by decide)); (case q2 => exact Kd.C_below C1.out.1 HB.out); (case q3 => exact HB.out); (case q4 => exact HB.out.size); (case q5 => have := HL.out.2; have := LX.out.1; omega); intro v7 w7 hR hB hg _; have o7 : Is w7 bO 5 .u8 y := (hg.block bO HO.out.lt (ne_own HNE.out.2)).trans HO.out; obtain ⟨A7, c7, rfl, hc7, hC7⟩ := Kd.R_reads (show (Kd.int .u8).R 5 w7 w.heap.size (fun _ => True) v7 s7 by rw [S7.out.1]; exact hR); have O7 := Aside0.mk o7; have C7 := Aside0.mk (And.intro hC7 hc7); have B7 := Aside0.mk hB; clear hR hB hg o7 hC7 hc7))
        refine (sum_calls A7 c7 s7 w7 C7.out.1 C7.out.2 (Nat.le_trans S7.out.2 (by decide))).mono ?_
        rintro e w8 ⟨v8, rfl, hR8, hB8⟩
        rw [← S8.out.1] at hR8
        obtain ⟨A8, c8, rfl, hc8, hC8⟩ := Kd.R_reads hR8
        have O8 := Aside0.mk (O7.out.below hB8)
        have C8 := Aside0.mk (And.intro hC8 hc8)
        have B8 := Aside0.mk (below_step B7.out hB8)
        clear hR8 hB8 hC8 hc8
        go_wp2_with ((with_reducible refine gate_builtin (b := .append) (xs := #[.tmp 37, .tmp 41]) rfl ?_); at_builtin; (refine Kd.R_append_row (w0 := w) (Value.int .u8) (0 : Int) (h1 := fun _ => rfl) w.heap.size rfl (.tmp 37) (.tmp 41) 22 5 (.int .u8 0) 1 rfl Try.underlying22 Pol.info_u8 rfl Nat.one_pos _ y d8 A8 d8.length c8 (fun _ => True) rfl rfl (fun _ _ => trivial) ?q1 ?q2 ?q3 ?q4 ?q5 ?_; (case q1 => exact is_R O8.out w.heap.size 64 HBI.out.2 LX.out.2 (by decide)); (case q2 => exact C8.out.1); (case q3 => exact B8.out); (case q4 => exact B8.out.size); (case q5 => have := S8.out.2; have := LX.out.2; omega); intro v9 w9 hR hB _ _; obtain ⟨A9, c9, rfl, hc9, hC9⟩ := Kd.R_reads (show (Kd.int .u8).R 5 w9 w.heap.size (fun _ => True) v9 s9 by rw [S9.out.1]; exact hR); have C9 := Aside0.mk (And.intro hC9 hc9); have B9 := Aside0.mk hB; clear hR hB hC9 hc9))
        refine (sum_calls A9 c9 s9 w9 C9.out.1 C9.out.2 (Nat.le_trans S9.out.2 (by decide))).mono ?_
        rintro e w10 ⟨v10, rfl, hR10, hB10⟩
        have R10 := Aside0.mk hR10
        have B10 := Aside0.mk hB10
        clear hR10 hB10
        go_wp2_with fail
        go_ret
        refine ⟨_, rfl, ?_, below_step B9.out B10.out⟩
        have h := R10.out
        rw [S9.out.1, S8.out.1, S7.out.1, HXY.out.1, HXY.out.2, HP.out] at h
        exact Kd.R_lower h B9.out.size
  · skip
    obtain ⟨bI, hbI⟩ : ∃ b, b = w.heap.size + 1 := ⟨_, rfl⟩
    obtain ⟨bO, hbO⟩ : ∃ b, b = w.heap.size := ⟨_, rfl⟩
    have i3 : Is w3 bI 5 .u8 z64 := by rw [hbI]; exact n2
    have o3 : Is w3 bO 5 .u8 z64 := by rw [hbO]; exact n1
    have b3 := n3
    clear hW n1 n2 n3
    rw [← hbI, ← hbO]
    have NE : bI ≠ bO := by omega
    have NE2 : bO ≠ bI := by omega
    have I3 := Aside0.mk i3
    have O3 := Aside0.mk o3
    have B3 := Aside0.mk b3
    have HBI := Aside0.mk (show w.heap.size ≤ bI ∧ w.heap.size ≤ bO by omega)
    have HNE := Aside0.mk (And.intro NE NE2)
    clear NE NE2 i3 o3 b3 hbI hbO hmk
    go_wp2_with (first | ((with_reducible refine gate_builtin (b := .copy) (xs := #[.tmp 15, .tmp 16]) rfl ?_); refine copy_is (b := bI) (n := 64) rfl (.tmp 15) (.tmp 16) 22 22 5 rfl Try.underlying22 info_sz .u8 z64 l0 A0 l0.length c0 rfl rfl rfl I3.out (Kd.C_below C0.out.1 B3.out) HL.out.1 ?_; have i4 := put_heap (ys := padF l0) I3.out; have o4 := (put_other (k := .u8) (ys := padF l0) bO HNE.out.2).trans O3.out; have b4 := below_put (k := .u8) (ys := padF l0) B3.out HBI.out.1; change wpList _ _ _ _ _ (put w3 bI .u8 (padF l0)); generalize put w3 bI .u8 (padF l0) = w4 at i4 o4 b4 ⊢; have I4 := Aside0.mk i4; have O4 := Aside0.mk (show Is w4 bO 5 .u8 z64 from o4); have B4 := Aside0.mk b4; clear i4 o4 b4) | ((with_reducible refine gate_builtin (b := .copy) (xs := #[.tmp 18, .tmp 19]) rfl ?_); refine copy_is (b := bO) (n := 64) rfl (.tmp 18) (.tmp 19) 22 22 5 rfl Try.underlying22 info_sz .u8 z64 l0 A0 l0.length c0 rfl rfl rfl O4.out (Kd.C_below C0.out.1 B4.out) HL.out.1 ?_; have o5 := put_heap (ys := padF l0) O4.out; have i5 := (put_other (k := .u8) (ys := padF l0) bI HNE.out.1).trans I4.out; have b5 := below_put (k := .u8) (ys := padF l0) B4.out HBI.out.2; change wpList _ _ _ _ _ (put w4 bO .u8 (padF l0)); generalize put w4 bO .u8 (padF l0) = w5 at i5 o5 b5 ⊢; have I5 := Aside0.mk (show Is w5 bI 5 .u8 (padF l0) from i5); have O5 := Aside0.mk o5; have B5 := Aside0.mk b5; clear i5 o5 b5))
    obtain ⟨p, hp⟩ : ∃ p, p = padF l0 := ⟨_, rfl⟩
    rw [← hp] at I5 O5
    have LP := Aside0.mk (show p.length = 64 by rw [hp]; exact len_padF l0 HL.out.1)
    have HP := Aside0.mk hp
    clear hp
    go_loopw [21] (fun v w' => ∃ i : Nat, i ≤ 64 ∧ v = .int .i64 i ∧ Aside0 (Is w' bI 5 .u8 (xorN 54 p i)) ∧ Aside0 (Is w' bO 5 .u8 (xorN 92 p i)) ∧ Aside0 (Below w.heap.size w w')) (fun v _ => 64 - (intOf v).toNat)
    case atStart => exact ⟨0, by omega, rfl, I5, O5, B5⟩
    case round =>
      obtain ⟨i, hi, rfl, HI, HO, HB⟩ := hrel
      by_cases h64 : i < 64
      · have q64 : (i : Int) < 64 := by omega
        have k1 := HI.out.cell i (by rw [len_xorN, LP.out]; exact h64)
        have f1 := HI.out.free i
        have H64 := Aside0.mk h64
        clear h64
        go_upto_region 10 with (fail)
        change Code.wp _ _ _ _ (wr.setCell ⟨bI, i, none⟩ (.int .u8 (Go.bits .xor .u8 (rd (xorN 54 p i) (i : Int)) 54)))
        rw [put_set HI.out]
        have i6 : Is (put wr bI .u8 (xorN 54 p (i + 1))) bI 5 .u8 (xorN 54 p (i + 1)) := put_heap HI.out
        have o6 : Is (put wr bI .u8 (xorN 54 p (i + 1))) bO 5 .u8 (xorN 92 p i) := (put_other bO HNE.out.2).trans HO.out
        have b6 : Below w.heap.size w (put wr bI .u8 (xorN 54 p (i + 1))) := below_put HB.out HBI.out.1
        change Code.wp _ _ _ _ (put wr bI .u8 (xorN 54 p (i + 1)))
        clear k1 f1
        generalize put wr bI .u8 (xorN 54 p (i + 1)) = w6 at i6 o6 b6 ⊢
        have k2 := o6.cell i (by rw [len_xorN, LP.out]; exact H64.out)
        have f2 := o6.free i
        have I6 := Aside0.mk i6
        have O6 := Aside0.mk o6
        have B6 := Aside0.mk b6
        clear i6 o6 b6
        go_wp2_with fail
        rw [put_set O6.out]
        exact ⟨⟨i + 1, H64.out, congrArg (Value.int .i64) rfl, ⟨(put_other bI HNE.out.1).trans I6.out⟩, ⟨put_heap O6.out⟩, ⟨below_put B6.out HBI.out.2⟩⟩, meas64 i H64.out⟩
      · obtain rfl : i = 64 := by omega
        clear h64
        obtain ⟨x, hx⟩ : ∃ x, x = xorN 54 p 64 := ⟨_, rfl⟩
        obtain ⟨y, hy⟩ : ∃ y, y = xorN 92 p 64 := ⟨_, rfl⟩
        rw [← hx] at HI
        rw [← hy] at HO
        have LX := Aside0.mk (show x.length = 64 ∧ y.length = 64 by rw [hx, hy, len_xorN, len_xorN, LP.out]; exact ⟨rfl, rfl⟩)
        have HXY := Aside0.mk (And.intro hx hy)
        clear hx hy
        obtain ⟨s7, h7⟩ : ∃ s, s = x ++ l1 := ⟨_, rfl⟩
        obtain ⟨d8, h8⟩ : ∃ s, s = shaF s7 := ⟨_, rfl⟩
        obtain ⟨s9, h9⟩ : ∃ s, s = y ++ d8 := ⟨_, rfl⟩
        have S7 := Aside0.mk (And.intro h7 (show s7.length ≤ 90000064 by rw [h7, List.length_append]; have := HL.out.2; have := LX.out.1; omega))
        have S8 := Aside0.mk (And.intro h8 (show d8.length = 32 by rw [h8, len_shaF]))
        have S9 := Aside0.mk (And.intro h9 (show s9.length ≤ 96 by rw [h9, List.length_append, h8, len_shaF]; have := LX.out.2; omega))
        clear h7 h8 h9
        go_wp2_with ((with_reducible refine gate_builtin (b := .append) (xs := #[.tmp 38, .tmp 39]) rfl ?_); at_builtin; (refine Kd.R_append_row (w0 := w) (Value.int .u8) (0 : Int) (h1 := fun _ => rfl) w.heap.size rfl (.tmp 38) (.tmp 39) 22 5 (.int .u8 0) 1 rfl Try.underlying22 Pol.info_u8 rfl Nat.one_pos _ x l1 A1 l1.length c1 (fun _ => True) rfl rfl (fun _ _ => trivial) ?q1 ?q2 ?q3 ?q4 ?q5 ?_; (case q1 => exact is_R HI.out w.heap.size 64 HBI.out.1 LX.out.1 (by decide)); (case q2 => exact Kd.C_below C1.out.1 HB.out); (case q3 => exact HB.out); (case q4 => exact HB.out.size); (case q5 => have := HL.out.2; have := LX.out.1; omega); intro v7 w7 hR hB hg _; have o7 : Is w7 bO 5 .u8 y := (hg.block bO HO.out.lt (ne_own HNE.out.2)).trans HO.out; obtain ⟨A7, c7, rfl, hc7, hC7⟩ := Kd.R_reads (show (Kd.int .u8).R 5 w7 w.heap.size (fun _ => True) v7 s7 by rw [S7.out.1]; exact hR); have O7 := Aside0.mk o7; have C7 := Aside0.mk (And.intro hC7 hc7); have B7 := Aside0.mk hB; clear hR hB hg o7 hC7 hc7))
        refine (sum_calls A7 c7 s7 w7 C7.out.1 C7.out.2 (Nat.le_trans S7.out.2 (by decide))).mono ?_
        rintro e w8 ⟨v8, rfl, hR8, hB8⟩
        rw [← S8.out.1] at hR8
        obtain ⟨A8, c8, rfl, hc8, hC8⟩ := Kd.R_reads hR8
        have O8 := Aside0.mk (O7.out.below hB8)
        have C8 := Aside0.mk (And.intro hC8 hc8)
        have B8 := Aside0.mk (below_step B7.out hB8)
        clear hR8 hB8 hC8 hc8
        go_wp2_with ((with_reducible refine gate_builtin (b := .append) (xs := #[.tmp 37, .tmp 41]) rfl ?_); at_builtin; (refine Kd.R_append_row (w0 := w) (Value.int .u8) (0 : Int) (h1 := fun _ => rfl) w.heap.size rfl (.tmp 37) (.tmp 41) 22 5 (.int .u8 0) 1 rfl Try.underlying22 Pol.info_u8 rfl Nat.one_pos _ y d8 A8 d8.length c8 (fun _ => True) rfl rfl (fun _ _ => trivial) ?q1 ?q2 ?q3 ?q4 ?q5 ?_; (case q1 => exact is_R O8.out w.heap.size 64 HBI.out.2 LX.out.2 (by decide)); (case q2 => exact C8.out.1); (case q3 => exact B8.out); (case q4 => exact B8.out.size); (case q5 => have := S8.out.2; have := LX.out.2; omega); intro v9 w9 hR hB _ _; obtain ⟨A9, c9, rfl, hc9, hC9⟩ := Kd.R_reads (show (Kd.int .u8).R 5 w9 w.heap.size (fun _ => True) v9 s9 by rw [S9.out.1]; exact hR); have C9 := Aside0.mk (And.intro hC9 hc9); have B9 := Aside0.mk hB; clear hR hB hC9 hc9))
        refine (sum_calls A9 c9 s9 w9 C9.out.1 C9.out.2 (Nat.le_trans S9.out.2 (by decide))).mono ?_
        rintro e w10 ⟨v10, rfl, hR10, hB10⟩
        have R10 := Aside0.mk hR10
        have B10 := Aside0.mk hB10
        clear hR10 hB10
        go_wp2_with fail
        go_ret
        refine ⟨_, rfl, ?_, below_step B9.out B10.out⟩
        have h := R10.out
        rw [S9.out.1, S8.out.1, S7.out.1, HXY.out.1, HXY.out.2, HP.out] at h
        exact Kd.R_lower h B9.out.size
set_option maxHeartbeats 8000000 in
set_option maxRecDepth 100000 in
theorem mac_long (A0 : Option Addr) (c0 : Nat) (l0 : List Int) (A1 : Option Addr) (c1 : Nat) (l1 : List Int) (w : World) (hr0 : (Kd.int .u8).C w A0 l0.length l0) (hc0 : l0.length ≤ c0) (hr1 : (Kd.int .u8).C w A1 l1.length l1) (hc1 : l1.length ≤ c1) (hl0 : 64 < l0.length) (hl2 : l0.length ≤ 100000000) (hl1 : l1.length ≤ 90000000) :
    Calls Try.prog 14 #[.slice A0 l0.length c0, .slice A1 l1.length c1] w fun e w' => ∃ v, e = .returned v ∧ (Kd.int .u8).R 5 w' w.heap.size (fun _ => True) v (macS (shaF l0) l1) ∧ Below w.heap.size w w' := by
  have C0 := Aside0.mk (And.intro hr0 hc0)
  have C1 := Aside0.mk (And.intro hr1 hc1)
  have d0 : decide (64 < l0.length) = true := decide_eq_true hl0
  have d1 : 64 < (l0.length : Int) := by omega
  have d2 : 64 < l0.length := hl0
  have HL := Aside0.mk (And.intro hl2 hl1)
  clear hr0 hc0 hr1 hc1 hl0 hl1 hl2
  go_enter Try.func14, Try.ntmps14
  go_wp2_with fail
  refine (sum_calls A0 c0 l0 w C0.out.1 C0.out.2 HL.out.1).mono ?_
  rintro e wk ⟨vk, rfl, hRk, hBk⟩
  obtain ⟨k0, hk⟩ : ∃ k, k = shaF l0 := ⟨_, rfl⟩
  rw [← hk] at hRk
  obtain ⟨AK, cK, rfl, hcK, hCK⟩ := Kd.R_reads hRk
  have HK := Aside0.mk (And.intro hk (show k0.length ≤ 64 by rw [hk, len_shaF]; decide))
  have CK := Aside0.mk (And.intro hCK hcK)
  have CL := Aside0.mk (And.intro (Kd.C_below C1.out.1 hBk) C1.out.2)
  have BK := Aside0.mk hBk
  clear hRk hBk hk hCK hcK C0 C1 d0 d1 d2
  go_wp2_with fail
  have e64 : madeCells #[.int .u8 0] 64 = (nums .u8 z64).toArray := by kernel_rfl
  have hmk : ∀ W : World, (Instr.makeSlice 22 (.int .i64 64) (.int .i64 64)).run Try.prog W = .ok (.slice (some ⟨W.heap.size, 0, none⟩) 64 64) (W.alloc (.cells (nums .u8 z64).toArray 5)) := by
    intro W
    have h := run_make_row' (P := Try.prog) 22 5 (.int .u8 0) 1 Try.underlying22 Pol.info_u8 rfl .i64 .i64 64 (by decide) (by decide) W
    rw [e64] at h
    exact h
  clear e64
  have n1 : Is ((wk.alloc (.cells (nums .u8 z64).toArray 5)).alloc (.cells (nums .u8 z64).toArray 5)).drew wk.heap.size 5 .u8 z64 := ((new_is wk 5 .u8 z64).below ((Below.refl _ _).alloc (Nat.le_refl _) _)).drew
  have n2 : Is ((wk.alloc (.cells (nums .u8 z64).toArray 5)).alloc (.cells (nums .u8 z64).toArray 5)).drew (wk.heap.size + 1) 5 .u8 z64 := by
    have h := (new_is (wk.alloc (.cells (nums .u8 z64).toArray 5)) 5 .u8 z64).drew
    rw [World.size_alloc] at h
    exact h
  have n3 : Below wk.heap.size wk ((wk.alloc (.cells (nums .u8 z64).toArray 5)).alloc (.cells (nums .u8 z64).toArray 5)).drew := pw_below_drewN (((Below.refl _ _).alloc (Nat.le_refl _) _).alloc (by rw [World.size_alloc]; omega) _) 1
  generalize hW : ((wk.alloc (.cells (nums .u8 z64).toArray 5)).alloc (.cells (nums .u8 z64).toArray 5)).drew = w3 at n1 n2 n3
  go_region
  · skip
    obtain ⟨bI, hbI⟩ : ∃ b, b = wk.heap.size := ⟨_, rfl⟩
    obtain ⟨bO, hbO⟩ : ∃ b, b = wk.heap.size + 1 := ⟨_, rfl⟩
    have i3 : Is w3 bI 5 .u8 z64 := by rw [hbI]; exact n1
    have o3 : Is w3 bO 5 .u8 z64 := by rw [hbO]; exact n2
    have b3 := n3
    clear hW n1 n2 n3
    rw [← hbO, ← hbI]
    have NE : bI ≠ bO := by omega
    have NE2 : bO ≠ bI := by omega
    have I3 := Aside0.mk i3
    have O3 := Aside0.mk o3
    have B3 := Aside0.mk b3
    have HBI := Aside0.mk (show wk.heap.size ≤ bI ∧ wk.heap.size ≤ bO by omega)
    have HNE := Aside0.mk (And.intro NE NE2)
    clear NE NE2 i3 o3 b3 hbI hbO hmk
    go_wp2_with (first | ((with_reducible refine gate_builtin (b := .copy) (xs := #[.tmp 15, .tmp 16]) rfl ?_); refine copy_is (b := bI) (n := 64) rfl (.tmp 15) (.tmp 16) 22 22 5 rfl Try.underlying22 info_sz .u8 z64 k0 AK k0.length cK rfl rfl rfl I3.out (Kd.C_below CK.out.1 B3.out) HK.out.2 ?_; have i4 := put_heap (ys := padF k0) I3.out; have o4 := (put_other (k := .u8) (ys := padF k0) bO HNE.out.2).trans O3.out; have b4 := below_put (k := .u8) (ys := padF k0) B3.out HBI.out.1; change wpList _ _ _ _ _ (put w3 bI .u8 (padF k0)); generalize put w3 bI .u8 (padF k0) = w4 at i4 o4 b4 ⊢; have I4 := Aside0.mk i4; have O4 := Aside0.mk (show Is w4 bO 5 .u8 z64 from o4); have B4 := Aside0.mk b4; clear i4 o4 b4) | ((with_reducible refine gate_builtin (b := .copy) (xs := #[.tmp 18, .tmp 19]) rfl ?_); refine copy_is (b := bO) (n := 64) rfl (.tmp 18) (.tmp 19) 22 22 5 rfl Try.underlying22 info_sz .u8 z64 k0 AK k0.length cK rfl rfl rfl O4.out (Kd.C_below CK.out.1 B4.out) HK.out.2 ?_; have o5 := put_heap (ys := padF k0) O4.out; have i5 := (put_other (k := .u8) (ys := padF k0) bI HNE.out.1).trans I4.out; have b5 := below_put (k := .u8) (ys := padF k0) B4.out HBI.out.2; change wpList _ _ _ _ _ (put w4 bO .u8 (padF k0)); generalize put w4 bO .u8 (padF k0) = w5 at i5 o5 b5 ⊢; have I5 := Aside0.mk (show Is w5 bI 5 .u8 (padF k0) from i5); have O5 := Aside0.mk o5; have B5 := Aside0.mk b5; clear i5 o5 b5))
    obtain ⟨p, hp⟩ : ∃ p, p = padF k0 := ⟨_, rfl⟩
    rw [← hp] at I5 O5
    have LP := Aside0.mk (show p.length = 64 by rw [hp]; exact len_padF k0 HK.out.2)
    have HP := Aside0.mk hp
    clear hp
    go_loopw [21] (fun v wk' => ∃ i : Nat, i ≤ 64 ∧ v = .int .i64 i ∧ Aside0 (Is wk' bI 5 .u8 (xorN 54 p i)) ∧ Aside0 (Is wk' bO 5 .u8 (xorN 92 p i)) ∧ Aside0 (Below wk.heap.size wk wk')) (fun v _ => 64 - (intOf v).toNat)
    case atStart => exact ⟨0, by omega, rfl, I5, O5, B5⟩
    case round =>
      obtain ⟨i, hi, rfl, HI, HO, HB⟩ := hrel
      by_cases h64 : i < 64
      · have q64 : (i : Int) < 64 := by omega
        have k1 := HI.out.cell i (by rw [len_xorN, LP.out]; exact h64)
        have f1 := HI.out.free i
        have H64 := Aside0.mk h64
        clear h64
        go_upto_region 10 with (fail)
        change Code.wp _ _ _ _ (wr.setCell ⟨bI, i, none⟩ (.int .u8 (Go.bits .xor .u8 (rd (xorN 54 p i) (i : Int)) 54)))
        rw [put_set HI.out]
        have i6 : Is (put wr bI .u8 (xorN 54 p (i + 1))) bI 5 .u8 (xorN 54 p (i + 1)) := put_heap HI.out
        have o6 : Is (put wr bI .u8 (xorN 54 p (i + 1))) bO 5 .u8 (xorN 92 p i) := (put_other bO HNE.out.2).trans HO.out
        have b6 : Below wk.heap.size wk (put wr bI .u8 (xorN 54 p (i + 1))) := below_put HB.out HBI.out.1
        change Code.wp _ _ _ _ (put wr bI .u8 (xorN 54 p (i + 1)))
        clear k1 f1
        generalize put wr bI .u8 (xorN 54 p (i + 1)) = w6 at i6 o6 b6 ⊢
        have k2 := o6.cell i (by rw [len_xorN, LP.out]; exact H64.out)
        have f2 := o6.free i
        have I6 := Aside0.mk i6
        have O6 := Aside0.mk o6
        have B6 := Aside0.mk b6
        clear i6 o6 b6
        go_wp2_with fail
        rw [put_set O6.out]
        exact ⟨⟨i + 1, H64.out, congrArg (Value.int .i64) rfl, ⟨(put_other bI HNE.out.1).trans I6.out⟩, ⟨put_heap O6.out⟩, ⟨below_put B6.out HBI.out.2⟩⟩, meas64 i H64.out⟩
      · obtain rfl : i = 64 := by omega
        clear h64
        obtain ⟨x, hx⟩ : ∃ x, x = xorN 54 p 64 := ⟨_, rfl⟩
        obtain ⟨y, hy⟩ : ∃ y, y = xorN 92 p 64 := ⟨_, rfl⟩
        rw [← hx] at HI
        rw [← hy] at HO
        have LX := Aside0.mk (show x.length = 64 ∧ y.length = 64 by rw [hx, hy, len_xorN, len_xorN, LP.out]; exact ⟨rfl, rfl⟩)
        have HXY := Aside0.mk (And.intro hx hy)
        clear hx hy
        obtain ⟨s7, h7⟩ : ∃ s, s = x ++ l1 := ⟨_, rfl⟩
        obtain ⟨d8, h8⟩ : ∃ s, s = shaF s7 := ⟨_, rfl⟩
        obtain ⟨s9, h9⟩ : ∃ s, s = y ++ d8 := ⟨_, rfl⟩
        have S7 := Aside0.mk (And.intro h7 (show s7.length ≤ 90000064 by rw [h7, List.length_append]; have := HL.out.2; have := LX.out.1; omega))
        have S8 := Aside0.mk (And.intro h8 (show d8.length = 32 by rw [h8, len_shaF]))
        have S9 := Aside0.mk (And.intro h9 (show s9.length ≤ 96 by rw [h9, List.length_append, h8, len_shaF]; have := LX.out.2; omega))
        clear h7 h8 h9
        go_wp2_with ((with_reducible refine gate_builtin (b := .append) (xs := #[.tmp 38, .tmp 39]) rfl ?_); at_builtin; (refine Kd.R_append_row (w0 := wk) (Value.int .u8) (0 : Int) (h1 := fun _ => rfl) wk.heap.size rfl (.tmp 38) (.tmp 39) 22 5 (.int .u8 0) 1 rfl Try.underlying22 Pol.info_u8 rfl Nat.one_pos _ x l1 A1 l1.length c1 (fun _ => True) rfl rfl (fun _ _ => trivial) ?q1 ?q2 ?q3 ?q4 ?q5 ?_; (case q1 => exact is_R HI.out wk.heap.size 64 HBI.out.1 LX.out.1 (by decide)); (case q2 => exact Kd.C_below CL.out.1 HB.out); (case q3 => exact HB.out); (case q4 => exact HB.out.size); (case q5 => have := HL.out.2; have := LX.out.1; omega); intro v7 w7 hR hB hg _; have o7 : Is w7 bO 5 .u8 y := (hg.block bO HO.out.lt (ne_own HNE.out.2)).trans HO.out; obtain ⟨A7, c7, rfl, hc7, hC7⟩ := Kd.R_reads (show (Kd.int .u8).R 5 w7 wk.heap.size (fun _ => True) v7 s7 by rw [S7.out.1]; exact hR); have O7 := Aside0.mk o7; have C7 := Aside0.mk (And.intro hC7 hc7); have B7 := Aside0.mk hB; clear hR hB hg o7 hC7 hc7))
        refine (sum_calls A7 c7 s7 w7 C7.out.1 C7.out.2 (Nat.le_trans S7.out.2 (by decide))).mono ?_
        rintro e w8 ⟨v8, rfl, hR8, hB8⟩
        rw [← S8.out.1] at hR8
        obtain ⟨A8, c8, rfl, hc8, hC8⟩ := Kd.R_reads hR8
        have O8 := Aside0.mk (O7.out.below hB8)
        have C8 := Aside0.mk (And.intro hC8 hc8)
        have B8 := Aside0.mk (below_step B7.out hB8)
        clear hR8 hB8 hC8 hc8
        go_wp2_with ((with_reducible refine gate_builtin (b := .append) (xs := #[.tmp 37, .tmp 41]) rfl ?_); at_builtin; (refine Kd.R_append_row (w0 := wk) (Value.int .u8) (0 : Int) (h1 := fun _ => rfl) wk.heap.size rfl (.tmp 37) (.tmp 41) 22 5 (.int .u8 0) 1 rfl Try.underlying22 Pol.info_u8 rfl Nat.one_pos _ y d8 A8 d8.length c8 (fun _ => True) rfl rfl (fun _ _ => trivial) ?q1 ?q2 ?q3 ?q4 ?q5 ?_; (case q1 => exact is_R O8.out wk.heap.size 64 HBI.out.2 LX.out.2 (by decide)); (case q2 => exact C8.out.1); (case q3 => exact B8.out); (case q4 => exact B8.out.size); (case q5 => have := S8.out.2; have := LX.out.2; omega); intro v9 w9 hR hB _ _; obtain ⟨A9, c9, rfl, hc9, hC9⟩ := Kd.R_reads (show (Kd.int .u8).R 5 w9 wk.heap.size (fun _ => True) v9 s9 by rw [S9.out.1]; exact hR); have C9 := Aside0.mk (And.intro hC9 hc9); have B9 := Aside0.mk hB; clear hR hB hC9 hc9))
        refine (sum_calls A9 c9 s9 w9 C9.out.1 C9.out.2 (Nat.le_trans S9.out.2 (by decide))).mono ?_
        rintro e w10 ⟨v10, rfl, hR10, hB10⟩
        have R10 := Aside0.mk hR10
        have B10 := Aside0.mk hB10
        clear hR10 hB10
        go_wp2_with fail
        go_ret
        refine ⟨_, rfl, ?_, below_step BK.out (below_step B9.out B10.out)⟩
        have h := R10.out
        rw [S9.out.1, S8.out.1, S7.out.1, HXY.out.1, HXY.out.2, HP.out, HK.out.1] at h
        exact Kd.R_lower h (Nat.le_trans BK.out.size B9.out.size)
  · skip
    obtain ⟨bI, hbI⟩ : ∃ b, b = wk.heap.size + 1 := ⟨_, rfl⟩
    obtain ⟨bO, hbO⟩ : ∃ b, b = wk.heap.size := ⟨_, rfl⟩
    have i3 : Is w3 bI 5 .u8 z64 := by rw [hbI]; exact n2
    have o3 : Is w3 bO 5 .u8 z64 := by rw [hbO]; exact n1
    have b3 := n3
    clear hW n1 n2 n3
    rw [← hbI, ← hbO]
    have NE : bI ≠ bO := by omega
    have NE2 : bO ≠ bI := by omega
    have I3 := Aside0.mk i3
    have O3 := Aside0.mk o3
    have B3 := Aside0.mk b3
    have HBI := Aside0.mk (show wk.heap.size ≤ bI ∧ wk.heap.size ≤ bO by omega)
    have HNE := Aside0.mk (And.intro NE NE2)
    clear NE NE2 i3 o3 b3 hbI hbO hmk
    go_wp2_with (first | ((with_reducible refine gate_builtin (b := .copy) (xs := #[.tmp 15, .tmp 16]) rfl ?_); refine copy_is (b := bI) (n := 64) rfl (.tmp 15) (.tmp 16) 22 22 5 rfl Try.underlying22 info_sz .u8 z64 k0 AK k0.length cK rfl rfl rfl I3.out (Kd.C_below CK.out.1 B3.out) HK.out.2 ?_; have i4 := put_heap (ys := padF k0) I3.out; have o4 := (put_other (k := .u8) (ys := padF k0) bO HNE.out.2).trans O3.out; have b4 := below_put (k := .u8) (ys := padF k0) B3.out HBI.out.1; change wpList _ _ _ _ _ (put w3 bI .u8 (padF k0)); generalize put w3 bI .u8 (padF k0) = w4 at i4 o4 b4 ⊢; have I4 := Aside0.mk i4; have O4 := Aside0.mk (show Is w4 bO 5 .u8 z64 from o4); have B4 := Aside0.mk b4; clear i4 o4 b4) | ((with_reducible refine gate_builtin (b := .copy) (xs := #[.tmp 18, .tmp 19]) rfl ?_); refine copy_is (b := bO) (n := 64) rfl (.tmp 18) (.tmp 19) 22 22 5 rfl Try.underlying22 info_sz .u8 z64 k0 AK k0.length cK rfl rfl rfl O4.out (Kd.C_below CK.out.1 B4.out) HK.out.2 ?_; have o5 := put_heap (ys := padF k0) O4.out; have i5 := (put_other (k := .u8) (ys := padF k0) bI HNE.out.1).trans I4.out; have b5 := below_put (k := .u8) (ys := padF k0) B4.out HBI.out.2; change wpList _ _ _ _ _ (put w4 bO .u8 (padF k0)); generalize put w4 bO .u8 (padF k0) = w5 at i5 o5 b5 ⊢; have I5 := Aside0.mk (show Is w5 bI 5 .u8 (padF k0) from i5); have O5 := Aside0.mk o5; have B5 := Aside0.mk b5; clear i5 o5 b5))
    obtain ⟨p, hp⟩ : ∃ p, p = padF k0 := ⟨_, rfl⟩
    rw [← hp] at I5 O5
    have LP := Aside0.mk (show p.length = 64 by rw [hp]; exact len_padF k0 HK.out.2)
    have HP := Aside0.mk hp
    clear hp
    go_loopw [21] (fun v wk' => ∃ i : Nat, i ≤ 64 ∧ v = .int .i64 i ∧ Aside0 (Is wk' bI 5 .u8 (xorN 54 p i)) ∧ Aside0 (Is wk' bO 5 .u8 (xorN 92 p i)) ∧ Aside0 (Below wk.heap.size wk wk')) (fun v _ => 64 - (intOf v).toNat)
    case atStart => exact ⟨0, by omega, rfl, I5, O5, B5⟩
    case round =>
      obtain ⟨i, hi, rfl, HI, HO, HB⟩ := hrel
      by_cases h64 : i < 64
      · have q64 : (i : Int) < 64 := by omega
        have k1 := HI.out.cell i (by rw [len_xorN, LP.out]; exact h64)
        have f1 := HI.out.free i
        have H64 := Aside0.mk h64
        clear h64
        go_upto_region 10 with (fail)
        change Code.wp _ _ _ _ (wr.setCell ⟨bI, i, none⟩ (.int .u8 (Go.bits .xor .u8 (rd (xorN 54 p i) (i : Int)) 54)))
        rw [put_set HI.out]
        have i6 : Is (put wr bI .u8 (xorN 54 p (i + 1))) bI 5 .u8 (xorN 54 p (i + 1)) := put_heap HI.out
        have o6 : Is (put wr bI .u8 (xorN 54 p (i + 1))) bO 5 .u8 (xorN 92 p i) := (put_other bO HNE.out.2).trans HO.out
        have b6 : Below wk.heap.size wk (put wr bI .u8 (xorN 54 p (i + 1))) := below_put HB.out HBI.out.1
        change Code.wp _ _ _ _ (put wr bI .u8 (xorN 54 p (i + 1)))
        clear k1 f1
        generalize put wr bI .u8 (xorN 54 p (i + 1)) = w6 at i6 o6 b6 ⊢
        have k2 := o6.cell i (by rw [len_xorN, LP.out]; exact H64.out)
        have f2 := o6.free i
        have I6 := Aside0.mk i6
        have O6 := Aside0.mk o6
        have B6 := Aside0.mk b6
        clear i6 o6 b6
        go_wp2_with fail
        rw [put_set O6.out]
        exact ⟨⟨i + 1, H64.out, congrArg (Value.int .i64) rfl, ⟨(put_other bI HNE.out.1).trans I6.out⟩, ⟨put_heap O6.out⟩, ⟨below_put B6.out HBI.out.2⟩⟩, meas64 i H64.out⟩
      · obtain rfl : i = 64 := by omega
        clear h64
        obtain ⟨x, hx⟩ : ∃ x, x = xorN 54 p 64 := ⟨_, rfl⟩
        obtain ⟨y, hy⟩ : ∃ y, y = xorN 92 p 64 := ⟨_, rfl⟩
        rw [← hx] at HI
        rw [← hy] at HO
        have LX := Aside0.mk (show x.length = 64 ∧ y.length = 64 by rw [hx, hy, len_xorN, len_xorN, LP.out]; exact ⟨rfl, rfl⟩)
        have HXY := Aside0.mk (And.intro hx hy)
        clear hx hy
        obtain ⟨s7, h7⟩ : ∃ s, s = x ++ l1 := ⟨_, rfl⟩
        obtain ⟨d8, h8⟩ : ∃ s, s = shaF s7 := ⟨_, rfl⟩
        obtain ⟨s9, h9⟩ : ∃ s, s = y ++ d8 := ⟨_, rfl⟩
        have S7 := Aside0.mk (And.intro h7 (show s7.length ≤ 90000064 by rw [h7, List.length_append]; have := HL.out.2; have := LX.out.1; omega))
        have S8 := Aside0.mk (And.intro h8 (show d8.length = 32 by rw [h8, len_shaF]))
        have S9 := Aside0.mk (And.intro h9 (show s9.length ≤ 96 by rw [h9, List.length_append, h8, len_shaF]; have := LX.out.2; omega))
        clear h7 h8 h9
        go_wp2_with ((with_reducible refine gate_builtin (b := .append) (xs := #[.tmp 38, .tmp 39]) rfl ?_); at_builtin; (refine Kd.R_append_row (w0 := wk) (Value.int .u8) (0 : Int) (h1 := fun _ => rfl) wk.heap.size rfl (.tmp 38) (.tmp 39) 22 5 (.int .u8 0) 1 rfl Try.underlying22 Pol.info_u8 rfl Nat.one_pos _ x l1 A1 l1.length c1 (fun _ => True) rfl rfl (fun _ _ => trivial) ?q1 ?q2 ?q3 ?q4 ?q5 ?_; (case q1 => exact is_R HI.out wk.heap.size 64 HBI.out.1 LX.out.1 (by decide)); (case q2 => exact Kd.C_below CL.out.1 HB.out); (case q3 => exact HB.out); (case q4 => exact HB.out.size); (case q5 => have := HL.out.2; have := LX.out.1; omega); intro v7 w7 hR hB hg _; have o7 : Is w7 bO 5 .u8 y := (hg.block bO HO.out.lt (ne_own HNE.out.2)).trans HO.out; obtain ⟨A7, c7, rfl, hc7, hC7⟩ := Kd.R_reads (show (Kd.int .u8).R 5 w7 wk.heap.size (fun _ => True) v7 s7 by rw [S7.out.1]; exact hR); have O7 := Aside0.mk o7; have C7 := Aside0.mk (And.intro hC7 hc7); have B7 := Aside0.mk hB; clear hR hB hg o7 hC7 hc7))
        refine (sum_calls A7 c7 s7 w7 C7.out.1 C7.out.2 (Nat.le_trans S7.out.2 (by decide))).mono ?_
        rintro e w8 ⟨v8, rfl, hR8, hB8⟩
        rw [← S8.out.1] at hR8
        obtain ⟨A8, c8, rfl, hc8, hC8⟩ := Kd.R_reads hR8
        have O8 := Aside0.mk (O7.out.below hB8)
        have C8 := Aside0.mk (And.intro hC8 hc8)
        have B8 := Aside0.mk (below_step B7.out hB8)
        clear hR8 hB8 hC8 hc8
        go_wp2_with ((with_reducible refine gate_builtin (b := .append) (xs := #[.tmp 37, .tmp 41]) rfl ?_); at_builtin; (refine Kd.R_append_row (w0 := wk) (Value.int .u8) (0 : Int) (h1 := fun _ => rfl) wk.heap.size rfl (.tmp 37) (.tmp 41) 22 5 (.int .u8 0) 1 rfl Try.underlying22 Pol.info_u8 rfl Nat.one_pos _ y d8 A8 d8.length c8 (fun _ => True) rfl rfl (fun _ _ => trivial) ?q1 ?q2 ?q3 ?q4 ?q5 ?_; (case q1 => exact is_R O8.out wk.heap.size 64 HBI.out.2 LX.out.2 (by decide)); (case q2 => exact C8.out.1); (case q3 => exact B8.out); (case q4 => exact B8.out.size); (case q5 => have := S8.out.2; have := LX.out.2; omega); intro v9 w9 hR hB _ _; obtain ⟨A9, c9, rfl, hc9, hC9⟩ := Kd.R_reads (show (Kd.int .u8).R 5 w9 wk.heap.size (fun _ => True) v9 s9 by rw [S9.out.1]; exact hR); have C9 := Aside0.mk (And.intro hC9 hc9); have B9 := Aside0.mk hB; clear hR hB hC9 hc9))
        refine (sum_calls A9 c9 s9 w9 C9.out.1 C9.out.2 (Nat.le_trans S9.out.2 (by decide))).mono ?_
        rintro e w10 ⟨v10, rfl, hR10, hB10⟩
        have R10 := Aside0.mk hR10
        have B10 := Aside0.mk hB10
        clear hR10 hB10
        go_wp2_with fail
        go_ret
        refine ⟨_, rfl, ?_, below_step BK.out (below_step B9.out B10.out)⟩
        have h := R10.out
        rw [S9.out.1, S8.out.1, S7.out.1, HXY.out.1, HXY.out.2, HP.out, HK.out.1] at h
        exact Kd.R_lower h (Nat.le_trans BK.out.size B9.out.size)
/-- The answer. -/
def macF (l0 l1 : List Int) : List Int := if l0.length ≤ 64 then macS l0 l1 else macS (shaF l0) l1
theorem len_macF (l0 l1 : List Int) : (macF l0 l1).length = 32 := by unfold macF; split <;> exact len_shaF _
end Go.Proofs.Ythahhjkokdillaa.Sha
namespace Go.Proofs.Ythahhjkokdillaa
open Go.RowKit Go.Proofs.YthahhjkokdillaaW.PrintWords
def kdf_Mac.f (l0 l1 : List Int) : Option (List Int) := if l0.length ≤ 100000000 ∧ l1.length ≤ 90000000 then some (Sha.macF l0 l1) else none
theorem kdf_Mac.calls (A0 : Option Addr) (c0 : Nat) (l0 : List Int) (A1 : Option Addr) (c1 : Nat) (l1 : List Int) (r : List Int) (w : World) (hr0 : Kd.C (Kd.int .u8) w A0 l0.length l0) (hc0 : l0.length ≤ c0) (hr1 : Kd.C (Kd.int .u8) w A1 l1.length l1) (hc1 : l1.length ≤ c1) (h : kdf_Mac.f l0 l1 = some r) :
    Calls Try.prog 14 #[.slice A0 l0.length c0, .slice A1 l1.length c1] w fun e w' => ∃ v0_ : Value, e = .returned (v0_) ∧ Kd.R (Kd.int .u8) 5 w' w.heap.size (fun _ => True) v0_ r ∧ Below w.heap.size w w' := by
  unfold kdf_Mac.f at h
  split at h
  · rw [← Option.some.inj h]
    unfold Sha.macF
    split
    · exact Sha.mac_short A0 c0 l0 A1 c1 l1 w hr0 hc0 hr1 hc1 (by assumption) (by omega)
    · exact Sha.mac_long A0 c0 l0 A1 c1 l1 w hr0 hc0 hr1 hc1 (by omega) (by omega) (by omega)
  · cases h
end Go.Proofs.Ythahhjkokdillaa
