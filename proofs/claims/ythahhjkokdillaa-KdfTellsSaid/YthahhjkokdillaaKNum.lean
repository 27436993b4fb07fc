/-
  KdfNumbers, walked.
-/
import Derived.Test.YthahhjkokdillaaShaN
import Derived.Test.YthahhjkokdillaaDer
import Derived.Test.YthahhjkokdillaaBook
import Derived.Test.YthahhjkokdillaaRMac
import Derived.Test.YthahhjkokdillaaWTab
import Derived.Lib.SlBytesConst
import Derived.Deep.Cut
namespace Go.Proofs.Ythahhjkokdillaa
open Go.RowKit Go.Proofs.YthahhjkokdillaaW.PrintWords Go.Proofs.YthahhjkokdillaaW.PrintLast Go.Proofs.YthahhjkokdillaaW.PrintMore Go.Proofs.Ythahhjkokdillaa.Arr Go.Proofs.Ythahhjkokdillaa.Bits Go.Proofs.Ythahhjkokdillaa.Wire
set_option linter.unusedVariables false
theorem refS_calls (A0 : Option Addr) (c0 : Nat) (l0 r : List Int) (w : World) (hr0 : Kd.C (Kd.int .u8) w A0 l0.length l0) (hc0 : l0.length ≤ c0) (hl : l0.length ≤ 1000) (h : Sha.shaF l0 = r) :
    Calls Try.prog 28 #[.slice A0 l0.length c0] w fun e w' => ∃ v0_ : Value, e = .returned (v0_) ∧ Kd.R (Kd.int .u8) 5 w' w.heap.size (fun _ => True) v0_ r ∧ Below w.heap.size w w' := by
  subst h
  exact Sha.refSum_calls A0 c0 l0 w hr0 hc0 (by omega)
theorem refM_calls (A0 : Option Addr) (c0 : Nat) (l0 : List Int) (A1 : Option Addr) (c1 : Nat) (l1 r : List Int) (w : World) (hr0 : Kd.C (Kd.int .u8) w A0 l0.length l0) (hc0 : l0.length ≤ c0) (hr1 : Kd.C (Kd.int .u8) w A1 l1.length l1) (hc1 : l1.length ≤ c1) (hl : l0.length ≤ 1000) (hl1 : l1.length ≤ 1000) (h : Sha.macF l0 l1 = r) :
    Calls Try.prog 29 #[.slice A0 l0.length c0, .slice A1 l1.length c1] w fun e w' => ∃ v0_ : Value, e = .returned (v0_) ∧ Kd.R (Kd.int .u8) 5 w' w.heap.size (fun _ => True) v0_ r ∧ Below w.heap.size w w' := by
  subst h
  exact Sha.refMac_calls A0 c0 l0 A1 c1 l1 w hr0 hc0 hr1 hc1 (by omega) (by omega)
def xB : List Int := [120]
theorem macX_calls (A0 : Option Addr) (c0 : Nat) (l0 : List Int) (B : Nat) (r : List Int) (w : World) (hr0 : Kd.C (Kd.int .u8) w A0 l0.length l0) (hc0 : l0.length ≤ c0) (hr1 : Kd.C (Kd.int .u8) w (some ⟨B, 0, none⟩) xB.length xB) (h : kdf_Mac.f l0 xB = some r) :
    Calls Try.prog 14 #[.slice A0 l0.length c0, .slice (some ⟨B, 0, none⟩) 1 1] w fun e w' => ∃ v0_ : Value, e = .returned (v0_) ∧ Kd.R (Kd.int .u8) 5 w' w.heap.size (fun _ => True) v0_ r ∧ Below w.heap.size w w' :=
  kdf_Mac.calls A0 c0 l0 (some ⟨B, 0, none⟩) 1 xB r w hr0 hc0 hr1 (by decide) h
theorem refX_calls (A0 : Option Addr) (c0 : Nat) (l0 : List Int) (B : Nat) (r : List Int) (w : World) (hr0 : Kd.C (Kd.int .u8) w A0 l0.length l0) (hc0 : l0.length ≤ c0) (hr1 : Kd.C (Kd.int .u8) w (some ⟨B, 0, none⟩) xB.length xB) (hl : l0.length ≤ 1000) (h : Sha.macF l0 xB = r) :
    Calls Try.prog 29 #[.slice A0 l0.length c0, .slice (some ⟨B, 0, none⟩) 1 1] w fun e w' => ∃ v0_ : Value, e = .returned (v0_) ∧ Kd.R (Kd.int .u8) 5 w' w.heap.size (fun _ => True) v0_ r ∧ Below w.heap.size w w' :=
  refM_calls A0 c0 l0 (some ⟨B, 0, none⟩) 1 xB r w hr0 hc0 hr1 (by decide) hl (by decide) h
/-- A new block of one byte, not yet read as a string's. -/
def Raw (w : World) (B : Nat) : Prop := w.heap[B]? = some (.cells (nums .u8 xB).toArray 5 (0, 0))
theorem raw_new (w : World) : Raw (w.alloc (.cells #[.int .u8 120] 5)) w.heap.size := heap_alloc_new w _
theorem raw_ne {w : World} {B : Nat} (h : Raw w B) : w.heap.size ≠ B := by
  have := (Array.getElem?_eq_some_iff.1 h).1
  omega
theorem raw_below {w w' : World} {B : Nat} (h : Raw w B) (hb : Below w.heap.size w w') : Raw w' B := (hb.block B (Array.getElem?_eq_some_iff.1 h).1).trans h
theorem fz_heap (w : World) (B C k : Nat) (h : C ≠ B) : (w.freeze ⟨B, k, none⟩ 1).heap[C]? = w.heap[C]? := by
  unfold World.freeze
  rw [if_neg (by decide)]
  simp only
  rw [Array.getElem?_modify]
  simp [Ne.symm h]
theorem fz_self (w : World) (B : Nat) (h : Raw w B) : (w.freeze ⟨B, 1, none⟩ 1).heap[B]? = some (.cells (nums .u8 xB).toArray 5 (1, 2)) := by
  unfold World.freeze
  rw [if_neg (by decide)]
  simp only
  rw [Array.getElem?_modify]
  unfold Raw at h
  rw [h, if_pos rfl]
  rfl
theorem fz_size (w : World) (B k : Nat) : (w.freeze ⟨B, k, none⟩ 1).heap.size = w.heap.size := by
  unfold World.freeze
  rw [if_neg (by decide)]
  simp
theorem fz_below {w0 w : World} {b B : Nat} (h : Below b w0 w) (hB : b ≤ B) : Below b w0 (w.freeze ⟨B, 1, none⟩ 1) :=
  ⟨h.os, h.tape, h.output, by rw [fz_size]; exact h.size, fun i hi => (fz_heap w B i 1 (by omega)).trans (h.block i hi)⟩
theorem fz_cell (w : World) (B : Nat) (a : Addr) (h : Raw w B) : (w.freeze ⟨B, 1, none⟩ 1).cell? a = w.cell? a := by
  by_cases hb : a.block = B
  · unfold World.cell?
    rw [hb, fz_self w B h]
    unfold Raw at h
    rw [h]
  · unfold World.cell?
    rw [fz_heap w B a.block 1 hb]
theorem fz_C {w : World} {B n : Nat} {A : Option Addr} {xs : List Int} (h : Raw w B) (hC : (Kd.int .u8).C w A n xs) : (Kd.int .u8).C (w.freeze ⟨B, 1, none⟩ 1) A n xs := by
  have hR := Kd.reads_of_C (enc := Value.int .u8) (d := (0 : Int)) (h1 := fun _ => rfl) hC
  refine Kd.C_of_reads (enc := Value.int .u8) (d := (0 : Int)) (h1 := fun _ => rfl) ⟨hR.1, hR.2.1, fun hp => ?_⟩
  obtain ⟨ad, hA, hc⟩ := hR.2.2 hp
  exact ⟨ad, hA, fun j hj => by rw [fz_cell w B _ h]; exact hc j hj⟩
theorem raw_fz {w : World} {B C : Nat} (h : Raw w C) (hn : C ≠ B) : Raw (w.freeze ⟨B, 1, none⟩ 1) C := (fz_heap w B C 1 hn).trans h
theorem raw_C {w : World} {B : Nat} (h : Raw w B) : (Kd.int .u8).C w (some ⟨B, 0, none⟩) xB.length xB := Sha.C_of_is (xs := xB) (show Is w B 5 .u8 xB from h) 1 rfl (by decide)
theorem conv_lit (w : World) (B : Nat) (h : Raw w B) : (convert 22 22 (.slice (some ⟨B, 0, none⟩) 1 1)).run Try.prog w = .ok (.slice (some ⟨B, 0, none⟩) 1 1) (w.freeze ⟨B, 1, none⟩ 1) := by
  have hsh : w.shape? B = some (5, 1) := by
    unfold World.shape?
    unfold Raw at h
    rw [h]
    rfl
  simp [convert, run_underlying Try.underlying22, run_underlying Try.underlying5, markStringish, hsh]
theorem bytes05 : Bytes [0, 5] := by
  intro x hx
  simp only [List.mem_cons, List.not_mem_nil, or_false] at hx
  rcases hx with rfl | rfl <;> decide
theorem bytes5 : Bytes [5] := by
  intro x hx
  simp only [List.mem_cons, List.not_mem_nil, or_false] at hx
  subst hx
  decide
theorem derive05 : deriveF [0, 5] [104] 65 [105, 100] 256 = deriveF [5] [104] 65 [105, 100] 256 := by
  unfold deriveF
  rw [show mpS [0, 5] = mpS [5] by decide]
theorem meas200 (i : Nat) (h : i < 200) : 200 - (intOf (.int .i64 ((i : Int) + 1))).toNat < 200 - (intOf (.int .i64 (i : Int))).toNat := by simp only [intOf]; omega
theorem C_nil (w : World) : (Kd.int .u8).C w none ([] : List Int).length [] :=
  Kd.C_of_reads (enc := Value.int .u8) (d := (0 : Int)) (h1 := fun _ => rfl) ⟨rfl, by simp, fun h => by simp at h⟩
set_option maxHeartbeats 8000000
set_option maxRecDepth 100000
theorem derive_refuse (v0 v1 v2 v3 : Value) (size : Int) (h : size < 0 ∨ 256 < size) (w : World) :
    Calls Try.prog 19 #[v0, v1, v2, v3, .int .i64 size] w fun e w' => e = .returned (.tuple #[.slice none 0 0, .int .i64 1]) ∧ w' = w := by
  by_cases h0 : size < 0
  · have d0 : decide (size < 0) = true := decide_eq_true h0
    clear h
    go_enter Try.func19, Try.ntmps19
    go_wp2_with fail
    go_ret2
    exact ⟨rfl, rfl⟩
  · have h1 : 256 < size := by omega
    have d0 : decide (size < 0) = false := decide_eq_false h0
    have d1 : decide (256 < size) = true := decide_eq_true h1
    clear h
    go_enter Try.func19, Try.ntmps19
    go_wp2_with fail
    go_ret2
    exact ⟨rfl, rfl⟩
def kdfNum.T5 : Bool × List (List Nat × List Nat) := (true, [([], []), ([0], [0]), ([1], [1]), ([], []), ([3, 1], [3]), ([4], [4]), ([2, 5], [2, 5]), ([6, 4], [6]), ([7], [7]), ([7], [7]), ([9, 7], [7, 9]), ([8, 10, 7, 7], [7, 8, 10]), ([11, 7], [7, 11]), ([7], [7]), ([7], [7]), ([14, 7], [7, 14]), ([13, 15, 11, 7], [7, 13, 15]), ([16, 7], [7, 16]), ([12, 17, 7], [7, 12, 17]), ([7, 18], [7, 18]), ([19, 16], [19]), ([20], [20]), ([21, 20, 20], [20, 21]), ([22, 20], [20, 22]), ([20], [20]), ([24, 22, 20], [20, 24]), ([25, 20], [20, 25]), ([23, 26, 20], [20, 23, 26]), ([20, 27], [20, 27])])
def kdfNum.B5 : List Nat := [0, 1, 3, 0, 11, 27, 63, 127, 255, 255, 767, 2047, 4095, 255, 255, 16639, 61439, 126975, 262143, 524287, 1048575, 2097151, 4194303, 8388607, 2097151, 25165823, 58720255, 134217727, 268435455]
theorem kdfNum.tab5 : rtab .any (opsOf Try.f6 5) = kdfNum.T5 := by kernel_rfl
theorem kdfNum.bits5 : waitsOk kdfNum.T5.2 kdfNum.B5 = true := by kernel_rfl
theorem kdfNum_calls (w : World) :
    Calls Try.prog 6 #[] w fun e w' => e = .returned (.bool true) ∧ Below w.heap.size w w' := by
  go_enter Try.func6, Try.ntmps6
  go_wp2_with fail
  go_loopw [1] (fun v w' => ∃ n : Nat, n ≤ 200 ∧ v = .int .i64 (n : Int) ∧ Aside0 (Below w.heap.size w w')) (fun v _ => 200 - (intOf v).toNat)
  case atStart => exact ⟨0, by omega, rfl, ⟨Below.refl _ _⟩⟩
  case round =>
    obtain ⟨n, hn, rfl, HB⟩ := hrel
    by_cases h200 : n < 200
    · have i0 : (n : Int) < 200 := by omega
      have k0 : (n : Int) % 256 = (n : Int) := by omega
      obtain ⟨b, hb⟩ : ∃ b, b = sizedF [(n : Int), 7] n := ⟨_, rfl⟩
      have fz := Aside0.mk (show strongroomkeep_Sized.f [(n : Int), 7] (n : Int) = some b by rw [hb]; exact sized_some _ n (by omega) (by simp))
      have hbl : b.length = n := by rw [hb, len_sizedF]
      obtain ⟨s, hs⟩ : ∃ s, s = Sha.shaF b := ⟨_, rfl⟩
      obtain ⟨m, hm⟩ : ∃ m, m = Sha.macF b xB := ⟨_, rfl⟩
      have FA := Aside0.mk (show kdf_Sum.f b = some s ∧ b.length ≤ 1000 ∧ Sha.shaF b = s ∧ kdf_Mac.f b xB = some m ∧ Sha.macF b xB = m from ⟨by rw [hs]; exact sum_some b (by omega), by omega, hs.symm, by rw [hm]; exact mac_some b xB (by omega) (by decide), hm.symm⟩)
      have FP := Aside0.mk (show kdf_Print.f b = some s from FA.out.1)
      have HN := Aside0.mk h200
      have L1 := Aside0.mk (lit_C wr 5 .u8 [(n : Int), 7] (0, 0) 2 rfl (by decide))
      have B1 := Aside0.mk (show Below wr.heap.size wr (wr.alloc (.cells (nums .u8 [(n : Int), 7]).toArray 5)) from (Below.refl _ _).alloc (Nat.le_refl _) _)
      clear hb hbl hs hm h200 hn
      go_wp2_with fail
      refine (strongroomkeep_Sized.calls (some ⟨wr.heap.size, 0, none⟩) 2 [(n : Int), 7] n b _ L1.out (by simp) fz.out).mono ?_
      rintro e w5 ⟨v5, rfl, hR, hB⟩
      obtain ⟨Ab, cb, rfl, hcb, hCb⟩ := Kd.R_reads hR
      have CB := Aside0.mk (And.intro hCb hcb)
      have B5 := Aside0.mk (HB.out.trans ((below_step B1.out hB).mono HB.out.size))
      clear hR hB hcb hCb k0
      go_upto_region 5 with (fail)
      change Code.wp _ _ _ _ w5
      refine start_ (n := 29) (S := fun w' => Below w5.heap.size w5 w') (ds := []) #[false, false, false, false, false, false, false, false, false, false, false, false, false, false, false, false, false, false, false, false, false, false, false, false, false, false, false, false, false] (by kernel_rfl) rfl rfl (below_drew1 (Below.refl _ _)) (fun hHeld => ?_)
      refine with_tabW kdfNum.tab5 kdfNum.bits5 (fun HT_ HW_ => ?_)
      refine pure_ (i := 0) (N := some 22) (v := ?_) (a' := ?_) #[true, false, false, false, false, false, false, false, false, false, false, false, false, false, false, false, false, false, false, false, false, false, false, false, false, false, false, false, false] rfl rfl (any_of HT_.out (by kernel_rfl)) (fun _ _ _ h => h) (Or.inl ⟨by rfl, ?_⟩) ?_ ?_
      rotate_left
      · intro w'
        go_simp
        with_reducible rfl
      rotate_left
      · simp only [Act.put, List.setIfInBounds_toArray, List.set_cons_zero, List.set_cons_succ]
        rfl
      refine pure_ (i := 3) (N := some 25) (v := ?_) (a' := ?_) #[true, false, false, true, false, false, false, false, false, false, false, false, false, false, false, false, false, false, false, false, false, false, false, false, false, false, false, false, false] rfl rfl (any_of HT_.out (by kernel_rfl)) (fun _ _ _ h => h) (Or.inl ⟨by rfl, ?_⟩) ?_ ?_
      rotate_left
      · intro w'
        go_simp
        with_reducible rfl
      rotate_left
      · simp only [Act.put, List.setIfInBounds_toArray, List.set_cons_zero, List.set_cons_succ]
        rfl
      refine one_ (i := 1) (N := some 23) #[true, true, false, true, false, false, false, false, false, false, false, false, false, false, false, false, false, false, false, false, false, false, false, false, false, false, false, false, false] rfl rfl (one_of HT_.out (by kernel_rfl)) (by decide) (fun K hK => ?_)
      refine goes_ Try.func15 (by kernel_rfl) rfl #[.slice Ab b.length cb] (by rfl) rfl rfl (by simp only [List.map_toArray, List.map_cons, List.map_nil]; rfl) ?_
      with_reducible refine (kdf_Sum.calls Ab cb b s _ (Kd.C_below CB.out.1 hHeld) CB.out.2 FA.out.1).mono ?_
      rintro e wa ⟨va, rfl, hRa, hBa⟩
      refine ⟨_, rfl, ?_⟩
      obtain ⟨Aa, ca, rfl, h1_, h2_⟩ := Kd.R_reads hRa
      have CAa := h2_
      have hba := below_step hHeld hBa
      clear hRa h1_ h2_
      refine hK.out _ _ (hba) (fun hHeld => ?_)
      clear hK K
      refine norm_ (a' := ?_) ?_ ?_
      rotate_left
      · show Act.put _ (some 23) _ = _
        simp only [Act.put, List.setIfInBounds_toArray, List.set_cons_zero, List.set_cons_succ]
        rfl
      refine join_ (σ := Value) 23 #[true, true, true, true, true, true, false, false, false, false, false, false, false, false, false, false, false, false, false, false, false, false, false, false, false, false, false, false, false] (fun s_ => [(24, .string (strOfNums s)), (26, s_), (27, .string (strOfNums s))]) (fun _ w' => Below w5.heap.size w5 w') ?_ ?_
      rotate_left
      · intro hCont
        refine two_ (i := 2) (j := 4) (Ni := some 24) (Nj := some 26) #[true, true, true, true, false, false, false, false, false, false, false, false, false, false, false, false, false, false, false, false, false, false, false, false, false, false, false, false, false] #[true, true, false, true, true, false, false, false, false, false, false, false, false, false, false, false, false, false, false, false, false, false, false, false, false, false, false, false, false] rfl rfl rfl rfl (two_of HT_.out (by kernel_rfl)) (by decide) (by decide) (fun K hK => ?_) (fun K hK => ?_)
        · skip
          have q12 := Kd.C_string (P := Try.prog) (c := ca) Try.underlying22 Try.underlying5 Try.underlying9 CAa
          refine value_ (w1 := ?_) (v := ?_) (by rfl) rfl ?_ ?_
          rotate_left 2
          · go_simp
            constructor
            · rfl
            · rfl
          clear q12
          refine hK.out _ _ (hHeld) (fun hHeld => ?_)
          clear hK K
          refine norm_ (a' := ?_) ?_ ?_
          rotate_left
          · show Act.put _ (some 24) _ = _
            simp only [Act.put, List.setIfInBounds_toArray, List.set_cons_zero, List.set_cons_succ]
            rfl
          refine one_ (i := 4) (N := some 26) #[true, true, true, true, true, false, false, false, false, false, false, false, false, false, false, false, false, false, false, false, false, false, false, false, false, false, false, false, false] rfl rfl (one_of HT_.out (by kernel_rfl)) (by decide) (fun K hK => ?_)
          refine goes_ Try.func28 (by kernel_rfl) rfl #[.slice Ab b.length cb] (by rfl) rfl rfl (by simp only [List.map_toArray, List.map_cons, List.map_nil]; rfl) ?_
          with_reducible refine (refS_calls Ab cb b s _ (Kd.C_below CB.out.1 hHeld) CB.out.2 FA.out.2.1 FA.out.2.2.1).mono ?_
          rintro e wq ⟨vq, rfl, hRq, hBq⟩
          refine ⟨_, rfl, ?_⟩
          have CPq := Kd.C_below CAa hBq
          obtain ⟨Aq, cq, rfl, h1_, h2_⟩ := Kd.R_reads hRq
          have CQ := h2_
          have hbq := below_step hHeld hBq
          clear hRq h1_ h2_
          refine hK.out _ _ (hbq) (fun hHeld => ?_)
          clear hK K
          refine norm_ (a' := ?_) ?_ ?_
          rotate_left
          · show Act.put _ (some 26) _ = _
            simp only [Act.put, List.setIfInBounds_toArray, List.set_cons_zero, List.set_cons_succ]
            rfl
          refine one_ (i := 5) (N := some 27) #[true, true, true, true, true, true, false, false, false, false, false, false, false, false, false, false, false, false, false, false, false, false, false, false, false, false, false, false, false] rfl rfl (one_of HT_.out (by kernel_rfl)) (by decide) (fun K hK => ?_)
          have q15 := Kd.C_string (P := Try.prog) (c := cq) Try.underlying22 Try.underlying5 Try.underlying9 CQ
          refine value_ (w1 := ?_) (v := ?_) (by rfl) rfl ?_ ?_
          rotate_left 2
          · go_simp
            constructor
            · rfl
            · rfl
          clear q15
          refine hK.out _ _ (hHeld) (fun hHeld => ?_)
          clear hK K
          refine norm_ (a' := ?_) ?_ ?_
          rotate_left
          · show Act.put _ (some 27) _ = _
            simp only [Act.put, List.setIfInBounds_toArray, List.set_cons_zero, List.set_cons_succ]
            rfl
          exact norm_ (by simp only [putAll, Act.put, List.setIfInBounds_toArray, List.set_cons_zero, List.set_cons_succ]) (hCont (.slice Aq s.length cq) _ hbq)
        · skip
          refine goes_ Try.func28 (by kernel_rfl) rfl #[.slice Ab b.length cb] (by rfl) rfl rfl (by simp only [List.map_toArray, List.map_cons, List.map_nil]; rfl) ?_
          with_reducible refine (refS_calls Ab cb b s _ (Kd.C_below CB.out.1 hHeld) CB.out.2 FA.out.2.1 FA.out.2.2.1).mono ?_
          rintro e wq ⟨vq, rfl, hRq, hBq⟩
          refine ⟨_, rfl, ?_⟩
          have CPq := Kd.C_below CAa hBq
          obtain ⟨Aq, cq, rfl, h1_, h2_⟩ := Kd.R_reads hRq
          have CQ := h2_
          have hbq := below_step hHeld hBq
          clear hRq h1_ h2_
          refine hK.out _ _ (hbq) (fun hHeld => ?_)
          clear hK K
          refine norm_ (a' := ?_) ?_ ?_
          rotate_left
          · show Act.put _ (some 26) _ = _
            simp only [Act.put, List.setIfInBounds_toArray, List.set_cons_zero, List.set_cons_succ]
            rfl
          refine two_ (i := 2) (j := 5) (Ni := some 24) (Nj := some 27) #[true, true, true, true, true, false, false, false, false, false, false, false, false, false, false, false, false, false, false, false, false, false, false, false, false, false, false, false, false] #[true, true, false, true, true, true, false, false, false, false, false, false, false, false, false, false, false, false, false, false, false, false, false, false, false, false, false, false, false] rfl rfl rfl rfl (two_of HT_.out (by kernel_rfl)) (by decide) (by decide) (fun K hK => ?_) (fun K hK => ?_)
          · skip
            have q12 := Kd.C_string (P := Try.prog) (c := ca) Try.underlying22 Try.underlying5 Try.underlying9 CPq
            refine value_ (w1 := ?_) (v := ?_) (by rfl) rfl ?_ ?_
            rotate_left 2
            · go_simp
              constructor
              · rfl
              · rfl
            clear q12
            refine hK.out _ _ (hHeld) (fun hHeld => ?_)
            clear hK K
            refine norm_ (a' := ?_) ?_ ?_
            rotate_left
            · show Act.put _ (some 24) _ = _
              simp only [Act.put, List.setIfInBounds_toArray, List.set_cons_zero, List.set_cons_succ]
              rfl
            refine one_ (i := 5) (N := some 27) #[true, true, true, true, true, true, false, false, false, false, false, false, false, false, false, false, false, false, false, false, false, false, false, false, false, false, false, false, false] rfl rfl (one_of HT_.out (by kernel_rfl)) (by decide) (fun K hK => ?_)
            have q15 := Kd.C_string (P := Try.prog) (c := cq) Try.underlying22 Try.underlying5 Try.underlying9 CQ
            refine value_ (w1 := ?_) (v := ?_) (by rfl) rfl ?_ ?_
            rotate_left 2
            · go_simp
              constructor
              · rfl
              · rfl
            clear q15
            refine hK.out _ _ (hHeld) (fun hHeld => ?_)
            clear hK K
            refine norm_ (a' := ?_) ?_ ?_
            rotate_left
            · show Act.put _ (some 27) _ = _
              simp only [Act.put, List.setIfInBounds_toArray, List.set_cons_zero, List.set_cons_succ]
              rfl
            exact norm_ (by simp only [putAll, Act.put, List.setIfInBounds_toArray, List.set_cons_zero, List.set_cons_succ]) (hCont (.slice Aq s.length cq) _ hbq)
          · skip
            have q15 := Kd.C_string (P := Try.prog) (c := cq) Try.underlying22 Try.underlying5 Try.underlying9 CQ
            refine value_ (w1 := ?_) (v := ?_) (by rfl) rfl ?_ ?_
            rotate_left 2
            · go_simp
              constructor
              · rfl
              · rfl
            clear q15
            refine hK.out _ _ (hHeld) (fun hHeld => ?_)
            clear hK K
            refine norm_ (a' := ?_) ?_ ?_
            rotate_left
            · show Act.put _ (some 27) _ = _
              simp only [Act.put, List.setIfInBounds_toArray, List.set_cons_zero, List.set_cons_succ]
              rfl
            refine one_ (i := 2) (N := some 24) #[true, true, true, true, true, true, false, false, false, false, false, false, false, false, false, false, false, false, false, false, false, false, false, false, false, false, false, false, false] rfl rfl (one_of HT_.out (by kernel_rfl)) (by decide) (fun K hK => ?_)
            have q12 := Kd.C_string (P := Try.prog) (c := ca) Try.underlying22 Try.underlying5 Try.underlying9 CPq
            refine value_ (w1 := ?_) (v := ?_) (by rfl) rfl ?_ ?_
            rotate_left 2
            · go_simp
              constructor
              · rfl
              · rfl
            clear q12
            refine hK.out _ _ (hHeld) (fun hHeld => ?_)
            clear hK K
            refine norm_ (a' := ?_) ?_ ?_
            rotate_left
            · show Act.put _ (some 24) _ = _
              simp only [Act.put, List.setIfInBounds_toArray, List.set_cons_zero, List.set_cons_succ]
              rfl
            exact norm_ (by simp only [putAll, Act.put, List.setIfInBounds_toArray, List.set_cons_zero, List.set_cons_succ]) (hCont (.slice Aq s.length cq) _ hbq)
      rintro s4 w4 hHeld
      refine norm_ (a' := ?_) ?_ ?_
      rotate_left
      · simp only [putAll, Act.put, List.setIfInBounds_toArray, List.set_cons_zero, List.set_cons_succ]
        rfl
      refine pure_ (i := 6) (N := some 28) (v := ?_) (a' := ?_) #[true, true, true, true, true, true, true, false, false, false, false, false, false, false, false, false, false, false, false, false, false, false, false, false, false, false, false, false, false] rfl rfl (any_of HT_.out (by kernel_rfl)) (fun _ _ _ h => h) (Or.inl ⟨by rfl, ?_⟩) ?_ ?_
      rotate_left
      · intro w'
        go_simp
        with_reducible rfl
      rotate_left
      · simp only [Act.put, List.setIfInBounds_toArray, List.set_cons_zero, List.set_cons_succ]
        rfl
      refine pure_ (i := 7) (N := some 29) (v := ?_) (a' := ?_) #[true, true, true, true, true, true, true, true, false, false, false, false, false, false, false, false, false, false, false, false, false, false, false, false, false, false, false, false, false] rfl rfl (any_of HT_.out (by kernel_rfl)) (fun _ _ _ h => h) (Or.inl ⟨by rfl, ?_⟩) ?_ ?_
      rotate_left
      · intro w'
        go_simp
        with_reducible rfl
      rotate_left
      · simp only [Act.put, List.setIfInBounds_toArray, List.set_cons_zero, List.set_cons_succ]
        rfl
      refine pure_ (i := 8) (N := some 30) (v := ?_) (a' := ?_) #[true, true, true, true, true, true, true, true, true, false, false, false, false, false, false, false, false, false, false, false, false, false, false, false, false, false, false, false, false] rfl rfl (any_of HT_.out (by kernel_rfl)) (fun _ _ _ h => h) (Or.inl ⟨by rfl, ?_⟩) ?_ ?_
      rotate_left
      · intro w'
        go_simp
        with_reducible rfl
      rotate_left
      · simp only [Act.put, List.setIfInBounds_toArray, List.set_cons_zero, List.set_cons_succ]
        rfl
      refine pure_ (i := 13) (N := some 35) (v := ?_) (a' := ?_) #[true, true, true, true, true, true, true, true, true, false, false, false, false, true, false, false, false, false, false, false, false, false, false, false, false, false, false, false, false] rfl rfl (any_of HT_.out (by kernel_rfl)) (fun _ _ _ h => h) (Or.inl ⟨by rfl, ?_⟩) ?_ ?_
      rotate_left
      · intro w'
        go_simp
        with_reducible rfl
      rotate_left
      · simp only [Act.put, List.setIfInBounds_toArray, List.set_cons_zero, List.set_cons_succ]
        rfl
      refine join_ (σ := Nat × Nat × (Option Addr × Nat) × (Option Addr × Nat)) 11 #[true, true, true, true, true, true, true, true, true, true, true, true, true, true, true, true, true, true, false, false, false, false, false, false, false, false, false, false, false] (fun s_ => [(31, .slice (some ⟨s_.1, 0, none⟩) 1 1), (32, .slice (some ⟨s_.1, 0, none⟩) 1 1), (33, .slice s_.2.2.1.1 m.length s_.2.2.1.2), (34, .string (strOfNums m)), (36, .slice (some ⟨s_.2.1, 0, none⟩) 1 1), (37, .slice (some ⟨s_.2.1, 0, none⟩) 1 1), (38, .slice s_.2.2.2.1 m.length s_.2.2.2.2), (39, .string (strOfNums m))]) (fun s_ w' => Below w5.heap.size w5 w') ?_ ?_
      rotate_left
      · intro hJ9_10_11_12_14_15_16_17
        refine join_ (σ := Nat × Nat × (Option Addr × Nat) × (Option Addr × Nat)) 12 #[true, true, true, true, true, true, true, true, true, true, true, true, true, true, true, true, true, false, false, false, false, false, false, false, false, false, false, false, false] (fun s_ => [(31, .slice (some ⟨s_.1, 0, none⟩) 1 1), (32, .slice (some ⟨s_.1, 0, none⟩) 1 1), (33, .slice s_.2.2.1.1 m.length s_.2.2.1.2), (34, .string (strOfNums m)), (36, .slice (some ⟨s_.2.1, 0, none⟩) 1 1), (37, .slice (some ⟨s_.2.1, 0, none⟩) 1 1), (38, .slice s_.2.2.2.1 m.length s_.2.2.2.2)]) (fun s_ w' => Below w5.heap.size w5 w' ∧ (Kd.int .u8).C w' s_.2.2.2.1 m.length m) ?_ ?_
        rotate_left
        · intro hJ9_10_11_12_14_15_16
          refine join_ (σ := Nat × Nat × (Option Addr × Nat) × (Option Addr × Nat)) 12 #[true, true, true, true, true, true, true, true, true, true, true, true, false, true, true, true, true, true, false, false, false, false, false, false, false, false, false, false, false] (fun s_ => [(31, .slice (some ⟨s_.1, 0, none⟩) 1 1), (32, .slice (some ⟨s_.1, 0, none⟩) 1 1), (33, .slice s_.2.2.1.1 m.length s_.2.2.1.2), (36, .slice (some ⟨s_.2.1, 0, none⟩) 1 1), (37, .slice (some ⟨s_.2.1, 0, none⟩) 1 1), (38, .slice s_.2.2.2.1 m.length s_.2.2.2.2), (39, .string (strOfNums m))]) (fun s_ w' => Below w5.heap.size w5 w' ∧ (Kd.int .u8).C w' s_.2.2.1.1 m.length m) ?_ ?_
          rotate_left
          · intro hJ9_10_11_14_15_16_17
            refine join_ (σ := Nat × Nat × (Option Addr × Nat) × (Option Addr × Nat)) 13 #[true, true, true, true, true, true, true, true, true, true, true, true, true, true, true, true, false, false, false, false, false, false, false, false, false, false, false, false, false] (fun s_ => [(31, .slice (some ⟨s_.1, 0, none⟩) 1 1), (32, .slice (some ⟨s_.1, 0, none⟩) 1 1), (33, .slice s_.2.2.1.1 m.length s_.2.2.1.2), (34, .string (strOfNums m)), (36, .slice (some ⟨s_.2.1, 0, none⟩) 1 1), (37, .slice (some ⟨s_.2.1, 0, none⟩) 1 1)]) (fun s_ w' => Below w5.heap.size w5 w' ∧ (Kd.int .u8).C w' (some ⟨s_.2.1, 0, none⟩) xB.length xB) ?_ ?_
            rotate_left
            · intro hJ9_10_11_12_14_15
              refine join_ (σ := Nat × Nat × (Option Addr × Nat) × (Option Addr × Nat)) 13 #[true, true, true, true, true, true, true, true, true, true, true, true, false, true, true, true, true, false, false, false, false, false, false, false, false, false, false, false, false] (fun s_ => [(31, .slice (some ⟨s_.1, 0, none⟩) 1 1), (32, .slice (some ⟨s_.1, 0, none⟩) 1 1), (33, .slice s_.2.2.1.1 m.length s_.2.2.1.2), (36, .slice (some ⟨s_.2.1, 0, none⟩) 1 1), (37, .slice (some ⟨s_.2.1, 0, none⟩) 1 1), (38, .slice s_.2.2.2.1 m.length s_.2.2.2.2)]) (fun s_ w' => Below w5.heap.size w5 w' ∧ (Kd.int .u8).C w' s_.2.2.1.1 m.length m ∧ (Kd.int .u8).C w' s_.2.2.2.1 m.length m) ?_ ?_
              rotate_left
              · intro hJ9_10_11_14_15_16
                refine join_ (σ := Nat × Nat × (Option Addr × Nat) × (Option Addr × Nat)) 14 #[true, true, true, true, true, true, true, true, true, true, true, true, true, true, true, false, false, false, false, false, false, false, false, false, false, false, false, false, false] (fun s_ => [(31, .slice (some ⟨s_.1, 0, none⟩) 1 1), (32, .slice (some ⟨s_.1, 0, none⟩) 1 1), (33, .slice s_.2.2.1.1 m.length s_.2.2.1.2), (34, .string (strOfNums m)), (36, .slice (some ⟨s_.2.1, 0, none⟩) 1 1)]) (fun s_ w' => Below w5.heap.size w5 w' ∧ Raw w' s_.2.1 ∧ w5.heap.size ≤ s_.2.1) ?_ ?_
                rotate_left
                · intro hJ9_10_11_12_14
                  refine join_ (σ := Nat × Nat × (Option Addr × Nat) × (Option Addr × Nat)) 14 #[true, true, true, true, true, true, true, true, true, true, true, true, false, true, true, true, false, false, false, false, false, false, false, false, false, false, false, false, false] (fun s_ => [(31, .slice (some ⟨s_.1, 0, none⟩) 1 1), (32, .slice (some ⟨s_.1, 0, none⟩) 1 1), (33, .slice s_.2.2.1.1 m.length s_.2.2.1.2), (36, .slice (some ⟨s_.2.1, 0, none⟩) 1 1), (37, .slice (some ⟨s_.2.1, 0, none⟩) 1 1)]) (fun s_ w' => Below w5.heap.size w5 w' ∧ (Kd.int .u8).C w' s_.2.2.1.1 m.length m ∧ (Kd.int .u8).C w' (some ⟨s_.2.1, 0, none⟩) xB.length xB) ?_ ?_
                  rotate_left
                  · intro hJ9_10_11_14_15
                    refine join_ (σ := Nat × Nat × (Option Addr × Nat) × (Option Addr × Nat)) 15 #[true, true, true, true, true, true, true, true, true, true, true, true, true, true, false, false, false, false, false, false, false, false, false, false, false, false, false, false, false] (fun s_ => [(31, .slice (some ⟨s_.1, 0, none⟩) 1 1), (32, .slice (some ⟨s_.1, 0, none⟩) 1 1), (33, .slice s_.2.2.1.1 m.length s_.2.2.1.2), (34, .string (strOfNums m))]) (fun s_ w' => Below w5.heap.size w5 w') ?_ ?_
                    rotate_left
                    · intro hJ9_10_11_12
                      refine join_ (σ := Nat × Nat × (Option Addr × Nat) × (Option Addr × Nat)) 15 #[true, true, true, true, true, true, true, true, true, true, true, true, false, true, true, false, false, false, false, false, false, false, false, false, false, false, false, false, false] (fun s_ => [(31, .slice (some ⟨s_.1, 0, none⟩) 1 1), (32, .slice (some ⟨s_.1, 0, none⟩) 1 1), (33, .slice s_.2.2.1.1 m.length s_.2.2.1.2), (36, .slice (some ⟨s_.2.1, 0, none⟩) 1 1)]) (fun s_ w' => Below w5.heap.size w5 w' ∧ (Kd.int .u8).C w' s_.2.2.1.1 m.length m ∧ Raw w' s_.2.1 ∧ w5.heap.size ≤ s_.2.1) ?_ ?_
                      rotate_left
                      · intro hJ9_10_11_14
                        refine join_ (σ := Nat × Nat × (Option Addr × Nat) × (Option Addr × Nat)) 15 #[true, true, true, true, true, true, true, true, true, true, true, false, false, true, true, true, false, false, false, false, false, false, false, false, false, false, false, false, false] (fun s_ => [(31, .slice (some ⟨s_.1, 0, none⟩) 1 1), (32, .slice (some ⟨s_.1, 0, none⟩) 1 1), (36, .slice (some ⟨s_.2.1, 0, none⟩) 1 1), (37, .slice (some ⟨s_.2.1, 0, none⟩) 1 1)]) (fun s_ w' => Below w5.heap.size w5 w' ∧ (Kd.int .u8).C w' (some ⟨s_.1, 0, none⟩) xB.length xB ∧ (Kd.int .u8).C w' (some ⟨s_.2.1, 0, none⟩) xB.length xB) ?_ ?_
                        rotate_left
                        · intro hJ9_10_14_15
                          refine join_ (σ := Nat × Nat × (Option Addr × Nat) × (Option Addr × Nat)) 16 #[true, true, true, true, true, true, true, true, true, true, true, true, false, true, false, false, false, false, false, false, false, false, false, false, false, false, false, false, false] (fun s_ => [(31, .slice (some ⟨s_.1, 0, none⟩) 1 1), (32, .slice (some ⟨s_.1, 0, none⟩) 1 1), (33, .slice s_.2.2.1.1 m.length s_.2.2.1.2)]) (fun s_ w' => Below w5.heap.size w5 w' ∧ (Kd.int .u8).C w' s_.2.2.1.1 m.length m) ?_ ?_
                          rotate_left
                          · intro hJ9_10_11
                            refine join_ (σ := Nat × Nat × (Option Addr × Nat) × (Option Addr × Nat)) 16 #[true, true, true, true, true, true, true, true, true, true, true, false, false, true, true, false, false, false, false, false, false, false, false, false, false, false, false, false, false] (fun s_ => [(31, .slice (some ⟨s_.1, 0, none⟩) 1 1), (32, .slice (some ⟨s_.1, 0, none⟩) 1 1), (36, .slice (some ⟨s_.2.1, 0, none⟩) 1 1)]) (fun s_ w' => Below w5.heap.size w5 w' ∧ (Kd.int .u8).C w' (some ⟨s_.1, 0, none⟩) xB.length xB ∧ Raw w' s_.2.1 ∧ w5.heap.size ≤ s_.2.1) ?_ ?_
                            rotate_left
                            · intro hJ9_10_14
                              refine join_ (σ := Nat × Nat × (Option Addr × Nat) × (Option Addr × Nat)) 16 #[true, true, true, true, true, true, true, true, true, true, false, false, false, true, true, true, false, false, false, false, false, false, false, false, false, false, false, false, false] (fun s_ => [(31, .slice (some ⟨s_.1, 0, none⟩) 1 1), (36, .slice (some ⟨s_.2.1, 0, none⟩) 1 1), (37, .slice (some ⟨s_.2.1, 0, none⟩) 1 1)]) (fun s_ w' => Below w5.heap.size w5 w' ∧ Raw w' s_.1 ∧ w5.heap.size ≤ s_.1 ∧ (Kd.int .u8).C w' (some ⟨s_.2.1, 0, none⟩) xB.length xB) ?_ ?_
                              rotate_left
                              · intro hJ9_14_15
                                refine join_ (σ := Nat × Nat × (Option Addr × Nat) × (Option Addr × Nat)) 17 #[true, true, true, true, true, true, true, true, true, true, true, false, false, true, false, false, false, false, false, false, false, false, false, false, false, false, false, false, false] (fun s_ => [(31, .slice (some ⟨s_.1, 0, none⟩) 1 1), (32, .slice (some ⟨s_.1, 0, none⟩) 1 1)]) (fun s_ w' => Below w5.heap.size w5 w' ∧ (Kd.int .u8).C w' (some ⟨s_.1, 0, none⟩) xB.length xB) ?_ ?_
                                rotate_left
                                · intro hJ9_10
                                  refine join_ (σ := Nat × Nat × (Option Addr × Nat) × (Option Addr × Nat)) 17 #[true, true, true, true, true, true, true, true, true, true, false, false, false, true, true, false, false, false, false, false, false, false, false, false, false, false, false, false, false] (fun s_ => [(31, .slice (some ⟨s_.1, 0, none⟩) 1 1), (36, .slice (some ⟨s_.2.1, 0, none⟩) 1 1)]) (fun s_ w' => Below w5.heap.size w5 w' ∧ Raw w' s_.1 ∧ w5.heap.size ≤ s_.1 ∧ Raw w' s_.2.1 ∧ w5.heap.size ≤ s_.2.1 ∧ s_.1 ≠ s_.2.1) ?_ ?_
                                  rotate_left
                                  · intro hJ9_14
                                    refine join_ (σ := Nat × Nat × (Option Addr × Nat) × (Option Addr × Nat)) 17 #[true, true, true, true, true, true, true, true, true, false, false, false, false, true, true, true, false, false, false, false, false, false, false, false, false, false, false, false, false] (fun s_ => [(36, .slice (some ⟨s_.2.1, 0, none⟩) 1 1), (37, .slice (some ⟨s_.2.1, 0, none⟩) 1 1)]) (fun s_ w' => Below w5.heap.size w5 w' ∧ (Kd.int .u8).C w' (some ⟨s_.2.1, 0, none⟩) xB.length xB) ?_ ?_
                                    rotate_left
                                    · intro hJ14_15
                                      refine join_ (σ := Nat × Nat × (Option Addr × Nat) × (Option Addr × Nat)) 18 #[true, true, true, true, true, true, true, true, true, true, false, false, false, true, false, false, false, false, false, false, false, false, false, false, false, false, false, false, false] (fun s_ => [(31, .slice (some ⟨s_.1, 0, none⟩) 1 1)]) (fun s_ w' => Below w5.heap.size w5 w' ∧ Raw w' s_.1 ∧ w5.heap.size ≤ s_.1) ?_ ?_
                                      rotate_left
                                      · intro hJ9
                                        refine join_ (σ := Nat × Nat × (Option Addr × Nat) × (Option Addr × Nat)) 18 #[true, true, true, true, true, true, true, true, true, false, false, false, false, true, true, false, false, false, false, false, false, false, false, false, false, false, false, false, false] (fun s_ => [(36, .slice (some ⟨s_.2.1, 0, none⟩) 1 1)]) (fun s_ w' => Below w5.heap.size w5 w' ∧ Raw w' s_.2.1 ∧ w5.heap.size ≤ s_.2.1) ?_ ?_
                                        rotate_left
                                        · intro hJ14
                                          refine two_ (i := 9) (j := 14) (Ni := some 31) (Nj := some 36) #[true, true, true, true, true, true, true, true, true, true, false, false, false, true, false, false, false, false, false, false, false, false, false, false, false, false, false, false, false] #[true, true, true, true, true, true, true, true, true, false, false, false, false, true, true, false, false, false, false, false, false, false, false, false, false, false, false, false, false] rfl rfl rfl rfl (two_of HT_.out (by kernel_rfl)) (by decide) (by decide) (fun K hK => ?_) (fun K hK => ?_)
                                          · skip
                                            obtain ⟨w9_, hw9_⟩ : ∃ z, z = w4 := ⟨_, rfl⟩
                                            subst hw9_
                                            have n_new := raw_new w9_
                                            have n_sz := hHeld.size
                                            refine value_ (w1 := ?_) (v := ?_) (by rfl) rfl ?_ ?_
                                            rotate_left 2
                                            · go_simp
                                              constructor
                                              · rfl
                                              · rfl
                                            refine hK.out _ _ (below_alloc hHeld _) (fun hHeld => ?_)
                                            clear hK K
                                            refine norm_ (a' := ?_) ?_ ?_
                                            rotate_left
                                            · show Act.put _ (some 31) _ = _
                                              simp only [Act.put, List.setIfInBounds_toArray, List.set_cons_zero, List.set_cons_succ]
                                              rfl
                                            exact norm_ (by first | (simp only [putAll, Act.put, List.setIfInBounds_toArray, List.set_cons_zero, List.set_cons_succ]; done) | (simp only [putAll, Act.put, List.setIfInBounds_toArray, List.set_cons_zero, List.set_cons_succ]; rfl)) (hJ9 (w9_.heap.size, 0, (none, 0), (none, 0)) _ ⟨hHeld, n_new, n_sz⟩)
                                          · skip
                                            obtain ⟨w9_, hw9_⟩ : ∃ z, z = w4 := ⟨_, rfl⟩
                                            subst hw9_
                                            have n_new := raw_new w9_
                                            have n_sz := hHeld.size
                                            refine value_ (w1 := ?_) (v := ?_) (by rfl) rfl ?_ ?_
                                            rotate_left 2
                                            · go_simp
                                              constructor
                                              · rfl
                                              · rfl
                                            refine hK.out _ _ (below_alloc hHeld _) (fun hHeld => ?_)
                                            clear hK K
                                            refine norm_ (a' := ?_) ?_ ?_
                                            rotate_left
                                            · show Act.put _ (some 36) _ = _
                                              simp only [Act.put, List.setIfInBounds_toArray, List.set_cons_zero, List.set_cons_succ]
                                              rfl
                                            exact norm_ (by first | (simp only [putAll, Act.put, List.setIfInBounds_toArray, List.set_cons_zero, List.set_cons_succ]; done) | (simp only [putAll, Act.put, List.setIfInBounds_toArray, List.set_cons_zero, List.set_cons_succ]; rfl)) (hJ14 (0, w9_.heap.size, (none, 0), (none, 0)) _ ⟨hHeld, n_new, n_sz⟩)
                                        · skip
                                          rintro ⟨B1, B2, ⟨A3, c3⟩, ⟨A4, c4⟩⟩ w9 ⟨hHeld, fW2, fZ2⟩
                                          refine norm_ (a' := ?_) ?_ ?_
                                          rotate_left
                                          · simp only [putAll, Act.put, List.setIfInBounds_toArray, List.set_cons_zero, List.set_cons_succ]
                                            rfl
                                          refine two_ (i := 9) (j := 15) (Ni := some 31) (Nj := some 37) #[true, true, true, true, true, true, true, true, true, true, false, false, false, true, true, false, false, false, false, false, false, false, false, false, false, false, false, false, false] #[true, true, true, true, true, true, true, true, true, false, false, false, false, true, true, true, false, false, false, false, false, false, false, false, false, false, false, false, false] rfl rfl rfl rfl (two_of HT_.out (by kernel_rfl)) (by decide) (by decide) (fun K hK => ?_) (fun K hK => ?_)
                                          · skip
                                            obtain ⟨w9_, hw9_⟩ : ∃ z, z = w9 := ⟨_, rfl⟩
                                            subst hw9_
                                            have n_new := raw_new w9_
                                            have n_fW2 := (show Raw (w9_.alloc (.cells #[.int .u8 120] 5)) B2 from raw_below fW2 (below_alloc (Below.refl _ _) _))
                                            have n_sz := hHeld.size
                                            have n_ne := raw_ne fW2
                                            refine value_ (w1 := ?_) (v := ?_) (by rfl) rfl ?_ ?_
                                            rotate_left 2
                                            · go_simp
                                              constructor
                                              · rfl
                                              · rfl
                                            refine hK.out _ _ (below_alloc hHeld _) (fun hHeld => ?_)
                                            clear hK K
                                            refine norm_ (a' := ?_) ?_ ?_
                                            rotate_left
                                            · show Act.put _ (some 31) _ = _
                                              simp only [Act.put, List.setIfInBounds_toArray, List.set_cons_zero, List.set_cons_succ]
                                              rfl
                                            exact norm_ (by first | (simp only [putAll, Act.put, List.setIfInBounds_toArray, List.set_cons_zero, List.set_cons_succ]; done) | (simp only [putAll, Act.put, List.setIfInBounds_toArray, List.set_cons_zero, List.set_cons_succ]; rfl)) (hJ9_14 (w9_.heap.size, B2, (A3, c3), (A4, c4)) _ ⟨hHeld, n_new, n_sz, n_fW2, fZ2, n_ne⟩)
                                          · skip
                                            have hcv := conv_lit w9 B2 fW2
                                            have n_hb := fz_below hHeld fZ2
                                            have n_new := fz_C fW2 (raw_C fW2)
                                            refine value_ (w1 := ?_) (v := ?_) (by rfl) rfl ?_ ?_
                                            rotate_left 2
                                            · go_simp
                                              constructor
                                              · rfl
                                              · rfl
                                            refine hK.out _ _ (n_hb) (fun hHeld => ?_)
                                            clear hK K
                                            refine norm_ (a' := ?_) ?_ ?_
                                            rotate_left
                                            · show Act.put _ (some 37) _ = _
                                              simp only [Act.put, List.setIfInBounds_toArray, List.set_cons_zero, List.set_cons_succ]
                                              rfl
                                            exact norm_ (by first | (simp only [putAll, Act.put, List.setIfInBounds_toArray, List.set_cons_zero, List.set_cons_succ]; done) | (simp only [putAll, Act.put, List.setIfInBounds_toArray, List.set_cons_zero, List.set_cons_succ]; rfl)) (hJ14_15 (B1, B2, (A3, c3), (A4, c4)) _ ⟨hHeld, n_new⟩)
                                      · skip
                                        rintro ⟨B1, B2, ⟨A3, c3⟩, ⟨A4, c4⟩⟩ w9 ⟨hHeld, fW1, fZ1⟩
                                        refine norm_ (a' := ?_) ?_ ?_
                                        rotate_left
                                        · simp only [putAll, Act.put, List.setIfInBounds_toArray, List.set_cons_zero, List.set_cons_succ]
                                          rfl
                                        refine two_ (i := 10) (j := 14) (Ni := some 32) (Nj := some 36) #[true, true, true, true, true, true, true, true, true, true, true, false, false, true, false, false, false, false, false, false, false, false, false, false, false, false, false, false, false] #[true, true, true, true, true, true, true, true, true, true, false, false, false, true, true, false, false, false, false, false, false, false, false, false, false, false, false, false, false] rfl rfl rfl rfl (two_of HT_.out (by kernel_rfl)) (by decide) (by decide) (fun K hK => ?_) (fun K hK => ?_)
                                        · skip
                                          have hcv := conv_lit w9 B1 fW1
                                          have n_hb := fz_below hHeld fZ1
                                          have n_new := fz_C fW1 (raw_C fW1)
                                          refine value_ (w1 := ?_) (v := ?_) (by rfl) rfl ?_ ?_
                                          rotate_left 2
                                          · go_simp
                                            constructor
                                            · rfl
                                            · rfl
                                          refine hK.out _ _ (n_hb) (fun hHeld => ?_)
                                          clear hK K
                                          refine norm_ (a' := ?_) ?_ ?_
                                          rotate_left
                                          · show Act.put _ (some 32) _ = _
                                            simp only [Act.put, List.setIfInBounds_toArray, List.set_cons_zero, List.set_cons_succ]
                                            rfl
                                          exact norm_ (by first | (simp only [putAll, Act.put, List.setIfInBounds_toArray, List.set_cons_zero, List.set_cons_succ]; done) | (simp only [putAll, Act.put, List.setIfInBounds_toArray, List.set_cons_zero, List.set_cons_succ]; rfl)) (hJ9_10 (B1, B2, (A3, c3), (A4, c4)) _ ⟨hHeld, n_new⟩)
                                        · skip
                                          obtain ⟨w9_, hw9_⟩ : ∃ z, z = w9 := ⟨_, rfl⟩
                                          subst hw9_
                                          have n_new := raw_new w9_
                                          have n_fW1 := (show Raw (w9_.alloc (.cells #[.int .u8 120] 5)) B1 from raw_below fW1 (below_alloc (Below.refl _ _) _))
                                          have n_sz := hHeld.size
                                          have n_ne := raw_ne fW1
                                          refine value_ (w1 := ?_) (v := ?_) (by rfl) rfl ?_ ?_
                                          rotate_left 2
                                          · go_simp
                                            constructor
                                            · rfl
                                            · rfl
                                          refine hK.out _ _ (below_alloc hHeld _) (fun hHeld => ?_)
                                          clear hK K
                                          refine norm_ (a' := ?_) ?_ ?_
                                          rotate_left
                                          · show Act.put _ (some 36) _ = _
                                            simp only [Act.put, List.setIfInBounds_toArray, List.set_cons_zero, List.set_cons_succ]
                                            rfl
                                          exact norm_ (by first | (simp only [putAll, Act.put, List.setIfInBounds_toArray, List.set_cons_zero, List.set_cons_succ]; done) | (simp only [putAll, Act.put, List.setIfInBounds_toArray, List.set_cons_zero, List.set_cons_succ]; rfl)) (hJ9_14 (B1, w9_.heap.size, (A3, c3), (A4, c4)) _ ⟨hHeld, n_fW1, fZ1, n_new, n_sz, (Ne.symm n_ne)⟩)
                                    · skip
                                      rintro ⟨B1, B2, ⟨A3, c3⟩, ⟨A4, c4⟩⟩ w9 ⟨hHeld, fC2⟩
                                      refine norm_ (a' := ?_) ?_ ?_
                                      rotate_left
                                      · simp only [putAll, Act.put, List.setIfInBounds_toArray, List.set_cons_zero, List.set_cons_succ]
                                        rfl
                                      refine one_ (i := 9) (N := some 31) #[true, true, true, true, true, true, true, true, true, true, false, false, false, true, true, true, false, false, false, false, false, false, false, false, false, false, false, false, false] rfl rfl (one_of HT_.out (by kernel_rfl)) (by decide) (fun K hK => ?_)
                                      obtain ⟨w9_, hw9_⟩ : ∃ z, z = w9 := ⟨_, rfl⟩
                                      subst hw9_
                                      have n_new := raw_new w9_
                                      have n_fC2 := (show (Kd.int .u8).C (w9_.alloc (.cells #[.int .u8 120] 5)) (some ⟨B2, 0, none⟩) xB.length xB from Kd.C_below fC2 (below_alloc (Below.refl _ _) _))
                                      have n_sz := hHeld.size
                                      refine value_ (w1 := ?_) (v := ?_) (by rfl) rfl ?_ ?_
                                      rotate_left 2
                                      · go_simp
                                        constructor
                                        · rfl
                                        · rfl
                                      refine hK.out _ _ (below_alloc hHeld _) (fun hHeld => ?_)
                                      clear hK K
                                      refine norm_ (a' := ?_) ?_ ?_
                                      rotate_left
                                      · show Act.put _ (some 31) _ = _
                                        simp only [Act.put, List.setIfInBounds_toArray, List.set_cons_zero, List.set_cons_succ]
                                        rfl
                                      exact norm_ (by first | (simp only [putAll, Act.put, List.setIfInBounds_toArray, List.set_cons_zero, List.set_cons_succ]; done) | (simp only [putAll, Act.put, List.setIfInBounds_toArray, List.set_cons_zero, List.set_cons_succ]; rfl)) (hJ9_14_15 (w9_.heap.size, B2, (A3, c3), (A4, c4)) _ ⟨hHeld, n_new, n_sz, n_fC2⟩)
                                  · skip
                                    rintro ⟨B1, B2, ⟨A3, c3⟩, ⟨A4, c4⟩⟩ w9 ⟨hHeld, fW1, fZ1, fW2, fZ2, fNE⟩
                                    refine norm_ (a' := ?_) ?_ ?_
                                    rotate_left
                                    · simp only [putAll, Act.put, List.setIfInBounds_toArray, List.set_cons_zero, List.set_cons_succ]
                                      rfl
                                    refine two_ (i := 10) (j := 15) (Ni := some 32) (Nj := some 37) #[true, true, true, true, true, true, true, true, true, true, true, false, false, true, true, false, false, false, false, false, false, false, false, false, false, false, false, false, false] #[true, true, true, true, true, true, true, true, true, true, false, false, false, true, true, true, false, false, false, false, false, false, false, false, false, false, false, false, false] rfl rfl rfl rfl (two_of HT_.out (by kernel_rfl)) (by decide) (by decide) (fun K hK => ?_) (fun K hK => ?_)
                                    · skip
                                      have hcv := conv_lit w9 B1 fW1
                                      have n_hb := fz_below hHeld fZ1
                                      have n_new := fz_C fW1 (raw_C fW1)
                                      have n_fW2 := raw_fz fW2 (Ne.symm fNE)
                                      refine value_ (w1 := ?_) (v := ?_) (by rfl) rfl ?_ ?_
                                      rotate_left 2
                                      · go_simp
                                        constructor
                                        · rfl
                                        · rfl
                                      refine hK.out _ _ (n_hb) (fun hHeld => ?_)
                                      clear hK K
                                      refine norm_ (a' := ?_) ?_ ?_
                                      rotate_left
                                      · show Act.put _ (some 32) _ = _
                                        simp only [Act.put, List.setIfInBounds_toArray, List.set_cons_zero, List.set_cons_succ]
                                        rfl
                                      exact norm_ (by first | (simp only [putAll, Act.put, List.setIfInBounds_toArray, List.set_cons_zero, List.set_cons_succ]; done) | (simp only [putAll, Act.put, List.setIfInBounds_toArray, List.set_cons_zero, List.set_cons_succ]; rfl)) (hJ9_10_14 (B1, B2, (A3, c3), (A4, c4)) _ ⟨hHeld, n_new, n_fW2, fZ2⟩)
                                    · skip
                                      have hcv := conv_lit w9 B2 fW2
                                      have n_hb := fz_below hHeld fZ2
                                      have n_new := fz_C fW2 (raw_C fW2)
                                      have n_fW1 := raw_fz fW1 fNE
                                      refine value_ (w1 := ?_) (v := ?_) (by rfl) rfl ?_ ?_
                                      rotate_left 2
                                      · go_simp
                                        constructor
                                        · rfl
                                        · rfl
                                      refine hK.out _ _ (n_hb) (fun hHeld => ?_)
                                      clear hK K
                                      refine norm_ (a' := ?_) ?_ ?_
                                      rotate_left
                                      · show Act.put _ (some 37) _ = _
                                        simp only [Act.put, List.setIfInBounds_toArray, List.set_cons_zero, List.set_cons_succ]
                                        rfl
                                      exact norm_ (by first | (simp only [putAll, Act.put, List.setIfInBounds_toArray, List.set_cons_zero, List.set_cons_succ]; done) | (simp only [putAll, Act.put, List.setIfInBounds_toArray, List.set_cons_zero, List.set_cons_succ]; rfl)) (hJ9_14_15 (B1, B2, (A3, c3), (A4, c4)) _ ⟨hHeld, n_fW1, fZ1, n_new⟩)
                                · skip
                                  rintro ⟨B1, B2, ⟨A3, c3⟩, ⟨A4, c4⟩⟩ w9 ⟨hHeld, fC1⟩
                                  refine norm_ (a' := ?_) ?_ ?_
                                  rotate_left
                                  · simp only [putAll, Act.put, List.setIfInBounds_toArray, List.set_cons_zero, List.set_cons_succ]
                                    rfl
                                  refine two_ (i := 11) (j := 14) (Ni := some 33) (Nj := some 36) #[true, true, true, true, true, true, true, true, true, true, true, true, false, true, false, false, false, false, false, false, false, false, false, false, false, false, false, false, false] #[true, true, true, true, true, true, true, true, true, true, true, false, false, true, true, false, false, false, false, false, false, false, false, false, false, false, false, false, false] rfl rfl rfl rfl (two_of HT_.out (by kernel_rfl)) (by decide) (by decide) (fun K hK => ?_) (fun K hK => ?_)
                                  · skip
                                    refine goes_ Try.func14 (by kernel_rfl) rfl #[.slice Ab b.length cb, .slice (some ⟨B1, 0, none⟩) 1 1] (by rfl) rfl rfl (by simp only [List.map_toArray, List.map_cons, List.map_nil]; rfl) ?_
                                    with_reducible refine (macX_calls Ab cb b B1 m _ (Kd.C_below CB.out.1 hHeld) CB.out.2 fC1 FA.out.2.2.2.1).mono ?_
                                    rintro e wm ⟨vm, rfl, hRm, hBm⟩
                                    refine ⟨_, rfl, ?_⟩
                                    obtain ⟨Am, cm, rfl, h1_, h2_⟩ := Kd.R_reads hRm
                                    have n_new := h2_
                                    have n_hb := below_step hHeld hBm
                                    clear hRm h1_ h2_
                                    refine hK.out _ _ (n_hb) (fun hHeld => ?_)
                                    clear hK K
                                    refine norm_ (a' := ?_) ?_ ?_
                                    rotate_left
                                    · show Act.put _ (some 33) _ = _
                                      simp only [Act.put, List.setIfInBounds_toArray, List.set_cons_zero, List.set_cons_succ]
                                      rfl
                                    exact norm_ (by first | (simp only [putAll, Act.put, List.setIfInBounds_toArray, List.set_cons_zero, List.set_cons_succ]; done) | (simp only [putAll, Act.put, List.setIfInBounds_toArray, List.set_cons_zero, List.set_cons_succ]; rfl)) (hJ9_10_11 (B1, B2, (Am, cm), (A4, c4)) _ ⟨hHeld, n_new⟩)
                                  · skip
                                    obtain ⟨w9_, hw9_⟩ : ∃ z, z = w9 := ⟨_, rfl⟩
                                    subst hw9_
                                    have n_new := raw_new w9_
                                    have n_fC1 := (show (Kd.int .u8).C (w9_.alloc (.cells #[.int .u8 120] 5)) (some ⟨B1, 0, none⟩) xB.length xB from Kd.C_below fC1 (below_alloc (Below.refl _ _) _))
                                    have n_sz := hHeld.size
                                    refine value_ (w1 := ?_) (v := ?_) (by rfl) rfl ?_ ?_
                                    rotate_left 2
                                    · go_simp
                                      constructor
                                      · rfl
                                      · rfl
                                    refine hK.out _ _ (below_alloc hHeld _) (fun hHeld => ?_)
                                    clear hK K
                                    refine norm_ (a' := ?_) ?_ ?_
                                    rotate_left
                                    · show Act.put _ (some 36) _ = _
                                      simp only [Act.put, List.setIfInBounds_toArray, List.set_cons_zero, List.set_cons_succ]
                                      rfl
                                    exact norm_ (by first | (simp only [putAll, Act.put, List.setIfInBounds_toArray, List.set_cons_zero, List.set_cons_succ]; done) | (simp only [putAll, Act.put, List.setIfInBounds_toArray, List.set_cons_zero, List.set_cons_succ]; rfl)) (hJ9_10_14 (B1, w9_.heap.size, (A3, c3), (A4, c4)) _ ⟨hHeld, n_fC1, n_new, n_sz⟩)
                              · skip
                                rintro ⟨B1, B2, ⟨A3, c3⟩, ⟨A4, c4⟩⟩ w9 ⟨hHeld, fW1, fZ1, fC2⟩
                                refine norm_ (a' := ?_) ?_ ?_
                                rotate_left
                                · simp only [putAll, Act.put, List.setIfInBounds_toArray, List.set_cons_zero, List.set_cons_succ]
                                  rfl
                                refine one_ (i := 10) (N := some 32) #[true, true, true, true, true, true, true, true, true, true, true, false, false, true, true, true, false, false, false, false, false, false, false, false, false, false, false, false, false] rfl rfl (one_of HT_.out (by kernel_rfl)) (by decide) (fun K hK => ?_)
                                have hcv := conv_lit w9 B1 fW1
                                have n_hb := fz_below hHeld fZ1
                                have n_new := fz_C fW1 (raw_C fW1)
                                have n_fC2 := fz_C fW1 fC2
                                refine value_ (w1 := ?_) (v := ?_) (by rfl) rfl ?_ ?_
                                rotate_left 2
                                · go_simp
                                  constructor
                                  · rfl
                                  · rfl
                                refine hK.out _ _ (n_hb) (fun hHeld => ?_)
                                clear hK K
                                refine norm_ (a' := ?_) ?_ ?_
                                rotate_left
                                · show Act.put _ (some 32) _ = _
                                  simp only [Act.put, List.setIfInBounds_toArray, List.set_cons_zero, List.set_cons_succ]
                                  rfl
                                exact norm_ (by first | (simp only [putAll, Act.put, List.setIfInBounds_toArray, List.set_cons_zero, List.set_cons_succ]; done) | (simp only [putAll, Act.put, List.setIfInBounds_toArray, List.set_cons_zero, List.set_cons_succ]; rfl)) (hJ9_10_14_15 (B1, B2, (A3, c3), (A4, c4)) _ ⟨hHeld, n_new, n_fC2⟩)
                            · skip
                              rintro ⟨B1, B2, ⟨A3, c3⟩, ⟨A4, c4⟩⟩ w9 ⟨hHeld, fC1, fW2, fZ2⟩
                              refine norm_ (a' := ?_) ?_ ?_
                              rotate_left
                              · simp only [putAll, Act.put, List.setIfInBounds_toArray, List.set_cons_zero, List.set_cons_succ]
                                rfl
                              refine two_ (i := 11) (j := 15) (Ni := some 33) (Nj := some 37) #[true, true, true, true, true, true, true, true, true, true, true, true, false, true, true, false, false, false, false, false, false, false, false, false, false, false, false, false, false] #[true, true, true, true, true, true, true, true, true, true, true, false, false, true, true, true, false, false, false, false, false, false, false, false, false, false, false, false, false] rfl rfl rfl rfl (two_of HT_.out (by kernel_rfl)) (by decide) (by decide) (fun K hK => ?_) (fun K hK => ?_)
                              · skip
                                refine goes_ Try.func14 (by kernel_rfl) rfl #[.slice Ab b.length cb, .slice (some ⟨B1, 0, none⟩) 1 1] (by rfl) rfl rfl (by simp only [List.map_toArray, List.map_cons, List.map_nil]; rfl) ?_
                                with_reducible refine (macX_calls Ab cb b B1 m _ (Kd.C_below CB.out.1 hHeld) CB.out.2 fC1 FA.out.2.2.2.1).mono ?_
                                rintro e wm ⟨vm, rfl, hRm, hBm⟩
                                refine ⟨_, rfl, ?_⟩
                                have n_fW2 := raw_below fW2 hBm
                                obtain ⟨Am, cm, rfl, h1_, h2_⟩ := Kd.R_reads hRm
                                have n_new := h2_
                                have n_hb := below_step hHeld hBm
                                clear hRm h1_ h2_
                                refine hK.out _ _ (n_hb) (fun hHeld => ?_)
                                clear hK K
                                refine norm_ (a' := ?_) ?_ ?_
                                rotate_left
                                · show Act.put _ (some 33) _ = _
                                  simp only [Act.put, List.setIfInBounds_toArray, List.set_cons_zero, List.set_cons_succ]
                                  rfl
                                exact norm_ (by first | (simp only [putAll, Act.put, List.setIfInBounds_toArray, List.set_cons_zero, List.set_cons_succ]; done) | (simp only [putAll, Act.put, List.setIfInBounds_toArray, List.set_cons_zero, List.set_cons_succ]; rfl)) (hJ9_10_11_14 (B1, B2, (Am, cm), (A4, c4)) _ ⟨hHeld, n_new, n_fW2, fZ2⟩)
                              · skip
                                have hcv := conv_lit w9 B2 fW2
                                have n_hb := fz_below hHeld fZ2
                                have n_new := fz_C fW2 (raw_C fW2)
                                have n_fC1 := fz_C fW2 fC1
                                refine value_ (w1 := ?_) (v := ?_) (by rfl) rfl ?_ ?_
                                rotate_left 2
                                · go_simp
                                  constructor
                                  · rfl
                                  · rfl
                                refine hK.out _ _ (n_hb) (fun hHeld => ?_)
                                clear hK K
                                refine norm_ (a' := ?_) ?_ ?_
                                rotate_left
                                · show Act.put _ (some 37) _ = _
                                  simp only [Act.put, List.setIfInBounds_toArray, List.set_cons_zero, List.set_cons_succ]
                                  rfl
                                exact norm_ (by first | (simp only [putAll, Act.put, List.setIfInBounds_toArray, List.set_cons_zero, List.set_cons_succ]; done) | (simp only [putAll, Act.put, List.setIfInBounds_toArray, List.set_cons_zero, List.set_cons_succ]; rfl)) (hJ9_10_14_15 (B1, B2, (A3, c3), (A4, c4)) _ ⟨hHeld, n_fC1, n_new⟩)
                          · skip
                            rintro ⟨B1, B2, ⟨A3, c3⟩, ⟨A4, c4⟩⟩ w9 ⟨hHeld, fC3⟩
                            refine norm_ (a' := ?_) ?_ ?_
                            rotate_left
                            · simp only [putAll, Act.put, List.setIfInBounds_toArray, List.set_cons_zero, List.set_cons_succ]
                              rfl
                            refine two_ (i := 12) (j := 14) (Ni := some 34) (Nj := some 36) #[true, true, true, true, true, true, true, true, true, true, true, true, true, true, false, false, false, false, false, false, false, false, false, false, false, false, false, false, false] #[true, true, true, true, true, true, true, true, true, true, true, true, false, true, true, false, false, false, false, false, false, false, false, false, false, false, false, false, false] rfl rfl rfl rfl (two_of HT_.out (by kernel_rfl)) (by decide) (by decide) (fun K hK => ?_) (fun K hK => ?_)
                            · skip
                              have q12 := Kd.C_string (P := Try.prog) (c := c3) Try.underlying22 Try.underlying5 Try.underlying9 fC3
                              refine value_ (w1 := ?_) (v := ?_) (by rfl) rfl ?_ ?_
                              rotate_left 2
                              · go_simp
                                constructor
                                · rfl
                                · rfl
                              clear q12
                              refine hK.out _ _ (hHeld) (fun hHeld => ?_)
                              clear hK K
                              refine norm_ (a' := ?_) ?_ ?_
                              rotate_left
                              · show Act.put _ (some 34) _ = _
                                simp only [Act.put, List.setIfInBounds_toArray, List.set_cons_zero, List.set_cons_succ]
                                rfl
                              exact norm_ (by first | (simp only [putAll, Act.put, List.setIfInBounds_toArray, List.set_cons_zero, List.set_cons_succ]; done) | (simp only [putAll, Act.put, List.setIfInBounds_toArray, List.set_cons_zero, List.set_cons_succ]; rfl)) (hJ9_10_11_12 (B1, B2, (A3, c3), (A4, c4)) _ hHeld)
                            · skip
                              obtain ⟨w9_, hw9_⟩ : ∃ z, z = w9 := ⟨_, rfl⟩
                              subst hw9_
                              have n_new := raw_new w9_
                              have n_fC3 := (show (Kd.int .u8).C (w9_.alloc (.cells #[.int .u8 120] 5)) A3 m.length m from Kd.C_below fC3 (below_alloc (Below.refl _ _) _))
                              have n_sz := hHeld.size
                              refine value_ (w1 := ?_) (v := ?_) (by rfl) rfl ?_ ?_
                              rotate_left 2
                              · go_simp
                                constructor
                                · rfl
                                · rfl
                              refine hK.out _ _ (below_alloc hHeld _) (fun hHeld => ?_)
                              clear hK K
                              refine norm_ (a' := ?_) ?_ ?_
                              rotate_left
                              · show Act.put _ (some 36) _ = _
                                simp only [Act.put, List.setIfInBounds_toArray, List.set_cons_zero, List.set_cons_succ]
                                rfl
                              exact norm_ (by first | (simp only [putAll, Act.put, List.setIfInBounds_toArray, List.set_cons_zero, List.set_cons_succ]; done) | (simp only [putAll, Act.put, List.setIfInBounds_toArray, List.set_cons_zero, List.set_cons_succ]; rfl)) (hJ9_10_11_14 (B1, w9_.heap.size, (A3, c3), (A4, c4)) _ ⟨hHeld, n_fC3, n_new, n_sz⟩)
                        · skip
                          rintro ⟨B1, B2, ⟨A3, c3⟩, ⟨A4, c4⟩⟩ w9 ⟨hHeld, fC1, fC2⟩
                          refine norm_ (a' := ?_) ?_ ?_
                          rotate_left
                          · simp only [putAll, Act.put, List.setIfInBounds_toArray, List.set_cons_zero, List.set_cons_succ]
                            rfl
                          refine one_ (i := 11) (N := some 33) #[true, true, true, true, true, true, true, true, true, true, true, true, false, true, true, true, false, false, false, false, false, false, false, false, false, false, false, false, false] rfl rfl (one_of HT_.out (by kernel_rfl)) (by decide) (fun K hK => ?_)
                          refine goes_ Try.func14 (by kernel_rfl) rfl #[.slice Ab b.length cb, .slice (some ⟨B1, 0, none⟩) 1 1] (by rfl) rfl rfl (by simp only [List.map_toArray, List.map_cons, List.map_nil]; rfl) ?_
                          with_reducible refine (macX_calls Ab cb b B1 m _ (Kd.C_below CB.out.1 hHeld) CB.out.2 fC1 FA.out.2.2.2.1).mono ?_
                          rintro e wm ⟨vm, rfl, hRm, hBm⟩
                          refine ⟨_, rfl, ?_⟩
                          have n_fC2 := Kd.C_below fC2 hBm
                          obtain ⟨Am, cm, rfl, h1_, h2_⟩ := Kd.R_reads hRm
                          have n_new := h2_
                          have n_hb := below_step hHeld hBm
                          clear hRm h1_ h2_
                          refine hK.out _ _ (n_hb) (fun hHeld => ?_)
                          clear hK K
                          refine norm_ (a' := ?_) ?_ ?_
                          rotate_left
                          · show Act.put _ (some 33) _ = _
                            simp only [Act.put, List.setIfInBounds_toArray, List.set_cons_zero, List.set_cons_succ]
                            rfl
                          exact norm_ (by first | (simp only [putAll, Act.put, List.setIfInBounds_toArray, List.set_cons_zero, List.set_cons_succ]; done) | (simp only [putAll, Act.put, List.setIfInBounds_toArray, List.set_cons_zero, List.set_cons_succ]; rfl)) (hJ9_10_11_14_15 (B1, B2, (Am, cm), (A4, c4)) _ ⟨hHeld, n_new, n_fC2⟩)
                      · skip
                        rintro ⟨B1, B2, ⟨A3, c3⟩, ⟨A4, c4⟩⟩ w9 ⟨hHeld, fC3, fW2, fZ2⟩
                        refine norm_ (a' := ?_) ?_ ?_
                        rotate_left
                        · simp only [putAll, Act.put, List.setIfInBounds_toArray, List.set_cons_zero, List.set_cons_succ]
                          rfl
                        refine two_ (i := 12) (j := 15) (Ni := some 34) (Nj := some 37) #[true, true, true, true, true, true, true, true, true, true, true, true, true, true, true, false, false, false, false, false, false, false, false, false, false, false, false, false, false] #[true, true, true, true, true, true, true, true, true, true, true, true, false, true, true, true, false, false, false, false, false, false, false, false, false, false, false, false, false] rfl rfl rfl rfl (two_of HT_.out (by kernel_rfl)) (by decide) (by decide) (fun K hK => ?_) (fun K hK => ?_)
                        · skip
                          have q12 := Kd.C_string (P := Try.prog) (c := c3) Try.underlying22 Try.underlying5 Try.underlying9 fC3
                          refine value_ (w1 := ?_) (v := ?_) (by rfl) rfl ?_ ?_
                          rotate_left 2
                          · go_simp
                            constructor
                            · rfl
                            · rfl
                          clear q12
                          refine hK.out _ _ (hHeld) (fun hHeld => ?_)
                          clear hK K
                          refine norm_ (a' := ?_) ?_ ?_
                          rotate_left
                          · show Act.put _ (some 34) _ = _
                            simp only [Act.put, List.setIfInBounds_toArray, List.set_cons_zero, List.set_cons_succ]
                            rfl
                          exact norm_ (by first | (simp only [putAll, Act.put, List.setIfInBounds_toArray, List.set_cons_zero, List.set_cons_succ]; done) | (simp only [putAll, Act.put, List.setIfInBounds_toArray, List.set_cons_zero, List.set_cons_succ]; rfl)) (hJ9_10_11_12_14 (B1, B2, (A3, c3), (A4, c4)) _ ⟨hHeld, fW2, fZ2⟩)
                        · skip
                          have hcv := conv_lit w9 B2 fW2
                          have n_hb := fz_below hHeld fZ2
                          have n_new := fz_C fW2 (raw_C fW2)
                          have n_fC3 := fz_C fW2 fC3
                          refine value_ (w1 := ?_) (v := ?_) (by rfl) rfl ?_ ?_
                          rotate_left 2
                          · go_simp
                            constructor
                            · rfl
                            · rfl
                          refine hK.out _ _ (n_hb) (fun hHeld => ?_)
                          clear hK K
                          refine norm_ (a' := ?_) ?_ ?_
                          rotate_left
                          · show Act.put _ (some 37) _ = _
                            simp only [Act.put, List.setIfInBounds_toArray, List.set_cons_zero, List.set_cons_succ]
                            rfl
                          exact norm_ (by first | (simp only [putAll, Act.put, List.setIfInBounds_toArray, List.set_cons_zero, List.set_cons_succ]; done) | (simp only [putAll, Act.put, List.setIfInBounds_toArray, List.set_cons_zero, List.set_cons_succ]; rfl)) (hJ9_10_11_14_15 (B1, B2, (A3, c3), (A4, c4)) _ ⟨hHeld, n_fC3, n_new⟩)
                    · skip
                      rintro ⟨B1, B2, ⟨A3, c3⟩, ⟨A4, c4⟩⟩ w9 hHeld
                      refine norm_ (a' := ?_) ?_ ?_
                      rotate_left
                      · simp only [putAll, Act.put, List.setIfInBounds_toArray, List.set_cons_zero, List.set_cons_succ]
                        rfl
                      refine one_ (i := 14) (N := some 36) #[true, true, true, true, true, true, true, true, true, true, true, true, true, true, true, false, false, false, false, false, false, false, false, false, false, false, false, false, false] rfl rfl (one_of HT_.out (by kernel_rfl)) (by decide) (fun K hK => ?_)
                      obtain ⟨w9_, hw9_⟩ : ∃ z, z = w9 := ⟨_, rfl⟩
                      subst hw9_
                      have n_new := raw_new w9_
                      have n_sz := hHeld.size
                      refine value_ (w1 := ?_) (v := ?_) (by rfl) rfl ?_ ?_
                      rotate_left 2
                      · go_simp
                        constructor
                        · rfl
                        · rfl
                      refine hK.out _ _ (below_alloc hHeld _) (fun hHeld => ?_)
                      clear hK K
                      refine norm_ (a' := ?_) ?_ ?_
                      rotate_left
                      · show Act.put _ (some 36) _ = _
                        simp only [Act.put, List.setIfInBounds_toArray, List.set_cons_zero, List.set_cons_succ]
                        rfl
                      exact norm_ (by first | (simp only [putAll, Act.put, List.setIfInBounds_toArray, List.set_cons_zero, List.set_cons_succ]; done) | (simp only [putAll, Act.put, List.setIfInBounds_toArray, List.set_cons_zero, List.set_cons_succ]; rfl)) (hJ9_10_11_12_14 (B1, w9_.heap.size, (A3, c3), (A4, c4)) _ ⟨hHeld, n_new, n_sz⟩)
                  · skip
                    rintro ⟨B1, B2, ⟨A3, c3⟩, ⟨A4, c4⟩⟩ w9 ⟨hHeld, fC3, fC2⟩
                    refine norm_ (a' := ?_) ?_ ?_
                    rotate_left
                    · simp only [putAll, Act.put, List.setIfInBounds_toArray, List.set_cons_zero, List.set_cons_succ]
                      rfl
                    refine two_ (i := 12) (j := 16) (Ni := some 34) (Nj := some 38) #[true, true, true, true, true, true, true, true, true, true, true, true, true, true, true, true, false, false, false, false, false, false, false, false, false, false, false, false, false] #[true, true, true, true, true, true, true, true, true, true, true, true, false, true, true, true, true, false, false, false, false, false, false, false, false, false, false, false, false] rfl rfl rfl rfl (two_of HT_.out (by kernel_rfl)) (by decide) (by decide) (fun K hK => ?_) (fun K hK => ?_)
                    · skip
                      have q12 := Kd.C_string (P := Try.prog) (c := c3) Try.underlying22 Try.underlying5 Try.underlying9 fC3
                      refine value_ (w1 := ?_) (v := ?_) (by rfl) rfl ?_ ?_
                      rotate_left 2
                      · go_simp
                        constructor
                        · rfl
                        · rfl
                      clear q12
                      refine hK.out _ _ (hHeld) (fun hHeld => ?_)
                      clear hK K
                      refine norm_ (a' := ?_) ?_ ?_
                      rotate_left
                      · show Act.put _ (some 34) _ = _
                        simp only [Act.put, List.setIfInBounds_toArray, List.set_cons_zero, List.set_cons_succ]
                        rfl
                      exact norm_ (by first | (simp only [putAll, Act.put, List.setIfInBounds_toArray, List.set_cons_zero, List.set_cons_succ]; done) | (simp only [putAll, Act.put, List.setIfInBounds_toArray, List.set_cons_zero, List.set_cons_succ]; rfl)) (hJ9_10_11_12_14_15 (B1, B2, (A3, c3), (A4, c4)) _ ⟨hHeld, fC2⟩)
                    · skip
                      refine goes_ Try.func29 (by kernel_rfl) rfl #[.slice Ab b.length cb, .slice (some ⟨B2, 0, none⟩) 1 1] (by rfl) rfl rfl (by simp only [List.map_toArray, List.map_cons, List.map_nil]; rfl) ?_
                      with_reducible refine (refX_calls Ab cb b B2 m _ (Kd.C_below CB.out.1 hHeld) CB.out.2 fC2 FA.out.2.1 FA.out.2.2.2.2).mono ?_
                      rintro e wm ⟨vm, rfl, hRm, hBm⟩
                      refine ⟨_, rfl, ?_⟩
                      have n_fC3 := Kd.C_below fC3 hBm
                      obtain ⟨Am, cm, rfl, h1_, h2_⟩ := Kd.R_reads hRm
                      have n_new := h2_
                      have n_hb := below_step hHeld hBm
                      clear hRm h1_ h2_
                      refine hK.out _ _ (n_hb) (fun hHeld => ?_)
                      clear hK K
                      refine norm_ (a' := ?_) ?_ ?_
                      rotate_left
                      · show Act.put _ (some 38) _ = _
                        simp only [Act.put, List.setIfInBounds_toArray, List.set_cons_zero, List.set_cons_succ]
                        rfl
                      exact norm_ (by first | (simp only [putAll, Act.put, List.setIfInBounds_toArray, List.set_cons_zero, List.set_cons_succ]; done) | (simp only [putAll, Act.put, List.setIfInBounds_toArray, List.set_cons_zero, List.set_cons_succ]; rfl)) (hJ9_10_11_14_15_16 (B1, B2, (A3, c3), (Am, cm)) _ ⟨hHeld, n_fC3, n_new⟩)
                · skip
                  rintro ⟨B1, B2, ⟨A3, c3⟩, ⟨A4, c4⟩⟩ w9 ⟨hHeld, fW2, fZ2⟩
                  refine norm_ (a' := ?_) ?_ ?_
                  rotate_left
                  · simp only [putAll, Act.put, List.setIfInBounds_toArray, List.set_cons_zero, List.set_cons_succ]
                    rfl
                  refine one_ (i := 15) (N := some 37) #[true, true, true, true, true, true, true, true, true, true, true, true, true, true, true, true, false, false, false, false, false, false, false, false, false, false, false, false, false] rfl rfl (one_of HT_.out (by kernel_rfl)) (by decide) (fun K hK => ?_)
                  have hcv := conv_lit w9 B2 fW2
                  have n_hb := fz_below hHeld fZ2
                  have n_new := fz_C fW2 (raw_C fW2)
                  refine value_ (w1 := ?_) (v := ?_) (by rfl) rfl ?_ ?_
                  rotate_left 2
                  · go_simp
                    constructor
                    · rfl
                    · rfl
                  refine hK.out _ _ (n_hb) (fun hHeld => ?_)
                  clear hK K
                  refine norm_ (a' := ?_) ?_ ?_
                  rotate_left
                  · show Act.put _ (some 37) _ = _
                    simp only [Act.put, List.setIfInBounds_toArray, List.set_cons_zero, List.set_cons_succ]
                    rfl
                  exact norm_ (by first | (simp only [putAll, Act.put, List.setIfInBounds_toArray, List.set_cons_zero, List.set_cons_succ]; done) | (simp only [putAll, Act.put, List.setIfInBounds_toArray, List.set_cons_zero, List.set_cons_succ]; rfl)) (hJ9_10_11_12_14_15 (B1, B2, (A3, c3), (A4, c4)) _ ⟨hHeld, n_new⟩)
              · skip
                rintro ⟨B1, B2, ⟨A3, c3⟩, ⟨A4, c4⟩⟩ w9 ⟨hHeld, fC3, fC4⟩
                refine norm_ (a' := ?_) ?_ ?_
                rotate_left
                · simp only [putAll, Act.put, List.setIfInBounds_toArray, List.set_cons_zero, List.set_cons_succ]
                  rfl
                refine two_ (i := 12) (j := 17) (Ni := some 34) (Nj := some 39) #[true, true, true, true, true, true, true, true, true, true, true, true, true, true, true, true, true, false, false, false, false, false, false, false, false, false, false, false, false] #[true, true, true, true, true, true, true, true, true, true, true, true, false, true, true, true, true, true, false, false, false, false, false, false, false, false, false, false, false] rfl rfl rfl rfl (two_of HT_.out (by kernel_rfl)) (by decide) (by decide) (fun K hK => ?_) (fun K hK => ?_)
                · skip
                  have q12 := Kd.C_string (P := Try.prog) (c := c3) Try.underlying22 Try.underlying5 Try.underlying9 fC3
                  refine value_ (w1 := ?_) (v := ?_) (by rfl) rfl ?_ ?_
                  rotate_left 2
                  · go_simp
                    constructor
                    · rfl
                    · rfl
                  clear q12
                  refine hK.out _ _ (hHeld) (fun hHeld => ?_)
                  clear hK K
                  refine norm_ (a' := ?_) ?_ ?_
                  rotate_left
                  · show Act.put _ (some 34) _ = _
                    simp only [Act.put, List.setIfInBounds_toArray, List.set_cons_zero, List.set_cons_succ]
                    rfl
                  exact norm_ (by first | (simp only [putAll, Act.put, List.setIfInBounds_toArray, List.set_cons_zero, List.set_cons_succ]; done) | (simp only [putAll, Act.put, List.setIfInBounds_toArray, List.set_cons_zero, List.set_cons_succ]; rfl)) (hJ9_10_11_12_14_15_16 (B1, B2, (A3, c3), (A4, c4)) _ ⟨hHeld, fC4⟩)
                · skip
                  have q12 := Kd.C_string (P := Try.prog) (c := c4) Try.underlying22 Try.underlying5 Try.underlying9 fC4
                  refine value_ (w1 := ?_) (v := ?_) (by rfl) rfl ?_ ?_
                  rotate_left 2
                  · go_simp
                    constructor
                    · rfl
                    · rfl
                  clear q12
                  refine hK.out _ _ (hHeld) (fun hHeld => ?_)
                  clear hK K
                  refine norm_ (a' := ?_) ?_ ?_
                  rotate_left
                  · show Act.put _ (some 39) _ = _
                    simp only [Act.put, List.setIfInBounds_toArray, List.set_cons_zero, List.set_cons_succ]
                    rfl
                  exact norm_ (by first | (simp only [putAll, Act.put, List.setIfInBounds_toArray, List.set_cons_zero, List.set_cons_succ]; done) | (simp only [putAll, Act.put, List.setIfInBounds_toArray, List.set_cons_zero, List.set_cons_succ]; rfl)) (hJ9_10_11_14_15_16_17 (B1, B2, (A3, c3), (A4, c4)) _ ⟨hHeld, fC3⟩)
            · skip
              rintro ⟨B1, B2, ⟨A3, c3⟩, ⟨A4, c4⟩⟩ w9 ⟨hHeld, fC2⟩
              refine norm_ (a' := ?_) ?_ ?_
              rotate_left
              · simp only [putAll, Act.put, List.setIfInBounds_toArray, List.set_cons_zero, List.set_cons_succ]
                rfl
              refine one_ (i := 16) (N := some 38) #[true, true, true, true, true, true, true, true, true, true, true, true, true, true, true, true, true, false, false, false, false, false, false, false, false, false, false, false, false] rfl rfl (one_of HT_.out (by kernel_rfl)) (by decide) (fun K hK => ?_)
              refine goes_ Try.func29 (by kernel_rfl) rfl #[.slice Ab b.length cb, .slice (some ⟨B2, 0, none⟩) 1 1] (by rfl) rfl rfl (by simp only [List.map_toArray, List.map_cons, List.map_nil]; rfl) ?_
              with_reducible refine (refX_calls Ab cb b B2 m _ (Kd.C_below CB.out.1 hHeld) CB.out.2 fC2 FA.out.2.1 FA.out.2.2.2.2).mono ?_
              rintro e wm ⟨vm, rfl, hRm, hBm⟩
              refine ⟨_, rfl, ?_⟩
              obtain ⟨Am, cm, rfl, h1_, h2_⟩ := Kd.R_reads hRm
              have n_new := h2_
              have n_hb := below_step hHeld hBm
              clear hRm h1_ h2_
              refine hK.out _ _ (n_hb) (fun hHeld => ?_)
              clear hK K
              refine norm_ (a' := ?_) ?_ ?_
              rotate_left
              · show Act.put _ (some 38) _ = _
                simp only [Act.put, List.setIfInBounds_toArray, List.set_cons_zero, List.set_cons_succ]
                rfl
              exact norm_ (by first | (simp only [putAll, Act.put, List.setIfInBounds_toArray, List.set_cons_zero, List.set_cons_succ]; done) | (simp only [putAll, Act.put, List.setIfInBounds_toArray, List.set_cons_zero, List.set_cons_succ]; rfl)) (hJ9_10_11_12_14_15_16 (B1, B2, (A3, c3), (Am, cm)) _ ⟨hHeld, n_new⟩)
          · skip
            rintro ⟨B1, B2, ⟨A3, c3⟩, ⟨A4, c4⟩⟩ w9 ⟨hHeld, fC3⟩
            refine norm_ (a' := ?_) ?_ ?_
            rotate_left
            · simp only [putAll, Act.put, List.setIfInBounds_toArray, List.set_cons_zero, List.set_cons_succ]
              rfl
            refine one_ (i := 12) (N := some 34) #[true, true, true, true, true, true, true, true, true, true, true, true, true, true, true, true, true, true, false, false, false, false, false, false, false, false, false, false, false] rfl rfl (one_of HT_.out (by kernel_rfl)) (by decide) (fun K hK => ?_)
            have q12 := Kd.C_string (P := Try.prog) (c := c3) Try.underlying22 Try.underlying5 Try.underlying9 fC3
            refine value_ (w1 := ?_) (v := ?_) (by rfl) rfl ?_ ?_
            rotate_left 2
            · go_simp
              constructor
              · rfl
              · rfl
            clear q12
            refine hK.out _ _ (hHeld) (fun hHeld => ?_)
            clear hK K
            refine norm_ (a' := ?_) ?_ ?_
            rotate_left
            · show Act.put _ (some 34) _ = _
              simp only [Act.put, List.setIfInBounds_toArray, List.set_cons_zero, List.set_cons_succ]
              rfl
            exact norm_ (by first | (simp only [putAll, Act.put, List.setIfInBounds_toArray, List.set_cons_zero, List.set_cons_succ]; done) | (simp only [putAll, Act.put, List.setIfInBounds_toArray, List.set_cons_zero, List.set_cons_succ]; rfl)) (hJ9_10_11_12_14_15_16_17 (B1, B2, (A3, c3), (A4, c4)) _ hHeld)
        · skip
          rintro ⟨B1, B2, ⟨A3, c3⟩, ⟨A4, c4⟩⟩ w9 ⟨hHeld, fC4⟩
          refine norm_ (a' := ?_) ?_ ?_
          rotate_left
          · simp only [putAll, Act.put, List.setIfInBounds_toArray, List.set_cons_zero, List.set_cons_succ]
            rfl
          refine one_ (i := 17) (N := some 39) #[true, true, true, true, true, true, true, true, true, true, true, true, true, true, true, true, true, true, false, false, false, false, false, false, false, false, false, false, false] rfl rfl (one_of HT_.out (by kernel_rfl)) (by decide) (fun K hK => ?_)
          have q12 := Kd.C_string (P := Try.prog) (c := c4) Try.underlying22 Try.underlying5 Try.underlying9 fC4
          refine value_ (w1 := ?_) (v := ?_) (by rfl) rfl ?_ ?_
          rotate_left 2
          · go_simp
            constructor
            · rfl
            · rfl
          clear q12
          refine hK.out _ _ (hHeld) (fun hHeld => ?_)
          clear hK K
          refine norm_ (a' := ?_) ?_ ?_
          rotate_left
          · show Act.put _ (some 39) _ = _
            simp only [Act.put, List.setIfInBounds_toArray, List.set_cons_zero, List.set_cons_succ]
            rfl
          exact norm_ (by first | (simp only [putAll, Act.put, List.setIfInBounds_toArray, List.set_cons_zero, List.set_cons_succ]; done) | (simp only [putAll, Act.put, List.setIfInBounds_toArray, List.set_cons_zero, List.set_cons_succ]; rfl)) (hJ9_10_11_12_14_15_16_17 (B1, B2, (A3, c3), (A4, c4)) _ hHeld)
      rintro ⟨B1, B2, ⟨A3, c3⟩, ⟨A4, c4⟩⟩ w9 hHeld
      refine norm_ (a' := ?_) ?_ ?_
      rotate_left
      · simp only [putAll, Act.put, List.setIfInBounds_toArray, List.set_cons_zero, List.set_cons_succ]
        rfl
      refine pure_ (i := 18) (N := some 40) (v := ?_) (a' := ?_) #[true, true, true, true, true, true, true, true, true, true, true, true, true, true, true, true, true, true, true, false, false, false, false, false, false, false, false, false, false] rfl rfl (any_of HT_.out (by kernel_rfl)) (fun _ _ _ h => h) (Or.inl ⟨by rfl, ?_⟩) ?_ ?_
      rotate_left
      · intro w'
        go_simp
        with_reducible rfl
      rotate_left
      · simp only [Act.put, List.setIfInBounds_toArray, List.set_cons_zero, List.set_cons_succ]
        rfl
      refine pure_ (i := 19) (N := some 41) (v := ?_) (a' := ?_) #[true, true, true, true, true, true, true, true, true, true, true, true, true, true, true, true, true, true, true, true, false, false, false, false, false, false, false, false, false] rfl rfl (any_of HT_.out (by kernel_rfl)) (fun _ _ _ h => h) (Or.inl ⟨by rfl, ?_⟩) ?_ ?_
      rotate_left
      · intro w'
        go_simp
        with_reducible rfl
      rotate_left
      · simp only [Act.put, List.setIfInBounds_toArray, List.set_cons_zero, List.set_cons_succ]
        rfl
      refine pure_ (i := 20) (N := some 42) (v := ?_) (a' := ?_) #[true, true, true, true, true, true, true, true, true, true, true, true, true, true, true, true, true, true, true, true, true, false, false, false, false, false, false, false, false] rfl rfl (any_of HT_.out (by kernel_rfl)) (fun _ _ _ h => h) (Or.inl ⟨by rfl, ?_⟩) ?_ ?_
      rotate_left
      · intro w'
        go_simp
        with_reducible rfl
      rotate_left
      · simp only [Act.put, List.setIfInBounds_toArray, List.set_cons_zero, List.set_cons_succ]
        rfl
      refine pure_ (i := 21) (N := some 43) (v := ?_) (a' := ?_) #[true, true, true, true, true, true, true, true, true, true, true, true, true, true, true, true, true, true, true, true, true, true, false, false, false, false, false, false, false] rfl rfl (any_of HT_.out (by kernel_rfl)) (fun _ _ _ h => h) (Or.inl ⟨by rfl, ?_⟩) ?_ ?_
      rotate_left
      · intro w'
        go_simp
        with_reducible rfl
      rotate_left
      · simp only [Act.put, List.setIfInBounds_toArray, List.set_cons_zero, List.set_cons_succ]
        rfl
      refine pure_ (i := 24) (N := some 46) (v := ?_) (a' := ?_) #[true, true, true, true, true, true, true, true, true, true, true, true, true, true, true, true, true, true, true, true, true, true, false, false, true, false, false, false, false] rfl rfl (any_of HT_.out (by kernel_rfl)) (fun _ _ _ h => h) (Or.inl ⟨by rfl, ?_⟩) ?_ ?_
      rotate_left
      · intro w'
        go_simp
        with_reducible rfl
      rotate_left
      · simp only [Act.put, List.setIfInBounds_toArray, List.set_cons_zero, List.set_cons_succ]
        rfl
      refine one_ (i := 22) (N := some 44) #[true, true, true, true, true, true, true, true, true, true, true, true, true, true, true, true, true, true, true, true, true, true, true, false, true, false, false, false, false] rfl rfl (one_of HT_.out (by kernel_rfl)) (by decide) (fun K hK => ?_)
      refine goes_ Try.func16 (by kernel_rfl) rfl #[.slice Ab b.length cb] (by rfl) rfl rfl (by simp only [List.map_toArray, List.map_cons, List.map_nil]; rfl) ?_
      with_reducible refine (kdf_Print.calls Ab cb b s _ (Kd.C_below CB.out.1 hHeld) CB.out.2 FP.out).mono ?_
      rintro e wp ⟨vp, rfl, hRp, hBp⟩
      refine ⟨_, rfl, ?_⟩
      obtain ⟨Ap, cp_, rfl, h1_, h2_⟩ := Kd.R_reads hRp
      have CAp := h2_
      have hbp := below_step hHeld hBp
      clear hRp h1_ h2_
      refine hK.out _ _ (hbp) (fun hHeld => ?_)
      clear hK K
      refine norm_ (a' := ?_) ?_ ?_
      rotate_left
      · show Act.put _ (some 44) _ = _
        simp only [Act.put, List.setIfInBounds_toArray, List.set_cons_zero, List.set_cons_succ]
        rfl
      refine join_ (σ := Value) 2 #[true, true, true, true, true, true, true, true, true, true, true, true, true, true, true, true, true, true, true, true, true, true, true, true, true, true, true, false, false] (fun s_ => [(45, .string (strOfNums s)), (47, s_), (48, .string (strOfNums s))]) (fun _ w' => Below w5.heap.size w5 w') ?_ ?_
      rotate_left
      · intro hCont
        refine two_ (i := 23) (j := 25) (Ni := some 45) (Nj := some 47) #[true, true, true, true, true, true, true, true, true, true, true, true, true, true, true, true, true, true, true, true, true, true, true, true, true, false, false, false, false] #[true, true, true, true, true, true, true, true, true, true, true, true, true, true, true, true, true, true, true, true, true, true, true, false, true, true, false, false, false] rfl rfl rfl rfl (two_of HT_.out (by kernel_rfl)) (by decide) (by decide) (fun K hK => ?_) (fun K hK => ?_)
        · skip
          have q12 := Kd.C_string (P := Try.prog) (c := cp_) Try.underlying22 Try.underlying5 Try.underlying9 CAp
          refine value_ (w1 := ?_) (v := ?_) (by rfl) rfl ?_ ?_
          rotate_left 2
          · go_simp
            constructor
            · rfl
            · rfl
          clear q12
          refine hK.out _ _ (hHeld) (fun hHeld => ?_)
          clear hK K
          refine norm_ (a' := ?_) ?_ ?_
          rotate_left
          · show Act.put _ (some 45) _ = _
            simp only [Act.put, List.setIfInBounds_toArray, List.set_cons_zero, List.set_cons_succ]
            rfl
          refine one_ (i := 25) (N := some 47) #[true, true, true, true, true, true, true, true, true, true, true, true, true, true, true, true, true, true, true, true, true, true, true, true, true, true, false, false, false] rfl rfl (one_of HT_.out (by kernel_rfl)) (by decide) (fun K hK => ?_)
          refine goes_ Try.func28 (by kernel_rfl) rfl #[.slice Ab b.length cb] (by rfl) rfl rfl (by simp only [List.map_toArray, List.map_cons, List.map_nil]; rfl) ?_
          with_reducible refine (refS_calls Ab cb b s _ (Kd.C_below CB.out.1 hHeld) CB.out.2 FA.out.2.1 FA.out.2.2.1).mono ?_
          rintro e wq ⟨vq, rfl, hRq, hBq⟩
          refine ⟨_, rfl, ?_⟩
          have CPq := Kd.C_below CAp hBq
          obtain ⟨Aq, cq, rfl, h1_, h2_⟩ := Kd.R_reads hRq
          have CQ := h2_
          have hbq := below_step hHeld hBq
          clear hRq h1_ h2_
          refine hK.out _ _ (hbq) (fun hHeld => ?_)
          clear hK K
          refine norm_ (a' := ?_) ?_ ?_
          rotate_left
          · show Act.put _ (some 47) _ = _
            simp only [Act.put, List.setIfInBounds_toArray, List.set_cons_zero, List.set_cons_succ]
            rfl
          refine one_ (i := 26) (N := some 48) #[true, true, true, true, true, true, true, true, true, true, true, true, true, true, true, true, true, true, true, true, true, true, true, true, true, true, true, false, false] rfl rfl (one_of HT_.out (by kernel_rfl)) (by decide) (fun K hK => ?_)
          have q15 := Kd.C_string (P := Try.prog) (c := cq) Try.underlying22 Try.underlying5 Try.underlying9 CQ
          refine value_ (w1 := ?_) (v := ?_) (by rfl) rfl ?_ ?_
          rotate_left 2
          · go_simp
            constructor
            · rfl
            · rfl
          clear q15
          refine hK.out _ _ (hHeld) (fun hHeld => ?_)
          clear hK K
          refine norm_ (a' := ?_) ?_ ?_
          rotate_left
          · show Act.put _ (some 48) _ = _
            simp only [Act.put, List.setIfInBounds_toArray, List.set_cons_zero, List.set_cons_succ]
            rfl
          exact norm_ (by simp only [putAll, Act.put, List.setIfInBounds_toArray, List.set_cons_zero, List.set_cons_succ]) (hCont (.slice Aq s.length cq) _ hbq)
        · skip
          refine goes_ Try.func28 (by kernel_rfl) rfl #[.slice Ab b.length cb] (by rfl) rfl rfl (by simp only [List.map_toArray, List.map_cons, List.map_nil]; rfl) ?_
          with_reducible refine (refS_calls Ab cb b s _ (Kd.C_below CB.out.1 hHeld) CB.out.2 FA.out.2.1 FA.out.2.2.1).mono ?_
          rintro e wq ⟨vq, rfl, hRq, hBq⟩
          refine ⟨_, rfl, ?_⟩
          have CPq := Kd.C_below CAp hBq
          obtain ⟨Aq, cq, rfl, h1_, h2_⟩ := Kd.R_reads hRq
          have CQ := h2_
          have hbq := below_step hHeld hBq
          clear hRq h1_ h2_
          refine hK.out _ _ (hbq) (fun hHeld => ?_)
          clear hK K
          refine norm_ (a' := ?_) ?_ ?_
          rotate_left
          · show Act.put _ (some 47) _ = _
            simp only [Act.put, List.setIfInBounds_toArray, List.set_cons_zero, List.set_cons_succ]
            rfl
          refine two_ (i := 23) (j := 26) (Ni := some 45) (Nj := some 48) #[true, true, true, true, true, true, true, true, true, true, true, true, true, true, true, true, true, true, true, true, true, true, true, true, true, true, false, false, false] #[true, true, true, true, true, true, true, true, true, true, true, true, true, true, true, true, true, true, true, true, true, true, true, false, true, true, true, false, false] rfl rfl rfl rfl (two_of HT_.out (by kernel_rfl)) (by decide) (by decide) (fun K hK => ?_) (fun K hK => ?_)
          · skip
            have q12 := Kd.C_string (P := Try.prog) (c := cp_) Try.underlying22 Try.underlying5 Try.underlying9 CPq
            refine value_ (w1 := ?_) (v := ?_) (by rfl) rfl ?_ ?_
            rotate_left 2
            · go_simp
              constructor
              · rfl
              · rfl
            clear q12
            refine hK.out _ _ (hHeld) (fun hHeld => ?_)
            clear hK K
            refine norm_ (a' := ?_) ?_ ?_
            rotate_left
            · show Act.put _ (some 45) _ = _
              simp only [Act.put, List.setIfInBounds_toArray, List.set_cons_zero, List.set_cons_succ]
              rfl
            refine one_ (i := 26) (N := some 48) #[true, true, true, true, true, true, true, true, true, true, true, true, true, true, true, true, true, true, true, true, true, true, true, true, true, true, true, false, false] rfl rfl (one_of HT_.out (by kernel_rfl)) (by decide) (fun K hK => ?_)
            have q15 := Kd.C_string (P := Try.prog) (c := cq) Try.underlying22 Try.underlying5 Try.underlying9 CQ
            refine value_ (w1 := ?_) (v := ?_) (by rfl) rfl ?_ ?_
            rotate_left 2
            · go_simp
              constructor
              · rfl
              · rfl
            clear q15
            refine hK.out _ _ (hHeld) (fun hHeld => ?_)
            clear hK K
            refine norm_ (a' := ?_) ?_ ?_
            rotate_left
            · show Act.put _ (some 48) _ = _
              simp only [Act.put, List.setIfInBounds_toArray, List.set_cons_zero, List.set_cons_succ]
              rfl
            exact norm_ (by simp only [putAll, Act.put, List.setIfInBounds_toArray, List.set_cons_zero, List.set_cons_succ]) (hCont (.slice Aq s.length cq) _ hbq)
          · skip
            have q15 := Kd.C_string (P := Try.prog) (c := cq) Try.underlying22 Try.underlying5 Try.underlying9 CQ
            refine value_ (w1 := ?_) (v := ?_) (by rfl) rfl ?_ ?_
            rotate_left 2
            · go_simp
              constructor
              · rfl
              · rfl
            clear q15
            refine hK.out _ _ (hHeld) (fun hHeld => ?_)
            clear hK K
            refine norm_ (a' := ?_) ?_ ?_
            rotate_left
            · show Act.put _ (some 48) _ = _
              simp only [Act.put, List.setIfInBounds_toArray, List.set_cons_zero, List.set_cons_succ]
              rfl
            refine one_ (i := 23) (N := some 45) #[true, true, true, true, true, true, true, true, true, true, true, true, true, true, true, true, true, true, true, true, true, true, true, true, true, true, true, false, false] rfl rfl (one_of HT_.out (by kernel_rfl)) (by decide) (fun K hK => ?_)
            have q12 := Kd.C_string (P := Try.prog) (c := cp_) Try.underlying22 Try.underlying5 Try.underlying9 CPq
            refine value_ (w1 := ?_) (v := ?_) (by rfl) rfl ?_ ?_
            rotate_left 2
            · go_simp
              constructor
              · rfl
              · rfl
            clear q12
            refine hK.out _ _ (hHeld) (fun hHeld => ?_)
            clear hK K
            refine norm_ (a' := ?_) ?_ ?_
            rotate_left
            · show Act.put _ (some 45) _ = _
              simp only [Act.put, List.setIfInBounds_toArray, List.set_cons_zero, List.set_cons_succ]
              rfl
            exact norm_ (by simp only [putAll, Act.put, List.setIfInBounds_toArray, List.set_cons_zero, List.set_cons_succ]) (hCont (.slice Aq s.length cq) _ hbq)
      rintro s25 w25 hHeld
      refine norm_ (a' := ?_) ?_ ?_
      rotate_left
      · simp only [putAll, Act.put, List.setIfInBounds_toArray, List.set_cons_zero, List.set_cons_succ]
        rfl
      refine pure_ (i := 27) (N := some 49) (v := ?_) (a' := ?_) #[true, true, true, true, true, true, true, true, true, true, true, true, true, true, true, true, true, true, true, true, true, true, true, true, true, true, true, true, false] rfl rfl (any_of HT_.out (by kernel_rfl)) (fun _ _ _ h => h) (Or.inl ⟨by rfl, ?_⟩) ?_ ?_
      rotate_left
      · intro w'
        go_simp
        with_reducible rfl
      rotate_left
      · simp only [Act.put, List.setIfInBounds_toArray, List.set_cons_zero, List.set_cons_succ]
        rfl
      refine pure_ (i := 28) (N := some 50) (v := ?_) (a' := ?_) #[true, true, true, true, true, true, true, true, true, true, true, true, true, true, true, true, true, true, true, true, true, true, true, true, true, true, true, true, true] rfl rfl (any_of HT_.out (by kernel_rfl)) (fun _ _ _ h => h) (Or.inl ⟨by rfl, ?_⟩) ?_ ?_
      rotate_left
      · intro w'
        go_simp
        with_reducible rfl
      rotate_left
      · simp only [Act.put, List.setIfInBounds_toArray, List.set_cons_zero, List.set_cons_succ]
        rfl
      refine done_ (done_of HT_.out (by kernel_rfl)) ?_
      have B6 := Aside0.mk (below_step B5.out hHeld)
      clear hHeld
      go_wp2_with fail
      exact ⟨⟨n + 1, HN.out, congrArg (Value.int .i64) rfl, B6⟩, meas200 n HN.out⟩
    · obtain rfl : n = 200 := by omega
      rw [show ((200 : Nat) : Int) = 200 from rfl]
      clear h200
      have kc := fun (w : World) (C : Array Value) (n c : Nat) => Lib.run_convert_bytes_const (P := Try.prog) w 22 5 C n c Try.underlying22 Try.underlying5
      go_wp2_with fail
      refine (derive_refuse _ _ _ _ (-1) (Or.inl (by decide)) wr).mono ?_
      rintro e w1 ⟨rfl, rfl⟩
      go_wp2_with fail
      refine (derive_refuse _ _ _ _ 257 (Or.inr (by decide)) w1).mono ?_
      rintro e w2 ⟨rfl, rfl⟩
      go_wp2_with fail
      refine (derive_calls none 0 [] none 0 [] 65 none 0 [] 0 w2 (C_nil _) (by decide) (fun x hx => nomatch hx) (by decide) (C_nil _) (by decide) (by decide) (C_nil _) (by decide) (by decide) (by decide)).mono ?_
      rintro e w3 ⟨v3, rfl, hR, hB⟩
      obtain ⟨A3, c3, hv3⟩ := Kd.R_slice hR
      rw [len_deriveF] at hv3
      subst hv3
      have B3 := Aside0.mk (below_step HB.out hB)
      clear hR hB
      go_wp2_with (first | ((with_reducible refine gate_dst (N := 64) rfl ?_); refine Kd.event_run (v := .slice (some ⟨w3.heap.size, 0, none⟩) 2 2) (w1 := w3.alloc (.cells (nums .u8 [0, 5]).toArray 5)) rfl (by kernel_rfl) ?_; have l0 := lit_C w3 5 .u8 [0, 5] (0, 0) 2 rfl (by decide); have b0 := (show Below w3.heap.size w3 (w3.alloc (.cells (nums .u8 [0, 5]).toArray 5)) from (Below.refl _ _).alloc (Nat.le_refl _) _); generalize w3.alloc (.cells (nums .u8 [0, 5]).toArray 5) = wAp at l0 b0 ⊢; have L0p := Aside0.mk l0; have B0p := Aside0.mk b0; clear l0 b0) | ((with_reducible refine gate_dst (N := 67) rfl ?_); change wpList _ _ _ _ _ (wAp.alloc (.cells (nums .u8 [104]).toArray 5 (1, 2))); have l0 := lit_C wAp 5 .u8 [104] (1, 2) 1 rfl (by decide); have b0 := (show Below wAp.heap.size wAp (wAp.alloc (.cells (nums .u8 [104]).toArray 5 (1, 2))) from (Below.refl _ _).alloc (Nat.le_refl _) _); generalize wAp.alloc (.cells (nums .u8 [104]).toArray 5 (1, 2)) = wBp at l0 b0 ⊢; have L1p := Aside0.mk l0; have B1p := Aside0.mk b0; clear l0 b0; refine Kd.event_run (v := .slice (some ⟨wBp.heap.size, 0, none⟩) 2 2) (w1 := wBp.alloc (.cells (nums .u8 [105, 100]).toArray 5)) rfl (by kernel_rfl) ?_))
      change Calls _ _ _ (wBp.alloc (.cells (nums .u8 [105, 100]).toArray 5 (2, 3))) _
      have l2 := lit_C wBp 5 .u8 [105, 100] (2, 3) 2 rfl (by decide)
      have b2 : Below wBp.heap.size wBp (wBp.alloc (.cells (nums .u8 [105, 100]).toArray 5 (2, 3))) := (Below.refl _ _).alloc (Nat.le_refl _) _
      generalize wBp.alloc (.cells (nums .u8 [105, 100]).toArray 5 (2, 3)) = wCp at l2 b2 ⊢
      have L2p := Aside0.mk l2
      have B2p := Aside0.mk b2
      clear l2 b2
      have K0p := Aside0.mk (Kd.C_below (Kd.C_below L0p.out B1p.out) B2p.out)
      have K1p := Aside0.mk (Kd.C_below L1p.out B2p.out)
      have BBp := Aside0.mk (below_step (below_step B0p.out B1p.out) B2p.out)
      have B4 := Aside0.mk (below_step B3.out BBp.out)
      refine (derive_calls (some ⟨w3.heap.size, 0, none⟩) 2 [0, 5] (some ⟨wAp.heap.size, 0, none⟩) 1 [104] 65 (some ⟨wBp.heap.size, 0, none⟩) 2 [105, 100] 256 wCp K0p.out (by decide) bytes05 (by decide) K1p.out (by decide) (by decide) L2p.out (by decide) (by decide) (by decide)).mono ?_
      rintro e w4 ⟨v4, rfl, hR, hB⟩
      obtain ⟨E, hE⟩ : ∃ x, x = deriveF [0, 5] [104] 65 [105, 100] 256 := ⟨_, rfl⟩
      rw [← hE] at hR
      have EL := Aside0.mk (show E.length = 256 by rw [hE, len_deriveF])
      have HE := Aside0.mk (show E = deriveF [5] [104] 65 [105, 100] 256 by rw [hE, derive05])
      obtain ⟨A4, c4, hv4, hc4, hC4⟩ := Kd.R_reads hR
      rw [EL.out] at hv4
      subst hv4
      have C4 := Aside0.mk hC4
      have B5 := Aside0.mk (below_step B4.out hB)
      clear hR hB hE hc4 hC4 L0p B0p L1p B1p L2p B2p K0p K1p BBp
      go_wp2_with (first | ((with_reducible refine gate_dst (N := 73) rfl ?_); refine Kd.event_run (v := .slice (some ⟨w4.heap.size, 0, none⟩) 1 1) (w1 := w4.alloc (.cells (nums .u8 [5]).toArray 5)) rfl (by kernel_rfl) ?_; have l0 := lit_C w4 5 .u8 [5] (0, 0) 1 rfl (by decide); have b0 := (show Below w4.heap.size w4 (w4.alloc (.cells (nums .u8 [5]).toArray 5)) from (Below.refl _ _).alloc (Nat.le_refl _) _); generalize w4.alloc (.cells (nums .u8 [5]).toArray 5) = wAq at l0 b0 ⊢; have L0q := Aside0.mk l0; have B0q := Aside0.mk b0; clear l0 b0) | ((with_reducible refine gate_dst (N := 76) rfl ?_); change wpList _ _ _ _ _ (wAq.alloc (.cells (nums .u8 [104]).toArray 5 (1, 2))); have l0 := lit_C wAq 5 .u8 [104] (1, 2) 1 rfl (by decide); have b0 := (show Below wAq.heap.size wAq (wAq.alloc (.cells (nums .u8 [104]).toArray 5 (1, 2))) from (Below.refl _ _).alloc (Nat.le_refl _) _); generalize wAq.alloc (.cells (nums .u8 [104]).toArray 5 (1, 2)) = wBq at l0 b0 ⊢; have L1q := Aside0.mk l0; have B1q := Aside0.mk b0; clear l0 b0; refine Kd.event_run (v := .slice (some ⟨wBq.heap.size, 0, none⟩) 2 2) (w1 := wBq.alloc (.cells (nums .u8 [105, 100]).toArray 5)) rfl (by kernel_rfl) ?_))
      change Calls _ _ _ (wBq.alloc (.cells (nums .u8 [105, 100]).toArray 5 (2, 3))) _
      have l2 := lit_C wBq 5 .u8 [105, 100] (2, 3) 2 rfl (by decide)
      have b2 : Below wBq.heap.size wBq (wBq.alloc (.cells (nums .u8 [105, 100]).toArray 5 (2, 3))) := (Below.refl _ _).alloc (Nat.le_refl _) _
      generalize wBq.alloc (.cells (nums .u8 [105, 100]).toArray 5 (2, 3)) = wCq at l2 b2 ⊢
      have L2q := Aside0.mk l2
      have B2q := Aside0.mk b2
      clear l2 b2
      have K0q := Aside0.mk (Kd.C_below (Kd.C_below L0q.out B1q.out) B2q.out)
      have K1q := Aside0.mk (Kd.C_below L1q.out B2q.out)
      have BBq := Aside0.mk (below_step (below_step B0q.out B1q.out) B2q.out)
      have B6 := Aside0.mk (below_step B5.out BBq.out)
      have C4 := Aside0.mk (Kd.C_below C4.out BBq.out)
      refine (derive_calls (some ⟨w4.heap.size, 0, none⟩) 1 [5] (some ⟨wAq.heap.size, 0, none⟩) 1 [104] 65 (some ⟨wBq.heap.size, 0, none⟩) 2 [105, 100] 256 wCq K0q.out (by decide) bytes5 (by decide) K1q.out (by decide) (by decide) L2q.out (by decide) (by decide) (by decide)).mono ?_
      rintro e w7 ⟨v7, rfl, hR, hB⟩
      rw [← HE.out] at hR
      obtain ⟨A7, c7, hv7, hc7, hC7⟩ := Kd.R_reads hR
      rw [EL.out] at hv7
      subst hv7
      have C7 := Aside0.mk hC7
      have C4 := Aside0.mk (Kd.C_below C4.out hB)
      have B7 := Aside0.mk (below_step B6.out hB)
      clear hR hB hc7 hC7 L0q B0q L1q B1q L2q B2q K0q K1q BBq kc
      have Q0 := Aside0.mk (fun (w' : World) (h : Below w7.heap.size w7 w') => show (convert 22 9 (.slice A4 256 c4)).run Try.prog w' = .ok (.string (strOfNums E)) w' from by
        have h2 := Kd.C_string (P := Try.prog) (c := c4) Try.underlying22 Try.underlying5 Try.underlying9 (Kd.C_below C4.out h)
        rw [EL.out] at h2
        exact h2)
      have Q1 := Aside0.mk (fun (w' : World) (h : Below w7.heap.size w7 w') => show (convert 22 9 (.slice A7 256 c7)).run Try.prog w' = .ok (.string (strOfNums E)) w' from by
        have h2 := Kd.C_string (P := Try.prog) (c := c7) Try.underlying22 Try.underlying5 Try.underlying9 (Kd.C_below C7.out h)
        rw [EL.out] at h2
        exact h2)
      have q0_ := Q0.out w7 (Below.refl _ _)
      have q1_ := Q1.out w7 (Below.refl _ _)
      go_wp2_with fail
      refine (strongroomlaw6_known.calls true w7 rfl).mono ?_
      rintro e w18 ⟨rfl, hB18⟩
      have B18 := Aside0.mk (below_step B7.out hB18)
      clear hB18 q0_ q1_
      go_wp2_with fail
      go_ret
      exact ⟨rfl, B18.out⟩
end Go.Proofs.Ythahhjkokdillaa
