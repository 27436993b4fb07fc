/-
  slices.Clone, slices.Grow of nothing, slices.Concat of two slices, walked.
-/
import Derived.Test.YthahhjkokdillaaArr2
import Derived.Test.YthahhjkokdillaaPolyB
import Derived.Test.YthahhjkokdillaaWMore
import Derived.Deep.Cut
namespace Go.Proofs.Ythahhjkokdillaa
open Go.RowKit Go.Proofs.YthahhjkokdillaaW.PrintWords Go.Proofs.YthahhjkokdillaaW.PrintLast Go.Proofs.YthahhjkokdillaaW.PrintMore Go.Proofs.Ythahhjkokdillaa.Arr
set_option linter.unusedVariables false
set_option linter.unusedSimpArgs false
theorem bin_nil {P : Program} {t el : TypeId} (ht : P.underlying t = some (.slice el)) (A : Option Addr) (w : World) (n c : Nat) : (binOp .eql t (.slice A n c) (.slice none 0 0)).run P w = .ok (.bool A.isNone) w := by
  have hb : binOp .eql t (.slice A n c) (.slice none 0 0) = (do pure (.bool (← Op.equal t (.slice A n c) (.slice none 0 0)))) := rfl
  have he : (Op.equal t (.slice A n c) (.slice none 0 0)).run P w = .ok A.isNone w := by
    show (Op.equalIn (9999 + 1) t _ _).run P w = _
    unfold Op.equalIn
    cases A <;> simp [run_underlying ht]
  rw [hb]
  simp [he]
set_option maxHeartbeats 2000000
set_option maxRecDepth 100000
theorem slices_Clone.calls (A0 : Option Addr) (c0 : Nat) (l0 : List Int) (w : World) (hr0 : Kd.C (Kd.int .u8) w A0 l0.length l0) (hc0 : l0.length ≤ c0) (hm : l0.length ≤ 100000000) :
    Calls Try.prog 42 #[.slice A0 l0.length c0] w fun e w' => ∃ v0_ : Value, e = .returned v0_ ∧ Kd.R (Kd.int .u8) 5 w' w.heap.size (fun _ => True) v0_ l0 ∧ Below w.heap.size w w' := by
  have HR0 := Aside0.mk hr0
  have HC0 := Aside0.mk hc0
  clear hr0 hc0
  rcases A0 with _ | ad
  · have hq := fun w n c => bin_nil (P := Try.prog) Try.underlying22 none w n c
    obtain rfl : l0 = [] := by
      rcases Nat.eq_zero_or_pos l0.length with h | h
      · exact List.length_eq_zero_iff.1 h
      · obtain ⟨ad, h1, _⟩ := HR0.out.2.2 h
        cases h1
    go_enter Try.func42, Try.ntmps42
    go_wp2
    go_ret
    exact ⟨_, rfl, Kd.R_nil .., Below.refl _ _⟩
  · have hq := fun w n c => bin_nil (P := Try.prog) Try.underlying22 (some ad) w n c
    have Z1 := Aside0.mk (lit_R w w.heap.size w.heap.size 5 .u8 [] 0 rfl (Nat.le_refl _) rfl (by decide))
    have B1 := Aside0.mk (show Below w.heap.size w (w.alloc (.cells #[] 5)) from (Below.refl _ _).alloc (Nat.le_refl _) _)
    have HL0 := Aside0.mk (show (0 + l0.length) * 1 ≤ 140737488355328 by omega)
    go_enter Try.func42, Try.ntmps42
    go_wp2_with ((with_reducible refine gate_builtin (b := .append) (xs := #[.tmp 5, .tmp 6]) rfl ?_); at_builtin; (refine Kd.R_append_row (w0 := w) (Value.int .u8) (0 : Int) (h1 := fun _ => rfl) w.heap.size rfl (.tmp 5) (.tmp 6) 22 5 (.int .u8 0) 1 rfl Try.underlying22 Pol.info_u8 rfl Nat.one_pos _ [] l0 (some ad) l0.length c0 (fun _ => True) rfl rfl (fun _ _ => trivial) ?q1 ?q2 ?q3 ?q4 ?q5 ?_; (case q1 => exact Z1.out); (case q2 => exact Kd.C_below HR0.out B1.out); (case q3 => exact B1.out); (case q4 => exact B1.out.size); (case q5 => exact HL0.out); intro v8 w8 hR hB8 _ _; have HR8 := Aside0.mk (show (Kd.int .u8).R 5 w8 w.heap.size (fun _ => True) v8 l0 from hR); have HB8 := Aside0.mk hB8; clear hR hB8))
    go_ret
    exact ⟨_, rfl, HR8.out, HB8.out⟩
set_option maxHeartbeats 4000000
/-- Room for so many bytes behind nothing: no bytes, with a block of their own. -/
theorem grow_nil (n : Nat) (hn : n ≤ 10000000) (w : World) :
    Calls Try.prog 54 #[.slice none 0 0, .int .i64 n] w fun e w' => ∃ v0_ : Value, e = .returned v0_ ∧ Kd.R (Kd.int .u8) 5 w' w.heap.size (fun _ => True) v0_ ([] : List Int) ∧ Below w.heap.size w w' := by
  by_cases h0 : n = 0
  · subst h0
    have hz : ((0 : Nat) : Int) = 0 := rfl
    rw [hz]
    clear hz
    go_enter Try.func54, Try.ntmps54
    go_wp2
    go_ret
    exact ⟨_, rfl, Kd.R_nil .., Below.refl _ _⟩
  · have H0 : decide ((n : Int) < 0) = false := by simp
    have H1 : decide (0 < (n : Int)) = true := by simp; omega
    have H2 : decide (0 < n) = true := by simp; omega
    have HN := Aside0.mk (show 0 < n ∧ n ≤ 10000000 by omega)
    have hw : wrap64 (n : Int) = (n : Int) := wrap_id (by omega) (by omega)
    have Z := Aside0.mk (Kd.R_nil (Kd.int .u8) 5 w w.heap.size (fun _ => True))
    have HB := Aside0.mk (Below.refl w.heap.size w)
    clear h0 hn
    go_enter Try.func54, Try.ntmps54
    go_wp2_with (at_builtin; refine Kd.R_append_zeros (Kd.int .u8) (w0 := w) w.heap.size rfl (.tmp 20) (.tmp 21) 22 3 5 (.int .u8 0) 1 rfl Try.underlying22 Try.underlying3 Pol.info_u8 rfl (by decide) (by omega) (.slice none 0 0) ([] : List Int) 0 (n : Int) (fun _ => True) rfl (by first | rfl | (rw [hw]; rfl)) rfl ?aF ?aO ?a0 ?aB ?aS ?aL ?_; (case aF => exact fun _ _ => trivial); (case aO => (with_reducible repeat (first | apply Kd.R_drewN | apply Kd.R_drew)); exact Z.out); (case a0 => exact Int.natCast_nonneg _); (case aB => repeat (first | exact HB.out | apply below_drew1)); (case aS => exact HB.out.size); (case aL => have := HN.out; simp; omega); intro v1 w1 ho hb _ _; have HR1 := Aside0.mk ho; have HB1 := Aside0.mk hb; obtain ⟨A1, c1, rfl⟩ := Kd.R_slice ho; clear ho hb)
    go_ret
    exact ⟨_, rfl, Kd.R_take HR1.out (Nat.zero_le _), HB1.out⟩
def catN (l0 l1 : List Int) : Nat → List Int
  | 0 => []
  | 1 => l0
  | _ => l0 ++ l1
theorem cell_kept {w w' : World} {p : Addr} {v : Value} (h : w.cell? p = some v) (hb : Below w.heap.size w w') : w'.cell? p = some v := by
  have hl : p.block < w.heap.size := by
    refine Nat.lt_of_not_le fun hn => ?_
    unfold World.cell? at h
    rw [Array.getElem?_eq_none hn] at h
    simp at h
  unfold World.cell? at h ⊢
  rw [hb.block p.block hl]
  exact h
/-- Two slices, one behind the other. -/
theorem concat2 (B : Nat) (A0 A1 : Option Addr) (c0 c1 : Nat) (l0 l1 : List Int) (w : World)
    (g0 : w.cell? ⟨B, 0, none⟩ = some (.slice A0 l0.length c0)) (g1 : w.cell? ⟨B, 1, none⟩ = some (.slice A1 l1.length c1))
    (hr0 : Kd.C (Kd.int .u8) w A0 l0.length l0) (hr1 : Kd.C (Kd.int .u8) w A1 l1.length l1) (hm : l0.length + l1.length ≤ 10000000) :
    Calls Try.prog 41 #[.slice (some ⟨B, 0, none⟩) 2 2] w fun e w' => ∃ v0_ : Value, e = .returned v0_ ∧ Kd.R (Kd.int .u8) 5 w' w.heap.size (fun _ => True) v0_ (l0 ++ l1) ∧ Below w.heap.size w w' := by
  have HM := Aside0.mk hm
  have HC := Aside0.mk (And.intro hr0 hr1)
  have HG := Aside0.mk (And.intro g0 g1)
  obtain ⟨a, ha⟩ : ∃ a, a = l0.length := ⟨_, rfl⟩
  obtain ⟨b, hb⟩ : ∃ b, b = l1.length := ⟨_, rfl⟩
  have HA := Aside0.mk ha
  have HB := Aside0.mk hb
  have e1 : wrap64 (l0.length : Int) = (l0.length : Int) := wrap_id (by omega) (by omega)
  have e2 : wrap64 ((l0.length : Int) + (l1.length : Int)) = (l0.length : Int) + (l1.length : Int) := wrap_id (by omega) (by omega)
  have d1 : decide ((l0.length : Int) < 0) = false := decide_eq_false (by omega)
  have d2 : decide ((l0.length : Int) + (l1.length : Int) < 0) = false := decide_eq_false (by omega)
  clear ha hb hm hr0 hr1
  go_enter Try.func41, Try.ntmps41
  go_wp2_with fail
  go_loopw [3, 11] (fun v3 v11 w' => (v11 = .int .i64 0 ∧ v3 = .int .i64 0 ∨ v11 = .int .i64 1 ∧ v3 = .int .i64 (l0.length : Int) ∨ v11 = .int .i64 2 ∧ v3 = .int .i64 ((l0.length : Int) + (l1.length : Int))) ∧ w' = w) (fun _ v _ => 2 - (intOf v).toNat)
  case atStart => exact ⟨.inl ⟨rfl, rfl⟩, rfl⟩
  case round =>
    obtain ⟨hrel, hw⟩ := hrel
    replace hw := hw.symm
    subst hw
    obtain ⟨rfl, rfl⟩ | ⟨rfl, rfl⟩ | ⟨rfl, rfl⟩ := hrel
    · go_wp2
      go_roundw
      case rel => exact ⟨by simp [e1, e2], by first | trivial | rfl⟩
      case measure => simp [intOf]
    · go_wp2
      go_roundw
      case rel => exact ⟨by simp [e1, e2], by first | trivial | rfl⟩
      case measure => simp [intOf]
    · go_wp2_with fail
      have hgr := grow_nil (l0.length + l1.length) HM.out w
      rw [show ((l0.length + l1.length : Nat) : Int) = (l0.length : Int) + (l1.length : Int) by omega] at hgr
      refine hgr.mono ?_
      rintro e w1 ⟨v6, rfl, hR, hB1⟩
      have HR := Aside0.mk hR
      have HB1 := Aside0.mk hB1
      clear hgr hR hB1 e1 e2 d1 d2 g0 g1
      go_wp2_with fail
      go_loopw [6, 27] (fun v6 v27 w' => ∃ i : Nat, i ≤ 2 ∧ v27 = .int .i64 (i : Int) ∧ Aside0 (Kd.R (Kd.int .u8) 5 w' w.heap.size (fun _ => True) v6 (catN l0 l1 i)) ∧ Aside0 (Below w.heap.size w w')) (fun _ v _ => 2 - (intOf v).toNat)
      case atStart => exact ⟨0, by omega, rfl, HR, HB1⟩
      case round =>
        obtain ⟨i, hi, rfl, HR, HB1⟩ := hrel
        have hc : i = 0 ∨ i = 1 ∨ i = 2 := by omega
        clear hi
        obtain rfl | rfl | rfl := hc
        · have g := cell_kept HG.out.1 HB1.out
          rw [show (((0 : Nat)) : Int) = 0 from rfl]
          go_wp2_with (at_builtin; (refine Kd.R_append_row (w0 := w) (Value.int .u8) (0 : Int) (h1 := fun _ => rfl) w.heap.size rfl (.tmp 31) (.tmp 32) 22 5 (.int .u8 0) 1 rfl Try.underlying22 Pol.info_u8 rfl Nat.one_pos _ ([] : List Int) l0 A0 l0.length c0 (fun _ => True) rfl rfl (fun _ _ => trivial) ?q1 ?q2 ?q3 ?q4 ?q5 ?_; (case q1 => exact HR.out); (case q2 => exact Kd.C_below HC.out.1 HB1.out); (case q3 => exact HB1.out); (case q4 => exact HB1.out.size); (case q5 => have := HM.out; simp; omega); intro v8 w8 hR hB8 _ _; have HR8 := Aside0.mk (show (Kd.int .u8).R 5 w8 w.heap.size (fun _ => True) v8 (catN l0 l1 1) from hR); have HB8 := Aside0.mk hB8; clear hR hB8))
          go_roundw
          case rel => exact ⟨1, by omega, rfl, HR8, HB8⟩
          case measure => simp [intOf]
        · have g := cell_kept HG.out.2 HB1.out
          rw [show (((1 : Nat)) : Int) = 1 from rfl]
          go_wp2_with (at_builtin; (refine Kd.R_append_row (w0 := w) (Value.int .u8) (0 : Int) (h1 := fun _ => rfl) w.heap.size rfl (.tmp 31) (.tmp 32) 22 5 (.int .u8 0) 1 rfl Try.underlying22 Pol.info_u8 rfl Nat.one_pos _ l0 l1 A1 l1.length c1 (fun _ => True) rfl rfl (fun _ _ => trivial) ?q1 ?q2 ?q3 ?q4 ?q5 ?_; (case q1 => exact HR.out); (case q2 => exact Kd.C_below HC.out.2 HB1.out); (case q3 => exact HB1.out); (case q4 => exact HB1.out.size); (case q5 => have := HM.out; simp; omega); intro v8 w8 hR hB8 _ _; have HR8 := Aside0.mk (show (Kd.int .u8).R 5 w8 w.heap.size (fun _ => True) v8 (catN l0 l1 2) from hR); have HB8 := Aside0.mk hB8; clear hR hB8))
          go_roundw
          case rel => exact ⟨2, by omega, rfl, HR8, HB8⟩
          case measure => simp [intOf]
        · rw [show (((2 : Nat)) : Int) = 2 from rfl]
          go_wp2
          go_ret
          exact ⟨_, rfl, HR.out, HB1.out⟩
end Go.Proofs.Ythahhjkokdillaa
