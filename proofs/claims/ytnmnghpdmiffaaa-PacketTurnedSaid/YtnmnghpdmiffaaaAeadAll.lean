/-
  Several parts of the proof, one behind the other: Aead, UAeadx0, UAeadx1, AeadG, AeadH, TagA, Tag, USealx0, USealx1, Seal, Bits, Stream, StrN, PolyC1, SealP, UBookx0, UBookx1, Book, Cut, Roomy. No statement of the program is proved here.
-/
import Derived.Test.YtnmnghpdmiffaaaPolyS
import Derived.Deep.Cut
import Derived.Test.YtnmnghpdmiffaaaProg
import Derived.Below
import Derived.Deep.Draws
import Derived.Deep.AppendLies
import Derived.Maps.AppendAt
import Derived.OwnWalk
import Derived.Laws.BytesArg
import Derived.Laws.MakeOwn
import Derived.Laws.OwnMore
import Derived.Deep.OwnRows
import Derived.Tactics
import Derived.Lib.ConvBytes
import Derived.Laws.Slices
import Derived.WalkKit
import Derived.KernelRfl
import Derived.RowKit3
import Derived.Deep.LoopGhost
import Derived.Deep.QuietTactic
import Derived.BigQuiet
import Derived.WideLaws
import Derived.Deep.DeepCutAuto
import Derived.Deep.CutBlock
import Derived.Deep.RegionHeld3
import Derived.Laws.Rows
import Derived.Lib.AppendStr
import Derived.ArgAppend
import Derived.Laws.IdiomCopy
import Derived.OrdersHeld
import Derived.Laws.BitsLemmas
import Derived.RowKit
import Derived.Test.YtnmnghpdmiffaaaWWords
import Derived.Test.YtnmnghpdmiffaaaWLast
import Derived.Test.YtnmnghpdmiffaaaWTab
import Derived.Test.YtnmnghpdmiffaaaWFour
import Derived.Test.YtnmnghpdmiffaaaWQPut
import Derived.Test.YtnmnghpdmiffaaaWApart
import Derived.Test.YtnmnghpdmiffaaaWArr
import Derived.Test.YtnmnghpdmiffaaaWZeros
import Derived.Test.YtnmnghpdmiffaaaWFoot
import Derived.Test.YtnmnghpdmiffaaaWKept
import Derived.Test.YtnmnghpdmiffaaaWShare
import Derived.Test.YtnmnghpdmiffaaaWN
import Derived.Test.YtnmnghpdmiffaaaWFootNe
import Derived.Test.YtnmnghpdmiffaaaWAt
import Derived.Test.YtnmnghpdmiffaaaWEqStruct
import Derived.Test.YtnmnghpdmiffaaaWRepsOne
import Derived.Test.YtnmnghpdmiffaaaWInv
import Derived.Test.YtnmnghpdmiffaaaWInvWords
import Derived.Test.YtnmnghpdmiffaaaWGuard
import Derived.Test.YtnmnghpdmiffaaaWNEv
import Derived.Test.YtnmnghpdmiffaaaWMore
import Derived.Test.YtnmnghpdmiffaaaChachaX
import Derived.Test.YtnmnghpdmiffaaaChachaG
import Derived.Test.YtnmnghpdmiffaaaPolyT
import Derived.Test.YtnmnghpdmiffaaaArr
import Derived.Test.YtnmnghpdmiffaaaPolyH
/- Part Aead. -/
namespace Go.Proofs.Ytnmnghpdmiffaaa
open Go.RowKit Go.Proofs.YtnmnghpdmiffaaaW.PrintWords Go.Proofs.Ytnmnghpdmiffaaa.Arr
set_option maxRecDepth 100000
theorem bin_nil {P : Program} {t el : TypeId} (ht : P.underlying t = some (.slice el)) (A : Option Addr) (w : World) (n c : Nat) : (binOp .eql t (.slice A n c) (.slice none 0 0)).run P w = .ok (.bool A.isNone) w := by
  have hb : binOp .eql t (.slice A n c) (.slice none 0 0) = (do pure (.bool (← Op.equal t (.slice A n c) (.slice none 0 0)))) := rfl
  have he : (Op.equal t (.slice A n c) (.slice none 0 0)).run P w = .ok A.isNone w := by
    show (Op.equalIn (9999 + 1) t _ _).run P w = _
    unfold Op.equalIn
    cases A <;> simp [run_underlying ht]
  rw [hb]
  simp [he]
set_option maxHeartbeats 2000000
set_option maxRecDepth 100000
theorem slices_Clone.calls (A0 : Option Addr) (c0 : Nat) (l0 : List Int) (w : World) (hr0 : Kd.C (Kd.int .u8) w A0 l0.length l0) (hc0 : l0.length ≤ c0) (hm : l0.length ≤ 1000000) :
    Calls Try.prog 31 #[.slice A0 l0.length c0] w fun e w' => ∃ v0_ : Value, e = .returned v0_ ∧ Kd.R (Kd.int .u8) 5 w' w.heap.size (fun _ => True) v0_ l0 ∧ Below w.heap.size w w' := by
  have HR0 := Aside0.mk hr0
  have HC0 := Aside0.mk hc0
  clear hr0 hc0
  rcases A0 with _ | ad
  · have hq := fun w n c => bin_nil (P := Try.prog) Try.underlying23 none w n c
    obtain rfl : l0 = [] := by
      rcases Nat.eq_zero_or_pos l0.length with h | h
      · exact List.length_eq_zero_iff.1 h
      · obtain ⟨ad, h1, _⟩ := HR0.out.2.2 h
        cases h1
    go_enter Try.func31, Try.ntmps31
    go_wp2
    go_ret
    exact ⟨_, rfl, Kd.R_nil .., Below.refl _ _⟩
  · have hq := fun w n c => bin_nil (P := Try.prog) Try.underlying23 (some ad) w n c
    have Z1 := Aside0.mk (lit_R w w.heap.size w.heap.size 5 .u8 [] 0 rfl (Nat.le_refl _) rfl (by decide))
    have B1 := Aside0.mk (show Below w.heap.size w (w.alloc (.cells #[] 5)) from (Below.refl _ _).alloc (Nat.le_refl _) _)
    have HL0 := Aside0.mk (show (0 + l0.length) * 1 ≤ 140737488355328 by omega)
    go_enter Try.func31, Try.ntmps31
    go_wp2_with ((with_reducible refine gate_builtin (b := .append) (xs := #[.tmp 5, .tmp 6]) rfl ?_); at_builtin; (refine Kd.R_append_row (w0 := w) (Value.int .u8) (0 : Int) (h1 := fun _ => rfl) w.heap.size rfl (.tmp 5) (.tmp 6) 23 5 (.int .u8 0) 1 rfl Try.underlying23 Pol.info_u8 rfl Nat.one_pos _ [] l0 (some ad) l0.length c0 (fun _ => True) rfl rfl (fun _ _ => trivial) ?q1 ?q2 ?q3 ?q4 ?q5 ?_; (case q1 => exact Z1.out); (case q2 => exact Kd.C_below HR0.out B1.out); (case q3 => exact B1.out); (case q4 => exact B1.out.size); (case q5 => exact HL0.out); intro v8 w8 hR hB8 _ _; have HR8 := Aside0.mk (show (Kd.int .u8).R 5 w8 w.heap.size (fun _ => True) v8 l0 from hR); have HB8 := Aside0.mk hB8; clear hR hB8))
    go_ret
    exact ⟨_, rfl, HR8.out, HB8.out⟩
end Go.Proofs.Ytnmnghpdmiffaaa

/- Part UAeadx0. -/
-- written by a program (wip/gen/myprint.py) for this claim, out of the translation's print and of contracts proved by hand
namespace Go.Proofs.Ytnmnghpdmiffaaa.UAead
open Go.RowKit Go.Proofs.YtnmnghpdmiffaaaW.PrintWords Go.Proofs.YtnmnghpdmiffaaaW.PrintLast Go.Proofs.YtnmnghpdmiffaaaW.PrintMore
attribute [local go_sem] max2_int min2_int max_two min_two max_three min_three max_four min_four   -- for this text's walks alone
set_option linter.unusedVariables false
set_option linter.unusedSimpArgs false



def errW : Option Int → Value
  | none => .nilIface
  | some c => .iface 0 (.int .i64 c)
theorem errW_none : errW none = .nilIface := rfl
theorem errW_some (c : Int) : errW (some c) = .iface 0 (.int .i64 c) := rfl

theorem info5 : (Try.prog.info? 5).map (fun i => (i.zero, i.size, i.bytes)) = some (some (.int .u8 0), 1, 1) := by kernel_rfl
-- the values' own types

end Go.Proofs.Ytnmnghpdmiffaaa.UAead

/- Part UAeadx1. -/
-- written by a program (wip/gen/myprint.py) for this claim, out of the translation's print and of contracts proved by hand
namespace Go.Proofs.Ytnmnghpdmiffaaa.UAead
open Go.RowKit Go.Proofs.YtnmnghpdmiffaaaW.PrintWords Go.Proofs.YtnmnghpdmiffaaaW.PrintLast Go.Proofs.YtnmnghpdmiffaaaW.PrintMore
attribute [local go_sem] max2_int min2_int max_two min_two max_three min_three max_four min_four   -- for this text's walks alone
set_option linter.unusedVariables false
set_option linter.unusedSimpArgs false

/-! ### aead_even: function 56 -/
def aead_even.f (l0 : List Int) : Option (List Int) := if 0 ≤ ((16 - ((l0.length : Int) % 16)) % 16) then (if l0.length + ((16 - ((l0.length : Int) % 16)) % 16 : Int).toNat < 140737488355328 then (some (l0 ++ List.replicate ((16 - ((l0.length : Int) % 16)) % 16 : Int).toNat 0)) else (none)) else (none)
set_option maxHeartbeats 8000000 in
set_option maxRecDepth 100000 in
theorem aead_even.calls (P0_ : Nat → Prop) (u9000_ : Value) (l0 : List Int) (r : List Int) (w0 w : World) (hB : Below w0.heap.size w0 w) (ho0 : Kd.R (Kd.int .u8) 5 w w0.heap.size P0_ u9000_ l0) (h : aead_even.f l0 = some r) :
    Calls Try.prog 56 #[u9000_] w fun e w' => ∃ v0_ : Value, e = .returned (v0_) ∧ Kd.R (Kd.int .u8) 5 w' w0.heap.size (fun k_ => (P0_ k_ ∨ w.heap.size ≤ k_)) v0_ r ∧ Below w0.heap.size w0 w' ∧ Kept w w' (fun k_ => P0_ k_) := by
  have HO0 := Aside0.mk (show Kd.R (Kd.int .u8) 5 w w0.heap.size (fun k_ => (P0_ k_ ∨ w.heap.size ≤ k_)) u9000_ l0 from Kd.R_mono ho0 (fun k_ hk => (.inl hk)))
  have HK := Aside0.mk (Kept.refl w (fun k_ => P0_ k_))
  have HW0 := Aside0.mk hB.size
  have HB := Aside0.mk hB
  clear hB
  have H : (if 0 ≤ ((16 - ((l0.length : Int) % 16)) % 16) then (if l0.length + ((16 - ((l0.length : Int) % 16)) % 16 : Int).toNat < 140737488355328 then (some (l0 ++ List.replicate ((16 - ((l0.length : Int) % 16)) % 16 : Int).toNat 0)) else (none)) else (none)) = some r := h
  clear h
  obtain ⟨ji2, hji2⟩ : ∃ j_ : Int, ((16 - ((l0.length : Int) % 16)) % 16) = j_ := ⟨_, rfl⟩
  replace H : (if 0 ≤ (ji2) then (if l0.length + (ji2 : Int).toNat < 140737488355328 then (some (l0 ++ List.replicate (ji2 : Int).toNat 0)) else (none)) else (none)) = some r := by first | (rw [hji2] at H; exact H) | (simp only [hji2] at H ⊢; exact H)
  by_cases c3 : 0 ≤ (ji2)
  · rw [if_pos c3] at H
    have c3b0 := eq_true c3
    have c3b1 : decide (0 ≤ (ji2)) = true := decide_eq_true c3
    clear c3
    by_cases c4 : l0.length + (ji2 : Int).toNat < 140737488355328
    · rw [if_pos c4] at H
      have LMc4 := Aside0.mk c4
      clear c4
      obtain ⟨y101, hy101⟩ : ∃ y_ : List Int, y_ = (l0 ++ List.replicate (ji2 : Int).toNat 0) := ⟨_, rfl⟩
      replace H : (some y101) = some r := by first | (rw [hy101]; with_reducible exact H) | (have H2_ := (Option.bind_some _ _).symm.trans H; rw [hy101]; with_reducible exact H2_) | (have H2_ := (Option.bind_some _ _).symm.trans H; with_reducible exact H2_) | with_reducible exact H | (rw [hy101]; exact H) | exact H
      have Ny101 := Aside0.mk hy101
      clear hy101
      obtain rfl := Option.some.inj H
      obtain ⟨Ao5, co5, eo5⟩ := Kd.R_slice HO0.out
      subst eo5
      go_enter Try.func56, Try.ntmps56
      go_wp2_with (first | (at_builtin; refine Kd.R_append_zeros (Kd.int .u8) (w0 := w0) w0.heap.size rfl (.tmp 3) (.tmp 8) 23 3 5 (.int .u8 0) 1 rfl Try.underlying23 Try.underlying3 info5 rfl (by decide) (by omega) (.slice Ao5 l0.length co5) l0 0 (ji2 : Int) (fun k_ => (P0_ k_ ∨ w.heap.size ≤ k_)) rfl (by first | rfl | (rw [← hji2]; rfl)) rfl ?aF ?aO (of_decide_eq_true (by first | (with_reducible assumption) | assumption)) ?aB ?aS ?aL ?_; (case aB => exact (by repeat (first | (with_reducible first | exact HB.out | apply below_alloc | apply pw_below_drewN | apply below_drew1) | exact HB.out))); (case aF => exact (fun k_ hk => (.inr (Nat.le_trans (by first | exact HK.out.1 | exact (show Kept w _ (fun k_ => P0_ k_) from by repeat (first | (with_reducible first | exact HK.out | apply Kept.alloc | apply Kept.drewN | apply Kept.drew) | exact HK.out)).1) hk)))); (case aO => exact (by (with_reducible repeat (first | apply Kd.R_alloc | apply Kd.R_drewN | apply Kd.R_drew)); exact HO0.out)); (case aS => exact (below_size (by repeat (first | (with_reducible first | exact HB.out | apply below_alloc | apply pw_below_drewN | apply below_drew1) | exact HB.out)))); (case aL => have := LMc4.out; omega); intro v102 w6 ho hb hg hat; rw [← Ny101.out] at ho; have n0_ := Aside0.mk (hb); have n1_ := Aside0.mk (Kept.of_grown (S := (fun k_ => P0_ k_)) hg (by repeat (first | (with_reducible first | exact HK.out | apply Kept.alloc | apply Kept.drewN | apply Kept.drew) | exact HK.out)) (fun k_ e_ => (HO0.out.1 k_ e_))); have n2_ := Aside0.mk (ho); clear HB; clear HK; clear HO0; have HB := n0_; have HK := n1_; have HO103 := n2_; clear n0_ n1_ n2_; clear ho hb hg hat))
      go_ret
      exact ⟨_, by first | rfl | (simp [errW_none, errW_some] <;> rfl) | (simp only [← hji2]; first | rfl | (simp [errW_none, errW_some] <;> rfl)) | (simp [*, errW_none, errW_some] <;> rfl), by (with_reducible repeat (first | apply Kd.R_alloc | apply Kd.R_drewN | apply Kd.R_drew)); exact HO103.out, by repeat (first | (with_reducible first | exact HB.out | apply below_alloc | apply pw_below_drewN | apply below_drew1) | exact HB.out), by repeat (first | (with_reducible first | exact HK.out | apply Kept.alloc | apply Kept.drewN | apply Kept.drew) | exact HK.out)⟩
    · rw [if_neg c4] at H
      exact absurd H (by simp)
  · rw [if_neg c3] at H
    exact absurd H (by simp)

/-! ### aead_size: function 58 -/
def aead_size.l0 : Nat → Int → List Int → Int → Int → Option (List Int)
  | 0, _, _, _, _ => none
  | k + 1, x0, x3, x7, x8 => if x8 < x7 then (if 0 ≤ (wrap64 (8 * x8)) then (if 0 ≤ x8 then (if x8 < (x3.length : Int) then (aead_size.l0 k x0 (x3.set (x8 : Int).toNat ((shr .u64 (IntKind.u64.wrap (x0)) (wrap64 (8 * x8))) % 256)) x7 (wrap64 (x8 + 1))) else (none)) else (none)) else (none)) else (some x3)
def aead_size.f (k : Nat) (a0 : Int) : Option (List Int) := if 8 ≤ 281474976710656 then ((some (List.replicate 8 0 : List Int)).bind fun y104 => (aead_size.l0 k a0 y104 (y104.length : Int) 0)) else (none)
theorem aead_size.mono_l : ∀ k, (∀ y0 y1 y2 y3, LeO (aead_size.l0 k y0 y1 y2 y3) (aead_size.l0 (k + 1) y0 y1 y2 y3))
  | 0 => fun _ _ _ _ r h => by simp [aead_size.l0] at h
  | k + 1 => by
    have ih0 := aead_size.mono_l k
    · intro y0 y1 y2 y3
      unfold aead_size.l0
      repeat' first
      | (with_reducible exact ih0 _ _ _ _)
      | (with_reducible exact LeO.refl _)
      | (with_reducible exact LeO.none _)
      | (with_reducible refine LeO.ite ?_ ?_)
      | (with_reducible refine LeO.bind ?_ (fun _ => ?_))
      | exact ih0 _ _ _ _
      | exact LeO.none _
      | refine LeO.ite ?_ ?_
      | refine LeO.bind ?_ (fun _ => ?_)
theorem aead_size.mono : ∀ a0 k, LeO (aead_size.f k a0) (aead_size.f (k + 1) a0) := by
  intro a0 k
  have ih0 := aead_size.mono_l k
  unfold aead_size.f
  repeat' first
      | (with_reducible exact ih0 _ _ _ _)
      | (with_reducible exact LeO.refl _)
      | (with_reducible exact LeO.none _)
      | (with_reducible refine LeO.ite ?_ ?_)
      | (with_reducible refine LeO.bind ?_ (fun _ => ?_))
      | exact ih0 _ _ _ _
      | exact LeO.none _
      | refine LeO.ite ?_ ?_
      | refine LeO.bind ?_ (fun _ => ?_)
set_option maxHeartbeats 8000000 in
set_option maxRecDepth 100000 in
theorem aead_size.calls (k : Nat) (a0 : Int) (r : List Int) (w : World) (h : aead_size.f k a0 = some r) :
    Calls Try.prog 58 #[.int .i64 a0] w fun e w' => ∃ v0_ : Value, e = .returned (v0_) ∧ Kd.R (Kd.int .u8) 5 w' w.heap.size (fun _ => True) v0_ r ∧ Below w.heap.size w w' := by
  have HB := Aside0.mk (Below.refl w.heap.size w)
  have H : (if 8 ≤ 281474976710656 then ((some (List.replicate 8 0 : List Int)).bind fun y104 => (aead_size.l0 k a0 y104 (y104.length : Int) 0)) else (none)) = some r := h
  clear h
  by_cases c2 : 8 ≤ 281474976710656
  · rw [if_pos c2] at H
    have c2b0 := eq_true c2
    have c2b1 : decide (8 ≤ 281474976710656) = true := decide_eq_true c2
    clear c2
    obtain ⟨y104, hy104⟩ : ∃ y_ : List Int, y_ = (List.replicate 8 0) := ⟨_, rfl⟩
    replace H : (aead_size.l0 k a0 y104 (y104.length : Int) 0) = some r := by first | (rw [hy104]; with_reducible exact H) | (have H2_ := (Option.bind_some _ _).symm.trans H; rw [hy104]; with_reducible exact H2_) | (have H2_ := (Option.bind_some _ _).symm.trans H; with_reducible exact H2_) | with_reducible exact H | (rw [hy104]; exact H) | exact H
    have Ny104 := Aside0.mk hy104
    clear hy104
    have H' := Aside0.mk H
    clear H
    go_enter Try.func58, Try.ntmps58
    go_wp2_with (first | ((with_reducible refine gate_dst (N := 5) rfl ?_); refine Kd.R_make (Kd.int .u8) _ 5 rfl (N := 5) rfl 23 _ _ rfl 8 rfl rfl Try.underlying23 (.int .u8 0) 1 info5 rfl (by decide) (by omega) 0 (ok := fun _ => True) (okp := fun _ => True) rfl (fun _ hk => hk) trivial (by omega) (by omega) (Below.refl _ _) (Nat.le_refl _) ?_; intro v105 w3 ho4 hb hg_ hnew_; clear hg_ hnew_; (first | rw [← Ny104.out] at ho4 | (simp only [Int.reduceToNat] at ho4; rw [← Ny104.out] at ho4)); have n0_ := Aside0.mk (Kd.R_lower ho4 (below_size (by repeat (first | (with_reducible first | exact HB.out | apply below_alloc | apply pw_below_drewN | apply below_drew1) | exact HB.out)))); have n1_ := Aside0.mk (below_step (by repeat (first | (with_reducible first | exact HB.out | apply below_alloc | apply pw_below_drewN | apply below_drew1) | exact HB.out)) hb); clear HB; have HO106 := n0_; have HB := n1_; clear n0_ n1_; clear hb ho4; obtain ⟨Ao5, co5, eo5⟩ := Kd.R_slice HO106.out; subst eo5))
    go_loopg [8] k (fun kq v8 w' => ∃ (x3_1 : List Int) (x8_1 : Int), v8 = .int .i64 x8_1 ∧ Aside0 (aead_size.l0 kq a0 x3_1 (y104.length : Int) x8_1 = some r) ∧ Aside0 (kq ≤ k) ∧ Aside0 (Kd.R (Kd.int .u8) 5 w' w.heap.size (fun _ => True) (.slice Ao5 y104.length co5) x3_1) ∧ Aside0 (Below w.heap.size w w'))
    case atStart => exact ⟨(y104), (0), (by first | rfl | (simp; done) | (simp [*]; done)), H', ⟨Nat.le_refl _⟩, ⟨by (with_reducible repeat (first | apply Kd.R_alloc | apply Kd.R_drewN | apply Kd.R_drew)); exact HO106.out⟩, ⟨by repeat (first | (with_reducible first | exact HB.out | apply below_alloc | apply pw_below_drewN | apply below_drew1) | exact HB.out)⟩⟩
    case round =>
      clear H'
      try clear c2
      try clear c2b0
      try clear c2b1
      try clear p2
      try clear c5
      obtain ⟨x3_1, x8_1, rfl, HA, HK1, HO_3, HB⟩ := hrel
      have hl3_1 := (Kd.R_reads' HO_3.out).1
      rw [hl3_1] at HO_3
      (try simp only [hl3_1])
      cases gk with
      | zero => exact absurd HA.out (by simp [aead_size.l0])
      | succ k1 =>
        have H := HA.out
        clear HA
        simp only [aead_size.l0] at H
        by_cases c6 : x8_1 < (y104.length : Int)
        · rw [if_pos c6] at H
          have c6b0 : decide (x8_1 < (y104.length : Int)) = true := decide_eq_true c6
          clear c6
          obtain ⟨ji7, hji7⟩ : ∃ j_ : Int, (wrap64 (8 * x8_1)) = j_ := ⟨_, rfl⟩
          replace H : (if 0 ≤ (ji7) then (if 0 ≤ x8_1 then (if x8_1 < (x3_1.length : Int) then (aead_size.l0 k1 a0 (x3_1.set (x8_1 : Int).toNat ((shr .u64 (IntKind.u64.wrap (a0)) (ji7)) % 256)) (y104.length : Int) (wrap64 (x8_1 + 1))) else (none)) else (none)) else (none)) = some r := by first | (rw [hji7] at H; exact H) | (simp only [hji7] at H ⊢; exact H)
          have hji7w : (IntKind.i64.wrap (8 * x8_1)) = ji7 := (i64_w _).trans hji7
          by_cases c8 : 0 ≤ (ji7)
          · rw [if_pos c8] at H
            have c8b0 := eq_true c8
            have c8b1 : decide (0 ≤ (ji7)) = true := decide_eq_true c8
            clear c8
            obtain ⟨ji9, hji9⟩ : ∃ j_ : Int, (shr .u64 (IntKind.u64.wrap (a0)) (ji7)) = j_ := ⟨_, rfl⟩
            replace H : (if 0 ≤ x8_1 then (if x8_1 < (x3_1.length : Int) then (aead_size.l0 k1 a0 (x3_1.set (x8_1 : Int).toNat ((ji9) % 256)) (y104.length : Int) (wrap64 (x8_1 + 1))) else (none)) else (none)) = some r := by first | (rw [hji9] at H; exact H) | (simp only [hji9] at H ⊢; exact H)
            have hji9_ : ((IntKind.u64.wrap (a0)) / 2 ^ min (ji7).toNat 64) = ji9 := hji9
            have hji9z : (ji7) ≤ 64 → ((IntKind.u64.wrap (a0)) / 2 ^ (ji7).toNat) = ji9 := shr_small hji9
            by_cases c10 : 0 ≤ x8_1
            · rw [if_pos c10] at H
              have c10b0 : decide (0 ≤ x8_1) = true := decide_eq_true c10
              clear c10
              by_cases c11 : x8_1 < (x3_1.length : Int)
              · rw [if_pos c11] at H
                have c11b0 : decide (x8_1 < (x3_1.length : Int)) = true := decide_eq_true c11
                clear c11
                obtain ⟨y107, hy107⟩ : ∃ y_ : List Int, y_ = (x3_1.set (x8_1 : Int).toNat ((ji9) % 256)) := ⟨_, rfl⟩
                replace H : (aead_size.l0 k1 a0 y107 (y104.length : Int) (wrap64 (x8_1 + 1))) = some r := by first | (rw [hy107]; with_reducible exact H) | (have H2_ := (Option.bind_some _ _).symm.trans H; rw [hy107]; with_reducible exact H2_) | (have H2_ := (Option.bind_some _ _).symm.trans H; with_reducible exact H2_) | with_reducible exact H | (rw [hy107]; exact H) | exact H
                have Ny107 := Aside0.mk hy107
                clear hy107
                have H' := Aside0.mk H
                clear H
                have p12 : 0 ≤ (x8_1 : Int) := of_decide_eq_true (by first | (with_reducible assumption) | assumption)
                have q12 : (x8_1 : Int) < ((x3_1.length : Int) : Int) := of_decide_eq_true (by first | (with_reducible assumption) | assumption)
                obtain ⟨go12, co12, eo12, gb12, gl12, cl12, HG12⟩ := Kd.R_form HO_3.out (by omega)
                (first | cases eo12 | (injection eo12 with ea_ en_ ec_; (first | subst ea_ | (injection ea_ with ea_; subst ea_)); subst ec_; clear en_))
                have GB12 := Aside0.mk gb12
                have GG12 := Aside0.mk HG12
                clear gb12 gl12 HG12
                obtain ⟨hx12_0, hf12_0⟩ := Kd.R_celln 0 HO_3.out (x8_1 : Int) p12 q12
                replace p12 := eq_true p12
                replace q12 := eq_true q12
                have HP13 := Kd.R_putg HO_3.out (x8_1 : Int) ((ji9) % 256)
                go_wp2_with (first | ((with_reducible refine gate_store (t := 5) (p := 19) rfl ?_); refine store_event (t := 5) (p := 19) (v := ?vo_w14) (w1 := (wr.setCell ⟨go12, (x8_1 : Int).toNat, none⟩ (.int .u8 ((ji9) % 256)))) ?hg ?ho ?hn ?hr ?_; (case ho => rfl); (case hg => rfl); (case hn => rfl); (case hr => first | (go_simp; done) | (go_simp; rfl)); intro w14 hw; have hg : wr.grownBy w14 (some go12) := (by rw [hw]; exact HP13.2); have hp_ : Kd.R (Kd.int .u8) 5 w14 w.heap.size (fun _ => True) (.slice (some ⟨go12, 0, none⟩) x3_1.length co5) y107 := (by rw [hw, Ny107.out]; exact HP13.1); clear HP13; have n0_ := Aside0.mk (hp_); have n1_ := Aside0.mk ((by rw [hw]; exact below_set (HB.out) GB12.out : Below w.heap.size w w14)); clear HO_3; clear HB; have HO_3 := n0_; have HB := n1_; clear n0_ n1_; clear hg hw hp_))
                (try simp only [← hl3_1])
                go_roundg k1
                case measure => have := HK1.out; omega
                case rel => exact ⟨(y107), (wrap64 (x8_1 + 1)), (by first | rfl | (simp; done) | (simp [*]; done)), H', ⟨by have := HK1.out; omega⟩, ⟨by (try simp only [hl3_1]); (with_reducible repeat (first | apply Kd.R_alloc | apply Kd.R_drewN | apply Kd.R_drew)); exact HO_3.out⟩, ⟨by repeat (first | (with_reducible first | exact HB.out | apply below_alloc | apply pw_below_drewN | apply below_drew1) | exact HB.out)⟩⟩
              · rw [if_neg c11] at H
                exact absurd H (by simp)
            · rw [if_neg c10] at H
              exact absurd H (by simp)
          · rw [if_neg c8] at H
            exact absurd H (by simp)
        · rw [if_neg c6] at H
          have c6b0 : decide (x8_1 < (y104.length : Int)) = false := decide_eq_false c6
          (try simp only [hl3_1] at c6b0)
          clear c6
          obtain rfl := Option.some.inj H
          go_wp2
          go_ret
          exact ⟨_, by first | rfl | (simp [errW_none, errW_some] <;> rfl) | (simp [*, errW_none, errW_some] <;> rfl), by (with_reducible repeat (first | apply Kd.R_alloc | apply Kd.R_drewN | apply Kd.R_drew)); exact HO_3.out, by repeat (first | (with_reducible first | exact HB.out | apply below_alloc | apply pw_below_drewN | apply below_drew1) | exact HB.out)⟩
  · rw [if_neg c2] at H
    exact absurd H (by simp)

end Go.Proofs.Ytnmnghpdmiffaaa.UAead

/- Part AeadG. -/
namespace Go.Proofs.Ytnmnghpdmiffaaa
open Go.RowKit Go.Proofs.YtnmnghpdmiffaaaW.PrintWords Go.Proofs.YtnmnghpdmiffaaaW.PrintLast Go.Proofs.YtnmnghpdmiffaaaW.PrintMore Go.Proofs.Ytnmnghpdmiffaaa.Arr
set_option maxRecDepth 100000
set_option maxHeartbeats 2000000
set_option maxRecDepth 100000
/-- Room for so many bytes behind nothing: no bytes, with a block of their own. -/
theorem grow_nil (n : Nat) (hn : n ≤ 10000000) (w : World) :
    Calls Try.prog 45 #[.slice none 0 0, .int .i64 n] w fun e w' => ∃ v0_ : Value, e = .returned v0_ ∧ Kd.R (Kd.int .u8) 5 w' w.heap.size (fun _ => True) v0_ ([] : List Int) ∧ Below w.heap.size w w' := by
  by_cases h0 : n = 0
  · subst h0
    have hz : ((0 : Nat) : Int) = 0 := rfl
    rw [hz]
    clear hz
    go_enter Try.func45, Try.ntmps45
    go_wp2
    go_ret
    exact ⟨_, rfl, Kd.R_nil .., Below.refl _ _⟩
  · have H0 : decide ((n : Int) < 0) = false := by simp
    have H1 : decide (0 < (n : Int)) = true := by simp; omega
    have H2 : decide (0 < n) = true := by simp; omega
    have HN := Aside0.mk (show 0 < n ∧ n ≤ 10000000 by omega)
    have hw : wrap64 (n : Int) = (n : Int) := wrap_id (by omega) (by omega)
    have Z := Aside0.mk (Kd.R_nil (Kd.int .u8) 5 w w.heap.size (fun _ => True))
    have HB := Aside0.mk (Below.refl w.heap.size w)
    clear h0 hn
    go_enter Try.func45, Try.ntmps45
    go_wp2_with (at_builtin; refine Kd.R_append_zeros (Kd.int .u8) (w0 := w) w.heap.size rfl (.tmp 20) (.tmp 21) 23 3 5 (.int .u8 0) 1 rfl Try.underlying23 Try.underlying3 UAead.info5 rfl (by decide) (by omega) (.slice none 0 0) ([] : List Int) 0 (n : Int) (fun _ => True) rfl (by first | rfl | (rw [hw]; rfl)) rfl ?aF ?aO ?a0 ?aB ?aS ?aL ?_; (case aF => exact fun _ _ => trivial); (case aO => (with_reducible repeat (first | apply Kd.R_drewN | apply Kd.R_drew)); exact Z.out); (case a0 => exact Int.natCast_nonneg _); (case aB => repeat (first | exact HB.out | apply below_drew1)); (case aS => exact HB.out.size); (case aL => have := HN.out; simp; omega); intro v1 w1 ho hb _ _; have HR1 := Aside0.mk ho; have HB1 := Aside0.mk hb; obtain ⟨A1, c1, rfl⟩ := Kd.R_slice ho; clear ho hb)
    go_ret
    exact ⟨_, rfl, Kd.R_take HR1.out (Nat.zero_le _), HB1.out⟩
end Go.Proofs.Ytnmnghpdmiffaaa

/- Part AeadH. -/
namespace Go.Proofs.Ytnmnghpdmiffaaa
open Go.RowKit Go.Proofs.YtnmnghpdmiffaaaW.PrintWords Go.Proofs.YtnmnghpdmiffaaaW.PrintLast Go.Proofs.YtnmnghpdmiffaaaW.PrintMore Go.Proofs.Ytnmnghpdmiffaaa.Arr
set_option maxRecDepth 100000
set_option maxHeartbeats 4000000
set_option maxRecDepth 100000
set_option linter.unusedSimpArgs false
def catN (l0 l1 l2 : List Int) : Nat → List Int
  | 0 => []
  | 1 => l0
  | 2 => l0 ++ l1
  | _ => l0 ++ l1 ++ l2
theorem cell_kept {w w' : World} {p : Addr} {v : Value} (h : w.cell? p = some v) (hb : Below w.heap.size w w') : w'.cell? p = some v := by
  have hl : p.block < w.heap.size := by
    refine Nat.lt_of_not_le fun hn => ?_
    unfold World.cell? at h
    rw [Array.getElem?_eq_none hn] at h
    simp at h
  unfold World.cell? at h ⊢
  rw [hb.block p.block hl]
  exact h
/-- Three slices, one behind the other. -/
theorem concat3 (B : Nat) (A0 A1 A2 : Option Addr) (c0 c1 c2 : Nat) (l0 l1 l2 : List Int) (w : World)
    (g0 : w.cell? ⟨B, 0, none⟩ = some (.slice A0 l0.length c0)) (g1 : w.cell? ⟨B, 1, none⟩ = some (.slice A1 l1.length c1)) (g2 : w.cell? ⟨B, 2, none⟩ = some (.slice A2 l2.length c2))
    (hr0 : Kd.C (Kd.int .u8) w A0 l0.length l0) (hr1 : Kd.C (Kd.int .u8) w A1 l1.length l1) (hr2 : Kd.C (Kd.int .u8) w A2 l2.length l2) (hm : l0.length + l1.length + l2.length ≤ 10000000) :
    Calls Try.prog 33 #[.slice (some ⟨B, 0, none⟩) 3 3] w fun e w' => ∃ v0_ : Value, e = .returned v0_ ∧ Kd.R (Kd.int .u8) 5 w' w.heap.size (fun _ => True) v0_ (l0 ++ l1 ++ l2) ∧ Below w.heap.size w w' := by
  have HM := Aside0.mk hm
  have HC := Aside0.mk (And.intro hr0 (And.intro hr1 hr2))
  have HG := Aside0.mk (And.intro g0 (And.intro g1 g2))
  obtain ⟨a, ha⟩ : ∃ a, a = l0.length := ⟨_, rfl⟩
  obtain ⟨b, hb⟩ : ∃ b, b = l1.length := ⟨_, rfl⟩
  obtain ⟨c, hc⟩ : ∃ c, c = l2.length := ⟨_, rfl⟩
  have HA := Aside0.mk ha
  have HB := Aside0.mk hb
  have HC' := Aside0.mk hc
  have e1 : wrap64 (l0.length : Int) = (l0.length : Int) := wrap_id (by omega) (by omega)
  have e2 : wrap64 ((l0.length : Int) + (l1.length : Int)) = (l0.length : Int) + (l1.length : Int) := wrap_id (by omega) (by omega)
  have e3 : wrap64 ((l0.length : Int) + (l1.length : Int) + (l2.length : Int)) = (l0.length : Int) + (l1.length : Int) + (l2.length : Int) := wrap_id (by omega) (by omega)
  have d1 : decide ((l0.length : Int) < 0) = false := decide_eq_false (by omega)
  have d2 : decide ((l0.length : Int) + (l1.length : Int) < 0) = false := decide_eq_false (by omega)
  have d3 : decide ((l0.length : Int) + (l1.length : Int) + (l2.length : Int) < 0) = false := decide_eq_false (by omega)
  clear ha hb hc hm hr0 hr1 hr2
  go_enter Try.func33, Try.ntmps33
  go_wp2_with fail
  go_loopw [3, 11] (fun v3 v11 w' => (v11 = .int .i64 0 ∧ v3 = .int .i64 0 ∨ v11 = .int .i64 1 ∧ v3 = .int .i64 (l0.length : Int) ∨ v11 = .int .i64 2 ∧ v3 = .int .i64 ((l0.length : Int) + (l1.length : Int)) ∨ v11 = .int .i64 3 ∧ v3 = .int .i64 ((l0.length : Int) + (l1.length : Int) + (l2.length : Int))) ∧ w' = w) (fun _ v _ => 3 - (intOf v).toNat)
  case atStart => exact ⟨.inl ⟨rfl, rfl⟩, rfl⟩
  case round =>
    obtain ⟨hrel, hw⟩ := hrel
    replace hw := hw.symm
    subst hw
    obtain ⟨rfl, rfl⟩ | ⟨rfl, rfl⟩ | ⟨rfl, rfl⟩ | ⟨rfl, rfl⟩ := hrel
    · go_wp2
      go_roundw
      case rel => exact ⟨by simp [e1, e2, e3], by first | trivial | rfl⟩
      case measure => simp [intOf]
    · go_wp2
      go_roundw
      case rel => exact ⟨by simp [e1, e2, e3], by first | trivial | rfl⟩
      case measure => simp [intOf]
    · go_wp2
      go_roundw
      case rel => exact ⟨by simp [e1, e2, e3], by first | trivial | rfl⟩
      case measure => simp [intOf]
    · go_wp2_with fail
      have hgr := grow_nil (l0.length + l1.length + l2.length) HM.out w
      rw [show ((l0.length + l1.length + l2.length : Nat) : Int) = (l0.length : Int) + (l1.length : Int) + (l2.length : Int) by omega] at hgr
      refine hgr.mono ?_
      rintro e w1 ⟨v6, rfl, hR, hB1⟩
      have HR := Aside0.mk hR
      have HB1 := Aside0.mk hB1
      clear hgr hR hB1 e1 e2 e3 d1 d2 d3 g0 g1 g2
      go_wp2_with fail
      go_loopw [6, 27] (fun v6 v27 w' => ∃ i : Nat, i ≤ 3 ∧ v27 = .int .i64 (i : Int) ∧ Aside0 (Kd.R (Kd.int .u8) 5 w' w.heap.size (fun _ => True) v6 (catN l0 l1 l2 i)) ∧ Aside0 (Below w.heap.size w w')) (fun _ v _ => 3 - (intOf v).toNat)
      case atStart => exact ⟨0, by omega, rfl, HR, HB1⟩
      case round =>
        obtain ⟨i, hi, rfl, HR, HB1⟩ := hrel
        have hc : i = 0 ∨ i = 1 ∨ i = 2 ∨ i = 3 := by omega
        clear hi
        obtain rfl | rfl | rfl | rfl := hc
        · have g := cell_kept HG.out.1 HB1.out
          rw [show (((0 : Nat)) : Int) = 0 from rfl]
          go_wp2_with (at_builtin; (refine Kd.R_append_row (w0 := w) (Value.int .u8) (0 : Int) (h1 := fun _ => rfl) w.heap.size rfl (.tmp 31) (.tmp 32) 23 5 (.int .u8 0) 1 rfl Try.underlying23 Pol.info_u8 rfl Nat.one_pos _ ([] : List Int) l0 A0 l0.length c0 (fun _ => True) rfl rfl (fun _ _ => trivial) ?q1 ?q2 ?q3 ?q4 ?q5 ?_; (case q1 => exact HR.out); (case q2 => exact Kd.C_below HC.out.1 HB1.out); (case q3 => exact HB1.out); (case q4 => exact HB1.out.size); (case q5 => have := HM.out; simp; omega); intro v8 w8 hR hB8 _ _; have HR8 := Aside0.mk (show (Kd.int .u8).R 5 w8 w.heap.size (fun _ => True) v8 (catN l0 l1 l2 1) from hR); have HB8 := Aside0.mk hB8; clear hR hB8))
          go_roundw
          case rel => exact ⟨1, by omega, rfl, HR8, HB8⟩
          case measure => simp [intOf]
        · have g := cell_kept HG.out.2.1 HB1.out
          rw [show (((1 : Nat)) : Int) = 1 from rfl]
          go_wp2_with (at_builtin; (refine Kd.R_append_row (w0 := w) (Value.int .u8) (0 : Int) (h1 := fun _ => rfl) w.heap.size rfl (.tmp 31) (.tmp 32) 23 5 (.int .u8 0) 1 rfl Try.underlying23 Pol.info_u8 rfl Nat.one_pos _ l0 l1 A1 l1.length c1 (fun _ => True) rfl rfl (fun _ _ => trivial) ?q1 ?q2 ?q3 ?q4 ?q5 ?_; (case q1 => exact HR.out); (case q2 => exact Kd.C_below HC.out.2.1 HB1.out); (case q3 => exact HB1.out); (case q4 => exact HB1.out.size); (case q5 => have := HM.out; simp; omega); intro v8 w8 hR hB8 _ _; have HR8 := Aside0.mk (show (Kd.int .u8).R 5 w8 w.heap.size (fun _ => True) v8 (catN l0 l1 l2 2) from hR); have HB8 := Aside0.mk hB8; clear hR hB8))
          go_roundw
          case rel => exact ⟨2, by omega, rfl, HR8, HB8⟩
          case measure => simp [intOf]
        · have g := cell_kept HG.out.2.2 HB1.out
          rw [show (((2 : Nat)) : Int) = 2 from rfl]
          go_wp2_with (at_builtin; (refine Kd.R_append_row (w0 := w) (Value.int .u8) (0 : Int) (h1 := fun _ => rfl) w.heap.size rfl (.tmp 31) (.tmp 32) 23 5 (.int .u8 0) 1 rfl Try.underlying23 Pol.info_u8 rfl Nat.one_pos _ (l0 ++ l1) l2 A2 l2.length c2 (fun _ => True) rfl rfl (fun _ _ => trivial) ?q1 ?q2 ?q3 ?q4 ?q5 ?_; (case q1 => exact HR.out); (case q2 => exact Kd.C_below HC.out.2.2 HB1.out); (case q3 => exact HB1.out); (case q4 => exact HB1.out.size); (case q5 => have := HM.out; simp; omega); intro v8 w8 hR hB8 _ _; have HR8 := Aside0.mk (show (Kd.int .u8).R 5 w8 w.heap.size (fun _ => True) v8 (catN l0 l1 l2 3) from hR); have HB8 := Aside0.mk hB8; clear hR hB8))
          go_roundw
          case rel => exact ⟨3, by omega, rfl, HR8, HB8⟩
          case measure => simp [intOf]
        · rw [show (((3 : Nat)) : Int) = 3 from rfl]
          go_wp2
          go_ret
          exact ⟨_, rfl, HR.out, HB1.out⟩
end Go.Proofs.Ytnmnghpdmiffaaa

/- Part TagA. -/
/-
  What aead's tag reckons, told in plain lists.
-/
namespace Go.Proofs.Ytnmnghpdmiffaaa
open Go.RowKit Go.Proofs.YtnmnghpdmiffaaaW.PrintWords
set_option maxRecDepth 100000

/-- A length as eight bytes. -/
def sizeF (a : Int) : List Int := ((UAead.aead_size.f 9 a).getD [])
theorem size_some (a : Int) : UAead.aead_size.f 9 a = some (sizeF a) := by kernel_rfl
theorem len_sizeF (a : Int) : (sizeF a).length = 8 := by kernel_rfl
/-- Noughts up to a multiple of sixteen. -/
def evenF (l : List Int) : List Int := l ++ List.replicate ((16 - (l.length : Int) % 16) % 16).toNat 0
theorem even_some (l : List Int) (h : l.length ≤ 10000000) : UAead.aead_even.f l = some (evenF l) := by
  unfold UAead.aead_even.f evenF
  rw [if_pos (by omega), if_pos (by omega)]
theorem len_evenF (l : List Int) : (evenF l).length ≤ l.length + 16 := by
  unfold evenF
  rw [List.length_append, List.length_replicate]
  omega
/-- What is summed. -/
def tagIn (l2 l3 : List Int) : List Int := evenF (evenF l2 ++ l3) ++ sizeF (l2.length : Int) ++ sizeF (l3.length : Int)
theorem len_tagIn (l2 l3 : List Int) : (tagIn l2 l3).length ≤ l2.length + l3.length + 48 := by
  unfold tagIn
  have h1 := len_evenF (evenF l2 ++ l3)
  have h2 := len_evenF l2
  rw [List.length_append] at h1
  rw [List.length_append, List.length_append, len_sizeF, len_sizeF]
  omega
def tagAns (l0 l1 l2 l3 : List Int) : List Int × Int :=
  if (Cha.refBlockF l0 0 l1).2 = 0 then Pol.sumAns ((Cha.refBlockF l0 0 l1).1.take 32) (tagIn l2 l3) else ([], (Cha.refBlockF l0 0 l1).2)
def aead_tag.f (l0 l1 l2 l3 : List Int) : Option (List Int × Int) := if l2.length ≤ 1000000 ∧ l3.length ≤ 1000000 then some (tagAns l0 l1 l2 l3) else none
theorem block_len (l0 l1 : List Int) (a : Int) (h : (Cha.refBlockF l0 a l1).2 = 0) : (Cha.refBlockF l0 a l1).1.length = 64 := by
  unfold Cha.refBlockF at h ⊢
  split at h
  · rename_i hk
    rw [if_pos hk]
    exact Cha.len_blockF ..
  · cases h
end Go.Proofs.Ytnmnghpdmiffaaa

/- Part Tag. -/
namespace Go.Proofs.Ytnmnghpdmiffaaa
open Go.RowKit Go.Proofs.YtnmnghpdmiffaaaW.PrintWords Go.Proofs.YtnmnghpdmiffaaaW.PrintLast Go.Proofs.YtnmnghpdmiffaaaW.PrintMore Go.Proofs.Ytnmnghpdmiffaaa.Arr
set_option maxRecDepth 100000
set_option maxHeartbeats 8000000
set_option maxRecDepth 100000
theorem aead_tag.calls (A0 : Option Addr) (c0 : Nat) (l0 : List Int) (A1 : Option Addr) (c1 : Nat) (l1 : List Int) (A2 : Option Addr) (c2 : Nat) (l2 : List Int) (A3 : Option Addr) (c3 : Nat) (l3 : List Int) (r1 : List Int) (r2 : Int) (w : World) (hr0 : Kd.C (Kd.int .u8) w A0 l0.length l0) (hc0 : l0.length ≤ c0) (hr1 : Kd.C (Kd.int .u8) w A1 l1.length l1) (hc1 : l1.length ≤ c1) (hr2 : Kd.C (Kd.int .u8) w A2 l2.length l2) (hc2 : l2.length ≤ c2) (hr3 : Kd.C (Kd.int .u8) w A3 l3.length l3) (hc3 : l3.length ≤ c3) (h : aead_tag.f l0 l1 l2 l3 = some (r1, r2)) :
    Calls Try.prog 47 #[.slice A0 l0.length c0, .slice A1 l1.length c1, .slice A2 l2.length c2, .slice A3 l3.length c3] w fun e w' => ∃ v0_ : Value, e = .returned (.tuple #[v0_, .int .i64 r2]) ∧ Kd.R (Kd.int .u8) 5 w' w.heap.size (fun _ => True) v0_ r1 ∧ Below w.heap.size w w' := by
  unfold aead_tag.f at h
  split at h
  case isFalse => cases h
  rename_i hlen
  have hans := Option.some.inj h
  clear h
  obtain ⟨b1, b2, hblk⟩ : ∃ b1 b2, Cha.refBlockF l0 0 l1 = (b1, b2) := ⟨_, _, rfl⟩
  have HBL := Aside0.mk (show chacha_Block.f l0 0 l1 = some (b1, b2) by unfold chacha_Block.f; rw [hblk])
  have HLn := Aside0.mk hlen
  have HC := Aside0.mk (And.intro hr0 (And.intro hr1 (And.intro hr2 hr3)))
  have HK := Aside0.mk (And.intro hc0 (And.intro hc1 (And.intro hc2 hc3)))
  unfold tagAns at hans
  rw [hblk] at hans
  simp only at hans
  clear hr0 hr1 hr2 hr3 hc0 hc1 hc2 hc3 hlen
  by_cases hz : b2 = 0
  case neg =>
    rw [if_neg hz] at hans
    injection hans with q1 q2
    subst q1
    subst q2
    have hzb : decide (b2 = 0) = false := decide_eq_false hz
    have hzc : (b2 == 0) = false := by simpa using hz
    clear hblk
    go_enter Try.func47, Try.ntmps47
    go_wp2_with fail
    refine (chacha_Block.calls A0 c0 l0 0 A1 c1 l1 b1 b2 _ HC.out.1 HK.out.1 HC.out.2.1 HK.out.2.1 HBL.out).mono ?_
    rintro e w1 ⟨v1, rfl, hR1, hB1⟩
    have HB1 := Aside0.mk hB1
    clear hB1 hR1
    go_wp2
    go_ret2
    exact ⟨_, rfl, Kd.R_nil .., HB1.out⟩
  rw [if_pos hz] at hans
  have hl1 : b1.length = 64 := by
    have := block_len l0 l1 0 (by rw [hblk]; exact hz)
    rw [hblk] at this
    exact this
  have HL1 := Aside0.mk hl1
  subst hz
  have HANS := Aside0.mk hans
  clear hans hblk hl1
  go_enter Try.func47, Try.ntmps47
  go_wp2_with fail
  refine (chacha_Block.calls A0 c0 l0 0 A1 c1 l1 b1 0 _ HC.out.1 HK.out.1 HC.out.2.1 HK.out.2.1 HBL.out).mono ?_
  rintro e w1 ⟨v1, rfl, hR1, hB1⟩
  have HB1 := Aside0.mk hB1
  have HR1 := Aside0.mk hR1
  clear hB1 hR1
  go_wp2_with fail
  refine (slices_Clone.calls A2 c2 l2 w1 (Kd.C_below HC.out.2.2.1 HB1.out) HK.out.2.2.1 HLn.out.1).mono ?_
  rintro e w2 ⟨v2, rfl, hR2, hB2⟩
  have HB2 := Aside0.mk hB2
  have HR2 := Aside0.mk hR2
  clear hB2 hR2
  go_wp2_with fail
  refine (UAead.aead_even.calls (fun _ => True) v2 l2 (evenF l2) w1 w2 HB2.out HR2.out (even_some l2 (by have := HLn.out; omega))).mono ?_
  rintro e w3 ⟨v3, rfl, hR3, hB3, _⟩
  have HB3 := Aside0.mk hB3
  have HR3 := Aside0.mk (Kd.R_mono hR3 (ok' := fun _ => True) (fun _ _ => trivial))
  clear hB3 hR3
  go_wp2_with ((with_reducible refine gate_builtin (b := .append) (xs := #[.tmp 25, .tmp 26]) rfl ?_); at_builtin; (refine Kd.R_append_row (w0 := w1) (Value.int .u8) (0 : Int) (h1 := fun _ => rfl) w1.heap.size rfl (.tmp 25) (.tmp 26) 23 5 (.int .u8 0) 1 rfl Try.underlying23 Pol.info_u8 rfl Nat.one_pos _ (evenF l2) l3 A3 l3.length c3 (fun _ => True) rfl rfl (fun _ _ => trivial) ?q1 ?q2 ?q3 ?q4 ?q5 ?_; (case q1 => exact HR3.out); (case q2 => exact Kd.C_below (Kd.C_below HC.out.2.2.2 HB1.out) HB3.out); (case q3 => exact HB3.out); (case q4 => exact HB3.out.size); (case q5 => have h1 := HLn.out; have h2 := len_evenF l2; omega); intro v4 w4 hR hB4 _ _; have HR4 := Aside0.mk (show (Kd.int .u8).R 5 w4 w1.heap.size (fun _ => True) v4 (evenF l2 ++ l3) from hR); have HB4 := Aside0.mk hB4; clear hR hB4))
  refine (UAead.aead_even.calls (fun _ => True) v4 (evenF l2 ++ l3) (evenF (evenF l2 ++ l3)) w1 w4 HB4.out HR4.out (even_some (evenF l2 ++ l3) (by have h1 := HLn.out; have h2 := len_evenF l2; rw [List.length_append]; omega))).mono ?_
  rintro e w5 ⟨v5, rfl, hR5, hB5, _⟩
  have HB5 := Aside0.mk hB5
  have HR5 := Aside0.mk (Kd.R_mono hR5 (ok' := fun _ => True) (fun _ _ => trivial))
  clear hB5 hR5
  obtain ⟨Ab, cb, rfl, hcb, _⟩ := Kd.R_reads HR1.out
  obtain ⟨Ae, ce, rfl, hce, _⟩ := Kd.R_reads HR5.out
  go_upto_region 6 with (fail)
  change Code.wp _ _ _ _ w5
  have HR5' := Aside0.mk (Kd.R_reads' HR5.out).2.2
  have HCB := Aside0.mk (Kd.R_reads' HR1.out).2.2
  have hcb' : 32 ≤ cb := by have := HL1.out; omega
  have hyl : (b1.take 32).length = 32 := by rw [List.length_take, HL1.out]; rfl
  have HSUM := Aside0.mk (show ∀ (A9 : Option Addr) (c9 : Nat) (W : World), Kd.C (Kd.int .u8) W Ab b1.length b1 → Kd.C (Kd.int .u8) W A9 (tagIn l2 l3).length (tagIn l2 l3) → (tagIn l2 l3).length ≤ c9 → Calls Try.prog 57 #[.slice Ab 32 cb, .slice A9 (tagIn l2 l3).length c9] W fun e w' => ∃ v0_ : Value, e = .returned (.tuple #[v0_, .int .i64 r2]) ∧ Kd.R (Kd.int .u8) 5 w' W.heap.size (fun _ => True) v0_ r1 ∧ Below W.heap.size W w' from fun A9 c9 W h1 h2 h3 => by
    have hh := poly_Sum.calls Ab cb (b1.take 32) A9 c9 (tagIn l2 l3) r1 r2 W (Kd.C_take h1 (by have := HL1.out; omega)) (by omega) h2 h3 (by unfold poly_Sum.f; rw [HANS.out])
    rw [hyl] at hh
    exact hh)
  obtain ⟨I0, hI0⟩ : ∃ i, Try.prog.info? 5 = some i := ⟨_, rfl⟩
  have hcut := cut_to (P := Try.prog) 23 5 .i64 Try.underlying23 hI0 Ab 64 cb 32 (by decide) (by decide) (by have := HL1.out; omega)
  have D5 := Aside0.mk (Below.refl w5.heap.size w5)
  clear hyl hI0 hcb'
  rw [HL1.out]
  refine start_ (n := 16) (S := fun w' => True) (ds := []) #[false, false, false, false, false, false, false, false, false, false, false, false, false, false, false, false] (by kernel_rfl) rfl rfl trivial (fun hHeld => ?_)
  refine pure_ (i := 0) (N := some 29) (v := ?_) (a' := ?_) #[true, false, false, false, false, false, false, false, false, false, false, false, false, false, false, false] rfl rfl (by kernel_rfl) (fun _ _ _ h => h) (Or.inl ⟨by rfl, ?_⟩) ?_ ?_
  rotate_left
  · intro w'
    go_simp
    with_reducible rfl
  rotate_left
  · simp only [Act.put, List.setIfInBounds_toArray, List.set_cons_zero, List.set_cons_succ]
    rfl
  refine pure_ (i := 1) (N := some 30) (v := ?_) (a' := ?_) #[true, true, false, false, false, false, false, false, false, false, false, false, false, false, false, false] rfl rfl (by kernel_rfl) (fun _ _ _ h => h) (Or.inl ⟨by rfl, ?_⟩) ?_ ?_
  rotate_left
  · intro w'
    go_simp
    with_reducible rfl
  rotate_left
  · simp only [Act.put, List.setIfInBounds_toArray, List.set_cons_zero, List.set_cons_succ]
    rfl
  refine pure_ (i := 2) (N := some 31) (v := ?_) (a' := ?_) #[true, true, true, false, false, false, false, false, false, false, false, false, false, false, false, false] rfl rfl (by kernel_rfl) (fun _ _ _ h => h) (Or.inl ⟨by rfl, ?_⟩) ?_ ?_
  rotate_left
  · intro w'
    go_simp
    with_reducible rfl
  rotate_left
  · simp only [Act.put, List.setIfInBounds_toArray, List.set_cons_zero, List.set_cons_succ]
    rfl
  refine pure_ (i := 3) (N := some 32) (v := ?_) (a' := ?_) #[true, true, true, true, false, false, false, false, false, false, false, false, false, false, false, false] rfl rfl (by kernel_rfl) (fun _ _ _ h => h) (Or.inl ⟨by rfl, ?_⟩) ?_ ?_
  rotate_left
  · intro w'
    go_simp
    with_reducible rfl
  rotate_left
  · simp only [Act.put, List.setIfInBounds_toArray, List.set_cons_zero, List.set_cons_succ]
    rfl
  refine pure_ (i := 4) (N := some 33) (v := ?_) (a' := ?_) #[true, true, true, true, true, false, false, false, false, false, false, false, false, false, false, false] rfl rfl (by kernel_rfl) (fun _ _ _ h => h) (Or.inl ⟨by rfl, ?_⟩) ?_ ?_
  rotate_left
  · intro w'
    go_simp
    with_reducible rfl
  rotate_left
  · simp only [Act.put, List.setIfInBounds_toArray, List.set_cons_zero, List.set_cons_succ]
    rfl
  refine pure_ (i := 6) (N := some 35) (v := ?_) (a' := ?_) #[true, true, true, true, true, false, true, false, false, false, false, false, false, false, false, false] rfl rfl (by kernel_rfl) (fun _ _ _ h => h) (Or.inl ⟨by rfl, ?_⟩) ?_ ?_
  rotate_left
  · intro w'
    go_simp
    with_reducible rfl
  rotate_left
  · simp only [Act.put, List.setIfInBounds_toArray, List.set_cons_zero, List.set_cons_succ]
    rfl
  refine pure_ (i := 7) (N := some 36) (v := ?_) (a' := ?_) #[true, true, true, true, true, false, true, true, false, false, false, false, false, false, false, false] rfl rfl (by kernel_rfl) (fun _ _ _ h => h) (Or.inl ⟨by rfl, ?_⟩) ?_ ?_
  rotate_left
  · intro w'
    go_simp
    with_reducible rfl
  rotate_left
  · simp only [Act.put, List.setIfInBounds_toArray, List.set_cons_zero, List.set_cons_succ]
    rfl
  refine one_ (i := 5) (N := some 34) #[true, true, true, true, true, true, true, true, false, false, false, false, false, false, false, false] rfl rfl (by kernel_rfl) (by decide) (fun K hK => ?_)
  refine goes_ Try.func58 (by kernel_rfl) rfl #[.int .i64 (l2.length : Int)] (by rfl) rfl rfl (by simp only [List.map_toArray, List.map_cons, List.map_nil]; rfl) ?_
  with_reducible refine (UAead.aead_size.calls 9 (l2.length : Int) (sizeF (l2.length : Int)) _ (size_some _)).mono ?_
  rintro e w6 ⟨v6, rfl, hR6, hB6⟩
  refine ⟨_, rfl, ?_⟩
  obtain ⟨A6, c6, rfl, hc6, hC6⟩ := Kd.R_reads hR6
  have C6 := Aside0.mk hC6
  have B6 := Aside0.mk (show Below w1.heap.size w1 w6 from below_step (below_drew1 HB5.out) hB6)
  have D6 := Aside0.mk (show Below w5.heap.size w5 w6 from below_step (below_drew1 D5.out) hB6)
  clear hR6 hB6 hC6 hc6
  refine hK.out _ _ trivial (fun hHeld => ?_)
  clear hK K
  refine norm_ (a' := ?_) ?_ ?_
  rotate_left
  · show Act.put _ (some 34) _ = _
    simp only [Act.put, List.setIfInBounds_toArray, List.set_cons_zero, List.set_cons_succ]
    rfl
  refine one_ (i := 8) (N := some 37) #[true, true, true, true, true, true, true, true, true, false, false, false, false, false, false, false] rfl rfl (by kernel_rfl) (by decide) (fun K hK => ?_)
  refine goes_ Try.func58 (by kernel_rfl) rfl #[.int .i64 (l3.length : Int)] (by rfl) rfl rfl (by simp only [List.map_toArray, List.map_cons, List.map_nil]; rfl) ?_
  with_reducible refine (UAead.aead_size.calls 9 (l3.length : Int) (sizeF (l3.length : Int)) _ (size_some _)).mono ?_
  rintro e w7 ⟨v7, rfl, hR7, hB7⟩
  refine ⟨_, rfl, ?_⟩
  obtain ⟨A7, c7, rfl, hc7, hC7⟩ := Kd.R_reads hR7
  have C7 := Aside0.mk hC7
  have C67 := Aside0.mk (Kd.C_below C6.out hB7)
  have B7 := Aside0.mk (show Below w1.heap.size w1 w7 from below_step B6.out hB7)
  have D7 := Aside0.mk (show Below w5.heap.size w5 w7 from below_step D6.out hB7)
  clear hR7 hB7 hC7 hc7
  refine hK.out _ _ trivial (fun hHeld => ?_)
  clear hK K
  refine norm_ (a' := ?_) ?_ ?_
  rotate_left
  · show Act.put _ (some 37) _ = _
    simp only [Act.put, List.setIfInBounds_toArray, List.set_cons_zero, List.set_cons_succ]
    rfl
  refine one_ (i := 9) (N := some 38) #[true, true, true, true, true, true, true, true, true, true, false, false, false, false, false, false] rfl rfl (by kernel_rfl) (by decide) (fun K hK => ?_)
  refine value_ (w1 := ?_) (v := ?_) (by rfl) rfl ?_ ?_
  rotate_left 2
  · go_simp
    constructor
    · rfl
    · rfl
  refine hK.out _ _ trivial (fun hHeld => ?_)
  clear hK K
  refine norm_ (a' := ?_) ?_ ?_
  rotate_left
  · show Act.put _ (some 38) _ = _
    simp only [Act.put, List.setIfInBounds_toArray, List.set_cons_zero, List.set_cons_succ]
    rfl
  refine one_ (i := 10) (N := some 39) #[true, true, true, true, true, true, true, true, true, true, true, false, false, false, false, false] rfl rfl (by kernel_rfl) (by decide) (fun K hK => ?_)
  refine goes_ Try.func33 (by kernel_rfl) rfl #[.slice (some ⟨w7.heap.size, 0, none⟩) 3 3] (by rfl) rfl rfl (by simp only [List.map_toArray, List.map_cons, List.map_nil]; rfl) ?_
  with_reducible refine (concat3 w7.heap.size Ae A6 A7 ce c6 c7 (evenF (evenF l2 ++ l3)) (sizeF (l2.length : Int)) (sizeF (l3.length : Int)) _ (by rw [World.cell?_alloc_new]; simp) (by rw [World.cell?_alloc_new]; simp) (by rw [World.cell?_alloc_new]; simp) (Kd.C_alloc (Kd.C_below HR5'.out D7.out) _) (Kd.C_alloc C67.out _) (Kd.C_alloc C7.out _) (by have h1 := HLn.out; have h2 := len_evenF (evenF l2 ++ l3); have h3 := len_evenF l2; rw [List.length_append] at h2; rw [len_sizeF, len_sizeF]; omega)).mono ?_
  rintro e w9 ⟨v9, rfl, hR9, hB9⟩
  refine ⟨_, rfl, ?_⟩
  have hR9' := (show Kd.R (Kd.int .u8) 5 w9 _ (fun _ => True) v9 (tagIn l2 l3) from hR9)
  obtain ⟨A9, c9, rfl, hc9, hC9⟩ := Kd.R_reads hR9'
  have C9 := Aside0.mk hC9
  have Hc9 := Aside0.mk hc9
  have B9 := Aside0.mk (show Below w1.heap.size w1 w9 from below_step (below_alloc B7.out _) hB9)
  have D9 := Aside0.mk (show Below w5.heap.size w5 w9 from below_step (below_alloc D7.out _) hB9)
  clear hR9 hB9 hC9 hc9 hR9'
  refine hK.out _ _ trivial (fun hHeld => ?_)
  clear hK K
  refine norm_ (a' := ?_) ?_ ?_
  rotate_left
  · show Act.put _ (some 39) _ = _
    simp only [Act.put, List.setIfInBounds_toArray, List.set_cons_zero, List.set_cons_succ]
    rfl
  refine one_ (i := 11) (N := some 40) #[true, true, true, true, true, true, true, true, true, true, true, true, false, false, false, false] rfl rfl (by kernel_rfl) (by decide) (fun K hK => ?_)
  refine goes_ Try.func57 (by kernel_rfl) rfl #[.slice Ab 32 cb, .slice A9 (tagIn l2 l3).length c9] (by rfl) rfl rfl (by simp only [List.map_toArray, List.map_cons, List.map_nil]; rfl) ?_
  with_reducible refine (HSUM.out A9 c9 _ (Kd.C_below HCB.out B9.out) C9.out Hc9.out).mono ?_
  rintro e w10 ⟨v10, rfl, hR10, hB10⟩
  refine ⟨_, rfl, ?_⟩
  have R10 := Aside0.mk (Kd.R_lower hR10 (Nat.le_trans HB1.out.size B9.out.size))
  have B10 := Aside0.mk (show Below w1.heap.size w1 w10 from below_step B9.out hB10)
  have D10 := Aside0.mk (show Below w5.heap.size w5 w10 from below_step D9.out hB10)
  clear hR10 hB10
  refine hK.out _ _ trivial (fun hHeld => ?_)
  clear hK K
  refine norm_ (a' := ?_) ?_ ?_
  rotate_left
  · show Act.put _ (some 40) _ = _
    simp only [Act.put, List.setIfInBounds_toArray, List.set_cons_zero, List.set_cons_succ]
    rfl
  refine pure_ (i := 12) (N := some 41) (v := ?_) (a' := ?_) #[true, true, true, true, true, true, true, true, true, true, true, true, true, false, false, false] rfl rfl (by kernel_rfl) (fun _ _ _ h => h) (Or.inl ⟨by rfl, ?_⟩) ?_ ?_
  rotate_left
  · intro w'
    go_simp
    with_reducible rfl
  rotate_left
  · simp only [Act.put, List.setIfInBounds_toArray, List.set_cons_zero, List.set_cons_succ]
    rfl
  refine pure_ (i := 13) (N := some 42) (v := ?_) (a' := ?_) #[true, true, true, true, true, true, true, true, true, true, true, true, true, true, false, false] rfl rfl (by kernel_rfl) (fun _ _ _ h => h) (Or.inl ⟨by rfl, ?_⟩) ?_ ?_
  rotate_left
  · intro w'
    go_simp
    with_reducible rfl
  rotate_left
  · simp only [Act.put, List.setIfInBounds_toArray, List.set_cons_zero, List.set_cons_succ]
    rfl
  refine pure_ (i := 14) (N := some 8) (v := ?_) (a' := ?_) #[true, true, true, true, true, true, true, true, true, true, true, true, true, true, true, false] rfl rfl (by kernel_rfl) (fun _ _ _ h => h) (Or.inl ⟨by rfl, ?_⟩) ?_ ?_
  rotate_left
  · intro w'
    go_simp
    with_reducible rfl
  rotate_left
  · simp only [Act.put, List.setIfInBounds_toArray, List.set_cons_zero, List.set_cons_succ]
    rfl
  refine pure_ (i := 15) (N := some 9) (v := ?_) (a' := ?_) #[true, true, true, true, true, true, true, true, true, true, true, true, true, true, true, true] rfl rfl (by kernel_rfl) (fun _ _ _ h => h) (Or.inl ⟨by rfl, ?_⟩) ?_ ?_
  rotate_left
  · intro w'
    go_simp
    with_reducible rfl
  rotate_left
  · simp only [Act.put, List.setIfInBounds_toArray, List.set_cons_zero, List.set_cons_succ]
    rfl
  refine done_ (by kernel_rfl) ?_
  go_wp2_with fail
  go_ret2
  exact ⟨_, rfl, R10.out, below_then HB1.out HB1.out.size B10.out⟩
end Go.Proofs.Ytnmnghpdmiffaaa

/- Part USealx0. -/
-- written by a program (wip/gen/myprint.py) for this claim, out of the translation's print and of contracts proved by hand
namespace Go.Proofs.Ytnmnghpdmiffaaa.USeal
open Go.RowKit Go.Proofs.YtnmnghpdmiffaaaW.PrintWords Go.Proofs.YtnmnghpdmiffaaaW.PrintLast Go.Proofs.YtnmnghpdmiffaaaW.PrintMore
attribute [local go_sem] max2_int min2_int max_two min_two max_three min_three max_four min_four   -- for this text's walks alone
set_option linter.unusedVariables false
set_option linter.unusedSimpArgs false



def errW : Option Int → Value
  | none => .nilIface
  | some c => .iface 0 (.int .i64 c)
theorem errW_none : errW none = .nilIface := rfl
theorem errW_some (c : Int) : errW (some c) = .iface 0 (.int .i64 c) := rfl

theorem info5 : (Try.prog.info? 5).map (fun i => (i.zero, i.size, i.bytes)) = some (some (.int .u8 0), 1, 1) := by kernel_rfl
-- the values' own types
def rd_L1 (xs : List (List Int)) (i : Int) : (List Int) := xs.getD i.toNat ([] : List Int)
theorem at_L1 {w : World} {A : Option Addr} {n : Nat} {xs : List (List Int)} (h : Kd.C (Kd.slice 5 (Kd.int .u8)) w A n xs) (i : Int) (h0 : 0 ≤ i) (h1 : i < n) : ∃ ad A0 c0, A = some ad ∧ w.cell? (ad.add i.toNat) = some (.slice A0 (rd_L1 xs i).length c0) ∧ (rd_L1 xs i).length ≤ c0 ∧ (Kd.int .u8).C w A0 (rd_L1 xs i).length (rd_L1 xs i) := by
  obtain ⟨ad, c, e, _, hK, hc0⟩ := Kd.C_get h ([] : List Int) i h0 h1
  have hc : ∀ j u, c[j]? = some u → w.cell? (ad.add (i.toNat * 1 + j)) = some u := hc0
  obtain ⟨A0, c0, rfl, l0, g0⟩ := hK
  exact ⟨ad, A0, c0, e, by have hq := hc 0 _ rfl; rwa [Nat.mul_one, Nat.add_zero] at hq, l0, g0⟩

end Go.Proofs.Ytnmnghpdmiffaaa.USeal

/- Part USealx1. -/
-- written by a program (wip/gen/myprint.py) for this claim, out of the translation's print and of contracts proved by hand
namespace Go.Proofs.Ytnmnghpdmiffaaa.USeal
open Go.RowKit Go.Proofs.YtnmnghpdmiffaaaW.PrintWords Go.Proofs.YtnmnghpdmiffaaaW.PrintLast Go.Proofs.YtnmnghpdmiffaaaW.PrintMore
attribute [local go_sem] max2_int min2_int max_two min_two max_three min_three max_four min_four   -- for this text's walks alone
set_option linter.unusedVariables false
set_option linter.unusedSimpArgs false

/-! ### aead_Seal: function 35 -/
def aead_Seal.f (l0 : List Int) (l1 : List Int) (l2 : List Int) (l3 : List Int) : Option (List Int × Int) := (chacha_Xor.f l0 1 l1 l3).bind fun bt117 => (if bt117.2 = 0 then ((aead_tag.f l0 l1 l2 bt117.1).bind fun bt121 => (if bt117.1.length + bt121.1.length < 140737488355328 then (some ((bt117.1 ++ bt121.1), bt121.2)) else (none))) else (some (([] : List Int), bt117.2)))
set_option maxHeartbeats 8000000 in
set_option maxRecDepth 100000 in
theorem aead_Seal.calls (A0 : Option Addr) (c0 : Nat) (l0 : List Int) (A1 : Option Addr) (c1 : Nat) (l1 : List Int) (A2 : Option Addr) (c2 : Nat) (l2 : List Int) (A3 : Option Addr) (c3 : Nat) (l3 : List Int) (r1 : List Int) (r2 : Int) (w : World) (hr0 : Kd.C (Kd.int .u8) w A0 l0.length l0) (hc0 : l0.length ≤ c0) (hr1 : Kd.C (Kd.int .u8) w A1 l1.length l1) (hc1 : l1.length ≤ c1) (hr2 : Kd.C (Kd.int .u8) w A2 l2.length l2) (hc2 : l2.length ≤ c2) (hr3 : Kd.C (Kd.int .u8) w A3 l3.length l3) (hc3 : l3.length ≤ c3) (h : aead_Seal.f l0 l1 l2 l3 = some (r1, r2)) :
    Calls Try.prog 35 #[.slice A0 l0.length c0, .slice A1 l1.length c1, .slice A2 l2.length c2, .slice A3 l3.length c3] w fun e w' => ∃ v0_ : Value, e = .returned (.tuple #[v0_, .int .i64 r2]) ∧ Kd.R (Kd.int .u8) 5 w' w.heap.size (fun _ => True) v0_ r1 ∧ Below w.heap.size w w' := by
  have HR0 := Aside0.mk hr0
  have HC0 := Aside0.mk hc0
  clear hr0 hc0
  have HR1 := Aside0.mk hr1
  have HC1 := Aside0.mk hc1
  clear hr1 hc1
  have HR2 := Aside0.mk hr2
  have HC2 := Aside0.mk hc2
  clear hr2 hc2
  have HR3 := Aside0.mk hr3
  have HC3 := Aside0.mk hc3
  clear hr3 hc3
  have HB := Aside0.mk (Below.refl w.heap.size w)
  have H : ((chacha_Xor.f l0 1 l1 l3).bind fun bt117 => (if bt117.2 = 0 then ((aead_tag.f l0 l1 l2 bt117.1).bind fun bt121 => (if bt117.1.length + bt121.1.length < 140737488355328 then (some ((bt117.1 ++ bt121.1), bt121.2)) else (none))) else (some (([] : List Int), bt117.2)))) = some (r1, r2) := h
  clear h
  replace H := Option.bind_eq_some_iff.mp H
  obtain ⟨⟨t117, t118⟩, A50, H⟩ := H
  replace H : (if t118 = 0 then ((aead_tag.f l0 l1 l2 t117).bind fun bt121 => (if t117.length + bt121.1.length < 140737488355328 then (some ((t117 ++ bt121.1), bt121.2)) else (none))) else (some (([] : List Int), t118))) = some (r1, r2) := H
  have A5 := Aside0.mk A50
  clear A50
  by_cases c6 : t118 = 0
  · rw [if_pos c6] at H
    have c6b0 : (t118 == 0) = true := beq_iff_eq.mpr c6
    have c6b1 : (t118 != 0) = false := bne_eq_false_iff_eq.mpr c6
    clear c6
    replace H := Option.bind_eq_some_iff.mp H
    obtain ⟨⟨t121, t122⟩, A70, H⟩ := H
    replace H : (if t117.length + t121.length < 140737488355328 then (some ((t117 ++ t121), t122)) else (none)) = some (r1, r2) := H
    have A7 := Aside0.mk A70
    clear A70
    by_cases c8 : t117.length + t121.length < 140737488355328
    · rw [if_pos c8] at H
      have LMc8 := Aside0.mk c8
      clear c8
      obtain ⟨y125, hy125⟩ : ∃ y_ : List Int, y_ = (t117 ++ t121) := ⟨_, rfl⟩
      replace H : (some (y125, t122)) = some (r1, r2) := by first | (rw [hy125]; with_reducible exact H) | (have H2_ := (Option.bind_some _ _).symm.trans H; rw [hy125]; with_reducible exact H2_) | (have H2_ := (Option.bind_some _ _).symm.trans H; with_reducible exact H2_) | with_reducible exact H | (rw [hy125]; exact H) | exact H
      have Ny125 := Aside0.mk hy125
      clear hy125
      simp only [Option.some.injEq, Prod.mk.injEq] at H
      obtain ⟨rfl, rfl⟩ := H
      go_enter Try.func35, Try.ntmps35
      go_wp2_with (first | ((with_reducible refine gate_callee (f := 46) rfl ?_); refine goesL_ (some 17) rfl rfl Try.func46 (by kernel_rfl) rfl #[.slice A0 l0.length c0, .int .u32 1, .slice A1 l1.length c1, .slice A3 l3.length c3] rfl (by (try simp only [List.map_toArray, List.map_cons, List.map_nil]); first | done | rfl | (simp only [List.length_drop, List.length_take]; rfl) | (simp; done)) ?_; (with_reducible refine (chacha_Xor.calls _ _ l0 1 _ _ l1 _ _ l3 t117 t118 _ ?side1 ?side2 ?side3 ?side4 ?side5 ?side6 A5.out).mono ?_); (case side1 => repeat (first | exact HR0.out | (with_reducible refine Kd.C_alloc ?_ _) | (with_reducible refine Kd.C_drewN ?_ _) | (with_reducible refine Kd.C_drew ?_))); (case side2 => exact HC0.out); (case side3 => repeat (first | exact HR1.out | (with_reducible refine Kd.C_alloc ?_ _) | (with_reducible refine Kd.C_drewN ?_ _) | (with_reducible refine Kd.C_drew ?_))); (case side4 => exact HC1.out); (case side5 => repeat (first | exact HR3.out | (with_reducible refine Kd.C_alloc ?_ _) | (with_reducible refine Kd.C_drewN ?_ _) | (with_reducible refine Kd.C_drew ?_))); (case side6 => exact HC3.out); rintro e w9 ⟨v119, rfl, ho0, hb⟩; refine ⟨_, rfl, ?_⟩; have n0_ := Aside0.mk (Kd.R_lower ho0 (below_size (by repeat (first | (with_reducible first | exact HB.out | apply below_alloc | apply pw_below_drewN | apply below_drew1) | exact HB.out)))); have n1_ := Aside0.mk (below_step (by repeat (first | (with_reducible first | exact HB.out | apply below_alloc | apply pw_below_drewN | apply below_drew1) | exact HB.out)) hb); clear HB; have HO120 := n0_; have HB := n1_; clear n0_ n1_; (try clear hb); (try clear hb2); (try clear hk); (try clear hi); (try clear ho0); obtain ⟨Ao10, co10, eo10⟩ := Kd.R_slice HO120.out; subst eo10) | ((with_reducible refine gate_callee (f := 47) rfl ?_); refine goesL_ (some 28) rfl rfl Try.func47 (by kernel_rfl) rfl #[.slice A0 l0.length c0, .slice A1 l1.length c1, .slice A2 l2.length c2, .slice Ao10 t117.length co10] rfl (by (try simp only [List.map_toArray, List.map_cons, List.map_nil]); first | done | rfl | (simp only [List.length_drop, List.length_take]; rfl) | (simp; done)) ?_; (with_reducible refine (aead_tag.calls _ _ l0 _ _ l1 _ _ l2 _ _ t117 t121 t122 _ ?side1 ?side2 ?side3 ?side4 ?side5 ?side6 ?side7 ?side8 A7.out).mono ?_); (case side1 => repeat (first | exact (Kd.C_below HR0.out HB.out) | (with_reducible refine Kd.C_alloc ?_ _) | (with_reducible refine Kd.C_drewN ?_ _) | (with_reducible refine Kd.C_drew ?_))); (case side2 => exact HC0.out); (case side3 => repeat (first | exact (Kd.C_below HR1.out HB.out) | (with_reducible refine Kd.C_alloc ?_ _) | (with_reducible refine Kd.C_drewN ?_ _) | (with_reducible refine Kd.C_drew ?_))); (case side4 => exact HC1.out); (case side5 => repeat (first | exact (Kd.C_below HR2.out HB.out) | (with_reducible refine Kd.C_alloc ?_ _) | (with_reducible refine Kd.C_drewN ?_ _) | (with_reducible refine Kd.C_drew ?_))); (case side6 => exact HC2.out); (case side7 => repeat (first | exact (Kd.R_reads' HO120.out).2.2 | (with_reducible refine Kd.C_alloc ?_ _) | (with_reducible refine Kd.C_drewN ?_ _) | (with_reducible refine Kd.C_drew ?_))); (case side8 => exact (Kd.R_reads' HO120.out).2.1); rintro e w11 ⟨v123, rfl, ho0, hb⟩; refine ⟨_, rfl, ?_⟩; have n0_ := Aside0.mk (Kd.R_elder' (by (with_reducible repeat (first | apply Kd.R_alloc | apply Kd.R_drewN | apply Kd.R_drew)); exact HO120.out) (Kd.R_base ho0) hb); have n1_ := Aside0.mk (Kd.R_lower (Kd.R_new' ho0 (Kd.R_lt (by (with_reducible repeat (first | apply Kd.R_alloc | apply Kd.R_drewN | apply Kd.R_drew)); exact HO120.out))) (below_size (by repeat (first | (with_reducible first | exact HB.out | apply below_alloc | apply pw_below_drewN | apply below_drew1) | exact HB.out)))); have n2_ := Aside0.mk (below_step (by repeat (first | (with_reducible first | exact HB.out | apply below_alloc | apply pw_below_drewN | apply below_drew1) | exact HB.out)) hb); clear HO120; clear HB; have HO120 := n0_; have HO124 := n1_; have HB := n2_; clear n0_ n1_ n2_; (try clear hb); (try clear hb2); (try clear hk); (try clear hi); (try clear ho0); obtain ⟨Ao13, co13, eo13⟩ := Kd.R_slice HO124.out; subst eo13) | ((with_reducible refine gate_builtin (b := .append) (xs := #[.tmp 31, .tmp 32]) rfl ?_); at_builtin; refine Kd.R_append_rows (Kd.int .u8) (w0 := w) w.heap.size rfl (.tmp 31) (.tmp 32) 23 5 (.int .u8 0) 1 rfl Try.underlying23 info5 rfl (by decide) (by omega) (.slice Ao10 t117.length co10) t117 t121 _ _ _ (fun k_ => some k_ ≠ (.slice Ao13 t121.length co13 : Value).ownBlock) (fun _ => False) rfl rfl ?aO ?aR (fun _ _ h => h) (fun _ h => h.elim) ?aF ?aB ?aS ?aL ?_; (case aR => repeat (first | exact (Kd.R_reads' HO124.out).2.2 | (with_reducible refine Kd.C_alloc ?_ _) | (with_reducible refine Kd.C_drewN ?_ _) | (with_reducible refine Kd.C_drew ?_))); (case aB => exact (by repeat (first | (with_reducible first | exact HB.out | apply below_alloc | apply pw_below_drewN | apply below_drew1) | exact HB.out))); (case aF => exact (fun k_ hk => Kd.fresh' (Kd.R_lt (by (with_reducible repeat (first | apply Kd.R_alloc | apply Kd.R_drewN | apply Kd.R_drew)); exact HO124.out)) k_ hk)); (case aO => exact (by (with_reducible repeat (first | apply Kd.R_alloc | apply Kd.R_drewN | apply Kd.R_drew)); exact Kd.R_mono HO120.out (fun _ hk => hk.2))); (case aS => exact (below_size (by repeat (first | (with_reducible first | exact HB.out | apply below_alloc | apply pw_below_drewN | apply below_drew1) | exact HB.out)))); (case aL => have := LMc8.out; omega); intro v126 w12 ho hb hg hat; rw [← Ny125.out] at ho; have n0_ := Aside0.mk (Kd.R_after (ok := (fun _ => True)) (by (with_reducible repeat (first | apply Kd.R_alloc | apply Kd.R_drewN | apply Kd.R_drew)); exact HO124.out) hg hat); have n1_ := Aside0.mk (hb); have n2_ := Aside0.mk (ho); clear HO124; clear HB; clear HO120; have HO124 := n0_; have HB := n1_; have HO127 := n2_; clear n0_ n1_ n2_; clear ho hb hg hat))
      go_ret2
      exact ⟨_, by first | rfl | (simp [errW_none, errW_some] <;> rfl) | (simp [*, errW_none, errW_some] <;> rfl), by (with_reducible repeat (first | apply Kd.R_alloc | apply Kd.R_drewN | apply Kd.R_drew)); exact Kd.R_mono HO127.out (fun _ hk => trivial), by repeat (first | (with_reducible first | exact HB.out | apply below_alloc | apply pw_below_drewN | apply below_drew1) | exact HB.out)⟩
    · rw [if_neg c8] at H
      exact absurd H (by simp)
  · rw [if_neg c6] at H
    have c6b0 : (t118 == 0) = false := beq_eq_false_iff_ne.mpr c6
    have c6b1 : (t118 != 0) = true := bne_iff_ne.mpr c6
    simp only [Option.some.injEq, Prod.mk.injEq] at H
    obtain ⟨rfl, rfl⟩ := H
    go_enter Try.func35, Try.ntmps35
    go_wp2_with (first | ((with_reducible refine gate_callee (f := 46) rfl ?_); refine goesL_ (some 17) rfl rfl Try.func46 (by kernel_rfl) rfl #[.slice A0 l0.length c0, .int .u32 1, .slice A1 l1.length c1, .slice A3 l3.length c3] rfl (by (try simp only [List.map_toArray, List.map_cons, List.map_nil]); first | done | rfl | (simp only [List.length_drop, List.length_take]; rfl) | (simp; done)) ?_; (with_reducible refine (chacha_Xor.calls _ _ l0 1 _ _ l1 _ _ l3 t117 t118 _ ?side1 ?side2 ?side3 ?side4 ?side5 ?side6 A5.out).mono ?_); (case side1 => repeat (first | exact HR0.out | (with_reducible refine Kd.C_alloc ?_ _) | (with_reducible refine Kd.C_drewN ?_ _) | (with_reducible refine Kd.C_drew ?_))); (case side2 => exact HC0.out); (case side3 => repeat (first | exact HR1.out | (with_reducible refine Kd.C_alloc ?_ _) | (with_reducible refine Kd.C_drewN ?_ _) | (with_reducible refine Kd.C_drew ?_))); (case side4 => exact HC1.out); (case side5 => repeat (first | exact HR3.out | (with_reducible refine Kd.C_alloc ?_ _) | (with_reducible refine Kd.C_drewN ?_ _) | (with_reducible refine Kd.C_drew ?_))); (case side6 => exact HC3.out); rintro e w14 ⟨v119, rfl, ho0, hb⟩; refine ⟨_, rfl, ?_⟩; have n0_ := Aside0.mk (Kd.R_lower ho0 (below_size (by repeat (first | (with_reducible first | exact HB.out | apply below_alloc | apply pw_below_drewN | apply below_drew1) | exact HB.out)))); have n1_ := Aside0.mk (below_step (by repeat (first | (with_reducible first | exact HB.out | apply below_alloc | apply pw_below_drewN | apply below_drew1) | exact HB.out)) hb); clear HB; have HO120 := n0_; have HB := n1_; clear n0_ n1_; (try clear hb); (try clear hb2); (try clear hk); (try clear hi); (try clear ho0)))
    go_ret2
    exact ⟨_, by first | rfl | (simp [errW_none, errW_some] <;> rfl) | (simp [*, errW_none, errW_some] <;> rfl), by first | exact Kd.R_nil _ _ _ _ _ | exact Kd.N_nil _ _ _ _ _ | exact Kd.V_nil _ _ _ _ _ | exact Kd.Q_nil _ _ _ _ _ | exact Kd.S_nil _ _ _ _ _, by repeat (first | (with_reducible first | exact HB.out | apply below_alloc | apply pw_below_drewN | apply below_drew1) | exact HB.out)⟩

end Go.Proofs.Ytnmnghpdmiffaaa.USeal

/- Part Seal. -/
/-
  Seal and Open, in the form in which the printed texts call a function; what they answer, told in plain lists.
-/
namespace Go.Proofs.Ytnmnghpdmiffaaa
open Go.RowKit Go.Proofs.YtnmnghpdmiffaaaW.PrintWords Go.Proofs.YtnmnghpdmiffaaaW.PrintLast Go.Proofs.YtnmnghpdmiffaaaW.PrintMore Go.Proofs.Ytnmnghpdmiffaaa.Arr
set_option maxRecDepth 100000
set_option maxHeartbeats 4000000
set_option maxRecDepth 100000
def sealAns (l0 l1 l2 l3 : List Int) : List Int × Int :=
  if (Cha.xorAns l0 1 l1 l3).2 = 0 then ((Cha.xorAns l0 1 l1 l3).1 ++ (tagAns l0 l1 l2 (Cha.xorAns l0 1 l1 l3).1).1, (tagAns l0 l1 l2 (Cha.xorAns l0 1 l1 l3).1).2) else ([], (Cha.xorAns l0 1 l1 l3).2)
def openAns (l0 l1 l2 l3 : List Int) : List Int × Int :=
  if (Cha.refBlockF l0 0 l1).2 = 0 then (if l3.length < 16 then ([], 10) else if ((strOfNums (tagAns l0 l1 l2 (l3.take (l3.length - 16))).1).toList == (strOfNums (l3.drop (l3.length - 16))).toList) = true then Cha.xorAns l0 1 l1 (l3.take (l3.length - 16)) else ([], 14)) else ([], (Cha.refBlockF l0 0 l1).2)
def aead_Seal.f (l0 l1 l2 l3 : List Int) : Option (List Int × Int) := if l2.length ≤ 1000000 ∧ l3.length ≤ 900000 then some (sealAns l0 l1 l2 l3) else none
def aead_Open.f (l0 l1 l2 l3 : List Int) : Option (List Int × Int) := if l2.length ≤ 1000000 ∧ l3.length ≤ 1000000 then some (openAns l0 l1 l2 l3) else none
theorem xorAns_len (l0 l1 l3 : List Int) (a : Int) : (Cha.xorAns l0 a l1 l3).1.length ≤ l3.length := by
  unfold Cha.xorAns
  split
  · simp [Cha.len_xorF]
  · simp
theorem tagAns_len (l0 l1 l2 l3 : List Int) : (tagAns l0 l1 l2 l3).1.length ≤ 16 := by
  unfold tagAns
  split
  · unfold Pol.sumAns
    split
    · simp [Pol.len_tagF]
    · simp
  · simp
theorem aead_Seal.calls (A0 : Option Addr) (c0 : Nat) (l0 : List Int) (A1 : Option Addr) (c1 : Nat) (l1 : List Int) (A2 : Option Addr) (c2 : Nat) (l2 : List Int) (A3 : Option Addr) (c3 : Nat) (l3 : List Int) (r1 : List Int) (r2 : Int) (w : World) (hr0 : Kd.C (Kd.int .u8) w A0 l0.length l0) (hc0 : l0.length ≤ c0) (hr1 : Kd.C (Kd.int .u8) w A1 l1.length l1) (hc1 : l1.length ≤ c1) (hr2 : Kd.C (Kd.int .u8) w A2 l2.length l2) (hc2 : l2.length ≤ c2) (hr3 : Kd.C (Kd.int .u8) w A3 l3.length l3) (hc3 : l3.length ≤ c3) (h : aead_Seal.f l0 l1 l2 l3 = some (r1, r2)) :
    Calls Try.prog 35 #[.slice A0 l0.length c0, .slice A1 l1.length c1, .slice A2 l2.length c2, .slice A3 l3.length c3] w fun e w' => ∃ v0_ : Value, e = .returned (.tuple #[v0_, .int .i64 r2]) ∧ Kd.R (Kd.int .u8) 5 w' w.heap.size (fun _ => True) v0_ r1 ∧ Below w.heap.size w w' := by
  refine USeal.aead_Seal.calls A0 c0 l0 A1 c1 l1 A2 c2 l2 A3 c3 l3 r1 r2 w hr0 hc0 hr1 hc1 hr2 hc2 hr3 hc3 ?_
  unfold aead_Seal.f at h
  split at h
  case isFalse => cases h
  rename_i hl
  rw [← h]
  have hx := xorAns_len l0 l1 l3 1
  have ht := tagAns_len l0 l1 l2 (Cha.xorAns l0 1 l1 l3).1
  unfold USeal.aead_Seal.f chacha_Xor.f aead_tag.f sealAns
  rw [if_pos (by omega)]
  simp only [Option.bind_some]
  split
  · rw [if_pos ⟨hl.1, by omega⟩]
    simp only [Option.bind_some]
    rw [if_pos (by omega)]
  · rfl
theorem aead_Open.calls (A0 : Option Addr) (c0 : Nat) (l0 : List Int) (A1 : Option Addr) (c1 : Nat) (l1 : List Int) (A2 : Option Addr) (c2 : Nat) (l2 : List Int) (A3 : Option Addr) (c3 : Nat) (l3 : List Int) (r1 : List Int) (r2 : Int) (w : World) (hr0 : Kd.C (Kd.int .u8) w A0 l0.length l0) (hc0 : l0.length ≤ c0) (hr1 : Kd.C (Kd.int .u8) w A1 l1.length l1) (hc1 : l1.length ≤ c1) (hr2 : Kd.C (Kd.int .u8) w A2 l2.length l2) (hc2 : l2.length ≤ c2) (hr3 : Kd.C (Kd.int .u8) w A3 l3.length l3) (hc3 : l3.length ≤ c3) (h : aead_Open.f l0 l1 l2 l3 = some (r1, r2)) :
    Calls Try.prog 44 #[.slice A0 l0.length c0, .slice A1 l1.length c1, .slice A2 l2.length c2, .slice A3 l3.length c3] w fun e w' => ∃ v0_ : Value, e = .returned (.tuple #[v0_, .int .i64 r2]) ∧ Kd.R (Kd.int .u8) 5 w' w.heap.size (fun _ => True) v0_ r1 ∧ Below w.heap.size w w' := by
  unfold aead_Open.f at h
  split at h
  case isFalse => cases h
  rename_i hlen
  have hans := Option.some.inj h
  clear h
  obtain ⟨b1, b2, hblk⟩ : ∃ b1 b2, Cha.refBlockF l0 0 l1 = (b1, b2) := ⟨_, _, rfl⟩
  have HBL := Aside0.mk (show chacha_Block.f l0 0 l1 = some (b1, b2) by unfold chacha_Block.f; rw [hblk])
  have HLn := Aside0.mk hlen
  have HC := Aside0.mk (And.intro hr0 (And.intro hr1 (And.intro hr2 hr3)))
  have HK := Aside0.mk (And.intro hc0 (And.intro hc1 (And.intro hc2 hc3)))
  unfold openAns at hans
  rw [hblk] at hans
  simp only at hans
  clear hr0 hr1 hr2 hr3 hc0 hc1 hc2 hlen
  by_cases hz : b2 = 0
  case neg =>
    rw [if_neg hz] at hans
    injection hans with q1 q2
    subst q1
    subst q2
    have hzb : decide (b2 = 0) = false := decide_eq_false hz
    have hzc : (b2 == 0) = false := by simpa using hz
    clear hblk hc3
    go_enter Try.func44, Try.ntmps44
    go_wp2_with fail
    refine (chacha_Block.calls A0 c0 l0 0 A1 c1 l1 b1 b2 _ HC.out.1 HK.out.1 HC.out.2.1 HK.out.2.1 HBL.out).mono ?_
    rintro e w1 ⟨v1, rfl, hR1, hB1⟩
    have HB1 := Aside0.mk hB1
    clear hB1 hR1
    go_wp2
    go_ret2
    exact ⟨_, rfl, Kd.R_nil .., HB1.out⟩
  rw [if_pos hz] at hans
  subst hz
  by_cases hs : l3.length < 16
  · rw [if_pos hs] at hans
    injection hans with q1 q2
    subst q1
    subst q2
    have hd : decide ((l3.length : Int) < 16) = true := decide_eq_true (by omega)
    have hd2 : decide (l3.length < 16) = true := decide_eq_true hs
    clear hblk hc3 hs
    go_enter Try.func44, Try.ntmps44
    go_wp2_with fail
    refine (chacha_Block.calls A0 c0 l0 0 A1 c1 l1 b1 0 _ HC.out.1 HK.out.1 HC.out.2.1 HK.out.2.1 HBL.out).mono ?_
    rintro e w1 ⟨v1, rfl, hR1, hB1⟩
    have HB1 := Aside0.mk hB1
    clear hB1 hR1
    go_wp2
    go_ret2
    exact ⟨_, rfl, Kd.R_nil .., HB1.out⟩
  rw [if_neg hs] at hans
  obtain ⟨m, hm⟩ : ∃ m, m = l3.length - 16 := ⟨_, rfl⟩
  rw [← hm] at hans
  obtain ⟨t1, t2, htag⟩ : ∃ t1 t2, tagAns l0 l1 l2 (l3.take m) = (t1, t2) := ⟨_, _, rfl⟩
  rw [htag] at hans
  simp only at hans
  have hml : m ≤ l3.length := by omega
  have hyl : (l3.take m).length = m := by rw [List.length_take]; omega
  have hl16 : l3.length = m + 16 := by omega
  have HT := Aside0.mk (show aead_tag.f l0 l1 l2 (l3.take m) = some (t1, t2) by
    unfold aead_tag.f
    rw [if_pos ⟨HLn.out.1, by have := HLn.out.2; omega⟩, htag])
  have HTAG := Aside0.mk (show ∀ W : World, Below w.heap.size w W → Calls Try.prog 47 #[.slice A0 l0.length c0, .slice A1 l1.length c1, .slice A2 l2.length c2, .slice A3 m c3] W fun e w' => ∃ v0_ : Value, e = .returned (.tuple #[v0_, .int .i64 t2]) ∧ Kd.R (Kd.int .u8) 5 w' W.heap.size (fun _ => True) v0_ t1 ∧ Below W.heap.size W w' from fun W hW => by
    have hh := aead_tag.calls A0 c0 l0 A1 c1 l1 A2 c2 l2 A3 c3 (l3.take m) t1 t2 W (Kd.C_below HC.out.1 hW) HK.out.1 (Kd.C_below HC.out.2.1 hW) HK.out.2.1 (Kd.C_below HC.out.2.2.1 hW) HK.out.2.2.1 (Kd.C_below (Kd.C_take HC.out.2.2.2 hml) hW) (by have := HK.out.2.2.2; omega) HT.out
    rw [hyl] at hh
    exact hh)
  have HXOR := Aside0.mk (show ∀ (W : World) (x1 : List Int) (x2 : Int), Cha.xorAns l0 1 l1 (l3.take m) = (x1, x2) → Below w.heap.size w W → Calls Try.prog 46 #[.slice A0 l0.length c0, .int .u32 1, .slice A1 l1.length c1, .slice A3 m c3] W fun e w' => ∃ v0_ : Value, e = .returned (.tuple #[v0_, .int .i64 x2]) ∧ Kd.R (Kd.int .u8) 5 w' W.heap.size (fun _ => True) v0_ x1 ∧ Below W.heap.size W w' from fun W x1 x2 hx hW => by
    have hh := chacha_Xor.calls A0 c0 l0 1 A1 c1 l1 A3 c3 (l3.take m) x1 x2 W (Kd.C_below HC.out.1 hW) HK.out.1 (Kd.C_below HC.out.2.1 hW) HK.out.2.1 (Kd.C_below (Kd.C_take HC.out.2.2.2 hml) hW) (by have := HK.out.2.2.2; omega) (by unfold chacha_Xor.f; rw [if_pos (by have := HLn.out.2; omega), hx])
    rw [hyl] at hh
    exact hh)
  obtain ⟨I0, hI0, hsz⟩ : ∃ i, Try.prog.info? 5 = some i ∧ i.size = 1 := ⟨_, rfl, rfl⟩
  have hcut := cut_to (P := Try.prog) 23 5 .i64 Try.underlying23 hI0 A3 l3.length c3 (m : Int) (by omega) (by omega) hc3
  rw [Int.toNat_natCast] at hcut
  obtain ⟨Ay, y, cy, hy, hcy, hcut2, hCy⟩ := cut_ex (P := Try.prog) 23 5 .i64 Try.underlying23 hI0 hsz A3 l3 c3 (m : Int) (by omega) (by omega) hc3
  rw [Int.toNat_natCast] at hy
  rw [← hy] at hans
  have HY := Aside0.mk (And.intro hcy (hCy w .u8 HC.out.2.2.2))
  have hd : decide ((l3.length : Int) < 16) = false := decide_eq_false (by omega)
  have hd2 : decide (l3.length < 16) = false := decide_eq_false (by omega)
  have hw : wrap64 ((l3.length : Int) - 16) = (m : Int) := by rw [wrap_id (by omega) (by have := HLn.out.2; omega)]; omega
  obtain ⟨b, hb⟩ : ∃ b, b = ((strOfNums t1).toList == (strOfNums y).toList) := ⟨_, rfl⟩
  rw [← hb] at hans
  have HSM := Aside0.mk (show poly_Same.f t1 y = some b by unfold poly_Same.f; rw [hb])
  have HANS := Aside0.mk hans
  clear hblk hans htag hml hyl hl16 hs hI0 hsz hy hcy hCy hc3 hb hm
  go_enter Try.func44, Try.ntmps44
  go_wp2_with fail
  refine (chacha_Block.calls A0 c0 l0 0 A1 c1 l1 b1 0 _ HC.out.1 HK.out.1 HC.out.2.1 HK.out.2.1 HBL.out).mono ?_
  rintro e w1 ⟨v1, rfl, hR1, hB1⟩
  have HB1 := Aside0.mk hB1
  clear hB1 hR1
  go_wp2_with fail
  refine (HTAG.out w1 HB1.out).mono ?_
  rintro e w2 ⟨v2, rfl, hR2, hB2⟩
  have HB2 := Aside0.mk (below_step HB1.out hB2)
  obtain ⟨At, ct, rfl, hct, hCt⟩ := Kd.R_reads hR2
  have HT2 := Aside0.mk (And.intro hct hCt)
  clear hB2 hR2 hct hCt
  go_wp2_with fail
  refine (poly_Same.calls At ct t1 Ay cy y b w2 HT2.out.2 HT2.out.1 (Kd.C_below HY.out.2 HB2.out) HY.out.1 HSM.out).mono ?_
  rintro e w3 ⟨rfl, hdr⟩
  obtain ⟨n3, rfl⟩ := hdr
  have HB3 := Aside0.mk (pw_below_drewN HB2.out n3)
  cases b with
  | false =>
    rw [if_neg (by simp)] at HANS
    have hans := HANS.out
    injection hans with q1 q2
    subst q1
    subst q2
    go_wp2
    go_ret2
    exact ⟨_, rfl, Kd.R_nil .., HB3.out⟩
  | true =>
    rw [if_pos rfl] at HANS
    go_wp2_with fail
    refine (HXOR.out _ r1 r2 HANS.out HB3.out).mono ?_
    rintro e w4 ⟨v4, rfl, hR4, hB4⟩
    have HB4 := Aside0.mk (below_step HB3.out hB4)
    have HR4 := Aside0.mk (Kd.R_lower hR4 HB3.out.size)
    clear hB4 hR4
    go_wp2_with fail
    go_ret2
    exact ⟨_, rfl, HR4.out, HB4.out⟩
end Go.Proofs.Ytnmnghpdmiffaaa

/- Part Bits. -/
/-
  Plain facts on bytes: '^' of bytes, and what a list of bytes that came in holds.
-/
namespace Go.Proofs.Ytnmnghpdmiffaaa.Bits
open Go.RowKit Go.Proofs.YtnmnghpdmiffaaaW.PrintWords
set_option maxRecDepth 100000

theorem xor8_def (x y : Int) : Go.bits .xor .u8 x y = ((BitVec.ofInt 8 x ^^^ BitVec.ofInt 8 y).toNat : Int) := by
  have h := (BitVec.ofInt 8 x ^^^ BitVec.ofInt 8 y).isLt
  show IntKind.u8.wrap _ = _
  simp only [IntKind.wrap, IntKind.bits, IntKind.signed]
  simp only [Bool.false_and, Bool.false_eq_true, if_false]
  have : (((BitVec.ofInt 8 x ^^^ BitVec.ofInt 8 y).toNat : Nat) : Int) < 256 := by omega
  show (((BitVec.ofInt 8 x ^^^ BitVec.ofInt 8 y).toNat : Nat) : Int) % 2 ^ 8 = _
  omega
theorem ofInt_nat8 (v : BitVec 8) : BitVec.ofInt 8 (v.toNat : Int) = v := by simp
theorem ofInt_xor8 (x y : Int) : BitVec.ofInt 8 (Go.bits .xor .u8 x y) = BitVec.ofInt 8 x ^^^ BitVec.ofInt 8 y := by rw [xor8_def, ofInt_nat8]
theorem xor8_range (x y : Int) : 0 ≤ Go.bits .xor .u8 x y ∧ Go.bits .xor .u8 x y ≤ 255 := by
  rw [xor8_def]
  have h := (BitVec.ofInt 8 x ^^^ BitVec.ofInt 8 y).isLt
  omega
theorem toNat_ofInt8 (x : Int) (h0 : 0 ≤ x) (h1 : x ≤ 255) : ((BitVec.ofInt 8 x).toNat : Int) = x := by
  rw [BitVec.toNat_ofInt]
  omega
/-- Twice the same is nothing. -/
theorem xor8_twice (x s : Int) (h0 : 0 ≤ x) (h1 : x ≤ 255) : Go.bits .xor .u8 (Go.bits .xor .u8 x s) s = x := by
  rw [xor8_def, ofInt_xor8, BitVec.xor_assoc, BitVec.xor_self, BitVec.xor_zero, toNat_ofInt8 x h0 h1]
/-- Two texts under one stream. -/
theorem xor8_cancel (a b s : Int) : Go.bits .xor .u8 (Go.bits .xor .u8 a s) (Go.bits .xor .u8 b s) = Go.bits .xor .u8 a b := by
  rw [xor8_def, ofInt_xor8, ofInt_xor8, xor8_def a b, BitVec.xor_comm (BitVec.ofInt 8 b), BitVec.xor_assoc, ← BitVec.xor_assoc (BitVec.ofInt 8 s), BitVec.xor_self, BitVec.zero_xor]
theorem xor8_swap (a t s : Int) : Go.bits .xor .u8 (Go.bits .xor .u8 a t) s = Go.bits .xor .u8 (Go.bits .xor .u8 a s) t := by
  rw [xor8_def, ofInt_xor8, xor8_def (Go.bits .xor .u8 a s), ofInt_xor8, BitVec.xor_assoc, BitVec.xor_assoc, BitVec.xor_comm (BitVec.ofInt 8 t)]
theorem zero_xor8 (s : Int) (h0 : 0 ≤ s) (h1 : s ≤ 255) : Go.bits .xor .u8 0 s = s := by
  rw [xor8_def, show BitVec.ofInt 8 0 = 0#8 from rfl, BitVec.zero_xor, toNat_ofInt8 s h0 h1]

/-- A list of bytes. -/
def Bytes (l : List Int) : Prop := ∀ x ∈ l, 0 ≤ x ∧ x ≤ 255
theorem bytes_of_wf {l : List Int} (h : ∀ x ∈ l, (Lit.int .u8 x).wf = true) : Bytes l := by
  intro x hx
  have := h x hx
  simp [Lit.wf] at this
  have e1 : IntKind.u8.min = 0 := rfl
  have e2 : IntKind.u8.max = 255 := rfl
  omega
theorem Bytes.rd {l : List Int} (h : Bytes l) (i : Int) : 0 ≤ Go.Proofs.YtnmnghpdmiffaaaW.PrintWords.rd l i ∧ Go.Proofs.YtnmnghpdmiffaaaW.PrintWords.rd l i ≤ 255 := by
  unfold Go.Proofs.YtnmnghpdmiffaaaW.PrintWords.rd
  rw [List.getD_eq_getElem?_getD]
  rcases Nat.lt_or_ge i.toNat l.length with hi | hi
  · rw [List.getElem?_eq_getElem hi]
    exact h _ (List.getElem_mem hi)
  · rw [List.getElem?_eq_none hi]
    simp
theorem Bytes.take {l : List Int} (h : Bytes l) (n : Nat) : Bytes (l.take n) := fun x hx => h x (List.mem_of_mem_take hx)
theorem Bytes.drop {l : List Int} (h : Bytes l) (n : Nat) : Bytes (l.drop n) := fun x hx => h x (List.mem_of_mem_drop hx)
theorem Bytes.append {l m : List Int} (h : Bytes l) (h' : Bytes m) : Bytes (l ++ m) := fun x hx => (List.mem_append.1 hx).elim (h x) (h' x)
theorem rd_map (f : Nat → Int) (n i : Nat) (h : i < n) : Go.Proofs.YtnmnghpdmiffaaaW.PrintWords.rd ((List.range n).map f) (i : Int) = f i := by
  simp [Go.Proofs.YtnmnghpdmiffaaaW.PrintWords.rd, List.getD_eq_getElem?_getD, h]
end Go.Proofs.Ytnmnghpdmiffaaa.Bits

/- Part Stream. -/
/-
  Plain facts on the stream of chapter 2: its bytes, its counter, its pieces.
-/
namespace Go.Proofs.Ytnmnghpdmiffaaa.Cha
open Go.RowKit Go.Proofs.YtnmnghpdmiffaaaW.PrintWords Go.Proofs.Ytnmnghpdmiffaaa.Arr Go.Proofs.Ytnmnghpdmiffaaa.Bits
set_option maxRecDepth 100000

theorem bytes_outB (x s : List Int) : ∀ i, Bytes (outB x s i)
  | 0 => fun _ h => by simp [outB] at h
  | i + 1 => by
    rw [outB]
    refine (bytes_outB x s i).append fun y hy => ?_
    simp only [bytes4, List.mem_cons, List.not_mem_nil, or_false] at hy
    omega
theorem bytes_blockF (key : List Int) (ctr : Int) (nonce : List Int) : Bytes (blockF key ctr nonce) := bytes_outB _ _ _
theorem strm_range (key : List Int) (ctr : Int) (nonce : List Int) (j : Nat) : 0 ≤ strm key ctr nonce j ∧ strm key ctr nonce j ≤ 255 := (bytes_blockF _ _ _).rd _
theorem bytes_xorF (key : List Int) (ctr : Int) (nonce b : List Int) : Bytes (xorF key ctr nonce b) := by
  intro x hx
  simp only [xorF, List.mem_map] at hx
  obtain ⟨j, _, rfl⟩ := hx
  exact xor8_range _ _
theorem ctrN_eq (ctr : Int) (h0 : 0 ≤ ctr) (h1 : ctr ≤ 4294967295) : ∀ m : Nat, ctrN ctr m = (ctr + m) % 4294967296
  | 0 => by simp only [ctrN]; omega
  | m + 1 => by rw [ctrN, ctrN_eq ctr h0 h1 m]; omega
theorem ctrN_range (ctr : Int) (h0 : 0 ≤ ctr) (h1 : ctr ≤ 4294967295) (m : Nat) : 0 ≤ ctrN ctr m ∧ ctrN ctr m ≤ 4294967295 := by rw [ctrN_eq ctr h0 h1]; omega
theorem ctrN_add (ctr : Int) (h0 : 0 ≤ ctr) (h1 : ctr ≤ 4294967295) (m n : Nat) : ctrN (ctrN ctr m) n = ctrN ctr (m + n) := by
  have := ctrN_range ctr h0 h1 m
  rw [ctrN_eq _ this.1 this.2, ctrN_eq ctr h0 h1, ctrN_eq ctr h0 h1]; omega
theorem strm_add (key : List Int) (ctr : Int) (nonce : List Int) (h0 : 0 ≤ ctr) (h1 : ctr ≤ 4294967295) (m j : Nat) : strm key (ctrN ctr m) nonce j = strm key ctr nonce (64 * m + j) := by
  unfold strm
  rw [ctrN_add ctr h0 h1, show (64 * m + j) / 64 = m + j / 64 by omega, show (64 * m + j) % 64 = j % 64 by omega]
theorem get_xorF (key : List Int) (ctr : Int) (nonce b : List Int) (j : Nat) (h : j < (xorF key ctr nonce b).length) : (xorF key ctr nonce b)[j] = xorAt key ctr nonce b j := by
  simp [xorF]
theorem rd_getElem (l : List Int) (j : Nat) (h : j < l.length) : rd l (j : Int) = l[j] := by simp [rd, List.getD_eq_getElem?_getD, h]
theorem rd_xorF (key : List Int) (ctr : Int) (nonce b : List Int) (j : Nat) (h : j < b.length) : rd (xorF key ctr nonce b) (j : Int) = xorAt key ctr nonce b j := by
  rw [rd_getElem _ _ (by rw [len_xorF]; exact h), get_xorF]
/-- Pieces of whole blocks go by themselves. -/
theorem xorF_take (key : List Int) (ctr : Int) (nonce b : List Int) (m : Nat) : xorF key ctr nonce (b.take m) = (xorF key ctr nonce b).take m := by
  apply List.ext_getElem
  · simp [len_xorF]
  · intro j h1 h2
    rw [len_xorF, List.length_take] at h1
    rw [get_xorF, List.getElem_take, get_xorF]
    unfold xorAt
    rw [rd_getElem _ _ (by rw [List.length_take]; omega), rd_getElem _ _ (by omega), List.getElem_take]
theorem xorF_drop (key : List Int) (ctr : Int) (nonce b : List Int) (h0 : 0 ≤ ctr) (h1 : ctr ≤ 4294967295) (m : Nat) : xorF key (ctrN ctr m) nonce (b.drop (64 * m)) = (xorF key ctr nonce b).drop (64 * m) := by
  apply List.ext_getElem
  · simp [len_xorF]
  · intro j h2 h3
    rw [len_xorF, List.length_drop] at h2
    rw [get_xorF, List.getElem_drop, get_xorF]
    unfold xorAt
    rw [rd_getElem _ _ (by rw [List.length_drop]; omega), rd_getElem _ _ (by omega), List.getElem_drop, strm_add key ctr nonce h0 h1]
/-- Noughts xored on are the stream. -/
theorem xorF_zero (key : List Int) (ctr : Int) (nonce : List Int) (n j : Nat) (h : j < n) : xorAt key ctr nonce (List.replicate n 0) j = strm key ctr nonce j := by
  unfold xorAt
  rw [rd_getElem _ _ (by simpa using h), List.getElem_replicate]
  exact zero_xor8 _ (strm_range _ _ _ _).1 (strm_range _ _ _ _).2
/-- A piece of it is a block's beginning. -/
theorem piece_block (key : List Int) (ctr : Int) (nonce : List Int) (n m e : Nat) (he : e ≤ 64) (hn : 64 * m + e ≤ n) :
    ((xorF key ctr nonce (List.replicate n 0)).take (64 * m + e)).drop (64 * m) = (blockF key (ctrN ctr m) nonce).take e := by
  apply List.ext_getElem
  · simp [len_xorF, len_blockF]; omega
  · intro j h1 h2
    rw [List.length_take, len_blockF] at h2
    rw [List.getElem_drop, List.getElem_take, List.getElem_take, get_xorF, xorF_zero _ _ _ _ _ (by omega)]
    unfold strm
    rw [show (64 * m + j) / 64 = m by omega, show (64 * m + j) % 64 = j by omega, rd_getElem _ _ (by rw [len_blockF]; omega)]
/-- Xor of Xor is what it was. -/
theorem xorF_twice (key : List Int) (ctr : Int) (nonce b : List Int) (hb : Bytes b) : xorF key ctr nonce (xorF key ctr nonce b) = b := by
  apply List.ext_getElem
  · simp [len_xorF]
  · intro j h1 h2
    rw [get_xorF]
    unfold xorAt
    rw [rd_xorF _ _ _ _ _ h2]
    unfold xorAt
    have := hb.rd (j : Int)
    rw [xor8_twice _ _ this.1 this.2, rd_getElem _ _ h2]
theorem u32_of_wf {x : Int} (h : (Lit.int .u32 x).wf = true) : 0 ≤ x ∧ x ≤ 4294967295 := by
  simp [Lit.wf] at h
  have e1 : IntKind.u32.min = 0 := rfl
  have e2 : IntKind.u32.max = 4294967295 := rfl
  omega
end Go.Proofs.Ytnmnghpdmiffaaa.Cha

/- Part StrN. -/
/-
  Plain facts on strings made of lists of bytes.
-/
namespace Go.Proofs.Ytnmnghpdmiffaaa.Bits
open Go.RowKit Go.Proofs.YtnmnghpdmiffaaaW.PrintWords
set_option maxRecDepth 100000

theorem str_inj {l m : List Int} (hl : Bytes l) (hm : Bytes m) (h : (strOfNums l).toList = (strOfNums m).toList) : l = m := by
  have h0 : (strOfNums l).data.toList = (strOfNums m).data.toList := by rw [ByteArray.toList_eq, ByteArray.toList_eq] at h; exact h
  rw [strOfNums_data, strOfNums_data] at h0
  have hlen := congrArg List.length h0
  simp only [List.length_map] at hlen
  apply List.ext_getElem hlen
  intro j h1 h2
  have hj := congrArg (fun z : List UInt8 => z[j]?) h0
  simp only [List.getElem?_map, List.getElem?_eq_getElem h1, List.getElem?_eq_getElem h2, Option.map_some, Option.some.injEq] at hj
  have e := congrArg UInt8.toNat hj
  have b1 := hl _ (List.getElem_mem h1)
  have b2 := hm _ (List.getElem_mem h2)
  simp only [UInt8.toNat_ofNat'] at e
  omega
end Go.Proofs.Ytnmnghpdmiffaaa.Bits

/- Part PolyC1. -/
/-
  Plain facts on poly's tags: bits of the key that are cleared by rule don't matter.
-/
namespace Go.Proofs.Ytnmnghpdmiffaaa.Pol
open Go.RowKit Go.Proofs.YtnmnghpdmiffaaaW.PrintWords Go.Proofs.Ytnmnghpdmiffaaa.Arr Go.Proofs.Ytnmnghpdmiffaaa.Bits
set_option maxRecDepth 100000

theorem rd_set (l : List Int) (i j : Nat) (v : Int) (hi : i < l.length) : rd (l.set i v) (j : Int) = if j = i then v else rd l j := by
  simp only [rd, Int.toNat_natCast, List.getD_eq_getElem?_getD]
  by_cases h : j = i
  · subst h; simp [hi]
  · rw [if_neg h, List.getElem?_set_ne (Ne.symm h)]
theorem ext_rd (l m : List Int) (hl : l.length = m.length) (h : ∀ j : Nat, j < l.length → rd l j = rd m j) : l = m := by
  apply List.ext_getElem hl
  intro j h1 h2
  have := h j h1
  simp only [rd, Int.toNat_natCast, List.getD_eq_getElem?_getD, List.getElem?_eq_getElem h1, List.getElem?_eq_getElem h2, Option.getD_some] at this
  exact this
theorem clampN_rd (l : List Int) (k : Nat) (hk : k ≤ l.length) : ∀ j : Nat, j < l.length → rd (clampN l k) j = if j < k then clampV j (rd l j) else rd l j := by
  induction k with
  | zero => intro j hj; rw [if_neg (by omega)]; rfl
  | succ k ih =>
    intro j hj
    rw [clampN, rd_set _ _ _ _ (by rw [len_clampN]; omega), ih (by omega) j hj, ih (by omega) k (by omega)]
    by_cases h : j = k
    · subst h; rw [if_pos rfl, if_neg (by omega), if_pos (by omega)]
    · rw [if_neg h]
      by_cases h2 : j < k
      · rw [if_pos h2, if_pos (by omega)]
      · rw [if_neg h2, if_neg (by omega)]
theorem clampF_congr (key key' : List Int) (hl : key.length = 32) (hl' : key'.length = 32) (h : ∀ j : Nat, j < 16 → clampV j (rd key' j) = clampV j (rd key j)) : clampF key' = clampF key := by
  have e1 : (key.take 16).length = 16 := by rw [List.length_take]; omega
  have e2 : (key'.take 16).length = 16 := by rw [List.length_take]; omega
  have rt : ∀ (l : List Int) (j : Nat), j < 16 → rd (l.take 16) (j : Int) = rd l j := by
    intro l j hj
    simp only [rd, Int.toNat_natCast, List.getD_eq_getElem?_getD]
    rw [List.getElem?_take, if_pos hj]
  refine congrArg splitF (ext_rd _ _ ?_ ?_)
  · rw [len_clampN, len_clampN, e1, e2]
  · intro j hj
    rw [len_clampN, e2] at hj
    rw [clampN_rd _ 16 (by omega) j (by omega), clampN_rd _ 16 (by omega) j (by omega), if_pos hj, if_pos hj, rt _ _ hj, rt _ _ hj, h j hj]
theorem tagF_congr (key key' b : List Int) (h1 : clampF key' = clampF key) (h2 : key'.drop 16 = key.drop 16) : tagF key' b = tagF key b := by
  have hd : ∀ k, 16 ≤ k → key'.drop k = key.drop k := by
    intro k hk
    obtain ⟨m, rfl⟩ : ∃ m, k = 16 + m := ⟨k - 16, by omega⟩
    rw [← List.drop_drop, h2, List.drop_drop]
  unfold tagF sumLo sumHi wordF
  rw [h1, hd 16 (by omega), hd (16 + 4) (by omega), hd 24 (by omega), hd (24 + 4) (by omega)]
theorem and8_def (x y : Int) : Go.bits .and .u8 x y = ((BitVec.ofInt 8 x &&& BitVec.ofInt 8 y).toNat : Int) := by
  have h := (BitVec.ofInt 8 x &&& BitVec.ofInt 8 y).isLt
  show IntKind.u8.wrap _ = _
  simp only [IntKind.wrap, IntKind.bits, IntKind.signed]
  simp only [Bool.false_and, Bool.false_eq_true, if_false]
  have : (((BitVec.ofInt 8 x &&& BitVec.ofInt 8 y).toNat : Nat) : Int) < 256 := by omega
  show (((BitVec.ofInt 8 x &&& BitVec.ofInt 8 y).toNat : Nat) : Int) % 2 ^ 8 = _
  omega
theorem bv15 : ∀ a : BitVec 8, (a ^^^ 240#8) &&& 15#8 = a &&& 15#8 := by decide +kernel
theorem bv252 : ∀ a : BitVec 8, (a ^^^ 3#8) &&& 252#8 = a &&& 252#8 := by decide +kernel
theorem and15_xor (x : Int) : Go.bits .and .u8 (Go.bits .xor .u8 x 240) 15 = Go.bits .and .u8 x 15 := by
  rw [and8_def, and8_def, ofInt_xor8, show BitVec.ofInt 8 240 = 240#8 from rfl, show BitVec.ofInt 8 15 = 15#8 from rfl, bv15]
theorem and252_xor (x : Int) : Go.bits .and .u8 (Go.bits .xor .u8 x 3) 252 = Go.bits .and .u8 x 252 := by
  rw [and8_def, and8_def, ofInt_xor8, show BitVec.ofInt 8 3 = 3#8 from rfl, show BitVec.ofInt 8 252 = 252#8 from rfl, bv252]
theorem tagF_turn (key b : List Int) (i : Nat) (m : Int) (hl : key.length = 32) (hi : i < 16) (h : clampV i (Go.bits .xor .u8 (rd key i) m) = clampV i (rd key i)) :
    tagF (key.set i (Go.bits .xor .u8 (rd key i) m)) b = tagF key b := by
  refine tagF_congr _ _ _ (clampF_congr _ _ hl (by rw [List.length_set]; exact hl) (fun j _ => ?_)) (List.drop_set_of_lt hi)
  rw [rd_set _ _ _ _ (by omega)]
  by_cases hj : j = i
  · subst hj; rw [if_pos rfl]; exact h
  · rw [if_neg hj]
theorem clampV3 (i : Nat) (x : Int) (h : i % 4 = 3) : clampV i x = Go.bits .and .u8 x 15 := by unfold clampV; rw [if_pos h]
theorem clampV0 (i : Nat) (x : Int) (h : i % 4 = 0) (h0 : 0 < i) : clampV i x = Go.bits .and .u8 x 252 := by unfold clampV; rw [if_neg (by omega), if_pos ⟨h, h0⟩]
theorem tagF_turn3 (key b : List Int) (i : Nat) (hl : key.length = 32) (hi : i < 16) (h3 : i % 4 = 3) : tagF (key.set i (Go.bits .xor .u8 (rd key i) 240)) b = tagF key b :=
  tagF_turn key b i 240 hl hi (by rw [clampV3 _ _ h3, clampV3 _ _ h3, and15_xor])
theorem tagF_turn0 (key b : List Int) (i : Nat) (hl : key.length = 32) (hi : i < 16) (h3 : i % 4 = 0) (h0 : 0 < i) : tagF (key.set i (Go.bits .xor .u8 (rd key i) 3)) b = tagF key b :=
  tagF_turn key b i 3 hl hi (by rw [clampV0 _ _ h3 h0, clampV0 _ _ h3 h0, and252_xor])
/-- A tag's numbers are bytes. -/
theorem byteK_range (n : Int) (k : Nat) : 0 ≤ byteK n k ∧ byteK n k ≤ 255 := by unfold byteK; omega
theorem bytesN_bytes (n : Int) : ∀ k, Bytes (bytesN n k)
  | 0 => fun _ h => by cases h
  | k + 1 => (bytesN_bytes n k).append (fun x hx => by simp at hx; subst hx; exact byteK_range n k)
theorem outW_bytes (l : List Int) : ∀ i, Bytes (outW l i)
  | 0 => fun _ h => by cases h
  | i + 1 => (outW_bytes l i).append (bytesN_bytes _ _)
theorem tagF_bytes (key b : List Int) : Bytes (tagF key b) := outW_bytes _ 2
end Go.Proofs.Ytnmnghpdmiffaaa.Pol

/- Part SealP. -/
/-
  Plain facts on sealed bytes: what is hidden, its sum, and what Open answers.
-/
namespace Go.Proofs.Ytnmnghpdmiffaaa
open Go.RowKit Go.Proofs.YtnmnghpdmiffaaaW.PrintWords Go.Proofs.Ytnmnghpdmiffaaa.Bits
set_option maxRecDepth 100000
def hidF (key nonce b : List Int) : List Int := Cha.xorF key 1 nonce b
def macF (key nonce bs h : List Int) : List Int := Pol.tagF ((Cha.blockF key 0 nonce).take 32) (tagIn bs h)
theorem len_hidF (key nonce b : List Int) : (hidF key nonce b).length = b.length := Cha.len_xorF ..
theorem len_macF (key nonce bs h : List Int) : (macF key nonce bs h).length = 16 := Pol.len_tagF ..
theorem xorAns_eq {key nonce : List Int} (hk : key.length = 32) (hn : nonce.length = 12) (b : List Int) : Cha.xorAns key 1 nonce b = (hidF key nonce b, 0) := by
  unfold Cha.xorAns
  rw [if_pos ⟨hk, hn⟩]
  rfl
theorem block0_eq {key nonce : List Int} (hk : key.length = 32) (hn : nonce.length = 12) : Cha.refBlockF key 0 nonce = (Cha.blockF key 0 nonce, 0) := by
  unfold Cha.refBlockF
  rw [if_pos ⟨hk, hn⟩]
theorem tagAns_eq {key nonce : List Int} (hk : key.length = 32) (hn : nonce.length = 12) (bs h : List Int) : tagAns key nonce bs h = (macF key nonce bs h, 0) := by
  unfold tagAns
  rw [block0_eq hk hn, if_pos rfl]
  unfold Pol.sumAns
  rw [if_pos (by rw [List.length_take, Cha.len_blockF]; rfl)]
  rfl
theorem seal_eq {key nonce : List Int} (hk : key.length = 32) (hn : nonce.length = 12) (bs b : List Int) : sealAns key nonce bs b = (hidF key nonce b ++ macF key nonce bs (hidF key nonce b), 0) := by
  unfold sealAns
  rw [xorAns_eq hk hn, if_pos rfl, tagAns_eq hk hn]
theorem open_eq {key nonce : List Int} (hk : key.length = 32) (hn : nonce.length = 12) (bs h t : List Int) (ht : t.length = 16) : openAns key nonce bs (h ++ t) = if ((strOfNums (macF key nonce bs h)).toList == (strOfNums t).toList) = true then (hidF key nonce h, 0) else ([], 14) := by
  unfold openAns
  rw [block0_eq hk hn, if_pos rfl, if_neg (by rw [List.length_append]; omega), show (h ++ t).length - 16 = h.length by rw [List.length_append]; omega, List.take_left, List.drop_left, tagAns_eq hk hn, xorAns_eq hk hn]
theorem open_short {key nonce : List Int} (hk : key.length = 32) (hn : nonce.length = 12) (bs s : List Int) (hs : s.length < 16) : openAns key nonce bs s = ([], 10) := by
  unfold openAns
  rw [block0_eq hk hn, if_pos rfl, if_pos hs]
theorem hid_hid (key nonce b : List Int) (hb : Bytes b) : hidF key nonce (hidF key nonce b) = b := by
  apply List.ext_getElem
  · rw [len_hidF, len_hidF]
  · intro j h1 h2
    have e := Cha.get_xorF key 1 nonce (hidF key nonce b) j h1
    refine e.trans ?_
    unfold Cha.xorAt
    have e2 : rd (hidF key nonce b) (j : Int) = Cha.xorAt key 1 nonce b j := Cha.rd_xorF key 1 nonce b j h2
    rw [e2]
    unfold Cha.xorAt
    have hr := hb.rd (j : Int)
    rw [xor8_twice _ _ hr.1 hr.2, Cha.rd_getElem _ _ h2]
theorem bytes_macF (key nonce bs h : List Int) : Bytes (macF key nonce bs h) := Pol.tagF_bytes _ _
theorem same_self (l : List Int) : ((strOfNums l).toList == (strOfNums l).toList) = true := by simp
theorem same_ne {l m : List Int} (hl : Bytes l) (hm : Bytes m) (h : l ≠ m) : ((strOfNums l).toList == (strOfNums m).toList) = false := by
  rw [beq_eq_false_iff_ne]
  exact fun e => h (str_inj hl hm e)
end Go.Proofs.Ytnmnghpdmiffaaa

/- Part UBookx0. -/
-- written by a program (wip/gen/myprint.py) for this claim, out of the translation's print and of contracts proved by hand
namespace Go.Proofs.Ytnmnghpdmiffaaa.UBook
open Go.RowKit Go.Proofs.YtnmnghpdmiffaaaW.PrintWords Go.Proofs.YtnmnghpdmiffaaaW.PrintLast Go.Proofs.YtnmnghpdmiffaaaW.PrintMore
attribute [local go_sem] max2_int min2_int max_two min_two max_three min_three max_four min_four   -- for this text's walks alone
set_option linter.unusedVariables false
set_option linter.unusedSimpArgs false



def errW : Option Int → Value
  | none => .nilIface
  | some c => .iface 0 (.int .i64 c)
theorem errW_none : errW none = .nilIface := rfl
theorem errW_some (c : Int) : errW (some c) = .iface 0 (.int .i64 c) := rfl

theorem info5 : (Try.prog.info? 5).map (fun i => (i.zero, i.size, i.bytes)) = some (some (.int .u8 0), 1, 1) := by kernel_rfl
-- the values' own types

end Go.Proofs.Ytnmnghpdmiffaaa.UBook

/- Part UBookx1. -/
-- written by a program (wip/gen/myprint.py) for this claim, out of the translation's print and of contracts proved by hand
namespace Go.Proofs.Ytnmnghpdmiffaaa.UBook
open Go.RowKit Go.Proofs.YtnmnghpdmiffaaaW.PrintWords Go.Proofs.YtnmnghpdmiffaaaW.PrintLast Go.Proofs.YtnmnghpdmiffaaaW.PrintMore
attribute [local go_sem] max2_int min2_int max_two min_two max_three min_three max_four min_four   -- for this text's walks alone
set_option linter.unusedVariables false
set_option linter.unusedSimpArgs false

/-! ### strongroomkeep_Sized: function 11 -/
def strongroomkeep_Sized.l0 : Nat → List Int → Int → List Int → Int → Option (List Int)
  | 0, _, _, _, _ => none
  | k + 1, x0, x1, x5, x6 => if x6 < x1 then (if (x0.length : Int) > 0 then (if (x0.length : Int) = 0 then (none) else (if 0 ≤ (Int.tmod x6 (x0.length : Int)) then (if (Int.tmod x6 (x0.length : Int)) < (x0.length : Int) then (if 0 ≤ x6 then (if x6 < (x5.length : Int) then (strongroomkeep_Sized.l0 k x0 x1 (x5.set (x6 : Int).toNat (rd x0 (Int.tmod x6 (x0.length : Int)))) (wrap64 (x6 + 1))) else (none)) else (none)) else (none)) else (none))) else (some x5)) else (some x5)
def strongroomkeep_Sized.f (k : Nat) (l0 : List Int) (a1 : Int) : Option (List Int) := if 0 ≤ a1 then (if (a1 : Int).toNat ≤ 281474976710656 then (strongroomkeep_Sized.l0 k l0 a1 (List.replicate (a1 : Int).toNat 0) 0) else (none)) else (none)
theorem strongroomkeep_Sized.mono_l : ∀ k, (∀ y0 y1 y2 y3, LeO (strongroomkeep_Sized.l0 k y0 y1 y2 y3) (strongroomkeep_Sized.l0 (k + 1) y0 y1 y2 y3))
  | 0 => fun _ _ _ _ r h => by simp [strongroomkeep_Sized.l0] at h
  | k + 1 => by
    have ih0 := strongroomkeep_Sized.mono_l k
    · intro y0 y1 y2 y3
      unfold strongroomkeep_Sized.l0
      repeat' first
      | (with_reducible exact ih0 _ _ _ _)
      | (with_reducible exact LeO.refl _)
      | (with_reducible exact LeO.none _)
      | (with_reducible refine LeO.ite ?_ ?_)
      | (with_reducible refine LeO.bind ?_ (fun _ => ?_))
      | exact ih0 _ _ _ _
      | exact LeO.none _
      | refine LeO.ite ?_ ?_
      | refine LeO.bind ?_ (fun _ => ?_)
theorem strongroomkeep_Sized.mono : ∀ a0 a1 k, LeO (strongroomkeep_Sized.f k a0 a1) (strongroomkeep_Sized.f (k + 1) a0 a1) := by
  intro a0 a1 k
  have ih0 := strongroomkeep_Sized.mono_l k
  unfold strongroomkeep_Sized.f
  repeat' first
      | (with_reducible exact ih0 _ _ _ _)
      | (with_reducible exact LeO.refl _)
      | (with_reducible exact LeO.none _)
      | (with_reducible refine LeO.ite ?_ ?_)
      | (with_reducible refine LeO.bind ?_ (fun _ => ?_))
      | exact ih0 _ _ _ _
      | exact LeO.none _
      | refine LeO.ite ?_ ?_
      | refine LeO.bind ?_ (fun _ => ?_)
set_option maxHeartbeats 8000000 in
set_option maxRecDepth 100000 in
theorem strongroomkeep_Sized.calls (k : Nat) (A0 : Option Addr) (c0 : Nat) (l0 : List Int) (a1 : Int) (r : List Int) (w : World) (hr0 : Kd.C (Kd.int .u8) w A0 l0.length l0) (hc0 : l0.length ≤ c0) (h : strongroomkeep_Sized.f k l0 a1 = some r) :
    Calls Try.prog 11 #[.slice A0 l0.length c0, .int .i64 a1] w fun e w' => ∃ v0_ : Value, e = .returned (v0_) ∧ Kd.R (Kd.int .u8) 5 w' w.heap.size (fun _ => True) v0_ r ∧ Below w.heap.size w w' := by
  have HR0 := Aside0.mk hr0
  have HC0 := Aside0.mk hc0
  clear hr0 hc0
  have HB := Aside0.mk (Below.refl w.heap.size w)
  have H : (if 0 ≤ a1 then (if (a1 : Int).toNat ≤ 281474976710656 then (strongroomkeep_Sized.l0 k l0 a1 (List.replicate (a1 : Int).toNat 0) 0) else (none)) else (none)) = some r := h
  clear h
  by_cases c3 : 0 ≤ a1
  · rw [if_pos c3] at H
    have c3b0 := eq_true c3
    have c3b1 : decide (0 ≤ a1) = true := decide_eq_true c3
    clear c3
    by_cases c4 : (a1 : Int).toNat ≤ 281474976710656
    · rw [if_pos c4] at H
      have c4b0 := eq_true c4
      have c4b1 : decide ((a1 : Int).toNat ≤ 281474976710656) = true := decide_eq_true c4
      clear c4
      obtain ⟨y101, hy101⟩ : ∃ y_ : List Int, y_ = (List.replicate (a1 : Int).toNat 0) := ⟨_, rfl⟩
      replace H : (strongroomkeep_Sized.l0 k l0 a1 y101 0) = some r := by first | (rw [hy101]; with_reducible exact H) | (have H2_ := (Option.bind_some _ _).symm.trans H; rw [hy101]; with_reducible exact H2_) | (have H2_ := (Option.bind_some _ _).symm.trans H; with_reducible exact H2_) | with_reducible exact H | (rw [hy101]; exact H) | exact H
      have Ny101 := Aside0.mk hy101
      clear hy101
      have H' := Aside0.mk H
      clear H
      go_enter Try.func11, Try.ntmps11
      go_wp2_with (first | ((with_reducible refine gate_dst (N := 8) rfl ?_); (try (refine gate_guard (by rfl) ?_; dsimp only)); refine Kd.R_make (Kd.int .u8) _ 5 rfl (N := 8) rfl 23 _ _ rfl a1 rfl rfl Try.underlying23 (.int .u8 0) 1 info5 rfl (by decide) (by omega) 0 (ok := fun _ => True) (okp := fun _ => True) rfl (fun _ hk => hk) trivial (of_decide_eq_true (by first | (with_reducible assumption) | assumption)) (Nat.le_trans (Nat.mul_le_mul_right _ (of_decide_eq_true (by first | (with_reducible assumption) | assumption) : a1.toNat ≤ 281474976710656)) (by omega)) (Below.refl _ _) (Nat.le_refl _) ?_; intro v102 w5 ho6 hb hg_ hnew_; clear hg_ hnew_; (first | rw [← Ny101.out] at ho6 | (simp only [Int.reduceToNat] at ho6; rw [← Ny101.out] at ho6)); have n0_ := Aside0.mk (Kd.R_lower ho6 (below_size (by repeat (first | (with_reducible first | exact HB.out | apply below_alloc | apply pw_below_drewN | apply below_drew1) | exact HB.out)))); have n1_ := Aside0.mk (below_step (by repeat (first | (with_reducible first | exact HB.out | apply below_alloc | apply pw_below_drewN | apply below_drew1) | exact HB.out)) hb); clear HB; have HO103 := n0_; have HB := n1_; clear n0_ n1_; clear hb ho6))
      go_loopg [6] k (fun kq v6 w' => ∃ (x5_1 : List Int) (x6_1 : Int), v6 = .int .i64 x6_1 ∧ Aside0 (strongroomkeep_Sized.l0 kq l0 a1 x5_1 x6_1 = some r) ∧ Aside0 (kq ≤ k) ∧ Aside0 (Kd.R (Kd.int .u8) 5 w' w.heap.size (fun _ => True) v102 x5_1) ∧ Aside0 (Below w.heap.size w w'))
      case atStart => exact ⟨(y101), (0), (by first | rfl | (simp; done) | (simp [*]; done)), H', ⟨Nat.le_refl _⟩, ⟨by (with_reducible repeat (first | apply Kd.R_alloc | apply Kd.R_drewN | apply Kd.R_drew)); exact HO103.out⟩, ⟨by repeat (first | (with_reducible first | exact HB.out | apply below_alloc | apply pw_below_drewN | apply below_drew1) | exact HB.out)⟩⟩
      case round =>
        clear H'
        try clear c1
        try clear p2
        try clear c3
        try clear c3b0
        try clear c3b1
        try clear c4
        try clear c4b0
        try clear c4b1
        obtain ⟨x5_1, x6_1, rfl, HA, HK1, HO_5, HB⟩ := hrel
        cases gk with
        | zero => exact absurd HA.out (by simp [strongroomkeep_Sized.l0])
        | succ k1 =>
          have H := HA.out
          clear HA
          simp only [strongroomkeep_Sized.l0] at H
          by_cases c7 : x6_1 < a1
          · rw [if_pos c7] at H
            have c7b0 : decide (x6_1 < a1) = true := decide_eq_true c7
            clear c7
            by_cases c8 : (l0.length : Int) > 0
            · rw [if_pos c8] at H
              have c8b0 : decide (0 < (l0.length : Int)) = true := decide_eq_true c8
              have c8b1 : decide (0 < l0.length) = true := decide_eq_true (by omega)
              clear c8
              by_cases c9 : (l0.length : Int) = 0
              · rw [if_pos c9] at H
                exact absurd H (by simp)
              · rw [if_neg c9] at H
                have c9b0 : ((l0.length : Int) == 0) = false := beq_eq_false_iff_ne.mpr c9
                have c9b1 : ((l0.length : Int) != 0) = true := bne_iff_ne.mpr c9
                have c9b2 : ¬ (l0 = []) := fun h_ => c9 (by rw [h_]; rfl)
                obtain ⟨ji10, hji10⟩ : ∃ j_ : Int, (Int.tmod x6_1 (l0.length : Int)) = j_ := ⟨_, rfl⟩
                replace H : (if 0 ≤ (ji10) then (if (ji10) < (l0.length : Int) then (if 0 ≤ x6_1 then (if x6_1 < (x5_1.length : Int) then (strongroomkeep_Sized.l0 k1 l0 a1 (x5_1.set (x6_1 : Int).toNat (rd l0 (ji10))) (wrap64 (x6_1 + 1))) else (none)) else (none)) else (none)) else (none)) = some r := by first | (rw [hji10] at H; exact H) | (simp only [hji10] at H ⊢; exact H)
                by_cases c11 : 0 ≤ (ji10)
                · rw [if_pos c11] at H
                  have c11b0 : decide (0 ≤ (ji10)) = true := decide_eq_true c11
                  clear c11
                  by_cases c12 : (ji10) < (l0.length : Int)
                  · rw [if_pos c12] at H
                    have c12b0 : decide ((ji10) < (l0.length : Int)) = true := decide_eq_true c12
                    clear c12
                    by_cases c13 : 0 ≤ x6_1
                    · rw [if_pos c13] at H
                      have c13b0 : decide (0 ≤ x6_1) = true := decide_eq_true c13
                      clear c13
                      by_cases c14 : x6_1 < (x5_1.length : Int)
                      · rw [if_pos c14] at H
                        have c14b0 : decide (x6_1 < (x5_1.length : Int)) = true := decide_eq_true c14
                        clear c14
                        obtain ⟨y105, hy105⟩ : ∃ y_ : List Int, y_ = (x5_1.set (x6_1 : Int).toNat (rd l0 (ji10))) := ⟨_, rfl⟩
                        replace H : (strongroomkeep_Sized.l0 k1 l0 a1 y105 (wrap64 (x6_1 + 1))) = some r := by first | (rw [hy105]; with_reducible exact H) | (have H2_ := (Option.bind_some _ _).symm.trans H; rw [hy105]; with_reducible exact H2_) | (have H2_ := (Option.bind_some _ _).symm.trans H; with_reducible exact H2_) | with_reducible exact H | (rw [hy105]; exact H) | exact H
                        have Ny105 := Aside0.mk hy105
                        clear hy105
                        have H' := Aside0.mk H
                        clear H
                        have p104 : 0 ≤ ((ji10) : Int) := of_decide_eq_true (by first | (with_reducible assumption) | assumption)
                        have q104 : (ji10) < (l0.length : Int) := of_decide_eq_true (by first | (with_reducible assumption) | assumption)
                        obtain ⟨ad104, e104, hx104_0⟩ := Kd.at_int HR0.out (ji10) p104 q104
                        cases e104
                        replace hx104_0 := (HB.out.cell (World.block_lt_of_cell? w _ hx104_0)).trans hx104_0
                        replace p104 := eq_true p104
                        replace q104 := eq_true q104
                        have p15 : 0 ≤ (x6_1 : Int) := of_decide_eq_true (by first | (with_reducible assumption) | assumption)
                        have q15 : (x6_1 : Int) < ((x5_1.length : Int) : Int) := of_decide_eq_true (by first | (with_reducible assumption) | assumption)
                        obtain ⟨go15, co15, eo15, gb15, gl15, cl15, HG15⟩ := Kd.R_form HO_5.out (by omega)
                        (first | cases eo15 | (injection eo15 with ea_ en_ ec_; (first | subst ea_ | (injection ea_ with ea_; subst ea_)); subst ec_; clear en_))
                        have GB15 := Aside0.mk gb15
                        have GG15 := Aside0.mk HG15
                        clear gb15 gl15 HG15
                        obtain ⟨hx15_0, hf15_0⟩ := Kd.R_celln 0 HO_5.out (x6_1 : Int) p15 q15
                        replace p15 := eq_true p15
                        replace q15 := eq_true q15
                        have HP16 := Kd.R_putg HO_5.out (x6_1 : Int) (rd l0 (ji10))
                        go_wp2_with (first | ((with_reducible refine gate_store (t := 5) (p := 28) rfl ?_); refine store_event (t := 5) (p := 28) (v := ?vo_w17) (w1 := (wr.setCell ⟨go15, (x6_1 : Int).toNat, none⟩ (.int .u8 (rd l0 (ji10))))) ?hg ?ho ?hn ?hr ?_; (case ho => rfl); (case hg => rfl); (case hn => rfl); (case hr => first | (go_simp; done) | (go_simp; rfl)); intro w17 hw; have hg : wr.grownBy w17 (some go15) := (by rw [hw]; exact HP16.2); have hp_ : Kd.R (Kd.int .u8) 5 w17 w.heap.size (fun _ => True) (.slice (some ⟨go15, 0, none⟩) x5_1.length co15) y105 := (by rw [hw, Ny105.out]; exact HP16.1); clear HP16; have n0_ := Aside0.mk (hp_); have n1_ := Aside0.mk ((by rw [hw]; exact below_set (HB.out) GB15.out : Below w.heap.size w w17)); clear HO_5; clear HB; have HO_5 := n0_; have HB := n1_; clear n0_ n1_; clear hg hw hp_))
                        go_roundg k1
                        case measure => have := HK1.out; omega
                        case rel => exact ⟨(y105), (wrap64 (x6_1 + 1)), (by first | rfl | (simp; done) | (simp [*]; done)), H', ⟨by have := HK1.out; omega⟩, ⟨by (with_reducible repeat (first | apply Kd.R_alloc | apply Kd.R_drewN | apply Kd.R_drew)); exact HO_5.out⟩, ⟨by repeat (first | (with_reducible first | exact HB.out | apply below_alloc | apply pw_below_drewN | apply below_drew1) | exact HB.out)⟩⟩
                      · rw [if_neg c14] at H
                        exact absurd H (by simp)
                    · rw [if_neg c13] at H
                      exact absurd H (by simp)
                  · rw [if_neg c12] at H
                    exact absurd H (by simp)
                · rw [if_neg c11] at H
                  exact absurd H (by simp)
            · rw [if_neg c8] at H
              have c8b0 : decide (0 < (l0.length : Int)) = false := decide_eq_false c8
              have c8b1 : decide (0 < l0.length) = false := decide_eq_false (by omega)
              clear c8
              obtain rfl := Option.some.inj H
              go_wp2
              go_ret
              exact ⟨_, by first | rfl | (simp [errW_none, errW_some] <;> rfl) | (simp [*, errW_none, errW_some] <;> rfl), by (with_reducible repeat (first | apply Kd.R_alloc | apply Kd.R_drewN | apply Kd.R_drew)); exact HO_5.out, by repeat (first | (with_reducible first | exact HB.out | apply below_alloc | apply pw_below_drewN | apply below_drew1) | exact HB.out)⟩
          · rw [if_neg c7] at H
            have c7b0 : decide (x6_1 < a1) = false := decide_eq_false c7
            clear c7
            obtain rfl := Option.some.inj H
            go_wp2
            go_ret
            exact ⟨_, by first | rfl | (simp [errW_none, errW_some] <;> rfl) | (simp [*, errW_none, errW_some] <;> rfl), by (with_reducible repeat (first | apply Kd.R_alloc | apply Kd.R_drewN | apply Kd.R_drew)); exact HO_5.out, by repeat (first | (with_reducible first | exact HB.out | apply below_alloc | apply pw_below_drewN | apply below_drew1) | exact HB.out)⟩
    · rw [if_neg c4] at H
      exact absurd H (by simp)
  · rw [if_neg c3] at H
    exact absurd H (by simp)

/-! ### strongroombook_Same_byte: function 40 -/
def strongroombook_Same_byte.l0 : Nat → List Int → List Int → Int → Option (Bool)
  | 0, _, _, _ => none
  | k + 1, x0, x1, x5 => if x5 < (x0.length : Int) then (if 0 ≤ x5 then (if x5 < (x1.length : Int) then (if (rd x0 x5) = (rd x1 x5) then (strongroombook_Same_byte.l0 k x0 x1 (wrap64 (x5 + 1))) else (some false)) else (none)) else (none)) else (some true)
def strongroombook_Same_byte.f (k : Nat) (l0 : List Int) (l1 : List Int) : Option (Bool) := if (l0.length : Int) = (l1.length : Int) then (strongroombook_Same_byte.l0 k l0 l1 0) else (some false)
theorem strongroombook_Same_byte.mono_l : ∀ k, (∀ y0 y1 y2, LeO (strongroombook_Same_byte.l0 k y0 y1 y2) (strongroombook_Same_byte.l0 (k + 1) y0 y1 y2))
  | 0 => fun _ _ _ r h => by simp [strongroombook_Same_byte.l0] at h
  | k + 1 => by
    have ih0 := strongroombook_Same_byte.mono_l k
    · intro y0 y1 y2
      unfold strongroombook_Same_byte.l0
      repeat' first
      | (with_reducible exact ih0 _ _ _)
      | (with_reducible exact LeO.refl _)
      | (with_reducible exact LeO.none _)
      | (with_reducible refine LeO.ite ?_ ?_)
      | (with_reducible refine LeO.bind ?_ (fun _ => ?_))
      | exact ih0 _ _ _
      | exact LeO.none _
      | refine LeO.ite ?_ ?_
      | refine LeO.bind ?_ (fun _ => ?_)
theorem strongroombook_Same_byte.mono : ∀ a0 a1 k, LeO (strongroombook_Same_byte.f k a0 a1) (strongroombook_Same_byte.f (k + 1) a0 a1) := by
  intro a0 a1 k
  have ih0 := strongroombook_Same_byte.mono_l k
  unfold strongroombook_Same_byte.f
  repeat' first
      | (with_reducible exact ih0 _ _ _)
      | (with_reducible exact LeO.refl _)
      | (with_reducible exact LeO.none _)
      | (with_reducible refine LeO.ite ?_ ?_)
      | (with_reducible refine LeO.bind ?_ (fun _ => ?_))
      | exact ih0 _ _ _
      | exact LeO.none _
      | refine LeO.ite ?_ ?_
      | refine LeO.bind ?_ (fun _ => ?_)
set_option maxHeartbeats 8000000 in
set_option maxRecDepth 100000 in
theorem strongroombook_Same_byte.calls (k : Nat) (A0 : Option Addr) (c0 : Nat) (l0 : List Int) (A1 : Option Addr) (c1 : Nat) (l1 : List Int) (r : Bool) (w : World) (hr0 : Kd.C (Kd.int .u8) w A0 l0.length l0) (hc0 : l0.length ≤ c0) (hr1 : Kd.C (Kd.int .u8) w A1 l1.length l1) (hc1 : l1.length ≤ c1) (h : strongroombook_Same_byte.f k l0 l1 = some r) :
    Calls Try.prog 40 #[.slice A0 l0.length c0, .slice A1 l1.length c1] w fun e w' => e = .returned (.bool r) ∧ Drawn0 w w' := by
  have HR0 := Aside0.mk hr0
  have HC0 := Aside0.mk hc0
  clear hr0 hc0
  have HR1 := Aside0.mk hr1
  have HC1 := Aside0.mk hc1
  clear hr1 hc1
  have H : (if (l0.length : Int) = (l1.length : Int) then (strongroombook_Same_byte.l0 k l0 l1 0) else (some false)) = some r := h
  clear h
  by_cases c3 : (l0.length : Int) = (l1.length : Int)
  · rw [if_pos c3] at H
    have c3b0 : ((l0.length : Int) == (l1.length : Int)) = true := beq_iff_eq.mpr c3
    have c3b1 : ((l0.length : Int) != (l1.length : Int)) = false := bne_eq_false_iff_eq.mpr c3
    have c3b2 : (l0.length == l1.length) = true := by first | simpa using c3 | (simp at c3 ⊢; omega)
    clear c3
    have H' := Aside0.mk H
    clear H
    go_enter Try.func40, Try.ntmps40
    go_wp2
    repeat (go_quiet (fail); try go_wp2)
    go_loopg [5] k (fun kq v5 w' => ∃ (x5_1 : Int), v5 = .int .i64 x5_1 ∧ Aside0 (strongroombook_Same_byte.l0 kq l0 l1 x5_1 = some r) ∧ Aside0 (kq ≤ k) ∧ Drawn0 w w')
    case atStart => exact ⟨(0), (by first | rfl | (simp; done) | (simp [*]; done)), H', ⟨Nat.le_refl _⟩, by repeat (first | exact Drawn0.refl _ | apply Drawn0.step)⟩
    case round =>
      clear H'
      try clear c1
      try clear p2
      try clear c3
      try clear c3b0
      try clear c3b1
      try clear c3b2
      obtain ⟨x5_1, rfl, HA, HK1, ⟨m1, rfl⟩⟩ := hrel
      cases gk with
      | zero => exact absurd HA.out (by simp [strongroombook_Same_byte.l0])
      | succ k1 =>
        have H := HA.out
        clear HA
        simp only [strongroombook_Same_byte.l0] at H
        by_cases c4 : x5_1 < (l0.length : Int)
        · rw [if_pos c4] at H
          have c4b0 : decide (x5_1 < (l0.length : Int)) = true := decide_eq_true c4
          clear c4
          by_cases c5 : 0 ≤ x5_1
          · rw [if_pos c5] at H
            have c5b0 : decide (0 ≤ x5_1) = true := decide_eq_true c5
            clear c5
            by_cases c6 : x5_1 < (l1.length : Int)
            · rw [if_pos c6] at H
              have c6b0 : decide (x5_1 < (l1.length : Int)) = true := decide_eq_true c6
              clear c6
              by_cases c7 : (rd l0 x5_1) = (rd l1 x5_1)
              · rw [if_pos c7] at H
                have c7b0 : ((rd l0 x5_1) == (rd l1 x5_1)) = true := beq_iff_eq.mpr c7
                have c7b1 : ((rd l0 x5_1) != (rd l1 x5_1)) = false := bne_eq_false_iff_eq.mpr c7
                clear c7
                have H' := Aside0.mk H
                clear H
                have p106 : 0 ≤ (x5_1 : Int) := of_decide_eq_true (by first | (with_reducible assumption) | assumption)
                have q106 : x5_1 < (l0.length : Int) := of_decide_eq_true (by first | (with_reducible assumption) | assumption)
                obtain ⟨ad106, e106, hx106_0⟩ := Kd.at_int HR0.out x5_1 p106 q106
                cases e106
                replace p106 := eq_true p106
                replace q106 := eq_true q106
                have p107 : 0 ≤ (x5_1 : Int) := of_decide_eq_true (by first | (with_reducible assumption) | assumption)
                have q107 : x5_1 < (l1.length : Int) := of_decide_eq_true (by first | (with_reducible assumption) | assumption)
                obtain ⟨ad107, e107, hx107_0⟩ := Kd.at_int HR1.out x5_1 p107 q107
                cases e107
                replace p107 := eq_true p107
                replace q107 := eq_true q107
                go_wp2
                repeat (go_quiet (fail); try go_wp2)
                go_roundg k1
                case measure => have := HK1.out; omega
                case rel => exact ⟨(wrap64 (x5_1 + 1)), (by first | rfl | (simp; done) | (simp [*]; done)), H', ⟨by have := HK1.out; omega⟩, by repeat (first | exact Drawn0.refl _ | apply Drawn0.step)⟩
              · rw [if_neg c7] at H
                have c7b0 : ((rd l0 x5_1) == (rd l1 x5_1)) = false := beq_eq_false_iff_ne.mpr c7
                have c7b1 : ((rd l0 x5_1) != (rd l1 x5_1)) = true := bne_iff_ne.mpr c7
                obtain rfl := Option.some.inj H
                have p106 : 0 ≤ (x5_1 : Int) := of_decide_eq_true (by first | (with_reducible assumption) | assumption)
                have q106 : x5_1 < (l0.length : Int) := of_decide_eq_true (by first | (with_reducible assumption) | assumption)
                obtain ⟨ad106, e106, hx106_0⟩ := Kd.at_int HR0.out x5_1 p106 q106
                cases e106
                replace p106 := eq_true p106
                replace q106 := eq_true q106
                have p107 : 0 ≤ (x5_1 : Int) := of_decide_eq_true (by first | (with_reducible assumption) | assumption)
                have q107 : x5_1 < (l1.length : Int) := of_decide_eq_true (by first | (with_reducible assumption) | assumption)
                obtain ⟨ad107, e107, hx107_0⟩ := Kd.at_int HR1.out x5_1 p107 q107
                cases e107
                replace p107 := eq_true p107
                replace q107 := eq_true q107
                go_wp2
                repeat (go_quiet (fail); try go_wp2)
                go_ret
                exact ⟨by first | rfl | (simp; done) | (simp [*]; done), by repeat (first | exact Drawn0.refl _ | apply Drawn0.step)⟩
            · rw [if_neg c6] at H
              exact absurd H (by simp)
          · rw [if_neg c5] at H
            exact absurd H (by simp)
        · rw [if_neg c4] at H
          have c4b0 : decide (x5_1 < (l0.length : Int)) = false := decide_eq_false c4
          clear c4
          obtain rfl := Option.some.inj H
          go_wp2
          repeat (go_quiet (fail); try go_wp2)
          go_ret
          exact ⟨by first | rfl | (simp; done) | (simp [*]; done), by repeat (first | exact Drawn0.refl _ | apply Drawn0.step)⟩
  · rw [if_neg c3] at H
    have c3b0 : ((l0.length : Int) == (l1.length : Int)) = false := beq_eq_false_iff_ne.mpr c3
    have c3b1 : ((l0.length : Int) != (l1.length : Int)) = true := bne_iff_ne.mpr c3
    have c3b2 : (l0.length == l1.length) = false := by first | simpa using c3 | (simp at c3 ⊢; omega)
    obtain rfl := Option.some.inj H
    go_enter Try.func40, Try.ntmps40
    go_wp2
    repeat (go_quiet (fail); try go_wp2)
    go_ret
    exact ⟨by first | rfl | (simp; done) | (simp [*]; done), by repeat (first | exact Drawn0.refl _ | apply Drawn0.step)⟩

/-! ### strongroombook_Within: function 13 -/
def strongroombook_Within.f (a0 : Int) (a1 : Int) (a2 : Int) : Option (Int) := if (wrap64 ((wrap64 (a2 - a1)) + 1)) = 0 then (none) else (if (Int.tmod a0 (wrap64 ((wrap64 (a2 - a1)) + 1))) < 0 then (some (wrap64 (a1 + (wrap64 ((wrap64 ((wrap64 ((Int.tmod a0 (wrap64 ((wrap64 (a2 - a1)) + 1))) + a2)) - a1)) + 1))))) else (some (wrap64 (a1 + (Int.tmod a0 (wrap64 ((wrap64 (a2 - a1)) + 1)))))))
set_option maxHeartbeats 8000000 in
set_option maxRecDepth 100000 in
theorem strongroombook_Within.calls (a0 : Int) (a1 : Int) (a2 : Int) (r : Int) (w : World) (h : strongroombook_Within.f a0 a1 a2 = some r) :
    Calls Try.prog 13 #[.int .i64 a0, .int .i64 a1, .int .i64 a2] w fun e w' => e = .returned (.int .i64 r) ∧ Drawn0 w w' := by
  have H : (if (wrap64 ((wrap64 (a2 - a1)) + 1)) = 0 then (none) else (if (Int.tmod a0 (wrap64 ((wrap64 (a2 - a1)) + 1))) < 0 then (some (wrap64 (a1 + (wrap64 ((wrap64 ((wrap64 ((Int.tmod a0 (wrap64 ((wrap64 (a2 - a1)) + 1))) + a2)) - a1)) + 1))))) else (some (wrap64 (a1 + (Int.tmod a0 (wrap64 ((wrap64 (a2 - a1)) + 1)))))))) = some r := h
  clear h
  by_cases c4 : (wrap64 ((wrap64 (a2 - a1)) + 1)) = 0
  · rw [if_pos c4] at H
    exact absurd H (by simp)
  · rw [if_neg c4] at H
    have c4b0 : ((wrap64 ((wrap64 (a2 - a1)) + 1)) == 0) = false := beq_eq_false_iff_ne.mpr c4
    have c4b1 : ((wrap64 ((wrap64 (a2 - a1)) + 1)) != 0) = true := bne_iff_ne.mpr c4
    by_cases c5 : (Int.tmod a0 (wrap64 ((wrap64 (a2 - a1)) + 1))) < 0
    · rw [if_pos c5] at H
      have c5b0 : decide ((Int.tmod a0 (wrap64 ((wrap64 (a2 - a1)) + 1))) < 0) = true := decide_eq_true c5
      clear c5
      obtain rfl := Option.some.inj H
      go_enter Try.func13, Try.ntmps13
      go_wp2
      go_ret
      exact ⟨by first | rfl | (simp; done) | (simp [*]; done), by repeat (first | exact Drawn0.refl _ | apply Drawn0.step)⟩
    · rw [if_neg c5] at H
      have c5b0 : decide ((Int.tmod a0 (wrap64 ((wrap64 (a2 - a1)) + 1))) < 0) = false := decide_eq_false c5
      clear c5
      obtain rfl := Option.some.inj H
      go_enter Try.func13, Try.ntmps13
      go_wp2
      go_ret
      exact ⟨by first | rfl | (simp; done) | (simp [*]; done), by repeat (first | exact Drawn0.refl _ | apply Drawn0.step)⟩

end Go.Proofs.Ytnmnghpdmiffaaa.UBook

/- Part Book. -/
/-
  Sized, Intact and Within (the statements' helpers), in the form in which the printed texts call a function, without rounds.
-/
namespace Go.Proofs.Ytnmnghpdmiffaaa
open Go.RowKit Go.Proofs.YtnmnghpdmiffaaaW.PrintWords Go.Proofs.Ytnmnghpdmiffaaa.Arr
set_option maxRecDepth 100000

/-- So many bytes, as these say, over and over. -/
def sizedF (b : List Int) (n : Nat) : List Int := (List.range n).map fun i => if b.length = 0 then 0 else rd b ((i % b.length : Nat) : Int)
theorem len_sizedF (b : List Int) (n : Nat) : (sizedF b n).length = n := by simp [sizedF]
theorem sized_l0 (b : List Int) (n : Nat) (hn : n ≤ 281474976710656) (hb : b.length ≤ 9223372036854775807) (d : Nat) : ∀ (k j : Nat), j + d = n → d < k →
    UBook.strongroomkeep_Sized.l0 k b n (fillF (fun i => if b.length = 0 then 0 else rd b ((i % b.length : Nat) : Int)) n j) j = some (sizedF b n) := by
  induction d with
  | zero =>
    intro k j hj hk
    obtain ⟨k, rfl⟩ : ∃ m, k = m + 1 := ⟨k - 1, by omega⟩
    obtain rfl : j = n := by omega
    simp only [UBook.strongroomkeep_Sized.l0]
    rw [if_neg (by omega), fillF_full, sizedF]
  | succ d ih =>
    intro k j hj hk
    obtain ⟨k, rfl⟩ : ∃ m, k = m + 1 := ⟨k - 1, by omega⟩
    simp only [UBook.strongroomkeep_Sized.l0]
    rw [if_pos (by omega)]
    by_cases hb0 : b.length = 0
    · rw [if_neg (by omega), fillF]
      simp only [hb0, if_true, sizedF]
      congr 1
      apply List.ext_getElem
      · simp; omega
      · intro i h1 h2
        simp [List.getElem_append]
    · rw [if_pos (by omega), if_neg (by omega)]
      have hm : Int.tmod (j : Int) (b.length : Int) = ((j % b.length : Nat) : Int) := by rw [Int.tmod_eq_emod_of_nonneg (by omega)]; rfl
      have hlt : j % b.length < b.length := Nat.mod_lt _ (by omega)
      rw [hm, if_pos (by omega), if_pos (by omega), if_pos (by omega), if_pos (by rw [len_fillF _ _ _ (by omega)]; omega)]
      rw [wrap_id (by omega) (by omega), show ((j : Int).toNat) = j by omega]
      have hs := fillF_set (fun i => if b.length = 0 then 0 else rd b ((i % b.length : Nat) : Int)) n j (by omega)
      rw [if_neg hb0] at hs
      rw [hs]
      exact ih k (j + 1) (by omega) (by omega)
def strongroomkeep_Sized.f (l0 : List Int) (a1 : Int) : Option (List Int) := if 0 ≤ a1 ∧ a1 ≤ 281474976710656 ∧ l0.length ≤ 9223372036854775807 then some (sizedF l0 a1.toNat) else none
theorem strongroomkeep_Sized.calls (A0 : Option Addr) (c0 : Nat) (l0 : List Int) (a1 : Int) (r : List Int) (w : World) (hr0 : Kd.C (Kd.int .u8) w A0 l0.length l0) (hc0 : l0.length ≤ c0) (h : strongroomkeep_Sized.f l0 a1 = some r) :
    Calls Try.prog 11 #[.slice A0 l0.length c0, .int .i64 a1] w fun e w' => ∃ v0_ : Value, e = .returned (v0_) ∧ Kd.R (Kd.int .u8) 5 w' w.heap.size (fun _ => True) v0_ r ∧ Below w.heap.size w w' := by
  unfold strongroomkeep_Sized.f at h
  split at h
  · rename_i hh
    obtain ⟨h0, h1, h2⟩ := hh
    obtain rfl := Option.some.inj h
    obtain ⟨n, rfl⟩ := Int.eq_ofNat_of_zero_le h0
    refine UBook.strongroomkeep_Sized.calls (n + 1) A0 c0 l0 n _ w hr0 hc0 ?_
    unfold UBook.strongroomkeep_Sized.f
    rw [if_pos h0, if_pos (by omega), show ((n : Int).toNat) = n by omega, ← fillF_zero (fun i => if l0.length = 0 then 0 else rd l0 ((i % l0.length : Nat) : Int)) n]
    exact sized_l0 l0 n (by omega) h2 n (n + 1) 0 (by omega) (by omega)
  · cases h

theorem sized_some (l : List Int) (n : Nat) (hn : n ≤ 281474976710656) (hl : l.length ≤ 9223372036854775807) : strongroomkeep_Sized.f l (n : Int) = some (sizedF l n) := by
  unfold strongroomkeep_Sized.f
  rw [if_pos ⟨by omega, by omega, hl⟩, Int.toNat_natCast]
theorem rd_ext {l l' : List Int} {j : Nat} (h : rd l j = rd l' j) (h1 : j < l.length) (h2 : j < l'.length) : l[j] = l'[j] := by
  simpa [rd, List.getD_eq_getElem?_getD, h1, h2] using h
theorem same_l0 (l l' : List Int) (hl : l.length ≤ 9223372036854775806) (he : l.length = l'.length) (d : Nat) : ∀ (k j : Nat), j + d = l.length → l.take j = l'.take j → d < k → UBook.strongroombook_Same_byte.l0 k l l' j = some (decide (l = l')) := by
  induction d with
  | zero =>
    intro k j hj ht hk
    obtain ⟨k, rfl⟩ : ∃ m, k = m + 1 := ⟨k - 1, by omega⟩
    simp only [UBook.strongroombook_Same_byte.l0]
    rw [List.take_of_length_le (by omega), List.take_of_length_le (by omega)] at ht
    rw [if_neg (by omega), decide_eq_true ht]
  | succ d ih =>
    intro k j hj ht hk
    obtain ⟨k, rfl⟩ : ∃ m, k = m + 1 := ⟨k - 1, by omega⟩
    simp only [UBook.strongroombook_Same_byte.l0]
    rw [if_pos (by omega), if_pos (by omega), if_pos (by omega)]
    by_cases hr : rd l (j : Int) = rd l' (j : Int)
    · rw [if_pos hr, wrap_id (by omega) (by omega)]
      refine ih k (j + 1) (by omega) ?_ (by omega)
      rw [List.take_succ_eq_append_getElem (by omega : j < l.length), List.take_succ_eq_append_getElem (by omega : j < l'.length), ht, rd_ext hr]
    · rw [if_neg hr, decide_eq_false (fun e => hr (by rw [e]))]
def strongroombook_Same_byte.f (l0 l1 : List Int) : Option Bool := if l0.length ≤ 9223372036854775806 then some (decide (l0 = l1)) else none
theorem strongroombook_Same_byte.calls (A0 : Option Addr) (c0 : Nat) (l0 : List Int) (A1 : Option Addr) (c1 : Nat) (l1 : List Int) (r : Bool) (w : World) (hr0 : Kd.C (Kd.int .u8) w A0 l0.length l0) (hc0 : l0.length ≤ c0) (hr1 : Kd.C (Kd.int .u8) w A1 l1.length l1) (hc1 : l1.length ≤ c1) (h : strongroombook_Same_byte.f l0 l1 = some r) :
    Calls Try.prog 40 #[.slice A0 l0.length c0, .slice A1 l1.length c1] w fun e w' => e = .returned (.bool r) ∧ Drawn0 w w' := by
  unfold strongroombook_Same_byte.f at h
  split at h
  · rename_i hl
    obtain rfl := Option.some.inj h
    refine UBook.strongroombook_Same_byte.calls (l0.length + 1) A0 c0 l0 A1 c1 l1 _ w hr0 hc0 hr1 hc1 ?_
    unfold UBook.strongroombook_Same_byte.f
    by_cases he : (l0.length : Int) = l1.length
    · rw [if_pos he]
      exact same_l0 l0 l1 hl (by omega) l0.length (l0.length + 1) 0 (by omega) (by simp) (by omega)
    · rw [if_neg he, decide_eq_false (fun e => he (by rw [e]))]
  · cases h

/-- What Roomy made is as it was. -/
def strongroombook_Intact_byte.f (l0 l1 : List Int) (a2 : Int) : Option Bool := if l0 = l1 ++ List.replicate 80 a2 ∧ l1.length ≤ 140737488351232 then some true else none
set_option maxHeartbeats 1000000 in
theorem strongroombook_Intact_byte.calls (A0 : Option Addr) (c0 : Nat) (l0 : List Int) (A1 : Option Addr) (c1 : Nat) (l1 : List Int) (a2 : Int) (r : Bool) (w : World) (hr0 : Kd.C (Kd.int .u8) w A0 l0.length l0) (hc0 : l0.length ≤ c0) (hr1 : Kd.C (Kd.int .u8) w A1 l1.length l1) (hc1 : l1.length ≤ c1) (h : strongroombook_Intact_byte.f l0 l1 a2 = some r) :
    Calls Try.prog 20 #[.slice A0 l0.length c0, .slice A1 l1.length c1, .int .u8 a2] w fun e w' => e = .returned (.bool r) ∧ Drawn0 w w' := by
  unfold strongroombook_Intact_byte.f at h
  split at h
  case isFalse => cases h
  rename_i hh
  obtain rfl := Option.some.inj h
  obtain ⟨he, hl⟩ := hh
  have hlen : l0.length = l1.length + 80 := by rw [he]; simp
  have HE := Aside0.mk he
  have HL := Aside0.mk hlen
  have HR0 := Aside0.mk hr0
  have HR1 := Aside0.mk hr1
  obtain ⟨y, hy⟩ : ∃ y, y = l0.take l1.length := ⟨_, rfl⟩
  have hy1 : y = l1 := by rw [hy, he]; simp
  obtain ⟨I0, hI0⟩ : ∃ i, Try.prog.info? 5 = some i := ⟨_, rfl⟩
  have hcut := cut_to (P := Try.prog) 23 5 .i64 Try.underlying23 hI0 A0 l0.length c0 (l1.length : Int) (by omega) (by omega) hc0
  rw [Int.toNat_natCast] at hcut
  have hC := Kd.C_take hr0 (m := l1.length) (by omega)
  rw [show l0.take l1.length = l1 by rw [he]; simp] at hC
  have HC := Aside0.mk hC
  have HS := Aside0.mk (show strongroombook_Same_byte.f l1 l1 = some true by unfold strongroombook_Same_byte.f; rw [if_pos (by omega)]; simp)
  have b1 : ((l0.length : Int) != (l1.length : Int) + 80) = false := by simp; omega
  have b2 : (l1.length : Int) ≤ (l0.length : Int) := by omega
  have HC1 := Aside0.mk (show l1.length ≤ c0 by omega)
  clear he hlen hr0 hr1 h hy hy1 hC
  go_enter Try.func20, Try.ntmps20
  go_wp2_with (go_at_call 40; refine (strongroombook_Same_byte.calls A0 c0 l1 A1 c1 l1 true w HC.out HC1.out HR1.out hc1 HS.out).mono ?_; rintro e w' ⟨rfl, ⟨n, rfl⟩⟩)
  go_loopw [7] (fun v w' => ∃ j : Nat, l1.length ≤ j ∧ j ≤ l1.length + 80 ∧ v = .int .i64 j ∧ Drawn0 w w') (fun v _ => l1.length + 80 - (intOf v).toNat)
  case atStart => exact ⟨l1.length, by omega, by omega, rfl, ⟨⟨n, rfl⟩⟩⟩
  case round =>
    obtain ⟨j, hj1, hj2, rfl, hD⟩ := hrel
    by_cases hj : j < l1.length + 80
    · have hrd : rd l0 (j : Int) = a2 := by
        rw [HE.out, rd_nat, List.getD_eq_getElem?_getD, List.getElem?_append_right hj1, List.getElem?_replicate, if_pos (by omega)]
        rfl
      obtain ⟨ad, rfl, hcell⟩ := Kd.at_int (Kd.C_below HR0.out hD.below) (j : Int) (by omega) (by rw [HL.out]; omega)
      rw [hrd, Int.toNat_natCast] at hcell
      have d1 : (j : Int) < (l0.length : Int) := by rw [HL.out]; omega
      have d2 : j < l0.length := by rw [HL.out]; omega
      have HD := Aside0.mk hD
      clear hrd hD hcut b1 b2
      go_wp2
      go_roundw
      case rel => exact ⟨j + 1, by omega, by omega, by go_num, HD.out⟩
      case measure => simp [intOf]; omega
    · obtain rfl : j = l1.length + 80 := by omega
      have d1 : ¬ ((l1.length + 80 : Nat) : Int) < (l0.length : Int) := by rw [HL.out]; omega
      have d2 : ¬ (l1.length + 80 : Nat) < l0.length := by rw [HL.out]; omega
      have HD := Aside0.mk hD
      clear hD hcut b1 b2
      go_wp2
      go_ret
      exact ⟨rfl, HD.out⟩

/-- A number brought into lo .. hi. -/
def withinF (n lo hi : Int) : Int := lo + n % (hi - lo + 1)
theorem withinF_range (n lo hi : Int) (h : lo ≤ hi) : lo ≤ withinF n lo hi ∧ withinF n lo hi ≤ hi := by
  unfold withinF
  have h0 := Int.emod_nonneg n (show hi - lo + 1 ≠ 0 by omega)
  have h1 := Int.emod_lt_of_pos n (show 0 < hi - lo + 1 by omega)
  omega
def strongroombook_Within.f (a0 a1 a2 : Int) : Option Int := if -4611686018427387904 ≤ a1 ∧ a1 ≤ a2 ∧ a2 ≤ 2305843009213693951 then some (withinF a0 a1 a2) else none
theorem strongroombook_Within.calls (a0 a1 a2 r : Int) (w : World) (h : strongroombook_Within.f a0 a1 a2 = some r) :
    Calls Try.prog 13 #[.int .i64 a0, .int .i64 a1, .int .i64 a2] w fun e w' => e = .returned (.int .i64 r) ∧ Drawn0 w w' := by
  unfold strongroombook_Within.f at h
  split at h
  case isFalse => cases h
  rename_i hh
  obtain ⟨h0, h1, h2⟩ := hh
  obtain rfl := Option.some.inj h
  refine UBook.strongroombook_Within.calls a0 a1 a2 _ w ?_
  unfold UBook.strongroombook_Within.f
  have e0 : wrap64 (a2 - a1) = a2 - a1 := wrap_id (by omega) (by omega)
  have e1 : wrap64 (wrap64 (a2 - a1) + 1) = a2 - a1 + 1 := by rw [e0, wrap_id (by omega) (by omega)]
  have hr := withinF_range a0 a1 a2 h1
  have hm : Int.tmod a0 (a2 - a1 + 1) = a0 % (a2 - a1 + 1) ∨ Int.tmod a0 (a2 - a1 + 1) = a0 % (a2 - a1 + 1) - (a2 - a1 + 1) ∧ Int.tmod a0 (a2 - a1 + 1) < 0 := by
    have := Int.tmod_eq_emod (a := a0) (b := a2 - a1 + 1)
    have e2 := Int.emod_nonneg a0 (show a2 - a1 + 1 ≠ 0 by omega)
    have e3 := Int.emod_lt_of_pos a0 (show 0 < a2 - a1 + 1 by omega)
    split at this
    · left; simpa using this
    · right
      constructor
      · rw [this]; omega
      · rw [this]; omega
  have e2 := Int.emod_nonneg a0 (show a2 - a1 + 1 ≠ 0 by omega)
  have e3 := Int.emod_lt_of_pos a0 (show 0 < a2 - a1 + 1 by omega)
  rw [e1, if_neg (by omega)]
  rcases hm with hm | ⟨hm, hn⟩
  · rw [hm, if_neg (by omega), wrap_id (by omega) (by omega)]; rfl
  · rw [if_pos hn, hm]
    congr 1
    rw [wrap_id (x := a0 % (a2 - a1 + 1) - (a2 - a1 + 1) + a2) (by omega) (by omega), wrap_id (x := a0 % (a2 - a1 + 1) - (a2 - a1 + 1) + a2 - a1) (by omega) (by omega), wrap_id (x := a0 % (a2 - a1 + 1) - (a2 - a1 + 1) + a2 - a1 + 1) (by omega) (by omega), wrap_id (by omega) (by omega)]
    unfold withinF
    omega
theorem within_some (n lo hi : Int) (h0 : -4611686018427387904 ≤ lo) (h1 : lo ≤ hi) (h2 : hi ≤ 2305843009213693951) : strongroombook_Within.f n lo hi = some (withinF n lo hi) := by
  unfold strongroombook_Within.f
  rw [if_pos ⟨h0, h1, h2⟩]
end Go.Proofs.Ytnmnghpdmiffaaa

/- Part Cut. -/
/-
  Cut (lists of bytes that came in): the same list, no longer than asked; in the form in which the printed texts call a function without results.
-/
namespace Go.Proofs.Ytnmnghpdmiffaaa
open Go.RowKit Go.Proofs.YtnmnghpdmiffaaaW.PrintWords
set_option maxRecDepth 100000

def strongroomkeep_CutR.f (l0 : List Int) (a1 : Int) : Option (List Int) := if 0 ≤ a1 then some (l0.take a1.toNat) else none
theorem cutR_eq {l r : List Int} {n : Int} (h : strongroomkeep_CutR.f l n = some r) : 0 ≤ n ∧ r = l.take n.toNat := by
  unfold strongroomkeep_CutR.f at h
  split at h
  · exact ⟨by assumption, (Option.some.inj h).symm⟩
  · cases h
theorem cutR_C {k : IntKind} {w : World} {A : Option Addr} {c : Nat} {l r : List Int} {n : Int} (h : (Kd.int k).C w A l.length l) (_hc : l.length ≤ c) (hf : strongroomkeep_CutR.f l n = some r) : (Kd.int k).C w A r.length r := by
  rw [(cutR_eq hf).2]
  by_cases hn : n.toNat ≤ l.length
  · exact Kd.C_take h hn
  · rw [List.take_of_length_le (by omega)]
    exact h
theorem cutR_len {c : Nat} {l r : List Int} {n : Int} (hc : l.length ≤ c) (hf : strongroomkeep_CutR.f l n = some r) : r.length ≤ c := by
  rw [(cutR_eq hf).2, List.length_take]; omega
theorem strongroomkeep_CutR.calls (A0 : Option Addr) (c0 : Nat) (l0 : List Int) (a1 : Int) (r : List Int) (w : World) (_hr0 : Kd.C (Kd.int .u8) w A0 l0.length l0) (hc0 : l0.length ≤ c0) (h : strongroomkeep_CutR.f l0 a1 = some r) :
    Calls Try.prog 16 #[.slice A0 l0.length c0, .int .i64 a1] w fun e w' => e = .returned (.slice A0 r.length c0) ∧ Drawn0 w w' := by
  obtain ⟨h0, hr⟩ := cutR_eq h
  have hl : r.length = min a1.toNat l0.length := by rw [hr, List.length_take]
  rw [hl]
  clear h hr hl
  obtain ⟨I0, hI0⟩ : ∃ i, Try.prog.info? 5 = some i := ⟨_, rfl⟩
  by_cases hn : a1 < (l0.length : Int)
  · have hcut := cut_to (P := Try.prog) 23 5 .i64 Try.underlying23 hI0 A0 l0.length c0 a1 h0 (by omega) hc0
    have hd : decide (a1 < (l0.length : Int)) = true := decide_eq_true hn
    have he := Aside0.mk (show a1.toNat = min a1.toNat l0.length by omega)
    clear hn
    go_enter Try.func16, Try.ntmps16
    go_wp2
    go_ret
    exact ⟨by rw [← he.out]; rfl, Drawn0.refl _⟩
  · have hd : decide (a1 < (l0.length : Int)) = false := decide_eq_false hn
    have he := Aside0.mk (show l0.length = min a1.toNat l0.length by omega)
    clear hn
    go_enter Try.func16, Try.ntmps16
    go_wp2
    go_ret
    exact ⟨by rw [← he.out]; rfl, Drawn0.refl _⟩
theorem cut_some (l : List Int) (n : Nat) : strongroomkeep_CutR.f l (n : Int) = some (l.take n) := by
  unfold strongroomkeep_CutR.f
  rw [if_pos (by omega), Int.toNat_natCast]
end Go.Proofs.Ytnmnghpdmiffaaa

/- Part Roomy. -/
/-
  Roomy (a list of bytes in new memory with 80 more places behind it, all of them a mark), in the form in which the printed texts call a function.
-/
namespace Go.Proofs.Ytnmnghpdmiffaaa
open Go.RowKit Go.Proofs.YtnmnghpdmiffaaaW.PrintWords
set_option maxRecDepth 100000

theorem roomy_info : (Try.prog.info? 5).map (fun i => (i.zero, i.size, i.bytes)) = some (some (.int .u8 0), 1, 1) := by kernel_rfl
theorem roomy_size : (Try.prog.info? 5).map (·.size) = some 1 := by kernel_rfl
/-- The list, j marks, the noughts that are still there. -/
def roomyAt (l : List Int) (m : Int) (j : Nat) : List Int := l ++ List.replicate j m ++ List.replicate (80 - j) 0
theorem len_roomyAt (l : List Int) (m : Int) (j : Nat) (hj : j ≤ 80) : (roomyAt l m j).length = l.length + 80 := by simp [roomyAt]; omega
theorem roomyAt_set (l : List Int) (m : Int) (j : Nat) (hj : j < 80) : (roomyAt l m j).set (l.length + j) m = roomyAt l m (j + 1) := by
  have h1 : List.replicate (80 - j) (0 : Int) = 0 :: List.replicate (80 - (j + 1)) 0 := by rw [show 80 - j = (80 - (j + 1)) + 1 by omega, List.replicate_succ]
  rw [roomyAt, roomyAt, h1, List.set_append_right _ _ (by simp)]
  simp [List.replicate_succ', List.append_assoc]
def roomyF (l : List Int) (m : Int) : List Int := l ++ List.replicate 80 m
def strongroombook_Roomy_byte.f (l0 : List Int) (a1 : Int) : Option (List Int) := if l0.length ≤ 140737488351232 then some (roomyF l0 a1) else none

set_option maxHeartbeats 1000000 in
theorem strongroombook_Roomy_byte.calls (A0 : Option Addr) (c0 : Nat) (l0 : List Int) (a1 : Int) (r : List Int) (w : World) (hr0 : Kd.C (Kd.int .u8) w A0 l0.length l0) (_hc0 : l0.length ≤ c0) (h : strongroombook_Roomy_byte.f l0 a1 = some r) :
    Calls Try.prog 17 #[.slice A0 l0.length c0, .int .u8 a1] w fun e w' => ∃ v0_ : Value, e = .returned (v0_) ∧ Kd.R (Kd.int .u8) 5 w' w.heap.size (fun _ => True) v0_ r ∧ Below w.heap.size w w' := by
  have hn : l0.length ≤ 140737488351232 := by
    unfold strongroombook_Roomy_byte.f at h
    split at h
    · assumption
    · cases h
  have hR := Aside0.mk (show r = roomyF l0 a1 by
    unfold strongroombook_Roomy_byte.f at h
    rw [if_pos hn] at h
    exact (Option.some.inj h).symm)
  have HR0 := Aside0.mk hr0
  clear h hr0
  have q0 : (0 : Int) ≤ (l0.length : Int) + 80 := by omega
  have q1 : ((l0.length : Int) + 80).toNat * 1 ≤ 281474976710656 := by omega
  have Q1 := Aside0.mk q1
  clear q1
  go_enter Try.func17, Try.ntmps17
  have HRr : ∀ W, Below w.heap.size w W → (Kd.int .u8).C W A0 l0.length l0 := fun W hb => Kd.C_below HR0.out hb
  have HRR := Aside0.mk HRr
  clear HRr
  go_wp2_with (first
    | (at_make; refine Kd.R_make (Kd.int .u8) w.heap.size 5 rfl (N := 10) rfl 23 _ _ rfl ((l0.length : Int) + 80) rfl rfl Try.underlying23 (.int .u8 0) 1 roomy_info rfl Nat.one_pos Nat.one_pos 0 (ok := fun _ => True) (okp := fun _ => True) rfl (fun _ hk => hk) trivial q0 Q1.out (Below.refl _ _) (Nat.le_refl _) ?_; intro v5 w5 hR5 hB5 _ _; have HR5 := Aside0.mk hR5; have HB5 := Aside0.mk hB5; have HS5 := Aside0.mk hB5.size; clear hR5 hB5)
    | (refine Kd.R_copy (o := ⟨some 13, _, _, _, _, _⟩) (enc := Value.int .u8) (h1 := fun _ => rfl) (0 : Int) w.heap.size rfl (.tmp 11) (.tmp 12) 23 23 5 rfl Try.underlying23 roomy_size v5 _ l0 A0 l0.length c0 (fun _ => True) rfl rfl HR5.out (HRR.out _ HB5.out) HB5.out HS5.out ?_; intro w6 hR6 hB6 _))
  have hz := len_roomyAt l0 a1 0 (by omega)
  have HR6 := Aside0.mk (show (Kd.int .u8).R 5 w6 w.heap.size (fun _ => True) v5 (roomyAt l0 a1 0) by
    have e : l0.take (min l0.length (List.replicate ((l0.length : Int) + 80).toNat (0 : Int)).length) ++ (List.replicate ((l0.length : Int) + 80).toNat (0 : Int)).drop (min l0.length (List.replicate ((l0.length : Int) + 80).toNat (0 : Int)).length) = roomyAt l0 a1 0 := by
      rw [show ((l0.length : Int) + 80).toNat = l0.length + 80 by omega]
      simp [roomyAt]
    rw [← e]
    exact hR6)
  have HB6 := Aside0.mk hB6
  clear hR6 hB6 HR5 HB5 HS5 q0 Q1
  obtain ⟨A5, c5, rfl⟩ := Kd.R_slice HR6.out
  rw [hz] at HR6 ⊢
  clear hz
  go_loopw [6] (fun v w' => ∃ j : Nat, j ≤ 80 ∧ v = .int .i64 ((l0.length : Int) + j) ∧ Aside0 ((Kd.int .u8).R 5 w' w.heap.size (fun _ => True) (.slice A5 (l0.length + 80) c5) (roomyAt l0 a1 j)) ∧ Aside0 (Below w.heap.size w w')) (fun v _ => l0.length + 80 - (intOf v).toNat)
  case atStart => exact ⟨0, by omega, by simp, HR6, HB6⟩
  case round =>
    obtain ⟨j, hj, rfl, HR, HB⟩ := hrel
    by_cases h80 : j < 80
    · have c1 : (l0.length : Int) + j < (l0.length : Int) + 80 := by omega
      have hlr := len_roomyAt l0 a1 j hj
      obtain ⟨g, cap, e5, hg, _⟩ := Kd.R_form HR.out (by rw [hlr]; omega)
      rw [hlr] at e5
      injection e5 with ea _ ec
      subst ea
      have hc := Kd.R_celln (0 : Int) HR.out ((l0.length : Int) + j) (by omega) (by omega)
      obtain ⟨x1, x2⟩ := hc
      rw [show ((l0.length : Int) + j).toNat = l0.length + j by omega] at x1 x2
      have hp := Kd.R_putg HR.out ((l0.length : Int) + j) a1
      rw [show ((l0.length : Int) + j).toNat = l0.length + j by omega, roomyAt_set l0 a1 j h80] at hp
      have HP := Aside0.mk hp
      clear hp hlr ec HR6 HB6 HRR HR0
      go_wp2
      go_roundw
      case rel => exact ⟨j + 1, by omega, by rw [show ((l0.length : Int) + j + 1) = (l0.length : Int) + ((j + 1 : Nat) : Int) by omega], ⟨HP.out.1⟩, ⟨below_set HB.out hg⟩⟩
      case measure => simp [intOf]; omega
    · obtain rfl : j = 80 := by omega
      rw [show ((80 : Nat) : Int) = 80 from rfl]
      clear h80
      go_wp2
      go_ret
      refine ⟨_, rfl, ?_, HB.out⟩
      have e : roomyAt l0 a1 80 = r := by rw [hR.out]; simp [roomyAt, roomyF]
      rw [← e]
      exact HR.out
end Go.Proofs.Ytnmnghpdmiffaaa
