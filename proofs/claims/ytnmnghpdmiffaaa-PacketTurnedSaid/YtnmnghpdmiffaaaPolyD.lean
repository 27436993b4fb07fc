/-
  poly.clamped, walked.
-/
import Derived.Test.YtnmnghpdmiffaaaPolyB
import Derived.Deep.Cut
import Derived.Test.YtnmnghpdmiffaaaWMore
namespace Go.Proofs.Ytnmnghpdmiffaaa.Pol
open Go.RowKit Go.Proofs.YtnmnghpdmiffaaaW.PrintWords Go.Proofs.YtnmnghpdmiffaaaW.PrintMore Go.Proofs.Ytnmnghpdmiffaaa.Arr
set_option maxRecDepth 100000

/-- The byte at a place, with the bits cleared that must be. -/
def clampV (i : Nat) (x : Int) : Int := if i % 4 = 3 then Go.bits .and .u8 x 15 else if i % 4 = 0 ∧ 0 < i then Go.bits .and .u8 x 252 else x
def clampN (l : List Int) : Nat → List Int
  | 0 => l
  | i + 1 => (clampN l i).set i (clampV i (rd (clampN l i) i))
theorem len_clampN (l : List Int) : ∀ i, (clampN l i).length = l.length
  | 0 => rfl
  | i + 1 => by rw [clampN, List.length_set, len_clampN l i]
def clampF (key : List Int) : List Int := splitF (clampN (key.take 16) 16)

set_option maxHeartbeats 2000000 in
set_option maxRecDepth 100000 in
theorem clamped_calls (A : Option Addr) (c : Nat) (l : List Int) (w : World) (hr : (Kd.int .u8).C w A l.length l) (hc : l.length ≤ c) (h16 : 16 ≤ l.length) :
    Calls Try.prog 71 #[.slice A l.length c] w fun e w' => e = .returned (.agg (nums .u64 (clampF l)).toArray) ∧ Below w.heap.size w w' := by
  obtain ⟨ad, rfl, _⟩ := hr.2.2 (by omega)
  obtain ⟨I0, hI0⟩ : ∃ i, Try.prog.info? 5 = some i := ⟨_, rfl⟩
  have hcut := cut_to (P := Try.prog) 23 5 .i64 Try.underlying23 hI0 (some ad) l.length c 16 (by omega) (by omega) hc
  obtain ⟨t, ht⟩ : ∃ t, t = l.take 16 := ⟨_, rfl⟩
  have hlt : t.length = 16 := by rw [ht, List.length_take]; omega
  have HT := Aside0.mk ht
  have hC := Kd.C_take hr h16
  rw [← ht, hlt] at hC
  have HC := Aside0.mk hC
  have LT := Aside0.mk hlt
  have HL0 := Aside0.mk (show (0 + 16) * 1 ≤ 140737488355328 by decide)
  clear hC hr hI0 ht hlt h16 hc
  go_enter Try.func71, Try.ntmps71
  go_upto_region 1 with (fail)
  change Code.wp _ _ _ _ (w.alloc (.cells (nums .u64 [0, 0, 0, 0, 0]).toArray 99))
  have iA := new_is w 99 .u64 [0, 0, 0, 0, 0]
  have BA : Below w.heap.size w (w.alloc (.cells (nums .u64 [0, 0, 0, 0, 0]).toArray 99)) := (Below.refl _ _).alloc (Nat.le_refl _) _
  have SA : (w.alloc (.cells (nums .u64 [0, 0, 0, 0, 0]).toArray 99)).heap.size = w.heap.size + 1 := by simp
  generalize w.alloc (.cells (nums .u64 [0, 0, 0, 0, 0]).toArray 99) = wA at iA BA SA ⊢
  have Z1 := Aside0.mk (lit_R wA wA.heap.size wA.heap.size 5 .u8 [] 0 rfl (Nat.le_refl _) rfl (by decide))
  have B1 := Aside0.mk (show Below wA.heap.size wA (wA.alloc (.cells #[] 5)) from (Below.refl _ _).alloc (Nat.le_refl _) _)
  have HCA := Aside0.mk (Kd.C_below HC.out BA)
  have BAS := Aside0.mk (And.intro BA SA)
  have IA := Aside0.mk iA
  clear iA SA BA
  go_wp2_with ((with_reducible refine gate_builtin (b := .append) (xs := #[.tmp 5, .tmp 7]) rfl ?_); at_builtin; (refine Kd.R_append_row (w0 := wA) (Value.int .u8) (0 : Int) (h1 := fun _ => rfl) wA.heap.size rfl (.tmp 5) (.tmp 7) 23 5 (.int .u8 0) 1 rfl Try.underlying23 info_u8 rfl Nat.one_pos _ [] t (some ad) 16 c (fun _ => True) rfl rfl (fun _ _ => trivial) ?q1 ?q2 ?q3 ?q4 ?q5 ?_; (case q1 => exact Z1.out); (case q2 => exact Kd.C_below HCA.out B1.out); (case q3 => exact B1.out); (case q4 => exact B1.out.size); (case q5 => exact HL0.out); intro v8 w8 hR hB8 _ _; obtain ⟨g, cap, hv, hg, _⟩ := Kd.R_form hR (by show 0 < t.length; rw [LT.out]; decide); rw [show ([] ++ t : List Int).length = 16 from LT.out] at hv; subst hv; have HR8 := Aside0.mk (show (Kd.int .u8).R 5 w8 wA.heap.size (fun _ => True) (.slice (some ⟨g, 0, none⟩) 16 cap) t from hR); have HB8 := Aside0.mk hB8; clear hR hB8))
  go_loopw [11] (fun v w' => ∃ i : Nat, i ≤ 16 ∧ v = .int .i64 i ∧ Aside0 ((Kd.int .u8).R 5 w' wA.heap.size (fun _ => True) (.slice (some ⟨g, 0, none⟩) 16 cap) (clampN t i)) ∧ Aside0 (Below wA.heap.size wA w')) (fun v _ => 16 - (intOf v).toNat)
  case atStart => exact ⟨0, by omega, rfl, HR8, HB8⟩
  case round =>
    clear HR8 HB8 HC
    obtain ⟨i, hi, rfl, HR, HB⟩ := hrel
    obtain ⟨xi, q0⟩ : ∃ u, u = clampN t i := ⟨_, rfl⟩
    rw [← q0] at HR
    have Q0 := Aside0.mk q0
    have LX := Aside0.mk (show xi.length = 16 by rw [q0, len_clampN, LT.out])
    clear q0
    by_cases h16 : i < 16
    · have h0 : (i : Int) < 16 := by omega
      by_cases h3 : i % 4 = 3
      · have c3 : ((i : Int) % 4 == 3) = true := beq_iff_eq.2 (by omega)
        have hc := Kd.R_celln (0 : Int) HR.out (i : Int) (by omega) (by omega)
        obtain ⟨x1, x2⟩ := hc
        have hp := Kd.R_putg HR.out (i : Int) (Go.bits .and .u8 (rd xi i) 15)
        rw [Int.toNat_natCast] at x1 x2 hp
        have HP := Aside0.mk hp
        clear hp
        go_wp2_with fail
        have e2 : clampN t (i + 1) = xi.set i (Go.bits .and .u8 (rd xi i) 15) := by rw [clampN, ← Q0.out, clampV, if_pos h3]
        refine ⟨⟨i + 1, by omega, by go_num, ⟨by rw [e2]; exact HP.out.1⟩, ⟨below_set HB.out hg⟩⟩, by simp [intOf]; omega⟩
      · have c3 : ((i : Int) % 4 == 3) = false := beq_eq_false_iff_ne.2 (by omega)
        by_cases h4 : i % 4 = 0 ∧ 0 < i
        · obtain ⟨h4a, h4b⟩ := h4
          have c4 : ((i : Int) % 4 == 0) = true := beq_iff_eq.2 (by omega)
          have c5 : (i : Int) > 0 := by omega
          have hc := Kd.R_celln (0 : Int) HR.out (i : Int) (by omega) (by omega)
          obtain ⟨x1, x2⟩ := hc
          have hp := Kd.R_putg HR.out (i : Int) (Go.bits .and .u8 (rd xi i) 252)
          rw [Int.toNat_natCast] at x1 x2 hp
          have HP := Aside0.mk hp
          clear hp
          go_wp2_with fail
          have e2 : clampN t (i + 1) = xi.set i (Go.bits .and .u8 (rd xi i) 252) := by rw [clampN, ← Q0.out, clampV, if_neg h3, if_pos ⟨h4a, h4b⟩]
          refine ⟨⟨i + 1, by omega, by go_num, ⟨by rw [e2]; exact HP.out.1⟩, ⟨below_set HB.out hg⟩⟩, by simp [intOf]; omega⟩
        · by_cases h5 : i % 4 = 0
          · have c4 : ((i : Int) % 4 == 0) = true := beq_iff_eq.2 (by omega)
            have c5 : ¬ (i : Int) > 0 := by omega
            go_wp2_with fail
            have e2 : clampN t (i + 1) = xi := by
              rw [clampN, ← Q0.out, clampV, if_neg h3, if_neg h4, rd_nat, List.getD_eq_getElem?_getD, List.getElem?_eq_getElem (by rw [LX.out]; omega), Option.getD_some, List.set_getElem_self]
            refine ⟨⟨i + 1, by omega, by go_num, ⟨by rw [e2]; exact HR.out⟩, HB⟩, by simp [intOf]; omega⟩
          · have c4 : ((i : Int) % 4 == 0) = false := beq_eq_false_iff_ne.2 (by omega)
            go_wp2_with fail
            have e2 : clampN t (i + 1) = xi := by
              rw [clampN, ← Q0.out, clampV, if_neg h3, if_neg h4, rd_nat, List.getD_eq_getElem?_getD, List.getElem?_eq_getElem (by rw [LX.out]; omega), Option.getD_some, List.set_getElem_self]
            refine ⟨⟨i + 1, by omega, by go_num, ⟨by rw [e2]; exact HR.out⟩, HB⟩, by simp [intOf]; omega⟩
    · obtain rfl : i = 16 := by omega
      rw [show ((16 : Nat) : Int) = 16 from rfl]
      clear h16
      have HC2 := Aside0.mk (Kd.R_reads' HR.out).2.2
      have hcap := (Kd.R_reads' HR.out).2.1
      have hxc : xi.length ≤ cap := by rw [LX.out]; exact hcap
      have HXC := Aside0.mk hxc
      clear hxc hcap
      go_wp2_with fail
      have C := split_calls (some ⟨g, 0, none⟩) cap xi wr HC2.out HXC.out (by rw [LX.out]; omega)
      rw [LX.out] at C
      refine C.mono ?_
      clear C
      rintro e ws ⟨rfl, hbs⟩
      have IS := Aside0.mk ((IA.out.below HB.out).below hbs)
      have BF := Aside0.mk (below_put (b := w.heap.size) (k := .u64) (ys := splitF xi) (BAS.out.1.trans ((HB.out.mono (by rw [BAS.out.2]; omega)).trans (hbs.mono (Nat.le_trans (by rw [BAS.out.2]; omega) HB.out.size)))) (Nat.le_refl _))
      clear hbs
      have HLL := Aside0.mk (show ([0, 0, 0, 0, 0] : List Int).length = (splitF xi).length from rfl)
      have HI5 := Aside0.mk (show (Try.prog.info? 99).map (·.size) = some (splitF xi).length from info_a5)
      go_wp2_with (with_reducible refine storeL_is (b := w.heap.size) (e := 99) (k := .u64) (xs := [0, 0, 0, 0, 0]) 99 (.tmp 2) (.tmp 40) rfl rfl rfl (splitF xi) rfl rfl IS.out HLL.out HI5.out ?_)
      refine bodyPost_ret (v := .agg (nums .u64 (splitF xi)).toArray) (results_is (b := w.heap.size) (e := 99) Try.results71 _ rfl (put_heap IS.out) Try.underlying99 info_a5) rfl ?_
      exact ⟨by rw [clampF, ← HT.out, ← Q0.out], BF.out⟩
end Go.Proofs.Ytnmnghpdmiffaaa.Pol
