/-
  kdf.Hash, walked.
-/
import Derived.Test.YthahhjkokdillaaShaG
import Derived.Test.YthahhjkokdillaaMpi
namespace Go.Proofs.Ythahhjkokdillaa.Wire
open Go.RowKit Go.Proofs.YthahhjkokdillaaW.PrintWords Go.Proofs.YthahhjkokdillaaW.PrintLast Go.Proofs.YthahhjkokdillaaW.PrintMore Go.Proofs.Ythahhjkokdillaa.Arr Go.Proofs.Ythahhjkokdillaa.Bits
set_option linter.unusedVariables false
/-- Texts, one behind the other. -/
def textsF (l : List (List Int)) : List Int := (l.map textF).flatten
/-- What a hash is of. -/
def hashB (vc vs : List Int) (x : List (List Int)) (k : List Int) : List Int := textsF (vc :: vs :: x) ++ textF (mpS k)
theorem textsF_step (l : List (List Int)) (i : Nat) (h : i < l.length) : textsF (l.take (i + 1)) = textsF (l.take i) ++ textF l[i] := by
  unfold textsF
  rw [List.take_add_one, List.getElem?_eq_getElem h, List.map_append, List.flatten_append]
  simp
set_option maxHeartbeats 8000000
set_option maxRecDepth 100000
theorem hash_calls (vc vs : ByteArray) (A0 : Option Addr) (c0 : Nat) (x0 : List Int) (A1 : Option Addr) (c1 : Nat) (x1 : List Int) (A2 : Option Addr) (c2 : Nat) (x2 : List Int) (A3 : Option Addr) (c3 : Nat) (x3 : List Int) (A4 : Option Addr) (c4 : Nat) (x4 : List Int) (Ak : Option Addr) (ck : Nat) (k : List Int) (w : World) (hv : vc.size ≤ 2000000) (hs : vs.size ≤ 2000000) (hr0 : (Kd.int .u8).C w A0 x0.length x0) (hb0 : Bytes x0) (hl0 : x0.length ≤ 1000) (hr1 : (Kd.int .u8).C w A1 x1.length x1) (hb1 : Bytes x1) (hl1 : x1.length ≤ 1000) (hr2 : (Kd.int .u8).C w A2 x2.length x2) (hb2 : Bytes x2) (hl2 : x2.length ≤ 1000) (hr3 : (Kd.int .u8).C w A3 x3.length x3) (hb3 : Bytes x3) (hl3 : x3.length ≤ 1000) (hr4 : (Kd.int .u8).C w A4 x4.length x4) (hb4 : Bytes x4) (hl4 : x4.length ≤ 1000) (hrk : (Kd.int .u8).C w Ak k.length k) (hck : k.length ≤ ck) (hbk : Bytes k) (hlk : k.length ≤ 1000) :
    Calls Try.prog 23 #[(.agg #[.string vc, .string vs, .slice A0 x0.length c0, .slice A1 x1.length c1, .slice A2 x2.length c2, .slice A3 x3.length c3, .slice A4 x4.length c4]), .slice Ak k.length ck] w fun e w' => ∃ v, e = .returned v ∧ (Kd.int .u8).R 5 w' w.heap.size (fun _ => True) v (Sha.shaF (hashB (bytesOf vc) (bytesOf vs) [x0, x1, x2, x3, x4] k)) ∧ Below w.heap.size w w' := by
  have D0 := Aside0.mk (And.intro hr0 (And.intro hb0 hl0))
  have D1 := Aside0.mk (And.intro hr1 (And.intro hb1 hl1))
  have D2 := Aside0.mk (And.intro hr2 (And.intro hb2 hl2))
  have D3 := Aside0.mk (And.intro hr3 (And.intro hb3 hl3))
  have D4 := Aside0.mk (And.intro hr4 (And.intro hb4 hl4))
  have DK := Aside0.mk (And.intro hrk (And.intro hck (And.intro hbk hlk)))
  have HV := Aside0.mk (And.intro hv hs)
  have BX := Aside0.mk (show Below w.heap.size w (w.alloc (.cells #[.string vc, .string vs, .slice A0 x0.length c0, .slice A1 x1.length c1, .slice A2 x2.length c2, .slice A3 x3.length c3, .slice A4 x4.length c4] 41)) from (Below.refl _ _).alloc (Nat.le_refl _) _)
  clear hr0 hb0 hl0 hr1 hb1 hl1 hr2 hb2 hl2 hr3 hb3 hl3 hr4 hb4 hl4 hrk hck hbk hlk hv hs
  go_enter Try.func23, Try.ntmps23
  go_wp2_with fail
  change Calls _ _ _ (w.alloc (.cells #[.string vc, .string vs, .slice A0 x0.length c0, .slice A1 x1.length c1, .slice A2 x2.length c2, .slice A3 x3.length c3, .slice A4 x4.length c4] 41)) _
  obtain ⟨bT, hbT⟩ : ∃ b, b = w.heap.size := ⟨_, rfl⟩
  have ht := heap_alloc_new w (.cells #[.string vc, .string vs, .slice A0 x0.length c0, .slice A1 x1.length c1, .slice A2 x2.length c2, .slice A3 x3.length c3, .slice A4 x4.length c4] 41)
  have bx := BX.out
  rw [← hbT] at ht
  generalize w.alloc (.cells #[.string vc, .string vs, .slice A0 x0.length c0, .slice A1 x1.length c1, .slice A2 x2.length c2, .slice A3 x3.length c3, .slice A4 x4.length c4] 41) = w0 at ht bx ⊢
  have TT := Aside0.mk ht
  have B0 := Aside0.mk bx
  try rw [← hbT]
  have HBT := Aside0.mk hbT
  clear BX ht bx hbT
  refine (newWriter_calls w0).mono ?_
  rintro e w1 ⟨rfl, hw1⟩
  obtain ⟨g, hg⟩ : ∃ g, g = w0.heap.size := ⟨_, rfl⟩
  rw [← hg]
  have P1 := Aside0.mk (show w1.heap[g]? = some (.cells #[.slice none 0 0] 71 (0, 0)) by rw [hw1, hg]; exact heap_alloc_new w0 _)
  have B1 := Aside0.mk (show Below w.heap.size w w1 by rw [hw1]; exact B0.out.alloc B0.out.size _)
  have T1 := Aside0.mk (show w1.heap[bT]? = some (.cells #[.string vc, .string vs, .slice A0 x0.length c0, .slice A1 x1.length c1, .slice A2 x2.length c2, .slice A3 x3.length c3, .slice A4 x4.length c4] 41 (0, 0)) by rw [hw1, heap_alloc_old w0 _ (Array.getElem?_eq_some_iff.1 TT.out).1]; exact TT.out)
  have G1 := Aside0.mk (show g < w1.heap.size ∧ w.heap.size ≤ g from ⟨(Array.getElem?_eq_some_iff.1 P1.out).1, by rw [hg]; exact B0.out.size⟩)
  have GB := Aside0.mk G1.out.2
  clear hw1 hg TT B0
  have q0 : w1.cell? ⟨bT, 0, none⟩ = some (.string vc) := by unfold World.cell?; simp only [T1.out]; rfl
  have q1 : w1.cell? ⟨bT, 1, none⟩ = some (.string vs) := by unfold World.cell?; simp only [T1.out]; rfl
  have q2 : w1.cell? ⟨bT, 2, none⟩ = some (.slice A0 x0.length c0) := by unfold World.cell?; simp only [T1.out]; rfl
  have q3 : w1.cell? ⟨bT, 3, none⟩ = some (.slice A1 x1.length c1) := by unfold World.cell?; simp only [T1.out]; rfl
  have q4 : w1.cell? ⟨bT, 4, none⟩ = some (.slice A2 x2.length c2) := by unfold World.cell?; simp only [T1.out]; rfl
  have q5 : w1.cell? ⟨bT, 5, none⟩ = some (.slice A3 x3.length c3) := by unfold World.cell?; simp only [T1.out]; rfl
  have q6 : w1.cell? ⟨bT, 6, none⟩ = some (.slice A4 x4.length c4) := by unfold World.cell?; simp only [T1.out]; rfl
  have z0 := Kd.C_string (P := Try.prog) (c := c0) Try.underlying22 Try.underlying5 Try.underlying9 (Kd.C_below D0.out.1 B1.out)
  have z1 := Kd.C_string (P := Try.prog) (c := c1) Try.underlying22 Try.underlying5 Try.underlying9 (Kd.C_below D1.out.1 B1.out)
  have z2 := Kd.C_string (P := Try.prog) (c := c2) Try.underlying22 Try.underlying5 Try.underlying9 (Kd.C_below D2.out.1 B1.out)
  have z3 := Kd.C_string (P := Try.prog) (c := c3) Try.underlying22 Try.underlying5 Try.underlying9 (Kd.C_below D3.out.1 B1.out)
  have z4 := Kd.C_string (P := Try.prog) (c := c4) Try.underlying22 Try.underlying5 Try.underlying9 (Kd.C_below D4.out.1 B1.out)
  go_wp2_with fail
  obtain ⟨Ls, hLs⟩ : ∃ l : List ByteArray, l = [vc, vs, strOfNums x0, strOfNums x1, strOfNums x2, strOfNums x3, strOfNums x4] := ⟨_, rfl⟩
  change Code.wp _ _ _ _ (w1.alloc (.cells ([vc, vs, strOfNums x0, strOfNums x1, strOfNums x2, strOfNums x3, strOfNums x4].map Value.string).toArray 9))
  rw [← hLs]
  have hl := heap_alloc_new w1 (.cells (Ls.map Value.string).toArray 9)
  have bl : Below w1.heap.size w1 (w1.alloc (.cells (Ls.map Value.string).toArray 9)) := (Below.refl _ _).alloc (Nat.le_refl _) _
  generalize w1.alloc (.cells (Ls.map Value.string).toArray 9) = w2 at hl bl ⊢
  obtain ⟨bL, hbL⟩ : ∃ b, b = w1.heap.size := ⟨_, rfl⟩
  rw [← hbL] at hl ⊢
  have PL := Aside0.mk hl
  have B2 := Aside0.mk (below_step B1.out bl)
  have NG := Aside0.mk (show g ≠ bL ∧ w.heap.size ≤ bL ∧ bL < w2.heap.size from ⟨by have := G1.out.1; omega, by rw [hbL]; exact B1.out.size, (Array.getElem?_eq_some_iff.1 hl).1⟩)
  have W2 := Aside0.mk (show WS w2 g w.heap.size (fun k => k ≠ g ∧ k ≠ bL) (.slice none 0 0) [] from
    ⟨(bl.block g G1.out.1).trans P1.out, Kd.R_nil _ _ _ _ _, fun h => h.1 rfl, fun k hk => ⟨by have := G1.out.1; have := bl.size; omega, by have := NG.out.2.2; omega⟩, B2.out.size⟩)
  have LL := Aside0.mk (show Ls.length = 7 ∧ (∀ s ∈ Ls, s.size ≤ 2000000) ∧ Ls.map bytesOf = [bytesOf vc, bytesOf vs, x0, x1, x2, x3, x4] by
    subst hLs
    refine ⟨rfl, fun s hs => ?_, ?_⟩
    · simp only [List.mem_cons, List.not_mem_nil, or_false] at hs
      rcases hs with rfl | rfl | rfl | rfl | rfl | rfl | rfl
      · exact HV.out.1
      · exact HV.out.2
      · rw [strOfNums_size]; exact Nat.le_trans D0.out.2.2 (by decide)
      · rw [strOfNums_size]; exact Nat.le_trans D1.out.2.2 (by decide)
      · rw [strOfNums_size]; exact Nat.le_trans D2.out.2.2 (by decide)
      · rw [strOfNums_size]; exact Nat.le_trans D3.out.2.2 (by decide)
      · rw [strOfNums_size]; exact Nat.le_trans D4.out.2.2 (by decide)
    · simp only [List.map_cons, List.map_nil, bytesOf_str _ D0.out.2.1, bytesOf_str _ D1.out.2.1, bytesOf_str _ D2.out.2.1, bytesOf_str _ D3.out.2.1, bytesOf_str _ D4.out.2.1])
  clear hLs hl bl hbL q0 q1 q2 q3 q4 q5 q6 z0 z1 z2 z3 z4 P1 T1 G1
  go_loopw [30] (fun v w' => ∃ i : Nat, i ≤ 7 ∧ v = .int .i64 (i : Int) ∧ ∃ v' : Value, Aside0 (WS w' g w.heap.size (fun k => k ≠ g ∧ k ≠ bL) v' (textsF ((Ls.map bytesOf).take i))) ∧ Aside0 (Fr w2 w' g w.heap.size (fun k => k ≠ g ∧ k ≠ bL)) ∧ Aside0 ((textsF ((Ls.map bytesOf).take i)).length ≤ i * 2000004)) (fun v _ => 7 - (intOf v).toNat)
  case atStart => exact ⟨0, by omega, rfl, _, W2, ⟨Fr.refl⟩, ⟨by simp [textsF]⟩⟩
  case round =>
    obtain ⟨i, hi, rfl, v', HW, HF, HX⟩ := hrel
    by_cases h7 : i < 7
    · have i0 : (i : Int) < 7 := by omega
      obtain ⟨s, hs⟩ : ∃ s, s = Ls[i]'(by rw [LL.out.1]; exact h7) := ⟨_, rfl⟩
      have hc : wr.cell? ⟨bL, i, none⟩ = some (.string s) := by
        have h1 := (HF.out.block bL NG.out.2.2 (Ne.symm NG.out.1) (fun _ h => h.2 rfl)).trans PL.out
        unfold World.cell?
        simp only [h1]
        rw [hs]
        simp [LL.out.1, h7]
      have hsz := LL.out.2.1 s (by rw [hs]; exact List.getElem_mem _)
      have HS := Aside0.mk (show textsF ((Ls.map bytesOf).take (i + 1)) = textsF ((Ls.map bytesOf).take i) ++ beB s.size 4 ++ bytesOf s by
        rw [textsF_step _ i (by rw [List.length_map, LL.out.1]; exact h7), List.getElem_map, ← hs, textF, bytesOf_length, List.append_assoc])
      have TC := Aside0.mk (text_calls s (Nat.le_trans hsz (by decide)) HW.out (by have := HX.out; omega))
      have H7 := Aside0.mk (And.intro h7 hsz)
      clear h7 hs hsz hi
      go_wp2_with fail
      refine TC.out.mono ?_
      rintro e w3 ⟨rfl, v3, h3, f3⟩
      have HW3 := Aside0.mk h3
      have HF3 := Aside0.mk (HF.out.trans f3)
      clear h3 f3 hc
      go_wp2_with fail
      refine ⟨⟨i + 1, H7.out.1, congrArg (Value.int .i64) rfl, v3, ⟨by rw [HS.out]; exact HW3.out⟩, HF3, ⟨?_⟩⟩, ?_⟩
      · rw [HS.out, List.length_append, List.length_append, len_beB, bytesOf_length]
        have := HX.out
        have := H7.out.2
        omega
      · have := H7.out.1
        simp only [intOf]
        omega
    · obtain rfl : i = 7 := by omega
      rw [show ((7 : Nat) : Int) = 7 from rfl]
      have hx : textsF ((Ls.map bytesOf).take 7) = textsF [bytesOf vc, bytesOf vs, x0, x1, x2, x3, x4] := by rw [LL.out.2.2]; rfl
      obtain ⟨xs, hxs⟩ : ∃ x, x = textsF [bytesOf vc, bytesOf vs, x0, x1, x2, x3, x4] := ⟨_, rfl⟩
      rw [hx, ← hxs] at HW HX
      have HXS := Aside0.mk hxs
      have BW := Aside0.mk (B2.out.trans (HF.out.below GB.out B2.out.size))
      clear hx hxs h7 hi
      go_wp2_with fail
      refine (mpint_calls Ak ck k (Kd.C_below DK.out.1 BW.out) DK.out.2.1 DK.out.2.2.1 (Nat.le_trans DK.out.2.2.2 (by decide)) HW.out (by have := HX.out; omega)).mono ?_
      rintro e w3 ⟨rfl, v3, h3, f3⟩
      obtain ⟨ys, hys⟩ : ∃ y, y = xs ++ textF (mpS k) := ⟨_, rfl⟩
      rw [← hys] at h3
      have HW3 := Aside0.mk h3
      have B3 := Aside0.mk (BW.out.trans (f3.below GB.out BW.out.size))
      have HY := Aside0.mk (And.intro hys (show ys.length ≤ 50000000 by rw [hys, List.length_append, len_textF]; have := HX.out; have := len_mpS k; have := DK.out.2.2.2; omega))
      clear h3 f3 hys
      go_wp2_with fail
      refine (done_calls HW3.out (Nat.le_trans HY.out.2 (by decide))).mono ?_
      rintro e w4 ⟨v4, rfl, hR, hB⟩
      obtain ⟨A4', c4', hv4, hc4, hC4⟩ := Kd.R_reads hR
      subst hv4
      have C4 := Aside0.mk (And.intro hC4 hc4)
      have B4 := Aside0.mk (below_step B3.out hB)
      clear hR hB hc4 hC4
      go_wp2_with fail
      refine (Sha.sum_calls A4' c4' ys w4 C4.out.1 C4.out.2 (Nat.le_trans HY.out.2 (by decide))).mono ?_
      rintro e w5 ⟨v5, rfl, hR, hB⟩
      have R5 := Aside0.mk hR
      have B5 := Aside0.mk (below_step B4.out hB)
      clear hR hB
      go_wp2_with fail
      go_ret
      refine ⟨_, rfl, ?_, B5.out⟩
      have h := R5.out
      rw [HY.out.1, HXS.out] at h
      exact Kd.R_lower h B4.out.size
end Go.Proofs.Ythahhjkokdillaa.Wire
