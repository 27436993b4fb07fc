/-
  KdfJoins, walked.
-/
import Derived.Test.YthahhjkokdillaaHash
import Derived.Test.YthahhjkokdillaaDer
import Derived.Test.YthahhjkokdillaaShaN
import Derived.Test.YthahhjkokdillaaCut
import Derived.StillTailTactics
import Derived.Test.YthahhjkokdillaaWTab
namespace Go.Proofs.Ythahhjkokdillaa
open Go.RowKit Go.Proofs.YthahhjkokdillaaW.PrintWords Go.Proofs.YthahhjkokdillaaW.PrintLast Go.Proofs.YthahhjkokdillaaW.PrintMore Go.Proofs.Ythahhjkokdillaa.Arr Go.Proofs.Ythahhjkokdillaa.Wire Go.Proofs.Ythahhjkokdillaa.Bits
set_option linter.unusedVariables false
set_option maxHeartbeats 8000000
set_option maxRecDepth 100000
/-- A list of bytes as it lies in an array of lists. -/
abbrev Rw := Option Addr × Nat × List Int
def rwV (r : Rw) : Value := .slice r.1 r.2.2.length r.2.1
def RwOk (w : World) (r : Rw) : Prop := (Kd.int .u8).C w r.1 r.2.2.length r.2.2 ∧ r.2.2.length ≤ r.2.1 ∧ Bytes r.2.2 ∧ r.2.2.length ≤ 150
theorem five (R : List Rw) (h : R.length = 5) : ∃ B0 e0 x0 B1 e1 x1 B2 e2 x2 B3 e3 x3 B4 e4 x4, R = [(B0, e0, x0), (B1, e1, x1), (B2, e2, x2), (B3, e3, x3), (B4, e4, x4)] := by
  match R, h with
  | [(B0, e0, x0), (B1, e1, x1), (B2, e2, x2), (B3, e3, x3), (B4, e4, x4)], _ => exact ⟨_, _, _, _, _, _, _, _, _, _, _, _, _, _, _, rfl⟩
theorem set_row (w : World) (g : Nat) (T : TypeId) (R : List Rw) (i : Nat) (r : Rw) (h : w.heap[g]? = some (.cells (R.map rwV).toArray T (0, 0))) : (w.setCell ⟨g, i, none⟩ (rwV r)).heap[g]? = some (.cells ((R.set i r).map rwV).toArray T (0, 0)) := by
  unfold World.setCell
  simp [Array.getElem?_modify, h, List.map_set]
theorem fr_below {w w' : World} {g base N : Nat} {ok : Nat → Prop} (h : Wire.Fr w w' g N ok) (hg : base ≤ g) (hN : base ≤ N) (hb : base ≤ w.heap.size) : Below base w w' :=
  ⟨h.os, h.tape, h.output, h.size, fun k hk => h.block k (by omega) (by omega) (by omega)⟩
/-- A writer stays while another one writes. -/
theorem ws_side {w w' : World} {g g2 base N : Nat} {ok ok2 : Nat → Prop} {v : Value} {xs : List Int} (h : Wire.WS w g base ok v xs) (F : Wire.Fr w w' g2 N ok2) (hN : w.heap.size ≤ N) (hne : g ≠ g2) (hok : ∀ k, ok k → k ≠ g2) : Wire.WS w' g base ok v xs :=
  ⟨(F.block g h.lt hne (fun hb _ => by have := h.lt; omega)).trans h.ptr, Kd.R_step h.row (fun k ho hk => F.block k hk (hok k ho) (fun hb _ => by omega)), h.ng, fun k hk => h.fresh k (Nat.le_trans F.size hk), Nat.le_trans h.base_le F.size⟩
theorem derive_one32 (k h : List Int) (l : Int) (id : List Int) : deriveF k h l id 32 = Sha.shaF (textF (mpS k) ++ h ++ [l] ++ id) := by
  unfold deriveF
  simp only [outD, Nat.reduceAdd, Nat.reduceDiv, if_pos, List.nil_append, List.append_assoc]
  rw [List.take_of_length_le (by rw [Sha.len_shaF]; exact Nat.le_refl _)]
def kdfJoins.T25 : Bool × List (List Nat × List Nat) := (true, [([], []), ([0], [0]), ([], []), ([2], [2]), ([1, 3], [1, 3]), ([4], [4]), ([5], [5]), ([6, 6], [6]), ([6, 7], [6, 7]), ([8, 7], [8]), ([9], [9]), ([10, 9], [9, 10]), ([9], [9]), ([12, 9, 9], [9, 12]), ([13, 13, 9], [9, 13]), ([14, 9], [9, 14]), ([11, 15, 9], [9, 11, 15]), ([16, 14, 9], [9, 16]), ([17], [17]), ([18, 17], [17, 18]), ([17, 19, 9], [9, 17, 19]), ([20, 17, 9], [9, 20]), ([21], [21]), ([22, 21], [21, 22]), ([21], [21]), ([24, 21, 21], [21, 24]), ([25, 25, 21], [21, 25]), ([26, 21], [21, 26]), ([23, 27, 21], [21, 23, 27]), ([21, 28, 9], [9, 21, 28]), ([29, 26, 9], [9, 29]), ([30, 30], [30]), ([30, 31, 9], [9, 30, 31]), ([9, 32], [9, 32]), ([33, 31, 0, 1, 2, 3, 4, 5, 6, 7, 8, 9, 10, 11, 12, 13, 14, 15, 16, 17, 18, 19, 20, 21, 22, 23, 24, 25, 26, 27, 28, 29, 30, 31, 32, 33], [33])])
def kdfJoins.B25 : List Nat := [0, 1, 0, 4, 15, 31, 63, 127, 255, 511, 1023, 2047, 1023, 5119, 13311, 29695, 65535, 131071, 262143, 524287, 1048575, 2097151, 4194303, 8388607, 4194303, 20971519, 54525951, 121634815, 268435455, 536870911, 1073741823, 2147483647, 4294967295, 8589934591, 17179869183]
theorem kdfJoins.tab25 : rtab .any (opsOf Try.f5 25) = kdfJoins.T25 := by kernel_rfl
theorem kdfJoins.bits25 : waitsOk kdfJoins.T25.2 kdfJoins.B25 = true := by kernel_rfl
theorem kdfJoins_calls (vc vs : ByteArray) (La : Option Addr) (n cl : Nat) (A1 : Option Addr) (c1 : Nat) (l1 : List Int) (A2 : Option Addr) (c2 : Nat) (l2 : List Int) (a3 : Int) (w : World) (hvc : vc.size ≤ 1048576) (hvs : vs.size ≤ 1048576)
    (hL : ∀ i, i < n → ∃ (a : Addr) (A : Option Addr) (c : Nat) (x : List Int), La = some a ∧ w.cell? (a.add i) = some (.slice A x.length c) ∧ (Kd.int .u8).C w A x.length x ∧ x.length ≤ c ∧ Bytes x) (hn : n ≤ cl) (hlt : 0 < n → ∀ a, La = some a → a.block < w.heap.size)
    (hr1 : Kd.C (Kd.int .u8) w A1 l1.length l1) (hc1 : l1.length ≤ c1) (hb1 : Bytes l1) (hr2 : Kd.C (Kd.int .u8) w A2 l2.length l2) (hc2 : l2.length ≤ c2) (hb2 : Bytes l2) (ha3 : 0 ≤ a3 ∧ a3 < 256) :
    Calls Try.prog 5 #[.string vc, .string vs, .slice La n cl, .slice A1 l1.length c1, .slice A2 l2.length c2, .int .u8 a3] w fun e w' => e = .returned (.bool true) ∧ Below w.heap.size w w' := by
  obtain ⟨k, hk⟩ : ∃ x, x = l1.take 60 := ⟨_, rfl⟩
  obtain ⟨d, hd⟩ : ∃ x, x = l2.take 60 := ⟨_, rfl⟩
  have f1 := Aside0.mk (show strongroomkeep_CutR.f l1 60 = some k by rw [hk]; exact cut_some l1 60)
  have f2 := Aside0.mk (show strongroomkeep_CutR.f l2 60 = some d by rw [hd]; exact cut_some l2 60)
  have K0 := Aside0.mk (And.intro hr1 (And.intro hc1 hb1))
  have K1 := Aside0.mk (And.intro hr2 (And.intro hc2 hb2))
  have HL := Aside0.mk hL
  have HN := Aside0.mk (And.intro hn hlt)
  have H3 := Aside0.mk ha3
  have BK := Aside0.mk (show Bytes k ∧ Bytes d from ⟨fun z hz => K0.out.2.2 z (List.mem_of_mem_take (hk ▸ hz)), fun z hz => K1.out.2.2 z (List.mem_of_mem_take (hd ▸ hz))⟩)
  have D1 := Aside0.mk (And.intro (cutR_C K0.out.1 K0.out.2.1 f1.out) (cutR_len K0.out.2.1 f1.out))
  have D2 := Aside0.mk (And.intro (cutR_C K1.out.1 K1.out.2.1 f2.out) (cutR_len K1.out.2.1 f2.out))
  have VL := Aside0.mk (And.intro hvc hvs)
  have KL := Aside0.mk (show k.length ≤ 60 ∧ d.length ≤ 60 by rw [hk, hd, List.length_take, List.length_take]; omega)
  have kw : IntKind.i64.wrap a3 = a3 := by rw [i64_w, wrap_id (by omega) (by omega)]
  have KW := Aside0.mk kw
  clear hr1 hc1 hb1 hr2 hc2 hb2 hL hn hlt ha3 hk hd hvc hvs kw
  go_enter Try.func5, Try.ntmps5
  go_wp2_with fail
  obtain ⟨g, hg⟩ : ∃ g, g = w.heap.size := ⟨_, rfl⟩
  change Code.wp _ _ _ _ (w.alloc (.cells ((List.replicate 5 ((none, 0, []) : Rw)).map rwV).toArray 34))
  have h1 := heap_alloc_new w (.cells ((List.replicate 5 ((none, 0, []) : Rw)).map rwV).toArray 34)
  have b1 : Below w.heap.size w (w.alloc (.cells ((List.replicate 5 ((none, 0, []) : Rw)).map rwV).toArray 34)) := (Below.refl _ _).alloc (Nat.le_refl _) _
  generalize w.alloc (.cells ((List.replicate 5 ((none, 0, []) : Rw)).map rwV).toArray 34) = w1 at h1 b1 ⊢
  rw [← hg] at h1 ⊢
  have HG := Aside0.mk hg
  have P1 := Aside0.mk h1
  have B1 := Aside0.mk b1
  have hnil : RwOk w ((none, 0, []) : Rw) := ⟨Kd.C_nil _ w, Nat.le_refl 0, fun x hx => by simp at hx, by decide⟩
  have Z1 := Aside0.mk (show ∀ r ∈ List.replicate 5 ((none, 0, []) : Rw), RwOk w r from fun r hr => by rw [List.eq_of_mem_replicate hr]; exact hnil)
  clear h1 b1 hg hnil
  go_loopw [14] (fun v w' => ∃ i : Nat, i ≤ 5 ∧ v = .int .i64 (i : Int) ∧ ∃ R : List Rw, R.length = 5 ∧ Aside0 (w'.heap[g]? = some (.cells (R.map rwV).toArray 34 (0, 0))) ∧ Aside0 (∀ r ∈ R, RwOk w r) ∧ Aside0 (Below w.heap.size w w')) (fun v _ => 5 - (intOf v).toNat)
  case atStart => exact ⟨0, by omega, rfl, _, rfl, P1, Z1, B1⟩
  case round =>
    obtain ⟨i, hi, rfl, R, hR, HP, HZ, HB⟩ := hrel
    by_cases h5 : i < 5
    · have i0 : (i : Int) < 5 := by omega
      by_cases hn : i < n
      · have j0 : (i : Int) < (n : Int) := by omega
        obtain ⟨a, A, c, x, rfl, hcell, hC, hxc, hxb⟩ := HL.out i hn
        have hc : wr.cell? (a.add i) = some (.slice A x.length c) := (HB.out.cell (p := a.add i) (by rw [show (a.add i).block = a.block from by unfold Addr.add; split <;> rfl]; exact HN.out.2 (by omega) a rfl)).trans hcell
        have X := Aside0.mk (And.intro hC (And.intro hxc hxb))
        go_wp2_with fail
        obtain ⟨y, hy⟩ : ∃ y, y = x.take 150 := ⟨_, rfl⟩
        have fy := Aside0.mk (show strongroomkeep_CutR.f x 150 = some y by rw [hy]; exact cut_some x 150)
        have Y := Aside0.mk (show RwOk w (A, c, y) from ⟨cutR_C X.out.1 X.out.2.1 fy.out, cutR_len X.out.2.1 fy.out, fun z hz => X.out.2.2 z (List.mem_of_mem_take (hy ▸ hz)), by rw [hy, List.length_take]; omega⟩)
        clear hy
        refine (strongroomkeep_CutR.calls A c x 150 y _ (Kd.C_below X.out.1 HB.out) X.out.2.1 fy.out).mono ?_
        rintro e w3 ⟨rfl, ⟨n3, rfl⟩⟩
        have HP3 := Aside0.mk (show (wr.drewN n3).heap[g]? = some (.cells (R.map rwV).toArray 34 (0, 0)) from HP.out)
        have HB3 := Aside0.mk (pw_below_drewN HB.out n3)
        generalize wr.drewN n3 = w3 at HP3 HB3 ⊢
        have hR5 : i < (R.map rwV).length := by rw [List.length_map]; omega
        obtain ⟨r0, hr0⟩ : ∃ r, r = R[i]'(by omega) := ⟨_, rfl⟩
        have hs : w3.cell? ⟨g, i, none⟩ = some (.slice r0.1 r0.2.2.length r0.2.1) := by
          unfold World.cell?
          simp only [HP3.out]
          rw [hr0]
          have h5' : i < R.length := by omega
          simp [h5', rwV]
        have hf : w3.frozen? ⟨g, i, none⟩ = false := by
          unfold World.frozen?
          simp [HP3.out]
        clear hR5 hr0
        go_wp2_with fail
        refine ⟨⟨i + 1, by omega, congrArg (Value.int .i64) rfl, R.set i (A, c, y), by rw [List.length_set]; exact hR, ⟨?_⟩, ⟨?_⟩, ⟨?_⟩⟩, ?_⟩
        · exact set_row w3 g _ R i (A, c, y) HP3.out
        · intro r hr
          rcases List.mem_or_eq_of_mem_set hr with h | rfl
          · exact HZ.out r h
          · exact Y.out
        · exact HB3.out.setCell (Nat.le_of_eq HG.out.symm) _
        · simp only [intOf]
          omega
      · have j0 : ¬ (i : Int) < (n : Int) := by omega
        obtain ⟨B0, e0, x0, B1', e1, x1, B2, e2, x2, B3, e3, x3, B4, e4, x4, hR5⟩ := five R hR
        obtain ⟨XL, hXL⟩ : ∃ x : List (List Int), x = [x0, x1, x2, x3, x4] := ⟨_, rfl⟩
        have RX := Aside0.mk (show R.map (fun r => r.2.2) = XL by rw [hXL, hR5]; rfl)
        have RZ := Aside0.mk (show R.map rwV = [.slice B0 x0.length e0, .slice B1' x1.length e1, .slice B2 x2.length e2, .slice B3 x3.length e3, .slice B4 x4.length e4] by rw [hR5]; rfl)
        have R5 := Aside0.mk hR
        have HXL := Aside0.mk hXL
        have G0 := Aside0.mk (HZ.out _ (by rw [hR5]; simp : ((B0, e0, x0) : Rw) ∈ _))
        have G1 := Aside0.mk (HZ.out _ (by rw [hR5]; simp : ((B1', e1, x1) : Rw) ∈ _))
        have G2 := Aside0.mk (HZ.out _ (by rw [hR5]; simp : ((B2, e2, x2) : Rw) ∈ _))
        have G3 := Aside0.mk (HZ.out _ (by rw [hR5]; simp : ((B3, e3, x3) : Rw) ∈ _))
        have G4 := Aside0.mk (HZ.out _ (by rw [hR5]; simp : ((B4, e4, x4) : Rw) ∈ _))
        clear hR hR5 hXL
        go_wp2_with fail
        refine (strongroomkeep_CutR.calls A1 c1 l1 60 k _ (Kd.C_below K0.out.1 HB.out) K0.out.2.1 f1.out).mono ?_
        rintro e u1 ⟨rfl, ⟨n1, rfl⟩⟩
        have HPa := Aside0.mk (show (wr.drewN n1).heap[g]? = _ from HP.out)
        have HBa := Aside0.mk (pw_below_drewN HB.out n1)
        generalize wr.drewN n1 = u1 at HPa HBa ⊢
        go_wp2_with fail
        refine (strongroomkeep_CutR.calls A2 c2 l2 60 d _ (Kd.C_below K1.out.1 HBa.out) K1.out.2.1 f2.out).mono ?_
        rintro e u2 ⟨rfl, ⟨n2, rfl⟩⟩
        have HPb := Aside0.mk (show (u1.drewN n2).heap[g]? = _ from HPa.out)
        have HBb := Aside0.mk (pw_below_drewN HBa.out n2)
        generalize u1.drewN n2 = u2 at HPb HBb ⊢
        go_wp2_with fail
        refine (newWriter_calls u2).mono ?_
        rintro e u3 ⟨rfl, hw3⟩
        obtain ⟨gw, hgw⟩ : ∃ x, x = u2.heap.size := ⟨_, rfl⟩
        rw [← hgw]
        have hgl := (Array.getElem?_eq_some_iff.1 HPb.out).1
        have PW3 := Aside0.mk (show u3.heap[gw]? = some (.cells #[.slice none 0 0] 71 (0, 0)) by rw [hw3, hgw]; exact heap_alloc_new u2 _)
        have HPc := Aside0.mk (show u3.heap[g]? = some (.cells (R.map rwV).toArray 34 (0, 0)) by rw [hw3, heap_alloc_old _ _ hgl]; exact HPb.out)
        have HBc := Aside0.mk (show Below w.heap.size w u3 by rw [hw3]; exact HBb.out.alloc HBb.out.size _)
        have NG := Aside0.mk (show g < gw ∧ gw < u3.heap.size ∧ w.heap.size ≤ g from ⟨by rw [hgw]; exact hgl, (Array.getElem?_eq_some_iff.1 PW3.out).1, by rw [HG.out]; exact Nat.le_refl _⟩)
        clear hw3 hgw hgl HPb HBb HPa HBa
        go_wp2_with fail
        refine (newWriter_calls u3).mono ?_
        rintro e u4 ⟨rfl, hw4⟩
        obtain ⟨gv, hgv⟩ : ∃ x, x = u3.heap.size := ⟨_, rfl⟩
        rw [← hgv]
        have PV4 := Aside0.mk (show u4.heap[gv]? = some (.cells #[.slice none 0 0] 71 (0, 0)) by rw [hw4, hgv]; exact heap_alloc_new u3 _)
        have PW4 := Aside0.mk (show u4.heap[gw]? = some (.cells #[.slice none 0 0] 71 (0, 0)) by rw [hw4, heap_alloc_old _ _ NG.out.2.1]; exact PW3.out)
        have HPd := Aside0.mk (show u4.heap[g]? = some (.cells (R.map rwV).toArray 34 (0, 0)) by rw [hw4, heap_alloc_old _ _ (Nat.lt_trans NG.out.1 NG.out.2.1)]; exact HPc.out)
        have HBd := Aside0.mk (show Below w.heap.size w u4 by rw [hw4]; exact HBc.out.alloc HBc.out.size _)
        have NV := Aside0.mk (show gw < gv ∧ gv < u4.heap.size from ⟨by rw [hgv]; exact NG.out.2.1, (Array.getElem?_eq_some_iff.1 PV4.out).1⟩)
        have W4 := Aside0.mk (show WS u4 gw w.heap.size (fun k => k ≠ gw ∧ k ≠ gv ∧ k ≠ g) (.slice none 0 0) [] from
          ⟨PW4.out, Kd.R_nil _ _ _ _ _, fun h => h.1 rfl, fun k hk => by have := NG.out; have := NV.out; exact ⟨by omega, by omega, by omega⟩, HBd.out.size⟩)
        clear hw4 hgv PW3 PW4 HPc HBc HP HB
        go_wp2_with fail
        refine (text_calls vc (Nat.le_trans VL.out.1 (by decide)) W4.out (by decide)).mono ?_
        rintro e u5 ⟨rfl, v5, h5_, f5_⟩
        rw [List.nil_append, show beB (vc.size : Int) 4 ++ bytesOf vc = textF (bytesOf vc) by rw [textF, bytesOf_length]] at h5_
        obtain ⟨y5, hy5⟩ : ∃ y, y = textF (bytesOf vc) := ⟨_, rfl⟩
        rw [← hy5] at h5_
        have W5 := Aside0.mk h5_
        have F5 := Aside0.mk f5_
        have Y5 := Aside0.mk (And.intro hy5 (show y5.length ≤ 2000000 by rw [hy5, len_textF, bytesOf_length]; have := VL.out.1; omega))
        clear h5_ f5_ hy5
        go_wp2_with fail
        refine (text_calls vs (Nat.le_trans VL.out.2 (by decide)) W5.out (Nat.le_trans Y5.out.2 (by decide))).mono ?_
        rintro e u6 ⟨rfl, v6, h6_, f6_⟩
        rw [List.append_assoc, show beB (vs.size : Int) 4 ++ bytesOf vs = textF (bytesOf vs) by rw [textF, bytesOf_length]] at h6_
        obtain ⟨y6, hy6⟩ : ∃ y, y = y5 ++ textF (bytesOf vs) := ⟨_, rfl⟩
        rw [← hy6] at h6_
        have W6 := Aside0.mk (show WS u6 gw w.heap.size _ v6 (y6 ++ textsF (XL.take 0)) by simpa [textsF] using h6_)
        have F6 := Aside0.mk (F5.out.trans f6_)
        have Y6 := Aside0.mk (And.intro hy6 (show y6.length ≤ 4000000 by rw [hy6, List.length_append, len_textF, bytesOf_length]; have := VL.out.2; have := Y5.out.2; omega))
        clear h6_ f6_ hy6 W5 F5
        go_wp2_with fail
        go_loopw [17] (fun v w' => ∃ j : Nat, j ≤ 5 ∧ v = .int .i64 (j : Int) ∧ ∃ v' : Value, Aside0 (WS w' gw w.heap.size (fun k => k ≠ gw ∧ k ≠ gv ∧ k ≠ g) v' (y6 ++ textsF (XL.take j))) ∧ Aside0 (Fr u4 w' gw w.heap.size (fun k => k ≠ gw ∧ k ≠ gv ∧ k ≠ g)) ∧ Aside0 ((y6 ++ textsF (XL.take j)).length ≤ 4000000 + j * 200)) (fun v _ => 5 - (intOf v).toNat)
        case atStart => exact ⟨0, by omega, rfl, _, W6, F6, ⟨by simpa [textsF] using Y6.out.2⟩⟩
        case round =>
          obtain ⟨j, hj, rfl, v', HW, HF, HX⟩ := hrel
          by_cases q5 : j < 5
          · have i1 : (j : Int) < 5 := by omega
            obtain ⟨r, hr⟩ : ∃ r, r = R[j]'(by rw [R5.out]; exact q5) := ⟨_, rfl⟩
            obtain ⟨B, e', x⟩ := r
            have hpg : wr.heap[g]? = some (.cells (R.map rwV).toArray 34 (0, 0)) := (HF.out.block g (by have := NG.out; have := NV.out; omega) (by have := NG.out; omega) (fun _ h => h.2.2 rfl)).trans HPd.out
            have hc : wr.cell? ⟨g, j, none⟩ = some (.slice B x.length e') := by
              unfold World.cell?
              simp only [hpg]
              have h5' : j < R.length := by rw [R5.out]; exact q5
              simp [h5', ← hr, rwV]
            have hrw := HZ.out (B, e', x) (by rw [hr]; exact List.getElem_mem _)
            have hbw := HBd.out.trans (HF.out.below (by have := NG.out; omega) HBd.out.size)
            have z0 := Kd.C_string (P := Try.prog) (c := e') Try.underlying22 Try.underlying5 Try.underlying9 (Kd.C_below hrw.1 hbw)
            have hxj : XL[j]'(by rw [← RX.out, List.length_map, R5.out]; exact q5) = x := by
              have h := RX.out
              subst h
              rw [List.getElem_map, ← hr]
            have HS := Aside0.mk (show y6 ++ textsF (XL.take (j + 1)) = y6 ++ textsF (XL.take j) ++ beB (strOfNums x).size 4 ++ bytesOf (strOfNums x) by
              rw [textsF_step _ j (by rw [← RX.out, List.length_map, R5.out]; exact q5), hxj, textF, bytesOf_str x hrw.2.2.1, strOfNums_size]
              simp only [List.append_assoc])
            have TC := Aside0.mk (text_calls (strOfNums x) (by rw [strOfNums_size]; exact Nat.le_trans hrw.2.2.2 (by decide)) HW.out (by have := HX.out; omega))
            have H7 := Aside0.mk (And.intro q5 hrw)
            clear q5 hr hrw hbw hxj hpg hj
            go_wp2_with fail
            refine TC.out.mono ?_
            rintro e w3 ⟨rfl, v3, h3, f3⟩
            have HW3 := Aside0.mk h3
            have HF3 := Aside0.mk (HF.out.trans f3)
            clear h3 f3 hc z0
            go_wp2_with fail
            refine ⟨⟨j + 1, H7.out.1, congrArg (Value.int .i64) rfl, v3, ⟨by rw [HS.out]; exact HW3.out⟩, HF3, ⟨?_⟩⟩, ?_⟩
            · rw [HS.out, List.length_append, List.length_append, len_beB, bytesOf_length, strOfNums_size]
              have := HX.out
              have := H7.out.2.2.2.2
              simp only at this
              omega
            · have := H7.out.1
              simp only [intOf]
              omega
          · obtain rfl : j = 5 := by omega
            rw [show ((5 : Nat) : Int) = 5 from rfl]
            have hx5 : y6 ++ textsF (XL.take 5) = y6 ++ textsF XL := by rw [List.take_of_length_le (by rw [HXL.out]; exact Nat.le_refl _)]
            obtain ⟨y7, hy7⟩ : ∃ y, y = y6 ++ textsF XL := ⟨_, rfl⟩
            rw [hx5, ← hy7] at HW HX
            have Y7 := Aside0.mk hy7
            have BW := Aside0.mk (HBd.out.trans (HF.out.below (by have := NG.out; omega) HBd.out.size))
            clear hx5 hy7 q5 hj
            go_wp2_with fail
            refine (mpint_calls A1 c1 k (Kd.C_below D1.out.1 BW.out) D1.out.2 BK.out.1 (Nat.le_trans KL.out.1 (by decide)) HW.out (by have := HX.out; omega)).mono ?_
            rintro e u8 ⟨rfl, v8, h8_, f8_⟩
            obtain ⟨y8, hy8⟩ : ∃ y, y = y7 ++ textF (mpS k) := ⟨_, rfl⟩
            rw [← hy8] at h8_
            have W8 := Aside0.mk h8_
            have F8 := Aside0.mk (HF.out.trans f8_)
            have Y8 := Aside0.mk (And.intro hy8 (show y8.length ≤ 5000000 by rw [hy8, List.length_append, len_textF]; have := HX.out; have := len_mpS k; have := KL.out.1; omega))
            have B8 := Aside0.mk (HBd.out.trans (F8.out.below (by have := NG.out; omega) HBd.out.size))
            have HP8 := Aside0.mk ((F8.out.block g (by have := NG.out; have := NV.out; omega) (by have := NG.out; omega) (fun _ h => h.2.2 rfl)).trans HPd.out)
            have PV8 := Aside0.mk ((F8.out.block gv NV.out.2 (by have := NV.out; omega) (fun _ h => h.2.1 rfl)).trans PV4.out)
            have L8 := Aside0.mk (Nat.le_trans (Nat.succ_le_of_lt NV.out.2) F8.out.size)
            clear h8_ f8_ hy8 HW HF HX BW
            have q0 : u8.cell? ⟨g, 0, none⟩ = some (.slice B0 x0.length e0) := by unfold World.cell?; simp only [HP8.out, RZ.out]; rfl
            have q1 : u8.cell? ⟨g, 1, none⟩ = some (.slice B1' x1.length e1) := by unfold World.cell?; simp only [HP8.out, RZ.out]; rfl
            have q2 : u8.cell? ⟨g, 2, none⟩ = some (.slice B2 x2.length e2) := by unfold World.cell?; simp only [HP8.out, RZ.out]; rfl
            have q3 : u8.cell? ⟨g, 3, none⟩ = some (.slice B3 x3.length e3) := by unfold World.cell?; simp only [HP8.out, RZ.out]; rfl
            have q4 : u8.cell? ⟨g, 4, none⟩ = some (.slice B4 x4.length e4) := by unfold World.cell?; simp only [HP8.out, RZ.out]; rfl
            go_wp2_with fail
            refine (hash_calls vc vs B0 e0 x0 B1' e1 x1 B2 e2 x2 B3 e3 x3 B4 e4 x4 A1 c1 k u8 (Nat.le_trans VL.out.1 (by decide)) (Nat.le_trans VL.out.2 (by decide)) (Kd.C_below G0.out.1 B8.out) G0.out.2.2.1 (Nat.le_trans G0.out.2.2.2 (by decide)) (Kd.C_below G1.out.1 B8.out) G1.out.2.2.1 (Nat.le_trans G1.out.2.2.2 (by decide)) (Kd.C_below G2.out.1 B8.out) G2.out.2.2.1 (Nat.le_trans G2.out.2.2.2 (by decide)) (Kd.C_below G3.out.1 B8.out) G3.out.2.2.1 (Nat.le_trans G3.out.2.2.2 (by decide)) (Kd.C_below G4.out.1 B8.out) G4.out.2.2.1 (Nat.le_trans G4.out.2.2.2 (by decide)) (Kd.C_below D1.out.1 B8.out) D1.out.2 BK.out.1 (Nat.le_trans KL.out.1 (by decide))).mono ?_
            rintro e u9 ⟨v9, rfl, hR, hB⟩
            obtain ⟨hs, hhs⟩ : ∃ x, x = Sha.shaF y8 := ⟨_, rfl⟩
            have hy : hashB (bytesOf vc) (bytesOf vs) [x0, x1, x2, x3, x4] k = y8 := by
              rw [Y8.out.1, Y7.out, Y6.out.1, Y5.out.1, HXL.out, hashB]
              simp [textsF]
            rw [hy, ← hhs] at hR
            have HHS := Aside0.mk hhs
            have HSL := Aside0.mk (show hs.length = 32 by rw [hhs, Sha.len_shaF])
            have R9 := Aside0.mk (show (Kd.int .u8).R 5 u9 u8.heap.size (fun k => k ≠ gv) v9 hs from Kd.R_reok rfl hR (fun k hk => by have := Kd.R_base hR k hk; have := L8.out; omega))
            have B9 := Aside0.mk (below_step B8.out hB)
            have W9 := Aside0.mk (W8.out.keep hB)
            have V9 := Aside0.mk (show WS u9 gv u9.heap.size (fun k => u9.heap.size ≤ k) (.slice none 0 0) [] from
              ⟨(hB.block gv (by have := L8.out; omega)).trans PV8.out, Kd.R_nil _ _ _ _ _, fun h => by have := L8.out; have := hB.size; omega, fun k hk => hk, Nat.le_refl _⟩)
            have L9 := Aside0.mk (show gv < u9.heap.size by have := L8.out; have := hB.size; omega)
            clear hR hB hhs hy q0 q1 q2 q3 q4 W8 F8 HP8 PV8
            obtain ⟨A9, c9, hv9, hc9, hC9⟩ := Kd.R_reads R9.out
            obtain ⟨n9, hn9⟩ : ∃ x, x = hs.length := ⟨_, rfl⟩
            rw [← hn9] at hv9 hc9
            have E9 := Aside0.mk (And.intro hn9 (And.intro hc9 hv9))
            rw [hv9]
            clear hv9 hc9 hC9 hn9
            go_wp2_with fail
            refine (mpint_calls A1 c1 k (Kd.C_below D1.out.1 B9.out) D1.out.2 BK.out.1 (Nat.le_trans KL.out.1 (by decide)) V9.out (by decide)).mono ?_
            rintro e t1 ⟨rfl, z1, h1_, f1_⟩
            obtain ⟨a1, ha1⟩ : ∃ y, y = textF (mpS k) := ⟨_, rfl⟩
            rw [List.nil_append, ← ha1] at h1_
            have T1 := Aside0.mk h1_
            have J1 := Aside0.mk f1_
            have S1 := Aside0.mk (And.intro ha1 (show a1.length ≤ 1000 by rw [ha1, len_textF]; have := len_mpS k; have := KL.out.1; omega))
            have I1 := Aside0.mk (Kd.R_step R9.out (fun j ho hj => f1_.block j hj ho (fun hb _ => by omega)))
            clear h1_ f1_ ha1
            go_wp2_with fail
            refine (show Calls Try.prog 24 #[.pointer (some ⟨gv, 0, none⟩), .slice A9 n9 c9] t1 _ from by
              have h := Kd.R_reads' (E9.out.2.2 ▸ I1.out)
              rw [E9.out.1]
              exact raw_calls A9 c9 hs h.2.2 (by rw [HSL.out]; decide) T1.out (Nat.le_trans S1.out.2 (by decide))).mono ?_
            rintro e t2 ⟨rfl, z2, h2_, f2_⟩
            have T2 := Aside0.mk h2_
            have J2 := Aside0.mk (J1.out.trans f2_)
            have B2_ := Aside0.mk (B9.out.trans (fr_below J2.out (by have := NV.out; have := NG.out; omega) B9.out.size B9.out.size))
            clear h2_ f2_
            have kw := KW.out
            go_wp2_with fail
            refine (byte_calls a3 H3.out.1 H3.out.2 T2.out (by rw [List.length_append, HSL.out]; have := S1.out.2; omega)).mono ?_
            rintro e t3 ⟨rfl, z3, h3_, f3_⟩
            have T3 := Aside0.mk h3_
            have J3 := Aside0.mk (J2.out.trans f3_)
            have B3_ := Aside0.mk (B9.out.trans (fr_below J3.out (by have := NV.out; have := NG.out; omega) B9.out.size B9.out.size))
            clear h3_ f3_ kw
            go_wp2_with fail
            refine (raw_calls A2 c2 d (Kd.C_below D2.out.1 B3_.out) (Nat.le_trans KL.out.2 (by decide)) T3.out (by rw [List.length_append, List.length_append, HSL.out]; have := S1.out.2; simp only [List.length_cons, List.length_nil]; omega)).mono ?_
            rintro e t4 ⟨rfl, z4, h4_, f4_⟩
            obtain ⟨a4, ha4⟩ : ∃ y, y = a1 ++ hs ++ [a3] ++ d := ⟨_, rfl⟩
            rw [← ha4] at h4_
            have T4 := Aside0.mk h4_
            have J4 := Aside0.mk (J3.out.trans f4_)
            have B4_ := Aside0.mk (B9.out.trans (fr_below J4.out (by have := NV.out; have := NG.out; omega) B9.out.size B9.out.size))
            have S4 := Aside0.mk (And.intro ha4 (show a4.length ≤ 10000 by rw [ha4, List.length_append, List.length_append, List.length_append, HSL.out]; have := S1.out.2; have := KL.out.2; simp only [List.length_cons, List.length_nil]; omega))
            have I4 := Aside0.mk (Kd.R_step R9.out (fun j ho hj => J4.out.block j hj ho (fun hb _ => by omega)))
            have W14 := Aside0.mk (ws_side W9.out J4.out (Nat.le_refl _) (by have := NV.out; omega) (fun k h => h.2.1))
            clear h4_ f4_ ha4 T1 T2 T3 J1 J2 J3 B2_ B3_ I1
            go_wp2_with fail
            refine (show Calls Try.prog 19 #[.slice A1 k.length c1, .slice A9 n9 c9, .int .u8 a3, .slice A2 d.length c2, .int .i64 32] t4 _ from by
              have h := Kd.R_reads' (E9.out.2.2 ▸ I4.out)
              have hc := E9.out.2.1
              rw [E9.out.1] at hc ⊢
              exact derive_calls A1 c1 k A9 c9 hs a3 A2 c2 d 32 t4 (Kd.C_below D1.out.1 B4_.out) D1.out.2 BK.out.1 (Nat.le_trans KL.out.1 (by decide)) h.2.2 hc (by rw [HSL.out]; decide) (Kd.C_below D2.out.1 B4_.out) D2.out.2 (Nat.le_trans KL.out.2 (by decide)) (by decide)).mono ?_
            rintro e t5 ⟨vd, rfl, hR, hB⟩
            obtain ⟨ds, hds⟩ : ∃ x, x = Sha.shaF a4 := ⟨_, rfl⟩
            rw [derive_one32, ← S1.out.1, ← S4.out.1, ← hds] at hR
            have HDS := Aside0.mk hds
            obtain ⟨Ad, cd, rfl, hcd, hCd⟩ := Kd.R_reads hR
            have CD := Aside0.mk hCd
            have CH := Aside0.mk (show (Kd.int .u8).C t5 A9 hs.length hs from (Kd.R_reads' (E9.out.2.2 ▸ Kd.R_below I4.out hB)).2.2)
            have W15 := Aside0.mk (W14.out.keep hB)
            have V15 := Aside0.mk (T4.out.keep hB)
            have B15 := Aside0.mk (below_step B4_.out hB)
            have ec := E9.out.1
            subst ec
            clear hR hB hds hcd hCd T4 J4 I4 W14 B4_ E9 R9
            go_wp2_with fail
            have Q0 := Aside0.mk (fun (w' : World) (h : Below t5.heap.size t5 w') => Kd.C_string (P := Try.prog) (c := c9) Try.underlying22 Try.underlying5 Try.underlying9 (Kd.C_below CH.out h))
            have Q1 := Aside0.mk (fun (w' : World) (h : Below t5.heap.size t5 w') => Kd.C_string (P := Try.prog) (c := cd) Try.underlying22 Try.underlying5 Try.underlying9 (Kd.C_below CD.out h))
            have vl := VL.out
            have g3 : IntKind.i64.wrap ((vc.size : Int) + (vs.size : Int)) = (vc.size : Int) + (vs.size : Int) := by rw [i64_w, wrap_id (by omega) (by omega)]
            by_cases big : 2000 < vc.size + vs.size
            · have g1 : decide ((2000 : Int) < (vc.size : Int) + (vs.size : Int)) = true := by simp; omega
              have g2 : decide (2000 < vc.size + vs.size) = true := by simp; omega
              clear big vl
              refine start_ (n := 35) (S := fun w' => Below t5.heap.size t5 w') (ds := []) #[false, false, false, false, false, false, false, false, false, false, false, false, false, false, false, false, false, false, false, false, false, false, false, false, false, false, false, false, false, false, false, false, false, false, false] (by kernel_rfl) rfl rfl (below_drew1 (Below.refl _ _)) (fun hHeld => ?_)
              refine with_tabW kdfJoins.tab25 kdfJoins.bits25 (fun HT_ HW_ => ?_)
              refine pure_ (i := 0) (N := some 105) (v := ?_) (a' := ?_) #[true, false, false, false, false, false, false, false, false, false, false, false, false, false, false, false, false, false, false, false, false, false, false, false, false, false, false, false, false, false, false, false, false, false, false] rfl rfl (any_of HT_.out (by kernel_rfl)) (fun _ _ _ h => h) (Or.inl ⟨by rfl, ?_⟩) ?_ ?_
              rotate_left
              · intro w'
                go_simp
                with_reducible rfl
              rotate_left
              · simp only [Act.put, List.setIfInBounds_toArray, List.set_cons_zero, List.set_cons_succ]
                rfl
              refine pure_ (i := 1) (N := some 106) (v := ?_) (a' := ?_) #[true, true, false, false, false, false, false, false, false, false, false, false, false, false, false, false, false, false, false, false, false, false, false, false, false, false, false, false, false, false, false, false, false, false, false] rfl rfl (any_of HT_.out (by kernel_rfl)) (fun _ _ _ h => h) (Or.inl ⟨by rfl, ?_⟩) ?_ ?_
              rotate_left
              · intro w'
                go_simp
                with_reducible rfl
              rotate_left
              · simp only [Act.put, List.setIfInBounds_toArray, List.set_cons_zero, List.set_cons_succ]
                rfl
              refine pure_ (i := 2) (N := some 107) (v := ?_) (a' := ?_) #[true, true, true, false, false, false, false, false, false, false, false, false, false, false, false, false, false, false, false, false, false, false, false, false, false, false, false, false, false, false, false, false, false, false, false] rfl rfl (any_of HT_.out (by kernel_rfl)) (fun _ _ _ h => h) (Or.inl ⟨by rfl, ?_⟩) ?_ ?_
              rotate_left
              · intro w'
                go_simp
                with_reducible rfl
              rotate_left
              · simp only [Act.put, List.setIfInBounds_toArray, List.set_cons_zero, List.set_cons_succ]
                rfl
              refine pure_ (i := 3) (N := some 108) (v := ?_) (a' := ?_) #[true, true, true, true, false, false, false, false, false, false, false, false, false, false, false, false, false, false, false, false, false, false, false, false, false, false, false, false, false, false, false, false, false, false, false] rfl rfl (any_of HT_.out (by kernel_rfl)) (fun _ _ _ h => h) (Or.inl ⟨by rfl, ?_⟩) ?_ ?_
              rotate_left
              · intro w'
                go_simp
                with_reducible rfl
              rotate_left
              · simp only [Act.put, List.setIfInBounds_toArray, List.set_cons_zero, List.set_cons_succ]
                rfl
              refine pure_ (i := 4) (N := some 109) (v := ?_) (a' := ?_) #[true, true, true, true, true, false, false, false, false, false, false, false, false, false, false, false, false, false, false, false, false, false, false, false, false, false, false, false, false, false, false, false, false, false, false] rfl rfl (any_of HT_.out (by kernel_rfl)) (fun _ _ _ h => h) (Or.inl ⟨by rfl, ?_⟩) ?_ ?_
              rotate_left
              · intro w'
                go_simp
                with_reducible rfl
              rotate_left
              · simp only [Act.put, List.setIfInBounds_toArray, List.set_cons_zero, List.set_cons_succ]
                rfl
              refine pure_ (i := 5) (N := some 110) (v := ?_) (a' := ?_) #[true, true, true, true, true, true, false, false, false, false, false, false, false, false, false, false, false, false, false, false, false, false, false, false, false, false, false, false, false, false, false, false, false, false, false] rfl rfl (any_of HT_.out (by kernel_rfl)) (fun _ _ _ h => h) (Or.inl ⟨by rfl, ?_⟩) ?_ ?_
              rotate_left
              · intro w'
                go_simp
                with_reducible rfl
              rotate_left
              · simp only [Act.put, List.setIfInBounds_toArray, List.set_cons_zero, List.set_cons_succ]
                rfl
              refine pure_ (i := 6) (N := some 111) (v := ?_) (a' := ?_) #[true, true, true, true, true, true, true, false, false, false, false, false, false, false, false, false, false, false, false, false, false, false, false, false, false, false, false, false, false, false, false, false, false, false, false] rfl rfl (any_of HT_.out (by kernel_rfl)) (fun _ _ _ h => h) (Or.inl ⟨by rfl, ?_⟩) ?_ ?_
              rotate_left
              · intro w'
                go_simp
                with_reducible rfl
              rotate_left
              · simp only [Act.put, List.setIfInBounds_toArray, List.set_cons_zero, List.set_cons_succ]
                rfl
              refine one_ (i := 7) (N := some 112) #[true, true, true, true, true, true, true, true, false, false, false, false, false, false, false, false, false, false, false, false, false, false, false, false, false, false, false, false, false, false, false, false, false, false, false] rfl rfl (one_of HT_.out (by kernel_rfl)) (by decide) (fun K hK => ?_)
              refine goes_ Try.func17 (by kernel_rfl) rfl #[] (by rfl) rfl rfl (by simp only [List.map_toArray, List.map_nil]) ?_
              with_reducible refine (known6_calls _).mono ?_
              rintro e wk ⟨rfl, hBk⟩
              refine ⟨_, rfl, ?_⟩
              have hbk := below_step hHeld hBk
              clear hBk
              refine hK.out _ _ (hbk) (fun hHeld => ?_)
              clear hK K
              refine norm_ (a' := ?_) ?_ ?_
              rotate_left
              · show Act.put _ (some 112) _ = _
                simp only [Act.put, List.setIfInBounds_toArray, List.set_cons_zero, List.set_cons_succ]
                rfl
              refine pure_ (i := 8) (N := some 113) (v := ?_) (a' := ?_) #[true, true, true, true, true, true, true, true, true, false, false, false, false, false, false, false, false, false, false, false, false, false, false, false, false, false, false, false, false, false, false, false, false, false, false] rfl rfl (any_of HT_.out (by kernel_rfl)) (fun _ _ _ h => h) (Or.inl ⟨by rfl, ?_⟩) ?_ ?_
              rotate_left
              · intro w'
                go_simp
                with_reducible rfl
              rotate_left
              · simp only [Act.put, List.setIfInBounds_toArray, List.set_cons_zero, List.set_cons_succ]
                rfl
              refine pure_ (i := 9) (N := some 114) (v := ?_) (a' := ?_) #[true, true, true, true, true, true, true, true, true, true, false, false, false, false, false, false, false, false, false, false, false, false, false, false, false, false, false, false, false, false, false, false, false, false, false] rfl rfl (any_of HT_.out (by kernel_rfl)) (fun _ _ _ h => h) (Or.inl ⟨by rfl, ?_⟩) ?_ ?_
              rotate_left
              · intro w'
                go_simp
                with_reducible rfl
              rotate_left
              · simp only [Act.put, List.setIfInBounds_toArray, List.set_cons_zero, List.set_cons_succ]
                rfl
              refine pure_ (i := 10) (N := some 115) (v := undef) (a' := ?_) #[true, true, true, true, true, true, true, true, true, true, true, false, false, false, false, false, false, false, false, false, false, false, false, false, false, false, false, false, false, false, false, false, false, false, false] rfl rfl (any_of HT_.out (by kernel_rfl)) (fun _ _ _ h => h) (Or.inr ⟨by rfl, rfl⟩) ?_ ?_
              rotate_left
              · simp only [Act.put, List.setIfInBounds_toArray, List.set_cons_zero, List.set_cons_succ]
                rfl
              refine pure_ (i := 11) (N := some 116) (v := undef) (a' := ?_) #[true, true, true, true, true, true, true, true, true, true, true, true, false, false, false, false, false, false, false, false, false, false, false, false, false, false, false, false, false, false, false, false, false, false, false] rfl rfl (any_of HT_.out (by kernel_rfl)) (fun _ _ _ h => h) (Or.inr ⟨by rfl, rfl⟩) ?_ ?_
              rotate_left
              · simp only [Act.put, List.setIfInBounds_toArray, List.set_cons_zero, List.set_cons_succ]
                rfl
              refine pure_ (i := 12) (N := some 117) (v := undef) (a' := ?_) #[true, true, true, true, true, true, true, true, true, true, true, true, true, false, false, false, false, false, false, false, false, false, false, false, false, false, false, false, false, false, false, false, false, false, false] rfl rfl (any_of HT_.out (by kernel_rfl)) (fun _ _ _ h => h) (Or.inr ⟨by rfl, rfl⟩) ?_ ?_
              rotate_left
              · simp only [Act.put, List.setIfInBounds_toArray, List.set_cons_zero, List.set_cons_succ]
                rfl
              refine pure_ (i := 13) (N := some 118) (v := undef) (a' := ?_) #[true, true, true, true, true, true, true, true, true, true, true, true, true, true, false, false, false, false, false, false, false, false, false, false, false, false, false, false, false, false, false, false, false, false, false] rfl rfl (any_of HT_.out (by kernel_rfl)) (fun _ _ _ h => h) (Or.inr ⟨by rfl, rfl⟩) ?_ ?_
              rotate_left
              · simp only [Act.put, List.setIfInBounds_toArray, List.set_cons_zero, List.set_cons_succ]
                rfl
              refine pure_ (i := 14) (N := some 119) (v := undef) (a' := ?_) #[true, true, true, true, true, true, true, true, true, true, true, true, true, true, true, false, false, false, false, false, false, false, false, false, false, false, false, false, false, false, false, false, false, false, false] rfl rfl (any_of HT_.out (by kernel_rfl)) (fun _ _ _ h => h) (Or.inr ⟨by rfl, rfl⟩) ?_ ?_
              rotate_left
              · simp only [Act.put, List.setIfInBounds_toArray, List.set_cons_zero, List.set_cons_succ]
                rfl
              refine pure_ (i := 15) (N := some 120) (v := undef) (a' := ?_) #[true, true, true, true, true, true, true, true, true, true, true, true, true, true, true, true, false, false, false, false, false, false, false, false, false, false, false, false, false, false, false, false, false, false, false] rfl rfl (any_of HT_.out (by kernel_rfl)) (fun _ _ _ h => h) (Or.inr ⟨by rfl, rfl⟩) ?_ ?_
              rotate_left
              · simp only [Act.put, List.setIfInBounds_toArray, List.set_cons_zero, List.set_cons_succ]
                rfl
              refine pure_ (i := 16) (N := some 121) (v := undef) (a' := ?_) #[true, true, true, true, true, true, true, true, true, true, true, true, true, true, true, true, true, false, false, false, false, false, false, false, false, false, false, false, false, false, false, false, false, false, false] rfl rfl (any_of HT_.out (by kernel_rfl)) (fun _ _ _ h => h) (Or.inr ⟨by rfl, rfl⟩) ?_ ?_
              rotate_left
              · simp only [Act.put, List.setIfInBounds_toArray, List.set_cons_zero, List.set_cons_succ]
                rfl
              refine pure_ (i := 17) (N := some 122) (v := undef) (a' := ?_) #[true, true, true, true, true, true, true, true, true, true, true, true, true, true, true, true, true, true, false, false, false, false, false, false, false, false, false, false, false, false, false, false, false, false, false] rfl rfl (any_of HT_.out (by kernel_rfl)) (fun _ _ _ h => h) (Or.inr ⟨by rfl, rfl⟩) ?_ ?_
              rotate_left
              · simp only [Act.put, List.setIfInBounds_toArray, List.set_cons_zero, List.set_cons_succ]
                rfl
              refine pure_ (i := 18) (N := some 123) (v := undef) (a' := ?_) #[true, true, true, true, true, true, true, true, true, true, true, true, true, true, true, true, true, true, true, false, false, false, false, false, false, false, false, false, false, false, false, false, false, false, false] rfl rfl (any_of HT_.out (by kernel_rfl)) (fun _ _ _ h => h) (Or.inr ⟨by rfl, rfl⟩) ?_ ?_
              rotate_left
              · simp only [Act.put, List.setIfInBounds_toArray, List.set_cons_zero, List.set_cons_succ]
                rfl
              refine pure_ (i := 19) (N := some 124) (v := undef) (a' := ?_) #[true, true, true, true, true, true, true, true, true, true, true, true, true, true, true, true, true, true, true, true, false, false, false, false, false, false, false, false, false, false, false, false, false, false, false] rfl rfl (any_of HT_.out (by kernel_rfl)) (fun _ _ _ h => h) (Or.inr ⟨by rfl, rfl⟩) ?_ ?_
              rotate_left
              · simp only [Act.put, List.setIfInBounds_toArray, List.set_cons_zero, List.set_cons_succ]
                rfl
              refine pure_ (i := 20) (N := some 125) (v := undef) (a' := ?_) #[true, true, true, true, true, true, true, true, true, true, true, true, true, true, true, true, true, true, true, true, true, false, false, false, false, false, false, false, false, false, false, false, false, false, false] rfl rfl (any_of HT_.out (by kernel_rfl)) (fun _ _ _ h => h) (Or.inr ⟨by rfl, rfl⟩) ?_ ?_
              rotate_left
              · simp only [Act.put, List.setIfInBounds_toArray, List.set_cons_zero, List.set_cons_succ]
                rfl
              refine pure_ (i := 21) (N := some 126) (v := undef) (a' := ?_) #[true, true, true, true, true, true, true, true, true, true, true, true, true, true, true, true, true, true, true, true, true, true, false, false, false, false, false, false, false, false, false, false, false, false, false] rfl rfl (any_of HT_.out (by kernel_rfl)) (fun _ _ _ h => h) (Or.inr ⟨by rfl, rfl⟩) ?_ ?_
              rotate_left
              · simp only [Act.put, List.setIfInBounds_toArray, List.set_cons_zero, List.set_cons_succ]
                rfl
              refine pure_ (i := 22) (N := some 127) (v := undef) (a' := ?_) #[true, true, true, true, true, true, true, true, true, true, true, true, true, true, true, true, true, true, true, true, true, true, true, false, false, false, false, false, false, false, false, false, false, false, false] rfl rfl (any_of HT_.out (by kernel_rfl)) (fun _ _ _ h => h) (Or.inr ⟨by rfl, rfl⟩) ?_ ?_
              rotate_left
              · simp only [Act.put, List.setIfInBounds_toArray, List.set_cons_zero, List.set_cons_succ]
                rfl
              refine pure_ (i := 23) (N := some 128) (v := undef) (a' := ?_) #[true, true, true, true, true, true, true, true, true, true, true, true, true, true, true, true, true, true, true, true, true, true, true, true, false, false, false, false, false, false, false, false, false, false, false] rfl rfl (any_of HT_.out (by kernel_rfl)) (fun _ _ _ h => h) (Or.inr ⟨by rfl, rfl⟩) ?_ ?_
              rotate_left
              · simp only [Act.put, List.setIfInBounds_toArray, List.set_cons_zero, List.set_cons_succ]
                rfl
              refine pure_ (i := 24) (N := some 129) (v := undef) (a' := ?_) #[true, true, true, true, true, true, true, true, true, true, true, true, true, true, true, true, true, true, true, true, true, true, true, true, true, false, false, false, false, false, false, false, false, false, false] rfl rfl (any_of HT_.out (by kernel_rfl)) (fun _ _ _ h => h) (Or.inr ⟨by rfl, rfl⟩) ?_ ?_
              rotate_left
              · simp only [Act.put, List.setIfInBounds_toArray, List.set_cons_zero, List.set_cons_succ]
                rfl
              refine pure_ (i := 25) (N := some 130) (v := undef) (a' := ?_) #[true, true, true, true, true, true, true, true, true, true, true, true, true, true, true, true, true, true, true, true, true, true, true, true, true, true, false, false, false, false, false, false, false, false, false] rfl rfl (any_of HT_.out (by kernel_rfl)) (fun _ _ _ h => h) (Or.inr ⟨by rfl, rfl⟩) ?_ ?_
              rotate_left
              · simp only [Act.put, List.setIfInBounds_toArray, List.set_cons_zero, List.set_cons_succ]
                rfl
              refine pure_ (i := 26) (N := some 131) (v := undef) (a' := ?_) #[true, true, true, true, true, true, true, true, true, true, true, true, true, true, true, true, true, true, true, true, true, true, true, true, true, true, true, false, false, false, false, false, false, false, false] rfl rfl (any_of HT_.out (by kernel_rfl)) (fun _ _ _ h => h) (Or.inr ⟨by rfl, rfl⟩) ?_ ?_
              rotate_left
              · simp only [Act.put, List.setIfInBounds_toArray, List.set_cons_zero, List.set_cons_succ]
                rfl
              refine pure_ (i := 27) (N := some 132) (v := undef) (a' := ?_) #[true, true, true, true, true, true, true, true, true, true, true, true, true, true, true, true, true, true, true, true, true, true, true, true, true, true, true, true, false, false, false, false, false, false, false] rfl rfl (any_of HT_.out (by kernel_rfl)) (fun _ _ _ h => h) (Or.inr ⟨by rfl, rfl⟩) ?_ ?_
              rotate_left
              · simp only [Act.put, List.setIfInBounds_toArray, List.set_cons_zero, List.set_cons_succ]
                rfl
              refine pure_ (i := 28) (N := some 133) (v := undef) (a' := ?_) #[true, true, true, true, true, true, true, true, true, true, true, true, true, true, true, true, true, true, true, true, true, true, true, true, true, true, true, true, true, false, false, false, false, false, false] rfl rfl (any_of HT_.out (by kernel_rfl)) (fun _ _ _ h => h) (Or.inr ⟨by rfl, rfl⟩) ?_ ?_
              rotate_left
              · simp only [Act.put, List.setIfInBounds_toArray, List.set_cons_zero, List.set_cons_succ]
                rfl
              refine pure_ (i := 29) (N := some 134) (v := undef) (a' := ?_) #[true, true, true, true, true, true, true, true, true, true, true, true, true, true, true, true, true, true, true, true, true, true, true, true, true, true, true, true, true, true, false, false, false, false, false] rfl rfl (any_of HT_.out (by kernel_rfl)) (fun _ _ _ h => h) (Or.inr ⟨by rfl, rfl⟩) ?_ ?_
              rotate_left
              · simp only [Act.put, List.setIfInBounds_toArray, List.set_cons_zero, List.set_cons_succ]
                rfl
              refine pure_ (i := 30) (N := some 135) (v := undef) (a' := ?_) #[true, true, true, true, true, true, true, true, true, true, true, true, true, true, true, true, true, true, true, true, true, true, true, true, true, true, true, true, true, true, true, false, false, false, false] rfl rfl (any_of HT_.out (by kernel_rfl)) (fun _ _ _ h => h) (Or.inr ⟨by rfl, rfl⟩) ?_ ?_
              rotate_left
              · simp only [Act.put, List.setIfInBounds_toArray, List.set_cons_zero, List.set_cons_succ]
                rfl
              refine pure_ (i := 31) (N := some 136) (v := undef) (a' := ?_) #[true, true, true, true, true, true, true, true, true, true, true, true, true, true, true, true, true, true, true, true, true, true, true, true, true, true, true, true, true, true, true, true, false, false, false] rfl rfl (any_of HT_.out (by kernel_rfl)) (fun _ _ _ h => h) (Or.inr ⟨by rfl, rfl⟩) ?_ ?_
              rotate_left
              · simp only [Act.put, List.setIfInBounds_toArray, List.set_cons_zero, List.set_cons_succ]
                rfl
              refine pure_ (i := 32) (N := some 137) (v := undef) (a' := ?_) #[true, true, true, true, true, true, true, true, true, true, true, true, true, true, true, true, true, true, true, true, true, true, true, true, true, true, true, true, true, true, true, true, true, false, false] rfl rfl (any_of HT_.out (by kernel_rfl)) (fun _ _ _ h => h) (Or.inr ⟨by rfl, rfl⟩) ?_ ?_
              rotate_left
              · simp only [Act.put, List.setIfInBounds_toArray, List.set_cons_zero, List.set_cons_succ]
                rfl
              refine pure_ (i := 33) (N := some 138) (v := ?_) (a' := ?_) #[true, true, true, true, true, true, true, true, true, true, true, true, true, true, true, true, true, true, true, true, true, true, true, true, true, true, true, true, true, true, true, true, true, true, false] rfl rfl (any_of HT_.out (by kernel_rfl)) (fun _ _ _ h => h) (Or.inl ⟨by rfl, ?_⟩) ?_ ?_
              rotate_left
              · intro w'
                go_simp
                with_reducible rfl
              rotate_left
              · simp only [Act.put, List.setIfInBounds_toArray, List.set_cons_zero, List.set_cons_succ]
                rfl
              refine pure_ (i := 34) (N := some 12) (v := ?_) (a' := ?_) #[true, true, true, true, true, true, true, true, true, true, true, true, true, true, true, true, true, true, true, true, true, true, true, true, true, true, true, true, true, true, true, true, true, true, true] rfl rfl (any_of HT_.out (by kernel_rfl)) (fun _ _ _ h => h) (Or.inl ⟨by rfl, ?_⟩) ?_ ?_
              rotate_left
              · intro w'
                go_simp
                with_reducible rfl
              rotate_left
              · simp only [Act.put, List.setIfInBounds_toArray, List.set_cons_zero, List.set_cons_succ]
                rfl
              refine done_ (done_of HT_.out (by kernel_rfl)) ?_
              have BZ := Aside0.mk (B15.out.trans (hHeld.mono B15.out.size))
              clear hHeld
              go_wp2_with fail
              go_ret
              exact ⟨rfl, BZ.out⟩
            · have g1 : decide ((2000 : Int) < (vc.size : Int) + (vs.size : Int)) = false := by simp; omega
              have g2 : decide (2000 < vc.size + vs.size) = false := by simp; omega
              clear big vl
              refine start_ (n := 35) (S := fun w' => Below t5.heap.size t5 w') (ds := []) #[false, false, false, false, false, false, false, false, false, false, false, false, false, false, false, false, false, false, false, false, false, false, false, false, false, false, false, false, false, false, false, false, false, false, false] (by kernel_rfl) rfl rfl (below_drew1 (Below.refl _ _)) (fun hHeld => ?_)
              refine with_tabW kdfJoins.tab25 kdfJoins.bits25 (fun HT_ HW_ => ?_)
              refine pure_ (i := 0) (N := some 105) (v := ?_) (a' := ?_) #[true, false, false, false, false, false, false, false, false, false, false, false, false, false, false, false, false, false, false, false, false, false, false, false, false, false, false, false, false, false, false, false, false, false, false] rfl rfl (any_of HT_.out (by kernel_rfl)) (fun _ _ _ h => h) (Or.inl ⟨by rfl, ?_⟩) ?_ ?_
              rotate_left
              · intro w'
                go_simp
                with_reducible rfl
              rotate_left
              · simp only [Act.put, List.setIfInBounds_toArray, List.set_cons_zero, List.set_cons_succ]
                rfl
              refine pure_ (i := 1) (N := some 106) (v := ?_) (a' := ?_) #[true, true, false, false, false, false, false, false, false, false, false, false, false, false, false, false, false, false, false, false, false, false, false, false, false, false, false, false, false, false, false, false, false, false, false] rfl rfl (any_of HT_.out (by kernel_rfl)) (fun _ _ _ h => h) (Or.inl ⟨by rfl, ?_⟩) ?_ ?_
              rotate_left
              · intro w'
                go_simp
                with_reducible rfl
              rotate_left
              · simp only [Act.put, List.setIfInBounds_toArray, List.set_cons_zero, List.set_cons_succ]
                rfl
              refine pure_ (i := 2) (N := some 107) (v := ?_) (a' := ?_) #[true, true, true, false, false, false, false, false, false, false, false, false, false, false, false, false, false, false, false, false, false, false, false, false, false, false, false, false, false, false, false, false, false, false, false] rfl rfl (any_of HT_.out (by kernel_rfl)) (fun _ _ _ h => h) (Or.inl ⟨by rfl, ?_⟩) ?_ ?_
              rotate_left
              · intro w'
                go_simp
                with_reducible rfl
              rotate_left
              · simp only [Act.put, List.setIfInBounds_toArray, List.set_cons_zero, List.set_cons_succ]
                rfl
              refine pure_ (i := 3) (N := some 108) (v := ?_) (a' := ?_) #[true, true, true, true, false, false, false, false, false, false, false, false, false, false, false, false, false, false, false, false, false, false, false, false, false, false, false, false, false, false, false, false, false, false, false] rfl rfl (any_of HT_.out (by kernel_rfl)) (fun _ _ _ h => h) (Or.inl ⟨by rfl, ?_⟩) ?_ ?_
              rotate_left
              · intro w'
                go_simp
                with_reducible rfl
              rotate_left
              · simp only [Act.put, List.setIfInBounds_toArray, List.set_cons_zero, List.set_cons_succ]
                rfl
              refine pure_ (i := 4) (N := some 109) (v := ?_) (a' := ?_) #[true, true, true, true, true, false, false, false, false, false, false, false, false, false, false, false, false, false, false, false, false, false, false, false, false, false, false, false, false, false, false, false, false, false, false] rfl rfl (any_of HT_.out (by kernel_rfl)) (fun _ _ _ h => h) (Or.inl ⟨by rfl, ?_⟩) ?_ ?_
              rotate_left
              · intro w'
                go_simp
                with_reducible rfl
              rotate_left
              · simp only [Act.put, List.setIfInBounds_toArray, List.set_cons_zero, List.set_cons_succ]
                rfl
              refine pure_ (i := 5) (N := some 110) (v := ?_) (a' := ?_) #[true, true, true, true, true, true, false, false, false, false, false, false, false, false, false, false, false, false, false, false, false, false, false, false, false, false, false, false, false, false, false, false, false, false, false] rfl rfl (any_of HT_.out (by kernel_rfl)) (fun _ _ _ h => h) (Or.inl ⟨by rfl, ?_⟩) ?_ ?_
              rotate_left
              · intro w'
                go_simp
                with_reducible rfl
              rotate_left
              · simp only [Act.put, List.setIfInBounds_toArray, List.set_cons_zero, List.set_cons_succ]
                rfl
              refine pure_ (i := 6) (N := some 111) (v := ?_) (a' := ?_) #[true, true, true, true, true, true, true, false, false, false, false, false, false, false, false, false, false, false, false, false, false, false, false, false, false, false, false, false, false, false, false, false, false, false, false] rfl rfl (any_of HT_.out (by kernel_rfl)) (fun _ _ _ h => h) (Or.inl ⟨by rfl, ?_⟩) ?_ ?_
              rotate_left
              · intro w'
                go_simp
                with_reducible rfl
              rotate_left
              · simp only [Act.put, List.setIfInBounds_toArray, List.set_cons_zero, List.set_cons_succ]
                rfl
              refine pure_ (i := 7) (N := some 112) (v := undef) (a' := ?_) #[true, true, true, true, true, true, true, true, false, false, false, false, false, false, false, false, false, false, false, false, false, false, false, false, false, false, false, false, false, false, false, false, false, false, false] rfl rfl (any_of HT_.out (by kernel_rfl)) (fun _ _ _ h => h) (Or.inr ⟨by rfl, rfl⟩) ?_ ?_
              rotate_left
              · simp only [Act.put, List.setIfInBounds_toArray, List.set_cons_zero, List.set_cons_succ]
                rfl
              refine pure_ (i := 8) (N := some 113) (v := ?_) (a' := ?_) #[true, true, true, true, true, true, true, true, true, false, false, false, false, false, false, false, false, false, false, false, false, false, false, false, false, false, false, false, false, false, false, false, false, false, false] rfl rfl (any_of HT_.out (by kernel_rfl)) (fun _ _ _ h => h) (Or.inl ⟨by rfl, ?_⟩) ?_ ?_
              rotate_left
              · intro w'
                go_simp
                with_reducible rfl
              rotate_left
              · simp only [Act.put, List.setIfInBounds_toArray, List.set_cons_zero, List.set_cons_succ]
                rfl
              refine pure_ (i := 9) (N := some 114) (v := ?_) (a' := ?_) #[true, true, true, true, true, true, true, true, true, true, false, false, false, false, false, false, false, false, false, false, false, false, false, false, false, false, false, false, false, false, false, false, false, false, false] rfl rfl (any_of HT_.out (by kernel_rfl)) (fun _ _ _ h => h) (Or.inl ⟨by rfl, ?_⟩) ?_ ?_
              rotate_left
              · intro w'
                go_simp
                with_reducible rfl
              rotate_left
              · simp only [Act.put, List.setIfInBounds_toArray, List.set_cons_zero, List.set_cons_succ]
                rfl
              refine pure_ (i := 10) (N := some 115) (v := ?_) (a' := ?_) #[true, true, true, true, true, true, true, true, true, true, true, false, false, false, false, false, false, false, false, false, false, false, false, false, false, false, false, false, false, false, false, false, false, false, false] rfl rfl (any_of HT_.out (by kernel_rfl)) (fun _ _ _ h => h) (Or.inl ⟨by rfl, ?_⟩) ?_ ?_
              rotate_left
              · intro w'
                go_simp
                with_reducible rfl
              rotate_left
              · simp only [Act.put, List.setIfInBounds_toArray, List.set_cons_zero, List.set_cons_succ]
                rfl
              refine pure_ (i := 12) (N := some 117) (v := ?_) (a' := ?_) #[true, true, true, true, true, true, true, true, true, true, true, false, true, false, false, false, false, false, false, false, false, false, false, false, false, false, false, false, false, false, false, false, false, false, false] rfl rfl (any_of HT_.out (by kernel_rfl)) (fun _ _ _ h => h) (Or.inl ⟨by rfl, ?_⟩) ?_ ?_
              rotate_left
              · intro w'
                go_simp
                with_reducible rfl
              rotate_left
              · simp only [Act.put, List.setIfInBounds_toArray, List.set_cons_zero, List.set_cons_succ]
                rfl
              refine take_ (i := 11) (N := some 116) (v := ?_) (a' := ?_) #[true, true, true, true, true, true, true, true, true, true, true, true, true, false, false, false, false, false, false, false, false, false, false, false, false, false, false, false, false, false, false, false, false, false, false] rfl rfl (take_ofW HT_.out HW_.out (by kernel_rfl)) (fun _ _ _ h => h) (Or.inl ⟨by rfl, ?_⟩) hHeld ?_ ?_
              rotate_left
              · intro w' s0
                have q0_ := Q0.out w' s0
                have q1_ := Q1.out w' s0
                go_simp
                with_reducible rfl
              rotate_left
              · simp only [Act.put, List.setIfInBounds_toArray, List.set_cons_zero, List.set_cons_succ]
                rfl
              refine one_ (i := 13) (N := some 118) #[true, true, true, true, true, true, true, true, true, true, true, true, true, true, false, false, false, false, false, false, false, false, false, false, false, false, false, false, false, false, false, false, false, false, false] rfl rfl (one_of HT_.out (by kernel_rfl)) (by decide) (fun K hK => ?_)
              refine goes_ Try.func26 (by kernel_rfl) rfl #[.pointer (some ⟨gw, 0, none⟩)] (by rfl) rfl rfl (by simp only [List.map_toArray, List.map_cons, List.map_nil]; rfl) ?_
              with_reducible refine (done_calls (W15.out.keep hHeld) (Nat.le_trans Y8.out.2 (by decide))).mono ?_
              rintro e wa ⟨va, rfl, hRa, hBa⟩
              refine ⟨_, rfl, ?_⟩
              obtain ⟨Ap, cp, rfl, hcp, hCp⟩ := Kd.R_reads hRa
              have hba := below_step hHeld hBa
              clear hRa hBa
              refine hK.out _ _ (hba) (fun hHeld => ?_)
              clear hK K
              refine norm_ (a' := ?_) ?_ ?_
              rotate_left
              · show Act.put _ (some 118) _ = _
                simp only [Act.put, List.setIfInBounds_toArray, List.set_cons_zero, List.set_cons_succ]
                rfl
              refine one_ (i := 14) (N := some 119) #[true, true, true, true, true, true, true, true, true, true, true, true, true, true, true, false, false, false, false, false, false, false, false, false, false, false, false, false, false, false, false, false, false, false, false] rfl rfl (one_of HT_.out (by kernel_rfl)) (by decide) (fun K hK => ?_)
              refine goes_ Try.func15 (by kernel_rfl) rfl #[.slice Ap y8.length cp] (by rfl) rfl rfl (by simp only [List.map_toArray, List.map_cons, List.map_nil]; rfl) ?_
              with_reducible refine (Sha.sum_calls Ap cp y8 _ hCp hcp (Nat.le_trans Y8.out.2 (by decide))).mono ?_
              rintro e wb ⟨vb, rfl, hRb, hBb⟩
              refine ⟨_, rfl, ?_⟩
              rw [← HHS.out] at hRb
              obtain ⟨Aq, cq, rfl, hcq, hCq⟩ := Kd.R_reads hRb
              have hbb := below_step hHeld hBb
              clear hRb hBb hCp hcp hcq
              refine hK.out _ _ (hbb) (fun hHeld => ?_)
              clear hK K
              refine norm_ (a' := ?_) ?_ ?_
              rotate_left
              · show Act.put _ (some 119) _ = _
                simp only [Act.put, List.setIfInBounds_toArray, List.set_cons_zero, List.set_cons_succ]
                rfl
              refine one_ (i := 15) (N := some 120) #[true, true, true, true, true, true, true, true, true, true, true, true, true, true, true, true, false, false, false, false, false, false, false, false, false, false, false, false, false, false, false, false, false, false, false] rfl rfl (one_of HT_.out (by kernel_rfl)) (by decide) (fun K hK => ?_)
              have q15 := Kd.C_string (P := Try.prog) (c := cq) Try.underlying22 Try.underlying5 Try.underlying9 hCq
              refine value_ (w1 := ?_) (v := ?_) (by rfl) rfl ?_ ?_
              rotate_left 2
              · go_simp
                constructor
                · rfl
                · rfl
              clear q15 hCq
              refine hK.out _ _ (hHeld) (fun hHeld => ?_)
              clear hK K
              refine norm_ (a' := ?_) ?_ ?_
              rotate_left
              · show Act.put _ (some 120) _ = _
                simp only [Act.put, List.setIfInBounds_toArray, List.set_cons_zero, List.set_cons_succ]
                rfl
              refine pure_ (i := 16) (N := some 121) (v := ?_) (a' := ?_) #[true, true, true, true, true, true, true, true, true, true, true, true, true, true, true, true, true, false, false, false, false, false, false, false, false, false, false, false, false, false, false, false, false, false, false] rfl rfl (any_of HT_.out (by kernel_rfl)) (fun _ _ _ h => h) (Or.inl ⟨by rfl, ?_⟩) ?_ ?_
              rotate_left
              · intro w'
                go_simp
                with_reducible rfl
              rotate_left
              · simp only [Act.put, List.setIfInBounds_toArray, List.set_cons_zero, List.set_cons_succ]
                rfl
              refine pure_ (i := 17) (N := some 122) (v := ?_) (a' := ?_) #[true, true, true, true, true, true, true, true, true, true, true, true, true, true, true, true, true, true, false, false, false, false, false, false, false, false, false, false, false, false, false, false, false, false, false] rfl rfl (any_of HT_.out (by kernel_rfl)) (fun _ _ _ h => h) (Or.inl ⟨by rfl, ?_⟩) ?_ ?_
              rotate_left
              · intro w'
                go_simp
                with_reducible rfl
              rotate_left
              · simp only [Act.put, List.setIfInBounds_toArray, List.set_cons_zero, List.set_cons_succ]
                rfl
              refine pure_ (i := 18) (N := some 123) (v := ?_) (a' := ?_) #[true, true, true, true, true, true, true, true, true, true, true, true, true, true, true, true, true, true, true, false, false, false, false, false, false, false, false, false, false, false, false, false, false, false, false] rfl rfl (any_of HT_.out (by kernel_rfl)) (fun _ _ _ h => h) (Or.inl ⟨by rfl, ?_⟩) ?_ ?_
              rotate_left
              · intro w'
                go_simp
                with_reducible rfl
              rotate_left
              · simp only [Act.put, List.setIfInBounds_toArray, List.set_cons_zero, List.set_cons_succ]
                rfl
              refine pure_ (i := 19) (N := some 124) (v := ?_) (a' := ?_) #[true, true, true, true, true, true, true, true, true, true, true, true, true, true, true, true, true, true, true, true, false, false, false, false, false, false, false, false, false, false, false, false, false, false, false] rfl rfl (any_of HT_.out (by kernel_rfl)) (fun _ _ _ h => h) (Or.inl ⟨by rfl, ?_⟩) ?_ ?_
              rotate_left
              · intro w'
                go_simp
                with_reducible rfl
              rotate_left
              · simp only [Act.put, List.setIfInBounds_toArray, List.set_cons_zero, List.set_cons_succ]
                rfl
              refine pure_ (i := 20) (N := some 125) (v := ?_) (a' := ?_) #[true, true, true, true, true, true, true, true, true, true, true, true, true, true, true, true, true, true, true, true, true, false, false, false, false, false, false, false, false, false, false, false, false, false, false] rfl rfl (any_of HT_.out (by kernel_rfl)) (fun _ _ _ h => h) (Or.inl ⟨by rfl, ?_⟩) ?_ ?_
              rotate_left
              · intro w'
                go_simp
                with_reducible rfl
              rotate_left
              · simp only [Act.put, List.setIfInBounds_toArray, List.set_cons_zero, List.set_cons_succ]
                rfl
              refine pure_ (i := 21) (N := some 126) (v := ?_) (a' := ?_) #[true, true, true, true, true, true, true, true, true, true, true, true, true, true, true, true, true, true, true, true, true, true, false, false, false, false, false, false, false, false, false, false, false, false, false] rfl rfl (any_of HT_.out (by kernel_rfl)) (fun _ _ _ h => h) (Or.inl ⟨by rfl, ?_⟩) ?_ ?_
              rotate_left
              · intro w'
                go_simp
                with_reducible rfl
              rotate_left
              · simp only [Act.put, List.setIfInBounds_toArray, List.set_cons_zero, List.set_cons_succ]
                rfl
              refine pure_ (i := 22) (N := some 127) (v := ?_) (a' := ?_) #[true, true, true, true, true, true, true, true, true, true, true, true, true, true, true, true, true, true, true, true, true, true, true, false, false, false, false, false, false, false, false, false, false, false, false] rfl rfl (any_of HT_.out (by kernel_rfl)) (fun _ _ _ h => h) (Or.inl ⟨by rfl, ?_⟩) ?_ ?_
              rotate_left
              · intro w'
                go_simp
                with_reducible rfl
              rotate_left
              · simp only [Act.put, List.setIfInBounds_toArray, List.set_cons_zero, List.set_cons_succ]
                rfl
              refine pure_ (i := 24) (N := some 129) (v := ?_) (a' := ?_) #[true, true, true, true, true, true, true, true, true, true, true, true, true, true, true, true, true, true, true, true, true, true, true, false, true, false, false, false, false, false, false, false, false, false, false] rfl rfl (any_of HT_.out (by kernel_rfl)) (fun _ _ _ h => h) (Or.inl ⟨by rfl, ?_⟩) ?_ ?_
              rotate_left
              · intro w'
                go_simp
                with_reducible rfl
              rotate_left
              · simp only [Act.put, List.setIfInBounds_toArray, List.set_cons_zero, List.set_cons_succ]
                rfl
              refine take_ (i := 23) (N := some 128) (v := ?_) (a' := ?_) #[true, true, true, true, true, true, true, true, true, true, true, true, true, true, true, true, true, true, true, true, true, true, true, true, true, false, false, false, false, false, false, false, false, false, false] rfl rfl (take_ofW HT_.out HW_.out (by kernel_rfl)) (fun _ _ _ h => h) (Or.inl ⟨by rfl, ?_⟩) hHeld ?_ ?_
              rotate_left
              · intro w' s0
                have q0_ := Q0.out w' s0
                have q1_ := Q1.out w' s0
                go_simp
                with_reducible rfl
              rotate_left
              · simp only [Act.put, List.setIfInBounds_toArray, List.set_cons_zero, List.set_cons_succ]
                rfl
              refine one_ (i := 25) (N := some 130) #[true, true, true, true, true, true, true, true, true, true, true, true, true, true, true, true, true, true, true, true, true, true, true, true, true, true, false, false, false, false, false, false, false, false, false] rfl rfl (one_of HT_.out (by kernel_rfl)) (by decide) (fun K hK => ?_)
              refine goes_ Try.func26 (by kernel_rfl) rfl #[.pointer (some ⟨gv, 0, none⟩)] (by rfl) rfl rfl (by simp only [List.map_toArray, List.map_cons, List.map_nil]; rfl) ?_
              with_reducible refine (done_calls (V15.out.keep hHeld) (Nat.le_trans S4.out.2 (by decide))).mono ?_
              rintro e wa ⟨va, rfl, hRa, hBa⟩
              refine ⟨_, rfl, ?_⟩
              obtain ⟨Ar, cr, rfl, hcr, hCr⟩ := Kd.R_reads hRa
              have hba := below_step hHeld hBa
              clear hRa hBa
              refine hK.out _ _ (hba) (fun hHeld => ?_)
              clear hK K
              refine norm_ (a' := ?_) ?_ ?_
              rotate_left
              · show Act.put _ (some 130) _ = _
                simp only [Act.put, List.setIfInBounds_toArray, List.set_cons_zero, List.set_cons_succ]
                rfl
              refine one_ (i := 26) (N := some 131) #[true, true, true, true, true, true, true, true, true, true, true, true, true, true, true, true, true, true, true, true, true, true, true, true, true, true, true, false, false, false, false, false, false, false, false] rfl rfl (one_of HT_.out (by kernel_rfl)) (by decide) (fun K hK => ?_)
              refine goes_ Try.func15 (by kernel_rfl) rfl #[.slice Ar a4.length cr] (by rfl) rfl rfl (by simp only [List.map_toArray, List.map_cons, List.map_nil]; rfl) ?_
              with_reducible refine (Sha.sum_calls Ar cr a4 _ hCr hcr (Nat.le_trans S4.out.2 (by decide))).mono ?_
              rintro e wb ⟨vb, rfl, hRb, hBb⟩
              refine ⟨_, rfl, ?_⟩
              rw [← HDS.out] at hRb
              obtain ⟨As, cs, rfl, hcs, hCs⟩ := Kd.R_reads hRb
              have hbb := below_step hHeld hBb
              clear hRb hBb hCr hcr hcs
              refine hK.out _ _ (hbb) (fun hHeld => ?_)
              clear hK K
              refine norm_ (a' := ?_) ?_ ?_
              rotate_left
              · show Act.put _ (some 131) _ = _
                simp only [Act.put, List.setIfInBounds_toArray, List.set_cons_zero, List.set_cons_succ]
                rfl
              refine one_ (i := 27) (N := some 132) #[true, true, true, true, true, true, true, true, true, true, true, true, true, true, true, true, true, true, true, true, true, true, true, true, true, true, true, true, false, false, false, false, false, false, false] rfl rfl (one_of HT_.out (by kernel_rfl)) (by decide) (fun K hK => ?_)
              have q15 := Kd.C_string (P := Try.prog) (c := cs) Try.underlying22 Try.underlying5 Try.underlying9 hCs
              refine value_ (w1 := ?_) (v := ?_) (by rfl) rfl ?_ ?_
              rotate_left 2
              · go_simp
                constructor
                · rfl
                · rfl
              clear q15 hCs
              refine hK.out _ _ (hHeld) (fun hHeld => ?_)
              clear hK K
              refine norm_ (a' := ?_) ?_ ?_
              rotate_left
              · show Act.put _ (some 132) _ = _
                simp only [Act.put, List.setIfInBounds_toArray, List.set_cons_zero, List.set_cons_succ]
                rfl
              refine pure_ (i := 28) (N := some 133) (v := ?_) (a' := ?_) #[true, true, true, true, true, true, true, true, true, true, true, true, true, true, true, true, true, true, true, true, true, true, true, true, true, true, true, true, true, false, false, false, false, false, false] rfl rfl (any_of HT_.out (by kernel_rfl)) (fun _ _ _ h => h) (Or.inl ⟨by rfl, ?_⟩) ?_ ?_
              rotate_left
              · intro w'
                go_simp
                with_reducible rfl
              rotate_left
              · simp only [Act.put, List.setIfInBounds_toArray, List.set_cons_zero, List.set_cons_succ]
                rfl
              refine pure_ (i := 29) (N := some 134) (v := ?_) (a' := ?_) #[true, true, true, true, true, true, true, true, true, true, true, true, true, true, true, true, true, true, true, true, true, true, true, true, true, true, true, true, true, true, false, false, false, false, false] rfl rfl (any_of HT_.out (by kernel_rfl)) (fun _ _ _ h => h) (Or.inl ⟨by rfl, ?_⟩) ?_ ?_
              rotate_left
              · intro w'
                go_simp
                with_reducible rfl
              rotate_left
              · simp only [Act.put, List.setIfInBounds_toArray, List.set_cons_zero, List.set_cons_succ]
                rfl
              refine pure_ (i := 30) (N := some 135) (v := ?_) (a' := ?_) #[true, true, true, true, true, true, true, true, true, true, true, true, true, true, true, true, true, true, true, true, true, true, true, true, true, true, true, true, true, true, true, false, false, false, false] rfl rfl (any_of HT_.out (by kernel_rfl)) (fun _ _ _ h => h) (Or.inl ⟨by rfl, ?_⟩) ?_ ?_
              rotate_left
              · intro w'
                go_simp
                with_reducible rfl
              rotate_left
              · simp only [Act.put, List.setIfInBounds_toArray, List.set_cons_zero, List.set_cons_succ]
                rfl
              refine one_ (i := 31) (N := some 136) #[true, true, true, true, true, true, true, true, true, true, true, true, true, true, true, true, true, true, true, true, true, true, true, true, true, true, true, true, true, true, true, true, false, false, false] rfl rfl (one_of HT_.out (by kernel_rfl)) (by decide) (fun K hK => ?_)
              refine goes_ Try.func17 (by kernel_rfl) rfl #[] (by rfl) rfl rfl (by simp only [List.map_toArray, List.map_nil]) ?_
              with_reducible refine (known6_calls _).mono ?_
              rintro e wk ⟨rfl, hBk⟩
              refine ⟨_, rfl, ?_⟩
              have hbk := below_step hHeld hBk
              clear hBk
              refine hK.out _ _ (hbk) (fun hHeld => ?_)
              clear hK K
              refine norm_ (a' := ?_) ?_ ?_
              rotate_left
              · show Act.put _ (some 136) _ = _
                simp only [Act.put, List.setIfInBounds_toArray, List.set_cons_zero, List.set_cons_succ]
                rfl
              refine pure_ (i := 32) (N := some 137) (v := ?_) (a' := ?_) #[true, true, true, true, true, true, true, true, true, true, true, true, true, true, true, true, true, true, true, true, true, true, true, true, true, true, true, true, true, true, true, true, true, false, false] rfl rfl (any_of HT_.out (by kernel_rfl)) (fun _ _ _ h => h) (Or.inl ⟨by rfl, ?_⟩) ?_ ?_
              rotate_left
              · intro w'
                go_simp
                with_reducible rfl
              rotate_left
              · simp only [Act.put, List.setIfInBounds_toArray, List.set_cons_zero, List.set_cons_succ]
                rfl
              refine pure_ (i := 33) (N := some 138) (v := ?_) (a' := ?_) #[true, true, true, true, true, true, true, true, true, true, true, true, true, true, true, true, true, true, true, true, true, true, true, true, true, true, true, true, true, true, true, true, true, true, false] rfl rfl (any_of HT_.out (by kernel_rfl)) (fun _ _ _ h => h) (Or.inl ⟨by rfl, ?_⟩) ?_ ?_
              rotate_left
              · intro w'
                go_simp
                with_reducible rfl
              rotate_left
              · simp only [Act.put, List.setIfInBounds_toArray, List.set_cons_zero, List.set_cons_succ]
                rfl
              refine pure_ (i := 34) (N := some 12) (v := ?_) (a' := ?_) #[true, true, true, true, true, true, true, true, true, true, true, true, true, true, true, true, true, true, true, true, true, true, true, true, true, true, true, true, true, true, true, true, true, true, true] rfl rfl (any_of HT_.out (by kernel_rfl)) (fun _ _ _ h => h) (Or.inl ⟨by rfl, ?_⟩) ?_ ?_
              rotate_left
              · intro w'
                go_simp
                with_reducible rfl
              rotate_left
              · simp only [Act.put, List.setIfInBounds_toArray, List.set_cons_zero, List.set_cons_succ]
                rfl
              refine done_ (done_of HT_.out (by kernel_rfl)) ?_
              have BZ := Aside0.mk (B15.out.trans (hHeld.mono B15.out.size))
              clear hHeld
              go_wp2_with fail
              go_ret
              exact ⟨rfl, BZ.out⟩
    · obtain rfl : i = 5 := by omega
      rw [show ((5 : Nat) : Int) = 5 from rfl]
      obtain ⟨B0, e0, x0, B1', e1, x1, B2, e2, x2, B3, e3, x3, B4, e4, x4, hR5⟩ := five R hR
      obtain ⟨XL, hXL⟩ : ∃ x : List (List Int), x = [x0, x1, x2, x3, x4] := ⟨_, rfl⟩
      have RX := Aside0.mk (show R.map (fun r => r.2.2) = XL by rw [hXL, hR5]; rfl)
      have RZ := Aside0.mk (show R.map rwV = [.slice B0 x0.length e0, .slice B1' x1.length e1, .slice B2 x2.length e2, .slice B3 x3.length e3, .slice B4 x4.length e4] by rw [hR5]; rfl)
      have R5 := Aside0.mk hR
      have HXL := Aside0.mk hXL
      have G0 := Aside0.mk (HZ.out _ (by rw [hR5]; simp : ((B0, e0, x0) : Rw) ∈ _))
      have G1 := Aside0.mk (HZ.out _ (by rw [hR5]; simp : ((B1', e1, x1) : Rw) ∈ _))
      have G2 := Aside0.mk (HZ.out _ (by rw [hR5]; simp : ((B2, e2, x2) : Rw) ∈ _))
      have G3 := Aside0.mk (HZ.out _ (by rw [hR5]; simp : ((B3, e3, x3) : Rw) ∈ _))
      have G4 := Aside0.mk (HZ.out _ (by rw [hR5]; simp : ((B4, e4, x4) : Rw) ∈ _))
      clear hR hR5 hXL
      go_wp2_with fail
      refine (strongroomkeep_CutR.calls A1 c1 l1 60 k _ (Kd.C_below K0.out.1 HB.out) K0.out.2.1 f1.out).mono ?_
      rintro e u1 ⟨rfl, ⟨n1, rfl⟩⟩
      have HPa := Aside0.mk (show (wr.drewN n1).heap[g]? = _ from HP.out)
      have HBa := Aside0.mk (pw_below_drewN HB.out n1)
      generalize wr.drewN n1 = u1 at HPa HBa ⊢
      go_wp2_with fail
      refine (strongroomkeep_CutR.calls A2 c2 l2 60 d _ (Kd.C_below K1.out.1 HBa.out) K1.out.2.1 f2.out).mono ?_
      rintro e u2 ⟨rfl, ⟨n2, rfl⟩⟩
      have HPb := Aside0.mk (show (u1.drewN n2).heap[g]? = _ from HPa.out)
      have HBb := Aside0.mk (pw_below_drewN HBa.out n2)
      generalize u1.drewN n2 = u2 at HPb HBb ⊢
      go_wp2_with fail
      refine (newWriter_calls u2).mono ?_
      rintro e u3 ⟨rfl, hw3⟩
      obtain ⟨gw, hgw⟩ : ∃ x, x = u2.heap.size := ⟨_, rfl⟩
      rw [← hgw]
      have hgl := (Array.getElem?_eq_some_iff.1 HPb.out).1
      have PW3 := Aside0.mk (show u3.heap[gw]? = some (.cells #[.slice none 0 0] 71 (0, 0)) by rw [hw3, hgw]; exact heap_alloc_new u2 _)
      have HPc := Aside0.mk (show u3.heap[g]? = some (.cells (R.map rwV).toArray 34 (0, 0)) by rw [hw3, heap_alloc_old _ _ hgl]; exact HPb.out)
      have HBc := Aside0.mk (show Below w.heap.size w u3 by rw [hw3]; exact HBb.out.alloc HBb.out.size _)
      have NG := Aside0.mk (show g < gw ∧ gw < u3.heap.size ∧ w.heap.size ≤ g from ⟨by rw [hgw]; exact hgl, (Array.getElem?_eq_some_iff.1 PW3.out).1, by rw [HG.out]; exact Nat.le_refl _⟩)
      clear hw3 hgw hgl HPb HBb HPa HBa
      go_wp2_with fail
      refine (newWriter_calls u3).mono ?_
      rintro e u4 ⟨rfl, hw4⟩
      obtain ⟨gv, hgv⟩ : ∃ x, x = u3.heap.size := ⟨_, rfl⟩
      rw [← hgv]
      have PV4 := Aside0.mk (show u4.heap[gv]? = some (.cells #[.slice none 0 0] 71 (0, 0)) by rw [hw4, hgv]; exact heap_alloc_new u3 _)
      have PW4 := Aside0.mk (show u4.heap[gw]? = some (.cells #[.slice none 0 0] 71 (0, 0)) by rw [hw4, heap_alloc_old _ _ NG.out.2.1]; exact PW3.out)
      have HPd := Aside0.mk (show u4.heap[g]? = some (.cells (R.map rwV).toArray 34 (0, 0)) by rw [hw4, heap_alloc_old _ _ (Nat.lt_trans NG.out.1 NG.out.2.1)]; exact HPc.out)
      have HBd := Aside0.mk (show Below w.heap.size w u4 by rw [hw4]; exact HBc.out.alloc HBc.out.size _)
      have NV := Aside0.mk (show gw < gv ∧ gv < u4.heap.size from ⟨by rw [hgv]; exact NG.out.2.1, (Array.getElem?_eq_some_iff.1 PV4.out).1⟩)
      have W4 := Aside0.mk (show WS u4 gw w.heap.size (fun k => k ≠ gw ∧ k ≠ gv ∧ k ≠ g) (.slice none 0 0) [] from
        ⟨PW4.out, Kd.R_nil _ _ _ _ _, fun h => h.1 rfl, fun k hk => by have := NG.out; have := NV.out; exact ⟨by omega, by omega, by omega⟩, HBd.out.size⟩)
      clear hw4 hgv PW3 PW4 HPc HBc HP HB
      go_wp2_with fail
      refine (text_calls vc (Nat.le_trans VL.out.1 (by decide)) W4.out (by decide)).mono ?_
      rintro e u5 ⟨rfl, v5, h5_, f5_⟩
      rw [List.nil_append, show beB (vc.size : Int) 4 ++ bytesOf vc = textF (bytesOf vc) by rw [textF, bytesOf_length]] at h5_
      obtain ⟨y5, hy5⟩ : ∃ y, y = textF (bytesOf vc) := ⟨_, rfl⟩
      rw [← hy5] at h5_
      have W5 := Aside0.mk h5_
      have F5 := Aside0.mk f5_
      have Y5 := Aside0.mk (And.intro hy5 (show y5.length ≤ 2000000 by rw [hy5, len_textF, bytesOf_length]; have := VL.out.1; omega))
      clear h5_ f5_ hy5
      go_wp2_with fail
      refine (text_calls vs (Nat.le_trans VL.out.2 (by decide)) W5.out (Nat.le_trans Y5.out.2 (by decide))).mono ?_
      rintro e u6 ⟨rfl, v6, h6_, f6_⟩
      rw [List.append_assoc, show beB (vs.size : Int) 4 ++ bytesOf vs = textF (bytesOf vs) by rw [textF, bytesOf_length]] at h6_
      obtain ⟨y6, hy6⟩ : ∃ y, y = y5 ++ textF (bytesOf vs) := ⟨_, rfl⟩
      rw [← hy6] at h6_
      have W6 := Aside0.mk (show WS u6 gw w.heap.size _ v6 (y6 ++ textsF (XL.take 0)) by simpa [textsF] using h6_)
      have F6 := Aside0.mk (F5.out.trans f6_)
      have Y6 := Aside0.mk (And.intro hy6 (show y6.length ≤ 4000000 by rw [hy6, List.length_append, len_textF, bytesOf_length]; have := VL.out.2; have := Y5.out.2; omega))
      clear h6_ f6_ hy6 W5 F5
      go_wp2_with fail
      go_loopw [17] (fun v w' => ∃ j : Nat, j ≤ 5 ∧ v = .int .i64 (j : Int) ∧ ∃ v' : Value, Aside0 (WS w' gw w.heap.size (fun k => k ≠ gw ∧ k ≠ gv ∧ k ≠ g) v' (y6 ++ textsF (XL.take j))) ∧ Aside0 (Fr u4 w' gw w.heap.size (fun k => k ≠ gw ∧ k ≠ gv ∧ k ≠ g)) ∧ Aside0 ((y6 ++ textsF (XL.take j)).length ≤ 4000000 + j * 200)) (fun v _ => 5 - (intOf v).toNat)
      case atStart => exact ⟨0, by omega, rfl, _, W6, F6, ⟨by simpa [textsF] using Y6.out.2⟩⟩
      case round =>
        obtain ⟨j, hj, rfl, v', HW, HF, HX⟩ := hrel
        by_cases q5 : j < 5
        · have i1 : (j : Int) < 5 := by omega
          obtain ⟨r, hr⟩ : ∃ r, r = R[j]'(by rw [R5.out]; exact q5) := ⟨_, rfl⟩
          obtain ⟨B, e', x⟩ := r
          have hpg : wr.heap[g]? = some (.cells (R.map rwV).toArray 34 (0, 0)) := (HF.out.block g (by have := NG.out; have := NV.out; omega) (by have := NG.out; omega) (fun _ h => h.2.2 rfl)).trans HPd.out
          have hc : wr.cell? ⟨g, j, none⟩ = some (.slice B x.length e') := by
            unfold World.cell?
            simp only [hpg]
            have h5' : j < R.length := by rw [R5.out]; exact q5
            simp [h5', ← hr, rwV]
          have hrw := HZ.out (B, e', x) (by rw [hr]; exact List.getElem_mem _)
          have hbw := HBd.out.trans (HF.out.below (by have := NG.out; omega) HBd.out.size)
          have z0 := Kd.C_string (P := Try.prog) (c := e') Try.underlying22 Try.underlying5 Try.underlying9 (Kd.C_below hrw.1 hbw)
          have hxj : XL[j]'(by rw [← RX.out, List.length_map, R5.out]; exact q5) = x := by
            have h := RX.out
            subst h
            rw [List.getElem_map, ← hr]
          have HS := Aside0.mk (show y6 ++ textsF (XL.take (j + 1)) = y6 ++ textsF (XL.take j) ++ beB (strOfNums x).size 4 ++ bytesOf (strOfNums x) by
            rw [textsF_step _ j (by rw [← RX.out, List.length_map, R5.out]; exact q5), hxj, textF, bytesOf_str x hrw.2.2.1, strOfNums_size]
            simp only [List.append_assoc])
          have TC := Aside0.mk (text_calls (strOfNums x) (by rw [strOfNums_size]; exact Nat.le_trans hrw.2.2.2 (by decide)) HW.out (by have := HX.out; omega))
          have H7 := Aside0.mk (And.intro q5 hrw)
          clear q5 hr hrw hbw hxj hpg hj
          go_wp2_with fail
          refine TC.out.mono ?_
          rintro e w3 ⟨rfl, v3, h3, f3⟩
          have HW3 := Aside0.mk h3
          have HF3 := Aside0.mk (HF.out.trans f3)
          clear h3 f3 hc z0
          go_wp2_with fail
          refine ⟨⟨j + 1, H7.out.1, congrArg (Value.int .i64) rfl, v3, ⟨by rw [HS.out]; exact HW3.out⟩, HF3, ⟨?_⟩⟩, ?_⟩
          · rw [HS.out, List.length_append, List.length_append, len_beB, bytesOf_length, strOfNums_size]
            have := HX.out
            have := H7.out.2.2.2.2
            simp only at this
            omega
          · have := H7.out.1
            simp only [intOf]
            omega
        · obtain rfl : j = 5 := by omega
          rw [show ((5 : Nat) : Int) = 5 from rfl]
          have hx5 : y6 ++ textsF (XL.take 5) = y6 ++ textsF XL := by rw [List.take_of_length_le (by rw [HXL.out]; exact Nat.le_refl _)]
          obtain ⟨y7, hy7⟩ : ∃ y, y = y6 ++ textsF XL := ⟨_, rfl⟩
          rw [hx5, ← hy7] at HW HX
          have Y7 := Aside0.mk hy7
          have BW := Aside0.mk (HBd.out.trans (HF.out.below (by have := NG.out; omega) HBd.out.size))
          clear hx5 hy7 q5 hj
          go_wp2_with fail
          refine (mpint_calls A1 c1 k (Kd.C_below D1.out.1 BW.out) D1.out.2 BK.out.1 (Nat.le_trans KL.out.1 (by decide)) HW.out (by have := HX.out; omega)).mono ?_
          rintro e u8 ⟨rfl, v8, h8_, f8_⟩
          obtain ⟨y8, hy8⟩ : ∃ y, y = y7 ++ textF (mpS k) := ⟨_, rfl⟩
          rw [← hy8] at h8_
          have W8 := Aside0.mk h8_
          have F8 := Aside0.mk (HF.out.trans f8_)
          have Y8 := Aside0.mk (And.intro hy8 (show y8.length ≤ 5000000 by rw [hy8, List.length_append, len_textF]; have := HX.out; have := len_mpS k; have := KL.out.1; omega))
          have B8 := Aside0.mk (HBd.out.trans (F8.out.below (by have := NG.out; omega) HBd.out.size))
          have HP8 := Aside0.mk ((F8.out.block g (by have := NG.out; have := NV.out; omega) (by have := NG.out; omega) (fun _ h => h.2.2 rfl)).trans HPd.out)
          have PV8 := Aside0.mk ((F8.out.block gv NV.out.2 (by have := NV.out; omega) (fun _ h => h.2.1 rfl)).trans PV4.out)
          have L8 := Aside0.mk (Nat.le_trans (Nat.succ_le_of_lt NV.out.2) F8.out.size)
          clear h8_ f8_ hy8 HW HF HX BW
          have q0 : u8.cell? ⟨g, 0, none⟩ = some (.slice B0 x0.length e0) := by unfold World.cell?; simp only [HP8.out, RZ.out]; rfl
          have q1 : u8.cell? ⟨g, 1, none⟩ = some (.slice B1' x1.length e1) := by unfold World.cell?; simp only [HP8.out, RZ.out]; rfl
          have q2 : u8.cell? ⟨g, 2, none⟩ = some (.slice B2 x2.length e2) := by unfold World.cell?; simp only [HP8.out, RZ.out]; rfl
          have q3 : u8.cell? ⟨g, 3, none⟩ = some (.slice B3 x3.length e3) := by unfold World.cell?; simp only [HP8.out, RZ.out]; rfl
          have q4 : u8.cell? ⟨g, 4, none⟩ = some (.slice B4 x4.length e4) := by unfold World.cell?; simp only [HP8.out, RZ.out]; rfl
          go_wp2_with fail
          refine (hash_calls vc vs B0 e0 x0 B1' e1 x1 B2 e2 x2 B3 e3 x3 B4 e4 x4 A1 c1 k u8 (Nat.le_trans VL.out.1 (by decide)) (Nat.le_trans VL.out.2 (by decide)) (Kd.C_below G0.out.1 B8.out) G0.out.2.2.1 (Nat.le_trans G0.out.2.2.2 (by decide)) (Kd.C_below G1.out.1 B8.out) G1.out.2.2.1 (Nat.le_trans G1.out.2.2.2 (by decide)) (Kd.C_below G2.out.1 B8.out) G2.out.2.2.1 (Nat.le_trans G2.out.2.2.2 (by decide)) (Kd.C_below G3.out.1 B8.out) G3.out.2.2.1 (Nat.le_trans G3.out.2.2.2 (by decide)) (Kd.C_below G4.out.1 B8.out) G4.out.2.2.1 (Nat.le_trans G4.out.2.2.2 (by decide)) (Kd.C_below D1.out.1 B8.out) D1.out.2 BK.out.1 (Nat.le_trans KL.out.1 (by decide))).mono ?_
          rintro e u9 ⟨v9, rfl, hR, hB⟩
          obtain ⟨hs, hhs⟩ : ∃ x, x = Sha.shaF y8 := ⟨_, rfl⟩
          have hy : hashB (bytesOf vc) (bytesOf vs) [x0, x1, x2, x3, x4] k = y8 := by
            rw [Y8.out.1, Y7.out, Y6.out.1, Y5.out.1, HXL.out, hashB]
            simp [textsF]
          rw [hy, ← hhs] at hR
          have HHS := Aside0.mk hhs
          have HSL := Aside0.mk (show hs.length = 32 by rw [hhs, Sha.len_shaF])
          have R9 := Aside0.mk (show (Kd.int .u8).R 5 u9 u8.heap.size (fun k => k ≠ gv) v9 hs from Kd.R_reok rfl hR (fun k hk => by have := Kd.R_base hR k hk; have := L8.out; omega))
          have B9 := Aside0.mk (below_step B8.out hB)
          have W9 := Aside0.mk (W8.out.keep hB)
          have V9 := Aside0.mk (show WS u9 gv u9.heap.size (fun k => u9.heap.size ≤ k) (.slice none 0 0) [] from
            ⟨(hB.block gv (by have := L8.out; omega)).trans PV8.out, Kd.R_nil _ _ _ _ _, fun h => by have := L8.out; have := hB.size; omega, fun k hk => hk, Nat.le_refl _⟩)
          have L9 := Aside0.mk (show gv < u9.heap.size by have := L8.out; have := hB.size; omega)
          clear hR hB hhs hy q0 q1 q2 q3 q4 W8 F8 HP8 PV8
          obtain ⟨A9, c9, hv9, hc9, hC9⟩ := Kd.R_reads R9.out
          obtain ⟨n9, hn9⟩ : ∃ x, x = hs.length := ⟨_, rfl⟩
          rw [← hn9] at hv9 hc9
          have E9 := Aside0.mk (And.intro hn9 (And.intro hc9 hv9))
          rw [hv9]
          clear hv9 hc9 hC9 hn9
          go_wp2_with fail
          refine (mpint_calls A1 c1 k (Kd.C_below D1.out.1 B9.out) D1.out.2 BK.out.1 (Nat.le_trans KL.out.1 (by decide)) V9.out (by decide)).mono ?_
          rintro e t1 ⟨rfl, z1, h1_, f1_⟩
          obtain ⟨a1, ha1⟩ : ∃ y, y = textF (mpS k) := ⟨_, rfl⟩
          rw [List.nil_append, ← ha1] at h1_
          have T1 := Aside0.mk h1_
          have J1 := Aside0.mk f1_
          have S1 := Aside0.mk (And.intro ha1 (show a1.length ≤ 1000 by rw [ha1, len_textF]; have := len_mpS k; have := KL.out.1; omega))
          have I1 := Aside0.mk (Kd.R_step R9.out (fun j ho hj => f1_.block j hj ho (fun hb _ => by omega)))
          clear h1_ f1_ ha1
          go_wp2_with fail
          refine (show Calls Try.prog 24 #[.pointer (some ⟨gv, 0, none⟩), .slice A9 n9 c9] t1 _ from by
            have h := Kd.R_reads' (E9.out.2.2 ▸ I1.out)
            rw [E9.out.1]
            exact raw_calls A9 c9 hs h.2.2 (by rw [HSL.out]; decide) T1.out (Nat.le_trans S1.out.2 (by decide))).mono ?_
          rintro e t2 ⟨rfl, z2, h2_, f2_⟩
          have T2 := Aside0.mk h2_
          have J2 := Aside0.mk (J1.out.trans f2_)
          have B2_ := Aside0.mk (B9.out.trans (fr_below J2.out (by have := NV.out; have := NG.out; omega) B9.out.size B9.out.size))
          clear h2_ f2_
          have kw := KW.out
          go_wp2_with fail
          refine (byte_calls a3 H3.out.1 H3.out.2 T2.out (by rw [List.length_append, HSL.out]; have := S1.out.2; omega)).mono ?_
          rintro e t3 ⟨rfl, z3, h3_, f3_⟩
          have T3 := Aside0.mk h3_
          have J3 := Aside0.mk (J2.out.trans f3_)
          have B3_ := Aside0.mk (B9.out.trans (fr_below J3.out (by have := NV.out; have := NG.out; omega) B9.out.size B9.out.size))
          clear h3_ f3_ kw
          go_wp2_with fail
          refine (raw_calls A2 c2 d (Kd.C_below D2.out.1 B3_.out) (Nat.le_trans KL.out.2 (by decide)) T3.out (by rw [List.length_append, List.length_append, HSL.out]; have := S1.out.2; simp only [List.length_cons, List.length_nil]; omega)).mono ?_
          rintro e t4 ⟨rfl, z4, h4_, f4_⟩
          obtain ⟨a4, ha4⟩ : ∃ y, y = a1 ++ hs ++ [a3] ++ d := ⟨_, rfl⟩
          rw [← ha4] at h4_
          have T4 := Aside0.mk h4_
          have J4 := Aside0.mk (J3.out.trans f4_)
          have B4_ := Aside0.mk (B9.out.trans (fr_below J4.out (by have := NV.out; have := NG.out; omega) B9.out.size B9.out.size))
          have S4 := Aside0.mk (And.intro ha4 (show a4.length ≤ 10000 by rw [ha4, List.length_append, List.length_append, List.length_append, HSL.out]; have := S1.out.2; have := KL.out.2; simp only [List.length_cons, List.length_nil]; omega))
          have I4 := Aside0.mk (Kd.R_step R9.out (fun j ho hj => J4.out.block j hj ho (fun hb _ => by omega)))
          have W14 := Aside0.mk (ws_side W9.out J4.out (Nat.le_refl _) (by have := NV.out; omega) (fun k h => h.2.1))
          clear h4_ f4_ ha4 T1 T2 T3 J1 J2 J3 B2_ B3_ I1
          go_wp2_with fail
          refine (show Calls Try.prog 19 #[.slice A1 k.length c1, .slice A9 n9 c9, .int .u8 a3, .slice A2 d.length c2, .int .i64 32] t4 _ from by
            have h := Kd.R_reads' (E9.out.2.2 ▸ I4.out)
            have hc := E9.out.2.1
            rw [E9.out.1] at hc ⊢
            exact derive_calls A1 c1 k A9 c9 hs a3 A2 c2 d 32 t4 (Kd.C_below D1.out.1 B4_.out) D1.out.2 BK.out.1 (Nat.le_trans KL.out.1 (by decide)) h.2.2 hc (by rw [HSL.out]; decide) (Kd.C_below D2.out.1 B4_.out) D2.out.2 (Nat.le_trans KL.out.2 (by decide)) (by decide)).mono ?_
          rintro e t5 ⟨vd, rfl, hR, hB⟩
          obtain ⟨ds, hds⟩ : ∃ x, x = Sha.shaF a4 := ⟨_, rfl⟩
          rw [derive_one32, ← S1.out.1, ← S4.out.1, ← hds] at hR
          have HDS := Aside0.mk hds
          obtain ⟨Ad, cd, rfl, hcd, hCd⟩ := Kd.R_reads hR
          have CD := Aside0.mk hCd
          have CH := Aside0.mk (show (Kd.int .u8).C t5 A9 hs.length hs from (Kd.R_reads' (E9.out.2.2 ▸ Kd.R_below I4.out hB)).2.2)
          have W15 := Aside0.mk (W14.out.keep hB)
          have V15 := Aside0.mk (T4.out.keep hB)
          have B15 := Aside0.mk (below_step B4_.out hB)
          have ec := E9.out.1
          subst ec
          clear hR hB hds hcd hCd T4 J4 I4 W14 B4_ E9 R9
          go_wp2_with fail
          have Q0 := Aside0.mk (fun (w' : World) (h : Below t5.heap.size t5 w') => Kd.C_string (P := Try.prog) (c := c9) Try.underlying22 Try.underlying5 Try.underlying9 (Kd.C_below CH.out h))
          have Q1 := Aside0.mk (fun (w' : World) (h : Below t5.heap.size t5 w') => Kd.C_string (P := Try.prog) (c := cd) Try.underlying22 Try.underlying5 Try.underlying9 (Kd.C_below CD.out h))
          have vl := VL.out
          have g3 : IntKind.i64.wrap ((vc.size : Int) + (vs.size : Int)) = (vc.size : Int) + (vs.size : Int) := by rw [i64_w, wrap_id (by omega) (by omega)]
          by_cases big : 2000 < vc.size + vs.size
          · have g1 : decide ((2000 : Int) < (vc.size : Int) + (vs.size : Int)) = true := by simp; omega
            have g2 : decide (2000 < vc.size + vs.size) = true := by simp; omega
            clear big vl
            refine start_ (n := 35) (S := fun w' => Below t5.heap.size t5 w') (ds := []) #[false, false, false, false, false, false, false, false, false, false, false, false, false, false, false, false, false, false, false, false, false, false, false, false, false, false, false, false, false, false, false, false, false, false, false] (by kernel_rfl) rfl rfl (below_drew1 (Below.refl _ _)) (fun hHeld => ?_)
            refine with_tabW kdfJoins.tab25 kdfJoins.bits25 (fun HT_ HW_ => ?_)
            refine pure_ (i := 0) (N := some 105) (v := ?_) (a' := ?_) #[true, false, false, false, false, false, false, false, false, false, false, false, false, false, false, false, false, false, false, false, false, false, false, false, false, false, false, false, false, false, false, false, false, false, false] rfl rfl (any_of HT_.out (by kernel_rfl)) (fun _ _ _ h => h) (Or.inl ⟨by rfl, ?_⟩) ?_ ?_
            rotate_left
            · intro w'
              go_simp
              with_reducible rfl
            rotate_left
            · simp only [Act.put, List.setIfInBounds_toArray, List.set_cons_zero, List.set_cons_succ]
              rfl
            refine pure_ (i := 1) (N := some 106) (v := ?_) (a' := ?_) #[true, true, false, false, false, false, false, false, false, false, false, false, false, false, false, false, false, false, false, false, false, false, false, false, false, false, false, false, false, false, false, false, false, false, false] rfl rfl (any_of HT_.out (by kernel_rfl)) (fun _ _ _ h => h) (Or.inl ⟨by rfl, ?_⟩) ?_ ?_
            rotate_left
            · intro w'
              go_simp
              with_reducible rfl
            rotate_left
            · simp only [Act.put, List.setIfInBounds_toArray, List.set_cons_zero, List.set_cons_succ]
              rfl
            refine pure_ (i := 2) (N := some 107) (v := ?_) (a' := ?_) #[true, true, true, false, false, false, false, false, false, false, false, false, false, false, false, false, false, false, false, false, false, false, false, false, false, false, false, false, false, false, false, false, false, false, false] rfl rfl (any_of HT_.out (by kernel_rfl)) (fun _ _ _ h => h) (Or.inl ⟨by rfl, ?_⟩) ?_ ?_
            rotate_left
            · intro w'
              go_simp
              with_reducible rfl
            rotate_left
            · simp only [Act.put, List.setIfInBounds_toArray, List.set_cons_zero, List.set_cons_succ]
              rfl
            refine pure_ (i := 3) (N := some 108) (v := ?_) (a' := ?_) #[true, true, true, true, false, false, false, false, false, false, false, false, false, false, false, false, false, false, false, false, false, false, false, false, false, false, false, false, false, false, false, false, false, false, false] rfl rfl (any_of HT_.out (by kernel_rfl)) (fun _ _ _ h => h) (Or.inl ⟨by rfl, ?_⟩) ?_ ?_
            rotate_left
            · intro w'
              go_simp
              with_reducible rfl
            rotate_left
            · simp only [Act.put, List.setIfInBounds_toArray, List.set_cons_zero, List.set_cons_succ]
              rfl
            refine pure_ (i := 4) (N := some 109) (v := ?_) (a' := ?_) #[true, true, true, true, true, false, false, false, false, false, false, false, false, false, false, false, false, false, false, false, false, false, false, false, false, false, false, false, false, false, false, false, false, false, false] rfl rfl (any_of HT_.out (by kernel_rfl)) (fun _ _ _ h => h) (Or.inl ⟨by rfl, ?_⟩) ?_ ?_
            rotate_left
            · intro w'
              go_simp
              with_reducible rfl
            rotate_left
            · simp only [Act.put, List.setIfInBounds_toArray, List.set_cons_zero, List.set_cons_succ]
              rfl
            refine pure_ (i := 5) (N := some 110) (v := ?_) (a' := ?_) #[true, true, true, true, true, true, false, false, false, false, false, false, false, false, false, false, false, false, false, false, false, false, false, false, false, false, false, false, false, false, false, false, false, false, false] rfl rfl (any_of HT_.out (by kernel_rfl)) (fun _ _ _ h => h) (Or.inl ⟨by rfl, ?_⟩) ?_ ?_
            rotate_left
            · intro w'
              go_simp
              with_reducible rfl
            rotate_left
            · simp only [Act.put, List.setIfInBounds_toArray, List.set_cons_zero, List.set_cons_succ]
              rfl
            refine pure_ (i := 6) (N := some 111) (v := ?_) (a' := ?_) #[true, true, true, true, true, true, true, false, false, false, false, false, false, false, false, false, false, false, false, false, false, false, false, false, false, false, false, false, false, false, false, false, false, false, false] rfl rfl (any_of HT_.out (by kernel_rfl)) (fun _ _ _ h => h) (Or.inl ⟨by rfl, ?_⟩) ?_ ?_
            rotate_left
            · intro w'
              go_simp
              with_reducible rfl
            rotate_left
            · simp only [Act.put, List.setIfInBounds_toArray, List.set_cons_zero, List.set_cons_succ]
              rfl
            refine one_ (i := 7) (N := some 112) #[true, true, true, true, true, true, true, true, false, false, false, false, false, false, false, false, false, false, false, false, false, false, false, false, false, false, false, false, false, false, false, false, false, false, false] rfl rfl (one_of HT_.out (by kernel_rfl)) (by decide) (fun K hK => ?_)
            refine goes_ Try.func17 (by kernel_rfl) rfl #[] (by rfl) rfl rfl (by simp only [List.map_toArray, List.map_nil]) ?_
            with_reducible refine (known6_calls _).mono ?_
            rintro e wk ⟨rfl, hBk⟩
            refine ⟨_, rfl, ?_⟩
            have hbk := below_step hHeld hBk
            clear hBk
            refine hK.out _ _ (hbk) (fun hHeld => ?_)
            clear hK K
            refine norm_ (a' := ?_) ?_ ?_
            rotate_left
            · show Act.put _ (some 112) _ = _
              simp only [Act.put, List.setIfInBounds_toArray, List.set_cons_zero, List.set_cons_succ]
              rfl
            refine pure_ (i := 8) (N := some 113) (v := ?_) (a' := ?_) #[true, true, true, true, true, true, true, true, true, false, false, false, false, false, false, false, false, false, false, false, false, false, false, false, false, false, false, false, false, false, false, false, false, false, false] rfl rfl (any_of HT_.out (by kernel_rfl)) (fun _ _ _ h => h) (Or.inl ⟨by rfl, ?_⟩) ?_ ?_
            rotate_left
            · intro w'
              go_simp
              with_reducible rfl
            rotate_left
            · simp only [Act.put, List.setIfInBounds_toArray, List.set_cons_zero, List.set_cons_succ]
              rfl
            refine pure_ (i := 9) (N := some 114) (v := ?_) (a' := ?_) #[true, true, true, true, true, true, true, true, true, true, false, false, false, false, false, false, false, false, false, false, false, false, false, false, false, false, false, false, false, false, false, false, false, false, false] rfl rfl (any_of HT_.out (by kernel_rfl)) (fun _ _ _ h => h) (Or.inl ⟨by rfl, ?_⟩) ?_ ?_
            rotate_left
            · intro w'
              go_simp
              with_reducible rfl
            rotate_left
            · simp only [Act.put, List.setIfInBounds_toArray, List.set_cons_zero, List.set_cons_succ]
              rfl
            refine pure_ (i := 10) (N := some 115) (v := undef) (a' := ?_) #[true, true, true, true, true, true, true, true, true, true, true, false, false, false, false, false, false, false, false, false, false, false, false, false, false, false, false, false, false, false, false, false, false, false, false] rfl rfl (any_of HT_.out (by kernel_rfl)) (fun _ _ _ h => h) (Or.inr ⟨by rfl, rfl⟩) ?_ ?_
            rotate_left
            · simp only [Act.put, List.setIfInBounds_toArray, List.set_cons_zero, List.set_cons_succ]
              rfl
            refine pure_ (i := 11) (N := some 116) (v := undef) (a' := ?_) #[true, true, true, true, true, true, true, true, true, true, true, true, false, false, false, false, false, false, false, false, false, false, false, false, false, false, false, false, false, false, false, false, false, false, false] rfl rfl (any_of HT_.out (by kernel_rfl)) (fun _ _ _ h => h) (Or.inr ⟨by rfl, rfl⟩) ?_ ?_
            rotate_left
            · simp only [Act.put, List.setIfInBounds_toArray, List.set_cons_zero, List.set_cons_succ]
              rfl
            refine pure_ (i := 12) (N := some 117) (v := undef) (a' := ?_) #[true, true, true, true, true, true, true, true, true, true, true, true, true, false, false, false, false, false, false, false, false, false, false, false, false, false, false, false, false, false, false, false, false, false, false] rfl rfl (any_of HT_.out (by kernel_rfl)) (fun _ _ _ h => h) (Or.inr ⟨by rfl, rfl⟩) ?_ ?_
            rotate_left
            · simp only [Act.put, List.setIfInBounds_toArray, List.set_cons_zero, List.set_cons_succ]
              rfl
            refine pure_ (i := 13) (N := some 118) (v := undef) (a' := ?_) #[true, true, true, true, true, true, true, true, true, true, true, true, true, true, false, false, false, false, false, false, false, false, false, false, false, false, false, false, false, false, false, false, false, false, false] rfl rfl (any_of HT_.out (by kernel_rfl)) (fun _ _ _ h => h) (Or.inr ⟨by rfl, rfl⟩) ?_ ?_
            rotate_left
            · simp only [Act.put, List.setIfInBounds_toArray, List.set_cons_zero, List.set_cons_succ]
              rfl
            refine pure_ (i := 14) (N := some 119) (v := undef) (a' := ?_) #[true, true, true, true, true, true, true, true, true, true, true, true, true, true, true, false, false, false, false, false, false, false, false, false, false, false, false, false, false, false, false, false, false, false, false] rfl rfl (any_of HT_.out (by kernel_rfl)) (fun _ _ _ h => h) (Or.inr ⟨by rfl, rfl⟩) ?_ ?_
            rotate_left
            · simp only [Act.put, List.setIfInBounds_toArray, List.set_cons_zero, List.set_cons_succ]
              rfl
            refine pure_ (i := 15) (N := some 120) (v := undef) (a' := ?_) #[true, true, true, true, true, true, true, true, true, true, true, true, true, true, true, true, false, false, false, false, false, false, false, false, false, false, false, false, false, false, false, false, false, false, false] rfl rfl (any_of HT_.out (by kernel_rfl)) (fun _ _ _ h => h) (Or.inr ⟨by rfl, rfl⟩) ?_ ?_
            rotate_left
            · simp only [Act.put, List.setIfInBounds_toArray, List.set_cons_zero, List.set_cons_succ]
              rfl
            refine pure_ (i := 16) (N := some 121) (v := undef) (a' := ?_) #[true, true, true, true, true, true, true, true, true, true, true, true, true, true, true, true, true, false, false, false, false, false, false, false, false, false, false, false, false, false, false, false, false, false, false] rfl rfl (any_of HT_.out (by kernel_rfl)) (fun _ _ _ h => h) (Or.inr ⟨by rfl, rfl⟩) ?_ ?_
            rotate_left
            · simp only [Act.put, List.setIfInBounds_toArray, List.set_cons_zero, List.set_cons_succ]
              rfl
            refine pure_ (i := 17) (N := some 122) (v := undef) (a' := ?_) #[true, true, true, true, true, true, true, true, true, true, true, true, true, true, true, true, true, true, false, false, false, false, false, false, false, false, false, false, false, false, false, false, false, false, false] rfl rfl (any_of HT_.out (by kernel_rfl)) (fun _ _ _ h => h) (Or.inr ⟨by rfl, rfl⟩) ?_ ?_
            rotate_left
            · simp only [Act.put, List.setIfInBounds_toArray, List.set_cons_zero, List.set_cons_succ]
              rfl
            refine pure_ (i := 18) (N := some 123) (v := undef) (a' := ?_) #[true, true, true, true, true, true, true, true, true, true, true, true, true, true, true, true, true, true, true, false, false, false, false, false, false, false, false, false, false, false, false, false, false, false, false] rfl rfl (any_of HT_.out (by kernel_rfl)) (fun _ _ _ h => h) (Or.inr ⟨by rfl, rfl⟩) ?_ ?_
            rotate_left
            · simp only [Act.put, List.setIfInBounds_toArray, List.set_cons_zero, List.set_cons_succ]
              rfl
            refine pure_ (i := 19) (N := some 124) (v := undef) (a' := ?_) #[true, true, true, true, true, true, true, true, true, true, true, true, true, true, true, true, true, true, true, true, false, false, false, false, false, false, false, false, false, false, false, false, false, false, false] rfl rfl (any_of HT_.out (by kernel_rfl)) (fun _ _ _ h => h) (Or.inr ⟨by rfl, rfl⟩) ?_ ?_
            rotate_left
            · simp only [Act.put, List.setIfInBounds_toArray, List.set_cons_zero, List.set_cons_succ]
              rfl
            refine pure_ (i := 20) (N := some 125) (v := undef) (a' := ?_) #[true, true, true, true, true, true, true, true, true, true, true, true, true, true, true, true, true, true, true, true, true, false, false, false, false, false, false, false, false, false, false, false, false, false, false] rfl rfl (any_of HT_.out (by kernel_rfl)) (fun _ _ _ h => h) (Or.inr ⟨by rfl, rfl⟩) ?_ ?_
            rotate_left
            · simp only [Act.put, List.setIfInBounds_toArray, List.set_cons_zero, List.set_cons_succ]
              rfl
            refine pure_ (i := 21) (N := some 126) (v := undef) (a' := ?_) #[true, true, true, true, true, true, true, true, true, true, true, true, true, true, true, true, true, true, true, true, true, true, false, false, false, false, false, false, false, false, false, false, false, false, false] rfl rfl (any_of HT_.out (by kernel_rfl)) (fun _ _ _ h => h) (Or.inr ⟨by rfl, rfl⟩) ?_ ?_
            rotate_left
            · simp only [Act.put, List.setIfInBounds_toArray, List.set_cons_zero, List.set_cons_succ]
              rfl
            refine pure_ (i := 22) (N := some 127) (v := undef) (a' := ?_) #[true, true, true, true, true, true, true, true, true, true, true, true, true, true, true, true, true, true, true, true, true, true, true, false, false, false, false, false, false, false, false, false, false, false, false] rfl rfl (any_of HT_.out (by kernel_rfl)) (fun _ _ _ h => h) (Or.inr ⟨by rfl, rfl⟩) ?_ ?_
            rotate_left
            · simp only [Act.put, List.setIfInBounds_toArray, List.set_cons_zero, List.set_cons_succ]
              rfl
            refine pure_ (i := 23) (N := some 128) (v := undef) (a' := ?_) #[true, true, true, true, true, true, true, true, true, true, true, true, true, true, true, true, true, true, true, true, true, true, true, true, false, false, false, false, false, false, false, false, false, false, false] rfl rfl (any_of HT_.out (by kernel_rfl)) (fun _ _ _ h => h) (Or.inr ⟨by rfl, rfl⟩) ?_ ?_
            rotate_left
            · simp only [Act.put, List.setIfInBounds_toArray, List.set_cons_zero, List.set_cons_succ]
              rfl
            refine pure_ (i := 24) (N := some 129) (v := undef) (a' := ?_) #[true, true, true, true, true, true, true, true, true, true, true, true, true, true, true, true, true, true, true, true, true, true, true, true, true, false, false, false, false, false, false, false, false, false, false] rfl rfl (any_of HT_.out (by kernel_rfl)) (fun _ _ _ h => h) (Or.inr ⟨by rfl, rfl⟩) ?_ ?_
            rotate_left
            · simp only [Act.put, List.setIfInBounds_toArray, List.set_cons_zero, List.set_cons_succ]
              rfl
            refine pure_ (i := 25) (N := some 130) (v := undef) (a' := ?_) #[true, true, true, true, true, true, true, true, true, true, true, true, true, true, true, true, true, true, true, true, true, true, true, true, true, true, false, false, false, false, false, false, false, false, false] rfl rfl (any_of HT_.out (by kernel_rfl)) (fun _ _ _ h => h) (Or.inr ⟨by rfl, rfl⟩) ?_ ?_
            rotate_left
            · simp only [Act.put, List.setIfInBounds_toArray, List.set_cons_zero, List.set_cons_succ]
              rfl
            refine pure_ (i := 26) (N := some 131) (v := undef) (a' := ?_) #[true, true, true, true, true, true, true, true, true, true, true, true, true, true, true, true, true, true, true, true, true, true, true, true, true, true, true, false, false, false, false, false, false, false, false] rfl rfl (any_of HT_.out (by kernel_rfl)) (fun _ _ _ h => h) (Or.inr ⟨by rfl, rfl⟩) ?_ ?_
            rotate_left
            · simp only [Act.put, List.setIfInBounds_toArray, List.set_cons_zero, List.set_cons_succ]
              rfl
            refine pure_ (i := 27) (N := some 132) (v := undef) (a' := ?_) #[true, true, true, true, true, true, true, true, true, true, true, true, true, true, true, true, true, true, true, true, true, true, true, true, true, true, true, true, false, false, false, false, false, false, false] rfl rfl (any_of HT_.out (by kernel_rfl)) (fun _ _ _ h => h) (Or.inr ⟨by rfl, rfl⟩) ?_ ?_
            rotate_left
            · simp only [Act.put, List.setIfInBounds_toArray, List.set_cons_zero, List.set_cons_succ]
              rfl
            refine pure_ (i := 28) (N := some 133) (v := undef) (a' := ?_) #[true, true, true, true, true, true, true, true, true, true, true, true, true, true, true, true, true, true, true, true, true, true, true, true, true, true, true, true, true, false, false, false, false, false, false] rfl rfl (any_of HT_.out (by kernel_rfl)) (fun _ _ _ h => h) (Or.inr ⟨by rfl, rfl⟩) ?_ ?_
            rotate_left
            · simp only [Act.put, List.setIfInBounds_toArray, List.set_cons_zero, List.set_cons_succ]
              rfl
            refine pure_ (i := 29) (N := some 134) (v := undef) (a' := ?_) #[true, true, true, true, true, true, true, true, true, true, true, true, true, true, true, true, true, true, true, true, true, true, true, true, true, true, true, true, true, true, false, false, false, false, false] rfl rfl (any_of HT_.out (by kernel_rfl)) (fun _ _ _ h => h) (Or.inr ⟨by rfl, rfl⟩) ?_ ?_
            rotate_left
            · simp only [Act.put, List.setIfInBounds_toArray, List.set_cons_zero, List.set_cons_succ]
              rfl
            refine pure_ (i := 30) (N := some 135) (v := undef) (a' := ?_) #[true, true, true, true, true, true, true, true, true, true, true, true, true, true, true, true, true, true, true, true, true, true, true, true, true, true, true, true, true, true, true, false, false, false, false] rfl rfl (any_of HT_.out (by kernel_rfl)) (fun _ _ _ h => h) (Or.inr ⟨by rfl, rfl⟩) ?_ ?_
            rotate_left
            · simp only [Act.put, List.setIfInBounds_toArray, List.set_cons_zero, List.set_cons_succ]
              rfl
            refine pure_ (i := 31) (N := some 136) (v := undef) (a' := ?_) #[true, true, true, true, true, true, true, true, true, true, true, true, true, true, true, true, true, true, true, true, true, true, true, true, true, true, true, true, true, true, true, true, false, false, false] rfl rfl (any_of HT_.out (by kernel_rfl)) (fun _ _ _ h => h) (Or.inr ⟨by rfl, rfl⟩) ?_ ?_
            rotate_left
            · simp only [Act.put, List.setIfInBounds_toArray, List.set_cons_zero, List.set_cons_succ]
              rfl
            refine pure_ (i := 32) (N := some 137) (v := undef) (a' := ?_) #[true, true, true, true, true, true, true, true, true, true, true, true, true, true, true, true, true, true, true, true, true, true, true, true, true, true, true, true, true, true, true, true, true, false, false] rfl rfl (any_of HT_.out (by kernel_rfl)) (fun _ _ _ h => h) (Or.inr ⟨by rfl, rfl⟩) ?_ ?_
            rotate_left
            · simp only [Act.put, List.setIfInBounds_toArray, List.set_cons_zero, List.set_cons_succ]
              rfl
            refine pure_ (i := 33) (N := some 138) (v := ?_) (a' := ?_) #[true, true, true, true, true, true, true, true, true, true, true, true, true, true, true, true, true, true, true, true, true, true, true, true, true, true, true, true, true, true, true, true, true, true, false] rfl rfl (any_of HT_.out (by kernel_rfl)) (fun _ _ _ h => h) (Or.inl ⟨by rfl, ?_⟩) ?_ ?_
            rotate_left
            · intro w'
              go_simp
              with_reducible rfl
            rotate_left
            · simp only [Act.put, List.setIfInBounds_toArray, List.set_cons_zero, List.set_cons_succ]
              rfl
            refine pure_ (i := 34) (N := some 12) (v := ?_) (a' := ?_) #[true, true, true, true, true, true, true, true, true, true, true, true, true, true, true, true, true, true, true, true, true, true, true, true, true, true, true, true, true, true, true, true, true, true, true] rfl rfl (any_of HT_.out (by kernel_rfl)) (fun _ _ _ h => h) (Or.inl ⟨by rfl, ?_⟩) ?_ ?_
            rotate_left
            · intro w'
              go_simp
              with_reducible rfl
            rotate_left
            · simp only [Act.put, List.setIfInBounds_toArray, List.set_cons_zero, List.set_cons_succ]
              rfl
            refine done_ (done_of HT_.out (by kernel_rfl)) ?_
            have BZ := Aside0.mk (B15.out.trans (hHeld.mono B15.out.size))
            clear hHeld
            go_wp2_with fail
            go_ret
            exact ⟨rfl, BZ.out⟩
          · have g1 : decide ((2000 : Int) < (vc.size : Int) + (vs.size : Int)) = false := by simp; omega
            have g2 : decide (2000 < vc.size + vs.size) = false := by simp; omega
            clear big vl
            refine start_ (n := 35) (S := fun w' => Below t5.heap.size t5 w') (ds := []) #[false, false, false, false, false, false, false, false, false, false, false, false, false, false, false, false, false, false, false, false, false, false, false, false, false, false, false, false, false, false, false, false, false, false, false] (by kernel_rfl) rfl rfl (below_drew1 (Below.refl _ _)) (fun hHeld => ?_)
            refine with_tabW kdfJoins.tab25 kdfJoins.bits25 (fun HT_ HW_ => ?_)
            refine pure_ (i := 0) (N := some 105) (v := ?_) (a' := ?_) #[true, false, false, false, false, false, false, false, false, false, false, false, false, false, false, false, false, false, false, false, false, false, false, false, false, false, false, false, false, false, false, false, false, false, false] rfl rfl (any_of HT_.out (by kernel_rfl)) (fun _ _ _ h => h) (Or.inl ⟨by rfl, ?_⟩) ?_ ?_
            rotate_left
            · intro w'
              go_simp
              with_reducible rfl
            rotate_left
            · simp only [Act.put, List.setIfInBounds_toArray, List.set_cons_zero, List.set_cons_succ]
              rfl
            refine pure_ (i := 1) (N := some 106) (v := ?_) (a' := ?_) #[true, true, false, false, false, false, false, false, false, false, false, false, false, false, false, false, false, false, false, false, false, false, false, false, false, false, false, false, false, false, false, false, false, false, false] rfl rfl (any_of HT_.out (by kernel_rfl)) (fun _ _ _ h => h) (Or.inl ⟨by rfl, ?_⟩) ?_ ?_
            rotate_left
            · intro w'
              go_simp
              with_reducible rfl
            rotate_left
            · simp only [Act.put, List.setIfInBounds_toArray, List.set_cons_zero, List.set_cons_succ]
              rfl
            refine pure_ (i := 2) (N := some 107) (v := ?_) (a' := ?_) #[true, true, true, false, false, false, false, false, false, false, false, false, false, false, false, false, false, false, false, false, false, false, false, false, false, false, false, false, false, false, false, false, false, false, false] rfl rfl (any_of HT_.out (by kernel_rfl)) (fun _ _ _ h => h) (Or.inl ⟨by rfl, ?_⟩) ?_ ?_
            rotate_left
            · intro w'
              go_simp
              with_reducible rfl
            rotate_left
            · simp only [Act.put, List.setIfInBounds_toArray, List.set_cons_zero, List.set_cons_succ]
              rfl
            refine pure_ (i := 3) (N := some 108) (v := ?_) (a' := ?_) #[true, true, true, true, false, false, false, false, false, false, false, false, false, false, false, false, false, false, false, false, false, false, false, false, false, false, false, false, false, false, false, false, false, false, false] rfl rfl (any_of HT_.out (by kernel_rfl)) (fun _ _ _ h => h) (Or.inl ⟨by rfl, ?_⟩) ?_ ?_
            rotate_left
            · intro w'
              go_simp
              with_reducible rfl
            rotate_left
            · simp only [Act.put, List.setIfInBounds_toArray, List.set_cons_zero, List.set_cons_succ]
              rfl
            refine pure_ (i := 4) (N := some 109) (v := ?_) (a' := ?_) #[true, true, true, true, true, false, false, false, false, false, false, false, false, false, false, false, false, false, false, false, false, false, false, false, false, false, false, false, false, false, false, false, false, false, false] rfl rfl (any_of HT_.out (by kernel_rfl)) (fun _ _ _ h => h) (Or.inl ⟨by rfl, ?_⟩) ?_ ?_
            rotate_left
            · intro w'
              go_simp
              with_reducible rfl
            rotate_left
            · simp only [Act.put, List.setIfInBounds_toArray, List.set_cons_zero, List.set_cons_succ]
              rfl
            refine pure_ (i := 5) (N := some 110) (v := ?_) (a' := ?_) #[true, true, true, true, true, true, false, false, false, false, false, false, false, false, false, false, false, false, false, false, false, false, false, false, false, false, false, false, false, false, false, false, false, false, false] rfl rfl (any_of HT_.out (by kernel_rfl)) (fun _ _ _ h => h) (Or.inl ⟨by rfl, ?_⟩) ?_ ?_
            rotate_left
            · intro w'
              go_simp
              with_reducible rfl
            rotate_left
            · simp only [Act.put, List.setIfInBounds_toArray, List.set_cons_zero, List.set_cons_succ]
              rfl
            refine pure_ (i := 6) (N := some 111) (v := ?_) (a' := ?_) #[true, true, true, true, true, true, true, false, false, false, false, false, false, false, false, false, false, false, false, false, false, false, false, false, false, false, false, false, false, false, false, false, false, false, false] rfl rfl (any_of HT_.out (by kernel_rfl)) (fun _ _ _ h => h) (Or.inl ⟨by rfl, ?_⟩) ?_ ?_
            rotate_left
            · intro w'
              go_simp
              with_reducible rfl
            rotate_left
            · simp only [Act.put, List.setIfInBounds_toArray, List.set_cons_zero, List.set_cons_succ]
              rfl
            refine pure_ (i := 7) (N := some 112) (v := undef) (a' := ?_) #[true, true, true, true, true, true, true, true, false, false, false, false, false, false, false, false, false, false, false, false, false, false, false, false, false, false, false, false, false, false, false, false, false, false, false] rfl rfl (any_of HT_.out (by kernel_rfl)) (fun _ _ _ h => h) (Or.inr ⟨by rfl, rfl⟩) ?_ ?_
            rotate_left
            · simp only [Act.put, List.setIfInBounds_toArray, List.set_cons_zero, List.set_cons_succ]
              rfl
            refine pure_ (i := 8) (N := some 113) (v := ?_) (a' := ?_) #[true, true, true, true, true, true, true, true, true, false, false, false, false, false, false, false, false, false, false, false, false, false, false, false, false, false, false, false, false, false, false, false, false, false, false] rfl rfl (any_of HT_.out (by kernel_rfl)) (fun _ _ _ h => h) (Or.inl ⟨by rfl, ?_⟩) ?_ ?_
            rotate_left
            · intro w'
              go_simp
              with_reducible rfl
            rotate_left
            · simp only [Act.put, List.setIfInBounds_toArray, List.set_cons_zero, List.set_cons_succ]
              rfl
            refine pure_ (i := 9) (N := some 114) (v := ?_) (a' := ?_) #[true, true, true, true, true, true, true, true, true, true, false, false, false, false, false, false, false, false, false, false, false, false, false, false, false, false, false, false, false, false, false, false, false, false, false] rfl rfl (any_of HT_.out (by kernel_rfl)) (fun _ _ _ h => h) (Or.inl ⟨by rfl, ?_⟩) ?_ ?_
            rotate_left
            · intro w'
              go_simp
              with_reducible rfl
            rotate_left
            · simp only [Act.put, List.setIfInBounds_toArray, List.set_cons_zero, List.set_cons_succ]
              rfl
            refine pure_ (i := 10) (N := some 115) (v := ?_) (a' := ?_) #[true, true, true, true, true, true, true, true, true, true, true, false, false, false, false, false, false, false, false, false, false, false, false, false, false, false, false, false, false, false, false, false, false, false, false] rfl rfl (any_of HT_.out (by kernel_rfl)) (fun _ _ _ h => h) (Or.inl ⟨by rfl, ?_⟩) ?_ ?_
            rotate_left
            · intro w'
              go_simp
              with_reducible rfl
            rotate_left
            · simp only [Act.put, List.setIfInBounds_toArray, List.set_cons_zero, List.set_cons_succ]
              rfl
            refine pure_ (i := 12) (N := some 117) (v := ?_) (a' := ?_) #[true, true, true, true, true, true, true, true, true, true, true, false, true, false, false, false, false, false, false, false, false, false, false, false, false, false, false, false, false, false, false, false, false, false, false] rfl rfl (any_of HT_.out (by kernel_rfl)) (fun _ _ _ h => h) (Or.inl ⟨by rfl, ?_⟩) ?_ ?_
            rotate_left
            · intro w'
              go_simp
              with_reducible rfl
            rotate_left
            · simp only [Act.put, List.setIfInBounds_toArray, List.set_cons_zero, List.set_cons_succ]
              rfl
            refine take_ (i := 11) (N := some 116) (v := ?_) (a' := ?_) #[true, true, true, true, true, true, true, true, true, true, true, true, true, false, false, false, false, false, false, false, false, false, false, false, false, false, false, false, false, false, false, false, false, false, false] rfl rfl (take_ofW HT_.out HW_.out (by kernel_rfl)) (fun _ _ _ h => h) (Or.inl ⟨by rfl, ?_⟩) hHeld ?_ ?_
            rotate_left
            · intro w' s0
              have q0_ := Q0.out w' s0
              have q1_ := Q1.out w' s0
              go_simp
              with_reducible rfl
            rotate_left
            · simp only [Act.put, List.setIfInBounds_toArray, List.set_cons_zero, List.set_cons_succ]
              rfl
            refine one_ (i := 13) (N := some 118) #[true, true, true, true, true, true, true, true, true, true, true, true, true, true, false, false, false, false, false, false, false, false, false, false, false, false, false, false, false, false, false, false, false, false, false] rfl rfl (one_of HT_.out (by kernel_rfl)) (by decide) (fun K hK => ?_)
            refine goes_ Try.func26 (by kernel_rfl) rfl #[.pointer (some ⟨gw, 0, none⟩)] (by rfl) rfl rfl (by simp only [List.map_toArray, List.map_cons, List.map_nil]; rfl) ?_
            with_reducible refine (done_calls (W15.out.keep hHeld) (Nat.le_trans Y8.out.2 (by decide))).mono ?_
            rintro e wa ⟨va, rfl, hRa, hBa⟩
            refine ⟨_, rfl, ?_⟩
            obtain ⟨Ap, cp, rfl, hcp, hCp⟩ := Kd.R_reads hRa
            have hba := below_step hHeld hBa
            clear hRa hBa
            refine hK.out _ _ (hba) (fun hHeld => ?_)
            clear hK K
            refine norm_ (a' := ?_) ?_ ?_
            rotate_left
            · show Act.put _ (some 118) _ = _
              simp only [Act.put, List.setIfInBounds_toArray, List.set_cons_zero, List.set_cons_succ]
              rfl
            refine one_ (i := 14) (N := some 119) #[true, true, true, true, true, true, true, true, true, true, true, true, true, true, true, false, false, false, false, false, false, false, false, false, false, false, false, false, false, false, false, false, false, false, false] rfl rfl (one_of HT_.out (by kernel_rfl)) (by decide) (fun K hK => ?_)
            refine goes_ Try.func15 (by kernel_rfl) rfl #[.slice Ap y8.length cp] (by rfl) rfl rfl (by simp only [List.map_toArray, List.map_cons, List.map_nil]; rfl) ?_
            with_reducible refine (Sha.sum_calls Ap cp y8 _ hCp hcp (Nat.le_trans Y8.out.2 (by decide))).mono ?_
            rintro e wb ⟨vb, rfl, hRb, hBb⟩
            refine ⟨_, rfl, ?_⟩
            rw [← HHS.out] at hRb
            obtain ⟨Aq, cq, rfl, hcq, hCq⟩ := Kd.R_reads hRb
            have hbb := below_step hHeld hBb
            clear hRb hBb hCp hcp hcq
            refine hK.out _ _ (hbb) (fun hHeld => ?_)
            clear hK K
            refine norm_ (a' := ?_) ?_ ?_
            rotate_left
            · show Act.put _ (some 119) _ = _
              simp only [Act.put, List.setIfInBounds_toArray, List.set_cons_zero, List.set_cons_succ]
              rfl
            refine one_ (i := 15) (N := some 120) #[true, true, true, true, true, true, true, true, true, true, true, true, true, true, true, true, false, false, false, false, false, false, false, false, false, false, false, false, false, false, false, false, false, false, false] rfl rfl (one_of HT_.out (by kernel_rfl)) (by decide) (fun K hK => ?_)
            have q15 := Kd.C_string (P := Try.prog) (c := cq) Try.underlying22 Try.underlying5 Try.underlying9 hCq
            refine value_ (w1 := ?_) (v := ?_) (by rfl) rfl ?_ ?_
            rotate_left 2
            · go_simp
              constructor
              · rfl
              · rfl
            clear q15 hCq
            refine hK.out _ _ (hHeld) (fun hHeld => ?_)
            clear hK K
            refine norm_ (a' := ?_) ?_ ?_
            rotate_left
            · show Act.put _ (some 120) _ = _
              simp only [Act.put, List.setIfInBounds_toArray, List.set_cons_zero, List.set_cons_succ]
              rfl
            refine pure_ (i := 16) (N := some 121) (v := ?_) (a' := ?_) #[true, true, true, true, true, true, true, true, true, true, true, true, true, true, true, true, true, false, false, false, false, false, false, false, false, false, false, false, false, false, false, false, false, false, false] rfl rfl (any_of HT_.out (by kernel_rfl)) (fun _ _ _ h => h) (Or.inl ⟨by rfl, ?_⟩) ?_ ?_
            rotate_left
            · intro w'
              go_simp
              with_reducible rfl
            rotate_left
            · simp only [Act.put, List.setIfInBounds_toArray, List.set_cons_zero, List.set_cons_succ]
              rfl
            refine pure_ (i := 17) (N := some 122) (v := ?_) (a' := ?_) #[true, true, true, true, true, true, true, true, true, true, true, true, true, true, true, true, true, true, false, false, false, false, false, false, false, false, false, false, false, false, false, false, false, false, false] rfl rfl (any_of HT_.out (by kernel_rfl)) (fun _ _ _ h => h) (Or.inl ⟨by rfl, ?_⟩) ?_ ?_
            rotate_left
            · intro w'
              go_simp
              with_reducible rfl
            rotate_left
            · simp only [Act.put, List.setIfInBounds_toArray, List.set_cons_zero, List.set_cons_succ]
              rfl
            refine pure_ (i := 18) (N := some 123) (v := ?_) (a' := ?_) #[true, true, true, true, true, true, true, true, true, true, true, true, true, true, true, true, true, true, true, false, false, false, false, false, false, false, false, false, false, false, false, false, false, false, false] rfl rfl (any_of HT_.out (by kernel_rfl)) (fun _ _ _ h => h) (Or.inl ⟨by rfl, ?_⟩) ?_ ?_
            rotate_left
            · intro w'
              go_simp
              with_reducible rfl
            rotate_left
            · simp only [Act.put, List.setIfInBounds_toArray, List.set_cons_zero, List.set_cons_succ]
              rfl
            refine pure_ (i := 19) (N := some 124) (v := ?_) (a' := ?_) #[true, true, true, true, true, true, true, true, true, true, true, true, true, true, true, true, true, true, true, true, false, false, false, false, false, false, false, false, false, false, false, false, false, false, false] rfl rfl (any_of HT_.out (by kernel_rfl)) (fun _ _ _ h => h) (Or.inl ⟨by rfl, ?_⟩) ?_ ?_
            rotate_left
            · intro w'
              go_simp
              with_reducible rfl
            rotate_left
            · simp only [Act.put, List.setIfInBounds_toArray, List.set_cons_zero, List.set_cons_succ]
              rfl
            refine pure_ (i := 20) (N := some 125) (v := ?_) (a' := ?_) #[true, true, true, true, true, true, true, true, true, true, true, true, true, true, true, true, true, true, true, true, true, false, false, false, false, false, false, false, false, false, false, false, false, false, false] rfl rfl (any_of HT_.out (by kernel_rfl)) (fun _ _ _ h => h) (Or.inl ⟨by rfl, ?_⟩) ?_ ?_
            rotate_left
            · intro w'
              go_simp
              with_reducible rfl
            rotate_left
            · simp only [Act.put, List.setIfInBounds_toArray, List.set_cons_zero, List.set_cons_succ]
              rfl
            refine pure_ (i := 21) (N := some 126) (v := ?_) (a' := ?_) #[true, true, true, true, true, true, true, true, true, true, true, true, true, true, true, true, true, true, true, true, true, true, false, false, false, false, false, false, false, false, false, false, false, false, false] rfl rfl (any_of HT_.out (by kernel_rfl)) (fun _ _ _ h => h) (Or.inl ⟨by rfl, ?_⟩) ?_ ?_
            rotate_left
            · intro w'
              go_simp
              with_reducible rfl
            rotate_left
            · simp only [Act.put, List.setIfInBounds_toArray, List.set_cons_zero, List.set_cons_succ]
              rfl
            refine pure_ (i := 22) (N := some 127) (v := ?_) (a' := ?_) #[true, true, true, true, true, true, true, true, true, true, true, true, true, true, true, true, true, true, true, true, true, true, true, false, false, false, false, false, false, false, false, false, false, false, false] rfl rfl (any_of HT_.out (by kernel_rfl)) (fun _ _ _ h => h) (Or.inl ⟨by rfl, ?_⟩) ?_ ?_
            rotate_left
            · intro w'
              go_simp
              with_reducible rfl
            rotate_left
            · simp only [Act.put, List.setIfInBounds_toArray, List.set_cons_zero, List.set_cons_succ]
              rfl
            refine pure_ (i := 24) (N := some 129) (v := ?_) (a' := ?_) #[true, true, true, true, true, true, true, true, true, true, true, true, true, true, true, true, true, true, true, true, true, true, true, false, true, false, false, false, false, false, false, false, false, false, false] rfl rfl (any_of HT_.out (by kernel_rfl)) (fun _ _ _ h => h) (Or.inl ⟨by rfl, ?_⟩) ?_ ?_
            rotate_left
            · intro w'
              go_simp
              with_reducible rfl
            rotate_left
            · simp only [Act.put, List.setIfInBounds_toArray, List.set_cons_zero, List.set_cons_succ]
              rfl
            refine take_ (i := 23) (N := some 128) (v := ?_) (a' := ?_) #[true, true, true, true, true, true, true, true, true, true, true, true, true, true, true, true, true, true, true, true, true, true, true, true, true, false, false, false, false, false, false, false, false, false, false] rfl rfl (take_ofW HT_.out HW_.out (by kernel_rfl)) (fun _ _ _ h => h) (Or.inl ⟨by rfl, ?_⟩) hHeld ?_ ?_
            rotate_left
            · intro w' s0
              have q0_ := Q0.out w' s0
              have q1_ := Q1.out w' s0
              go_simp
              with_reducible rfl
            rotate_left
            · simp only [Act.put, List.setIfInBounds_toArray, List.set_cons_zero, List.set_cons_succ]
              rfl
            refine one_ (i := 25) (N := some 130) #[true, true, true, true, true, true, true, true, true, true, true, true, true, true, true, true, true, true, true, true, true, true, true, true, true, true, false, false, false, false, false, false, false, false, false] rfl rfl (one_of HT_.out (by kernel_rfl)) (by decide) (fun K hK => ?_)
            refine goes_ Try.func26 (by kernel_rfl) rfl #[.pointer (some ⟨gv, 0, none⟩)] (by rfl) rfl rfl (by simp only [List.map_toArray, List.map_cons, List.map_nil]; rfl) ?_
            with_reducible refine (done_calls (V15.out.keep hHeld) (Nat.le_trans S4.out.2 (by decide))).mono ?_
            rintro e wa ⟨va, rfl, hRa, hBa⟩
            refine ⟨_, rfl, ?_⟩
            obtain ⟨Ar, cr, rfl, hcr, hCr⟩ := Kd.R_reads hRa
            have hba := below_step hHeld hBa
            clear hRa hBa
            refine hK.out _ _ (hba) (fun hHeld => ?_)
            clear hK K
            refine norm_ (a' := ?_) ?_ ?_
            rotate_left
            · show Act.put _ (some 130) _ = _
              simp only [Act.put, List.setIfInBounds_toArray, List.set_cons_zero, List.set_cons_succ]
              rfl
            refine one_ (i := 26) (N := some 131) #[true, true, true, true, true, true, true, true, true, true, true, true, true, true, true, true, true, true, true, true, true, true, true, true, true, true, true, false, false, false, false, false, false, false, false] rfl rfl (one_of HT_.out (by kernel_rfl)) (by decide) (fun K hK => ?_)
            refine goes_ Try.func15 (by kernel_rfl) rfl #[.slice Ar a4.length cr] (by rfl) rfl rfl (by simp only [List.map_toArray, List.map_cons, List.map_nil]; rfl) ?_
            with_reducible refine (Sha.sum_calls Ar cr a4 _ hCr hcr (Nat.le_trans S4.out.2 (by decide))).mono ?_
            rintro e wb ⟨vb, rfl, hRb, hBb⟩
            refine ⟨_, rfl, ?_⟩
            rw [← HDS.out] at hRb
            obtain ⟨As, cs, rfl, hcs, hCs⟩ := Kd.R_reads hRb
            have hbb := below_step hHeld hBb
            clear hRb hBb hCr hcr hcs
            refine hK.out _ _ (hbb) (fun hHeld => ?_)
            clear hK K
            refine norm_ (a' := ?_) ?_ ?_
            rotate_left
            · show Act.put _ (some 131) _ = _
              simp only [Act.put, List.setIfInBounds_toArray, List.set_cons_zero, List.set_cons_succ]
              rfl
            refine one_ (i := 27) (N := some 132) #[true, true, true, true, true, true, true, true, true, true, true, true, true, true, true, true, true, true, true, true, true, true, true, true, true, true, true, true, false, false, false, false, false, false, false] rfl rfl (one_of HT_.out (by kernel_rfl)) (by decide) (fun K hK => ?_)
            have q15 := Kd.C_string (P := Try.prog) (c := cs) Try.underlying22 Try.underlying5 Try.underlying9 hCs
            refine value_ (w1 := ?_) (v := ?_) (by rfl) rfl ?_ ?_
            rotate_left 2
            · go_simp
              constructor
              · rfl
              · rfl
            clear q15 hCs
            refine hK.out _ _ (hHeld) (fun hHeld => ?_)
            clear hK K
            refine norm_ (a' := ?_) ?_ ?_
            rotate_left
            · show Act.put _ (some 132) _ = _
              simp only [Act.put, List.setIfInBounds_toArray, List.set_cons_zero, List.set_cons_succ]
              rfl
            refine pure_ (i := 28) (N := some 133) (v := ?_) (a' := ?_) #[true, true, true, true, true, true, true, true, true, true, true, true, true, true, true, true, true, true, true, true, true, true, true, true, true, true, true, true, true, false, false, false, false, false, false] rfl rfl (any_of HT_.out (by kernel_rfl)) (fun _ _ _ h => h) (Or.inl ⟨by rfl, ?_⟩) ?_ ?_
            rotate_left
            · intro w'
              go_simp
              with_reducible rfl
            rotate_left
            · simp only [Act.put, List.setIfInBounds_toArray, List.set_cons_zero, List.set_cons_succ]
              rfl
            refine pure_ (i := 29) (N := some 134) (v := ?_) (a' := ?_) #[true, true, true, true, true, true, true, true, true, true, true, true, true, true, true, true, true, true, true, true, true, true, true, true, true, true, true, true, true, true, false, false, false, false, false] rfl rfl (any_of HT_.out (by kernel_rfl)) (fun _ _ _ h => h) (Or.inl ⟨by rfl, ?_⟩) ?_ ?_
            rotate_left
            · intro w'
              go_simp
              with_reducible rfl
            rotate_left
            · simp only [Act.put, List.setIfInBounds_toArray, List.set_cons_zero, List.set_cons_succ]
              rfl
            refine pure_ (i := 30) (N := some 135) (v := ?_) (a' := ?_) #[true, true, true, true, true, true, true, true, true, true, true, true, true, true, true, true, true, true, true, true, true, true, true, true, true, true, true, true, true, true, true, false, false, false, false] rfl rfl (any_of HT_.out (by kernel_rfl)) (fun _ _ _ h => h) (Or.inl ⟨by rfl, ?_⟩) ?_ ?_
            rotate_left
            · intro w'
              go_simp
              with_reducible rfl
            rotate_left
            · simp only [Act.put, List.setIfInBounds_toArray, List.set_cons_zero, List.set_cons_succ]
              rfl
            refine one_ (i := 31) (N := some 136) #[true, true, true, true, true, true, true, true, true, true, true, true, true, true, true, true, true, true, true, true, true, true, true, true, true, true, true, true, true, true, true, true, false, false, false] rfl rfl (one_of HT_.out (by kernel_rfl)) (by decide) (fun K hK => ?_)
            refine goes_ Try.func17 (by kernel_rfl) rfl #[] (by rfl) rfl rfl (by simp only [List.map_toArray, List.map_nil]) ?_
            with_reducible refine (known6_calls _).mono ?_
            rintro e wk ⟨rfl, hBk⟩
            refine ⟨_, rfl, ?_⟩
            have hbk := below_step hHeld hBk
            clear hBk
            refine hK.out _ _ (hbk) (fun hHeld => ?_)
            clear hK K
            refine norm_ (a' := ?_) ?_ ?_
            rotate_left
            · show Act.put _ (some 136) _ = _
              simp only [Act.put, List.setIfInBounds_toArray, List.set_cons_zero, List.set_cons_succ]
              rfl
            refine pure_ (i := 32) (N := some 137) (v := ?_) (a' := ?_) #[true, true, true, true, true, true, true, true, true, true, true, true, true, true, true, true, true, true, true, true, true, true, true, true, true, true, true, true, true, true, true, true, true, false, false] rfl rfl (any_of HT_.out (by kernel_rfl)) (fun _ _ _ h => h) (Or.inl ⟨by rfl, ?_⟩) ?_ ?_
            rotate_left
            · intro w'
              go_simp
              with_reducible rfl
            rotate_left
            · simp only [Act.put, List.setIfInBounds_toArray, List.set_cons_zero, List.set_cons_succ]
              rfl
            refine pure_ (i := 33) (N := some 138) (v := ?_) (a' := ?_) #[true, true, true, true, true, true, true, true, true, true, true, true, true, true, true, true, true, true, true, true, true, true, true, true, true, true, true, true, true, true, true, true, true, true, false] rfl rfl (any_of HT_.out (by kernel_rfl)) (fun _ _ _ h => h) (Or.inl ⟨by rfl, ?_⟩) ?_ ?_
            rotate_left
            · intro w'
              go_simp
              with_reducible rfl
            rotate_left
            · simp only [Act.put, List.setIfInBounds_toArray, List.set_cons_zero, List.set_cons_succ]
              rfl
            refine pure_ (i := 34) (N := some 12) (v := ?_) (a' := ?_) #[true, true, true, true, true, true, true, true, true, true, true, true, true, true, true, true, true, true, true, true, true, true, true, true, true, true, true, true, true, true, true, true, true, true, true] rfl rfl (any_of HT_.out (by kernel_rfl)) (fun _ _ _ h => h) (Or.inl ⟨by rfl, ?_⟩) ?_ ?_
            rotate_left
            · intro w'
              go_simp
              with_reducible rfl
            rotate_left
            · simp only [Act.put, List.setIfInBounds_toArray, List.set_cons_zero, List.set_cons_succ]
              rfl
            refine done_ (done_of HT_.out (by kernel_rfl)) ?_
            have BZ := Aside0.mk (B15.out.trans (hHeld.mono B15.out.size))
            clear hHeld
            go_wp2_with fail
            go_ret
            exact ⟨rfl, BZ.out⟩
end Go.Proofs.Ythahhjkokdillaa
