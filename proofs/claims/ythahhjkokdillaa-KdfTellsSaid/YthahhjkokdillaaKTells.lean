/-
  KdfTells, walked.
-/
import Derived.Test.YthahhjkokdillaaRHash
import Derived.Test.YthahhjkokdillaaRDer
import Derived.Test.YthahhjkokdillaaRMac
import Derived.Test.YthahhjkokdillaaDer
import Derived.Test.YthahhjkokdillaaShaN
import Derived.Test.YthahhjkokdillaaBook
import Derived.Test.YthahhjkokdillaaCut
import Derived.Test.YthahhjkokdillaaRoomy
import Derived.StillTailTactics
import Derived.Test.YthahhjkokdillaaWTab
import Derived.Test.YthahhjkokdillaaKNum
namespace Go.Proofs.Ythahhjkokdillaa
open Go.RowKit Go.Proofs.YthahhjkokdillaaW.PrintWords Go.Proofs.YthahhjkokdillaaW.PrintLast Go.Proofs.YthahhjkokdillaaW.PrintMore Go.Proofs.Ythahhjkokdillaa.Arr Go.Proofs.Ythahhjkokdillaa.Wire Go.Proofs.Ythahhjkokdillaa.Bits
set_option linter.unusedVariables false
set_option maxHeartbeats 8000000
set_option maxRecDepth 100000
/-- A text of at most a hundred bytes. -/
def headF (s : ByteArray) : ByteArray := if 100 < s.size then s.extract 0 100 else s
theorem headF_size (s : ByteArray) : (headF s).size ≤ 100 := by
  unfold headF
  split
  · rw [ByteArray.size_extract]; omega
  · omega
theorem head_calls (s : ByteArray) (w : World) : Calls Try.prog 30 #[.string s, .int .i64 100] w fun e w' => e = .returned (.string (headF s)) ∧ w' = w := by
  unfold headF
  by_cases h : 100 < s.size
  · have h1 : (100 : Int) < (s.size : Int) := by omega
    have h2 : (100 : Nat) ≤ s.size := by omega
    rw [if_pos h]
    go_enter Try.func30, Try.ntmps30
    go_wp2_with fail
    go_ret
    exact ⟨rfl, rfl⟩
  · have h1 : ¬ (100 : Int) < (s.size : Int) := by omega
    rw [if_neg h]
    go_enter Try.func30, Try.ntmps30
    go_wp2_with fail
    go_ret
    exact ⟨rfl, rfl⟩
/-- A list of bytes as it lies in an array of lists. -/
abbrev Rw := Option Addr × Nat × List Int
def rwV (r : Rw) : Value := .slice r.1 r.2.2.length r.2.1
def RwOk (w : World) (r : Rw) : Prop := (Kd.int .u8).C w r.1 r.2.2.length r.2.2 ∧ r.2.2.length ≤ r.2.1 ∧ Bytes r.2.2 ∧ r.2.2.length ≤ 150
theorem five (R : List Rw) (h : R.length = 5) : ∃ B0 e0 x0 B1 e1 x1 B2 e2 x2 B3 e3 x3 B4 e4 x4, R = [(B0, e0, x0), (B1, e1, x1), (B2, e2, x2), (B3, e3, x3), (B4, e4, x4)] := by
  match R, h with
  | [(B0, e0, x0), (B1, e1, x1), (B2, e2, x2), (B3, e3, x3), (B4, e4, x4)], _ => exact ⟨_, _, _, _, _, _, _, _, _, _, _, _, _, _, _, rfl⟩
theorem rDerive_refuse (v0 v1 v2 v3 : Value) (size : Int) (h : size < 0 ∨ 256 < size) (w : World) :
    Calls Try.prog 33 #[v0, v1, v2, v3, .int .i64 size] w fun e w' => e = .returned (.tuple #[.slice none 0 0, .int .i64 1]) ∧ w' = w := by
  by_cases h0 : size < 0
  · have d0 : decide (size < 0) = true := decide_eq_true h0
    clear h
    go_enter Try.func33, Try.ntmps33
    go_wp2_with fail
    go_ret2
    exact ⟨rfl, rfl⟩
  · have h1 : 256 < size := by omega
    have d0 : decide (size < 0) = false := decide_eq_false h0
    have d1 : decide (256 < size) = true := decide_eq_true h1
    clear h
    go_enter Try.func33, Try.ntmps33
    go_wp2_with fail
    go_ret2
    exact ⟨rfl, rfl⟩
/-- What Derive answers for any size. -/
def derV (k h : List Int) (a : Int) (id : List Int) (size : Int) : List Int := if size < 0 ∨ 256 < size then [] else deriveF k h a id size.toNat
def derE (size : Int) : Int := if size < 0 ∨ 256 < size then 1 else 0
theorem derive_any (A0 : Option Addr) (c0 : Nat) (k : List Int) (A1 : Option Addr) (c1 : Nat) (h : List Int) (a2 : Int) (A3 : Option Addr) (c3 : Nat) (id : List Int) (size : Int) (w : World)
    (hr0 : (Kd.int .u8).C w A0 k.length k) (hc0 : k.length ≤ c0) (hB0 : Bytes k) (hl0 : k.length ≤ 10000) (hr1 : (Kd.int .u8).C w A1 h.length h) (hc1 : h.length ≤ c1) (hl1 : h.length ≤ 10000) (hr3 : (Kd.int .u8).C w A3 id.length id) (hc3 : id.length ≤ c3) (hl3 : id.length ≤ 10000) :
    Calls Try.prog 19 #[.slice A0 k.length c0, .slice A1 h.length c1, .int .u8 a2, .slice A3 id.length c3, .int .i64 size] w fun e w' => ∃ v, e = .returned (.tuple #[v, .int .i64 (derE size)]) ∧ (Kd.int .u8).R 5 w' w.heap.size (fun _ => True) v (derV k h a2 id size) ∧ Below w.heap.size w w' := by
  unfold derV derE
  by_cases hs : size < 0 ∨ 256 < size
  · rw [if_pos hs, if_pos hs]
    refine (derive_refuse _ _ _ _ size hs w).mono ?_
    rintro e w' ⟨rfl, rfl⟩
    exact ⟨_, rfl, Kd.R_nil _ _ _ _ _, Below.refl _ _⟩
  · rw [if_neg hs, if_neg hs]
    obtain ⟨m, hm⟩ : ∃ m : Nat, size = (m : Int) := ⟨size.toNat, by omega⟩
    subst hm
    exact derive_calls A0 c0 k A1 c1 h a2 A3 c3 id m w hr0 hc0 hB0 hl0 hr1 hc1 hl1 hr3 hc3 hl3 (by omega)
theorem rDerive_any (A0 : Option Addr) (c0 : Nat) (k : List Int) (A1 : Option Addr) (c1 : Nat) (h : List Int) (a2 : Int) (A3 : Option Addr) (c3 : Nat) (id : List Int) (size : Int) (w : World)
    (hr0 : (Kd.int .u8).C w A0 k.length k) (hc0 : k.length ≤ c0) (hB0 : Bytes k) (hl0 : k.length ≤ 10000) (hr1 : (Kd.int .u8).C w A1 h.length h) (hc1 : h.length ≤ c1) (hl1 : h.length ≤ 10000) (hr3 : (Kd.int .u8).C w A3 id.length id) (hc3 : id.length ≤ c3) (hl3 : id.length ≤ 10000) :
    Calls Try.prog 33 #[.slice A0 k.length c0, .slice A1 h.length c1, .int .u8 a2, .slice A3 id.length c3, .int .i64 size] w fun e w' => ∃ v, e = .returned (.tuple #[v, .int .i64 (derE size)]) ∧ (Kd.int .u8).R 5 w' w.heap.size (fun _ => True) v (derV k h a2 id size) ∧ Below w.heap.size w w' := by
  unfold derV derE
  by_cases hs : size < 0 ∨ 256 < size
  · rw [if_pos hs, if_pos hs]
    refine (rDerive_refuse _ _ _ _ size hs w).mono ?_
    rintro e w' ⟨rfl, rfl⟩
    exact ⟨_, rfl, Kd.R_nil _ _ _ _ _, Below.refl _ _⟩
  · rw [if_neg hs, if_neg hs]
    obtain ⟨m, hm⟩ : ∃ m : Nat, size = (m : Int) := ⟨size.toNat, by omega⟩
    subst hm
    exact rDerive_calls A0 c0 k A1 c1 h a2 A3 c3 id m hr0 hc0 hB0 hl0 hr1 hc1 hl1 hr3 hc3 hl3 (by omega)
theorem set_row (w : World) (g : Nat) (T : TypeId) (R : List Rw) (i : Nat) (r : Rw) (h : w.heap[g]? = some (.cells (R.map rwV).toArray T (0, 0))) : (w.setCell ⟨g, i, none⟩ (rwV r)).heap[g]? = some (.cells ((R.set i r).map rwV).toArray T (0, 0)) := by
  unfold World.setCell
  simp [Array.getElem?_modify, h, List.map_set]
def kdfTells.T16 : Bool × List (List Nat × List Nat) := (true, [([], []), ([0], [0]), ([], []), ([2], [2]), ([1, 3], [1, 3]), ([4], [4]), ([5], [5]), ([6, 5], [5, 6]), ([5], [5]), ([8, 5], [5, 8]), ([7, 9, 5], [5, 7, 9]), ([5, 10], [5, 10]), ([11, 5], [11]), ([12], [12]), ([12], [12]), ([13, 14, 12], [12, 13, 14]), ([12, 15], [12, 15]), ([16, 12], [16]), ([17], [17]), ([17], [17]), ([18, 19, 17, 17], [17, 18, 19]), ([20, 17], [17, 20]), ([17], [17]), ([17], [17]), ([22, 23, 20, 17], [17, 22, 23]), ([24, 17], [17, 24]), ([21, 25, 17], [17, 21, 25]), ([17, 26], [17, 26]), ([27, 24], [27]), ([28], [28]), ([29, 28], [28, 29]), ([30, 28, 28], [28, 30]), ([31, 28], [28, 31]), ([28], [28]), ([33, 28], [28, 33]), ([34, 31, 28], [28, 34]), ([35, 28], [28, 35]), ([32, 36, 28], [28, 32, 36]), ([28, 37], [28, 37]), ([38, 35], [38]), ([39], [39]), ([39], [39]), ([40, 41, 39, 39], [39, 40, 41]), ([39, 42], [39, 42]), ([43, 42], [43]), ([44, 44], [44]), ([44, 45], [44, 45]), ([46, 45, 0, 1, 2, 3, 4, 5, 6, 7, 8, 9, 10, 11, 12, 13, 14, 15, 16, 17, 18, 19, 20, 21, 22, 23, 24, 25, 26, 27, 28, 29, 30, 31, 32, 33, 34, 35, 36, 37, 38, 39, 40, 41, 42, 43, 44, 45, 46], [46])])
def kdfTells.B16 : List Nat := [0, 1, 0, 4, 15, 31, 63, 127, 63, 319, 1023, 2047, 4095, 8191, 8191, 32767, 65535, 131071, 262143, 262143, 1048575, 2097151, 262143, 262143, 14680063, 31457279, 67108863, 134217727, 268435455, 536870911, 1073741823, 2147483647, 4294967295, 536870911, 9126805503, 30064771071, 64424509439, 137438953471, 274877906943, 549755813887, 1099511627775, 1099511627775, 4398046511103, 8796093022207, 17592186044415, 35184372088831, 70368744177663, 140737488355327]
theorem kdfTells.tab16 : rtab .any (opsOf Try.f7 16) = kdfTells.T16 := by kernel_rfl
theorem kdfTells.bits16 : waitsOk kdfTells.T16.2 kdfTells.B16 = true := by kernel_rfl
theorem kdfTells_calls (vc vs : ByteArray) (La : Option Addr) (n cl : Nat) (A1 : Option Addr) (c1 : Nat) (l1 : List Int) (A2 : Option Addr) (c2 : Nat) (l2 : List Int) (A3 : Option Addr) (c3 : Nat) (l3 : List Int) (a4 a5 : Int) (w : World)
    (hL : ∀ i, i < n → ∃ (a : Addr) (A : Option Addr) (c : Nat) (x : List Int), La = some a ∧ w.cell? (a.add i) = some (.slice A x.length c) ∧ (Kd.int .u8).C w A x.length x ∧ x.length ≤ c ∧ Bytes x) (hn : n ≤ cl) (hlt : 0 < n → ∀ a, La = some a → a.block < w.heap.size)
    (hr1 : Kd.C (Kd.int .u8) w A1 l1.length l1) (hc1 : l1.length ≤ c1) (hb1 : Bytes l1) (hr2 : Kd.C (Kd.int .u8) w A2 l2.length l2) (hc2 : l2.length ≤ c2) (hb2 : Bytes l2) (hr3 : Kd.C (Kd.int .u8) w A3 l3.length l3) (hc3 : l3.length ≤ c3) (hb3 : Bytes l3) (ha4 : 0 ≤ a4 ∧ a4 < 256) :
    Calls Try.prog 7 #[.string vc, .string vs, .slice La n cl, .slice A1 l1.length c1, .slice A2 l2.length c2, .slice A3 l3.length c3, .int .u8 a4, .int .i64 a5] w fun e w' => e = .returned (.bool true) ∧ Below w.heap.size w w' := by
  obtain ⟨k, hk⟩ : ∃ x, x = l1.take 100 := ⟨_, rfl⟩
  obtain ⟨h, hh⟩ : ∃ x, x = l2.take 100 := ⟨_, rfl⟩
  obtain ⟨d, hd⟩ : ∃ x, x = l3.take 100 := ⟨_, rfl⟩
  have f1 := Aside0.mk (show strongroomkeep_CutR.f l1 100 = some k by rw [hk]; exact cut_some l1 100)
  have f2 := Aside0.mk (show strongroomkeep_CutR.f l2 100 = some h by rw [hh]; exact cut_some l2 100)
  have f3 := Aside0.mk (show strongroomkeep_CutR.f l3 100 = some d by rw [hd]; exact cut_some l3 100)
  have K0 := Aside0.mk (And.intro hr1 (And.intro hc1 hb1))
  have K1 := Aside0.mk (And.intro hr2 (And.intro hc2 hb2))
  have K2 := Aside0.mk (And.intro hr3 (And.intro hc3 hb3))
  have HL := Aside0.mk hL
  have HN := Aside0.mk (And.intro hn hlt)
  have H4 := Aside0.mk ha4
  obtain ⟨full, hfull⟩ : ∃ x, x = roomyF k 165 := ⟨_, rfl⟩
  have hkl : k.length ≤ 100 := by rw [hk, List.length_take]; omega
  have fF := Aside0.mk (show strongroombook_Roomy_byte.f k 165 = some full by unfold strongroombook_Roomy_byte.f; rw [if_pos (by omega), hfull])
  have FT := Aside0.mk (show full.take k.length = k ∧ full.length = k.length + 80 by rw [hfull]; unfold roomyF; exact ⟨List.take_left, by rw [List.length_append, List.length_replicate]⟩)
  have FI := Aside0.mk (show strongroombook_Intact_byte.f full k 165 = some true by unfold strongroombook_Intact_byte.f; rw [if_pos ⟨by rw [hfull]; rfl, by omega⟩])
  have BK := Aside0.mk (show Bytes k ∧ Bytes h ∧ Bytes d from ⟨fun z hz => K0.out.2.2 z (List.mem_of_mem_take (hk ▸ hz)), fun z hz => K1.out.2.2 z (List.mem_of_mem_take (hh ▸ hz)), fun z hz => K2.out.2.2 z (List.mem_of_mem_take (hd ▸ hz))⟩)
  have D1 := Aside0.mk (And.intro (cutR_C K0.out.1 K0.out.2.1 f1.out) (cutR_len K0.out.2.1 f1.out))
  have D2 := Aside0.mk (And.intro (cutR_C K1.out.1 K1.out.2.1 f2.out) (cutR_len K1.out.2.1 f2.out))
  have D3 := Aside0.mk (And.intro (cutR_C K2.out.1 K2.out.2.1 f3.out) (cutR_len K2.out.2.1 f3.out))
  obtain ⟨vd, hvd⟩ : ∃ x, x = headF vc := ⟨_, rfl⟩
  obtain ⟨vt, hvt⟩ : ∃ x, x = headF vs := ⟨_, rfl⟩
  have HC := Aside0.mk (fun u => hvd ▸ head_calls vc u)
  have HS := Aside0.mk (fun u => hvt ▸ head_calls vs u)
  have VL := Aside0.mk (show vd.size ≤ 50000 ∧ vt.size ≤ 50000 by rw [hvd, hvt]; have := headF_size vc; have := headF_size vs; omega)
  clear hfull hkl hvd hvt
  have KL := Aside0.mk (show k.length ≤ 100 ∧ h.length ≤ 100 ∧ d.length ≤ 100 by rw [hk, hh, hd, List.length_take, List.length_take, List.length_take]; omega)
  clear hr1 hc1 hb1 hr2 hc2 hb2 hr3 hc3 hb3 hL hn hlt ha4 hk hh hd
  go_enter Try.func7, Try.ntmps7
  go_wp2_with fail
  obtain ⟨g, hg⟩ : ∃ g, g = w.heap.size := ⟨_, rfl⟩
  change Code.wp _ _ _ _ (w.alloc (.cells ((List.replicate 5 ((none, 0, []) : Rw)).map rwV).toArray 34))
  have h1 := heap_alloc_new w (.cells ((List.replicate 5 ((none, 0, []) : Rw)).map rwV).toArray 34)
  have b1 : Below w.heap.size w (w.alloc (.cells ((List.replicate 5 ((none, 0, []) : Rw)).map rwV).toArray 34)) := (Below.refl _ _).alloc (Nat.le_refl _) _
  generalize w.alloc (.cells ((List.replicate 5 ((none, 0, []) : Rw)).map rwV).toArray 34) = w1 at h1 b1 ⊢
  rw [← hg] at h1 ⊢
  have HG := Aside0.mk hg
  have P1 := Aside0.mk h1
  have B1 := Aside0.mk b1
  have hnil : RwOk w ((none, 0, []) : Rw) := ⟨hC_nil w, Nat.le_refl 0, fun x hx => by simp at hx, by decide⟩
  have Z1 := Aside0.mk (show ∀ r ∈ List.replicate 5 ((none, 0, []) : Rw), RwOk w r from fun r hr => by rw [List.eq_of_mem_replicate hr]; exact hnil)
  clear h1 b1 hg hnil
  go_loopw [18] (fun v w' => ∃ i : Nat, i ≤ 5 ∧ v = .int .i64 (i : Int) ∧ ∃ R : List Rw, R.length = 5 ∧ Aside0 (w'.heap[g]? = some (.cells (R.map rwV).toArray 34 (0, 0))) ∧ Aside0 (∀ r ∈ R, RwOk w r) ∧ Aside0 (Below w.heap.size w w')) (fun v _ => 5 - (intOf v).toNat)
  case atStart => exact ⟨0, by omega, rfl, _, rfl, P1, Z1, B1⟩
  case round =>
    obtain ⟨i, hi, rfl, R, hR, HP, HZ, HB⟩ := hrel
    by_cases h5 : i < 5
    · have i0 : (i : Int) < 5 := by omega
      by_cases hn : i < n
      · have j0 : (i : Int) < (n : Int) := by omega
        obtain ⟨a, A, c, x, rfl, hcell, hC, hxc, hxb⟩ := HL.out i hn
        have hc : wr.cell? (a.add i) = some (.slice A x.length c) := (HB.out.cell (p := a.add i) (by rw [show (a.add i).block = a.block from by unfold Addr.add; split <;> rfl]; exact HN.out.2 (by omega) a rfl)).trans hcell
        have X := Aside0.mk (And.intro hC (And.intro hxc hxb))
        go_wp2_with fail
        obtain ⟨y, hy⟩ : ∃ y, y = x.take 150 := ⟨_, rfl⟩
        have fy := Aside0.mk (show strongroomkeep_CutR.f x 150 = some y by rw [hy]; exact cut_some x 150)
        have Y := Aside0.mk (show RwOk w (A, c, y) from ⟨cutR_C X.out.1 X.out.2.1 fy.out, cutR_len X.out.2.1 fy.out, fun z hz => X.out.2.2 z (List.mem_of_mem_take (hy ▸ hz)), by rw [hy, List.length_take]; omega⟩)
        clear hy
        refine (strongroomkeep_CutR.calls A c x 150 y _ (Kd.C_below X.out.1 HB.out) X.out.2.1 fy.out).mono ?_
        rintro e w3 ⟨rfl, ⟨n3, rfl⟩⟩
        have HP3 := Aside0.mk (show (wr.drewN n3).heap[g]? = some (.cells (R.map rwV).toArray 34 (0, 0)) from HP.out)
        have HB3 := Aside0.mk (pw_below_drewN HB.out n3)
        generalize wr.drewN n3 = w3 at HP3 HB3 ⊢
        have hR5 : i < (R.map rwV).length := by rw [List.length_map]; omega
        obtain ⟨r0, hr0⟩ : ∃ r, r = R[i]'(by omega) := ⟨_, rfl⟩
        have hs : w3.cell? ⟨g, i, none⟩ = some (.slice r0.1 r0.2.2.length r0.2.1) := by
          unfold World.cell?
          simp only [HP3.out]
          rw [hr0]
          have h5' : i < R.length := by omega
          simp [h5', rwV]
        have hf : w3.frozen? ⟨g, i, none⟩ = false := by
          unfold World.frozen?
          simp [HP3.out]
        clear hR5 hr0
        go_wp2_with fail
        refine ⟨⟨i + 1, by omega, congrArg (Value.int .i64) rfl, R.set i (A, c, y), by rw [List.length_set]; exact hR, ⟨?_⟩, ⟨?_⟩, ⟨?_⟩⟩, ?_⟩
        · exact set_row w3 g _ R i (A, c, y) HP3.out
        · intro r hr
          rcases List.mem_or_eq_of_mem_set hr with h | rfl
          · exact HZ.out r h
          · exact Y.out
        · exact HB3.out.setCell (Nat.le_of_eq HG.out.symm) _
        · simp only [intOf]
          omega
      · have j0 : ¬ (i : Int) < (n : Int) := by omega
        obtain ⟨B0, e0, x0, B1', e1, x1, B2, e2, x2, B3, e3, x3, B4, e4, x4, rfl⟩ := five R hR
        have G0 := Aside0.mk (HZ.out _ (by simp : ((B0, e0, x0) : Rw) ∈ _))
        have G1 := Aside0.mk (HZ.out _ (by simp : ((B1', e1, x1) : Rw) ∈ _))
        have G2 := Aside0.mk (HZ.out _ (by simp : ((B2, e2, x2) : Rw) ∈ _))
        have G3 := Aside0.mk (HZ.out _ (by simp : ((B3, e3, x3) : Rw) ∈ _))
        have G4 := Aside0.mk (HZ.out _ (by simp : ((B4, e4, x4) : Rw) ∈ _))
        clear HZ hR
        go_wp2_with fail
        refine (strongroomkeep_CutR.calls A1 c1 l1 100 k _ (Kd.C_below K0.out.1 HB.out) K0.out.2.1 f1.out).mono ?_
        rintro e u1 ⟨rfl, ⟨n1, rfl⟩⟩
        have HPa := Aside0.mk (show (wr.drewN n1).heap[g]? = _ from HP.out)
        have HBa := Aside0.mk (pw_below_drewN HB.out n1)
        generalize wr.drewN n1 = u1 at HPa HBa ⊢
        go_wp2_with fail
        refine (strongroomkeep_CutR.calls A2 c2 l2 100 h _ (Kd.C_below K1.out.1 HBa.out) K1.out.2.1 f2.out).mono ?_
        rintro e u2 ⟨rfl, ⟨n2, rfl⟩⟩
        have HPb := Aside0.mk (show (u1.drewN n2).heap[g]? = _ from HPa.out)
        have HBb := Aside0.mk (pw_below_drewN HBa.out n2)
        generalize u1.drewN n2 = u2 at HPb HBb ⊢
        go_wp2_with fail
        refine (strongroomkeep_CutR.calls A3 c3 l3 100 d _ (Kd.C_below K2.out.1 HBb.out) K2.out.2.1 f3.out).mono ?_
        rintro e u3 ⟨rfl, ⟨n3, rfl⟩⟩
        have HPc := Aside0.mk (show (u2.drewN n3).heap[g]? = _ from HPb.out)
        have HBc := Aside0.mk (pw_below_drewN HBb.out n3)
        generalize u2.drewN n3 = u3 at HPc HBc ⊢
        go_wp2_with fail
        refine (HC.out u3).mono ?_
        rintro e _ ⟨rfl, rfl⟩
        go_wp2_with fail
        refine (HS.out _).mono ?_
        rintro e _ ⟨rfl, rfl⟩
        go_wp2_with fail
        refine (strongroombook_Roomy_byte.calls A1 c1 k 165 full _ (Kd.C_below D1.out.1 HBc.out) D1.out.2 fF.out).mono ?_
        rintro e u4 ⟨vF, rfl, hR, hB⟩
        have HBd := Aside0.mk (below_step HBc.out hB)
        obtain ⟨Af, cf, hvF, hcf, hCf⟩ := Kd.R_reads hR
        rw [FT.out.2] at hvF hcf
        subst hvF
        have CF := Aside0.mk (And.intro hCf hcf)
        have HPd := Aside0.mk ((hB.block g (Array.getElem?_eq_some_iff.1 HPc.out).1).trans HPc.out)
        clear hR hB hcf hCf
        have q0 : u4.cell? ⟨g, 0, none⟩ = some (.slice B0 x0.length e0) := by unfold World.cell?; simp only [HPd.out]; rfl
        have q1 : u4.cell? ⟨g, 1, none⟩ = some (.slice B1' x1.length e1) := by unfold World.cell?; simp only [HPd.out]; rfl
        have q2 : u4.cell? ⟨g, 2, none⟩ = some (.slice B2 x2.length e2) := by unfold World.cell?; simp only [HPd.out]; rfl
        have q3 : u4.cell? ⟨g, 3, none⟩ = some (.slice B3 x3.length e3) := by unfold World.cell?; simp only [HPd.out]; rfl
        have q4 : u4.cell? ⟨g, 4, none⟩ = some (.slice B4 x4.length e4) := by unfold World.cell?; simp only [HPd.out]; rfl
        obtain ⟨I0, hI0⟩ : ∃ i, Try.prog.info? 5 = some i := ⟨_, rfl⟩
        have hcut := cut_to (P := Try.prog) 22 5 .i64 Try.underlying22 hI0 Af (k.length + 80) cf (k.length : Int) (by omega) (by omega) CF.out.2
        rw [Int.toNat_natCast] at hcut
        clear hI0
        have CT := Aside0.mk (show (Kd.int .u8).C u4 Af k.length k from by
          have h := Kd.C_take (m := k.length) CF.out.1 (by rw [FT.out.2]; omega)
          rwa [FT.out.1] at h)
        go_wp2_with fail
        go_still_tail 17, (by kernel_rfl)
        change wpList _ _ _ _ _ u4.drew
        have bd := drewN_of (W := u4) 1
        change Below u4.heap.size u4 u4.drew at bd
        have HBe := Aside0.mk (below_step HBd.out bd)
        have HPe := Aside0.mk (show u4.drew.heap[g]? = _ from HPd.out)
        have CTe := Aside0.mk (Kd.C_below CT.out bd)
        have CFe := Aside0.mk (And.intro (Kd.C_below CF.out.1 bd) CF.out.2)
        generalize u4.drew = u5 at HBe HPe CTe CFe ⊢
        clear bd CT CF q0 q1 q2 q3 q4
        go_wp2_with fail
        refine (hash_calls vd vt B0 e0 x0 B1' e1 x1 B2 e2 x2 B3 e3 x3 B4 e4 x4 Af cf k u5 VL.out.1 VL.out.2 (Kd.C_below G0.out.1 HBe.out) G0.out.2.2.1 (Nat.le_trans G0.out.2.2.2 (by decide)) (Kd.C_below G1.out.1 HBe.out) G1.out.2.2.1 (Nat.le_trans G1.out.2.2.2 (by decide)) (Kd.C_below G2.out.1 HBe.out) G2.out.2.2.1 (Nat.le_trans G2.out.2.2.2 (by decide)) (Kd.C_below G3.out.1 HBe.out) G3.out.2.2.1 (Nat.le_trans G3.out.2.2.2 (by decide)) (Kd.C_below G4.out.1 HBe.out) G4.out.2.2.1 (Nat.le_trans G4.out.2.2.2 (by decide)) CTe.out (by have := CFe.out.2; omega) BK.out.1 (Nat.le_trans KL.out.1 (by decide))).mono ?_
        rintro e u6 ⟨v6, rfl, hR, hB⟩
        obtain ⟨hs, hhs⟩ : ∃ x, x = Sha.shaF (hashB (bytesOf vd) (bytesOf vt) [x0, x1, x2, x3, x4] k) := ⟨_, rfl⟩
        rw [← hhs] at hR
        have HHS := Aside0.mk hhs
        clear hhs
        obtain ⟨Aa, ca, hv6, hca, hCa⟩ := Kd.R_reads hR
        obtain ⟨na, hna⟩ : ∃ x, x = hs.length := ⟨_, rfl⟩
        rw [← hna] at hv6 hca
        subst hv6
        have CA := Aside0.mk (And.intro hCa hna)
        have HBf := Aside0.mk (below_step HBe.out hB)
        have HPf := Aside0.mk ((hB.block g (Array.getElem?_eq_some_iff.1 HPe.out).1).trans HPe.out)
        have CTf := Aside0.mk (Kd.C_below CTe.out hB)
        have CFf := Aside0.mk (And.intro (Kd.C_below CFe.out.1 hB) CFe.out.2)
        clear hR hB hCa hna hca HPe CTe CFe
        have q0 : u6.cell? ⟨g, 0, none⟩ = some (.slice B0 x0.length e0) := by unfold World.cell?; simp only [HPf.out]; rfl
        have q1 : u6.cell? ⟨g, 1, none⟩ = some (.slice B1' x1.length e1) := by unfold World.cell?; simp only [HPf.out]; rfl
        have q2 : u6.cell? ⟨g, 2, none⟩ = some (.slice B2 x2.length e2) := by unfold World.cell?; simp only [HPf.out]; rfl
        have q3 : u6.cell? ⟨g, 3, none⟩ = some (.slice B3 x3.length e3) := by unfold World.cell?; simp only [HPf.out]; rfl
        have q4 : u6.cell? ⟨g, 4, none⟩ = some (.slice B4 x4.length e4) := by unfold World.cell?; simp only [HPf.out]; rfl
        go_wp2_with fail
        refine (rHash_calls vd vt B0 e0 x0 B1' e1 x1 B2 e2 x2 B3 e3 x3 B4 e4 x4 A1 c1 k u6 VL.out.1 VL.out.2 (Kd.C_below G0.out.1 HBf.out) G0.out.2.2.1 (Nat.le_trans G0.out.2.2.2 (by decide)) (Kd.C_below G1.out.1 HBf.out) G1.out.2.2.1 (Nat.le_trans G1.out.2.2.2 (by decide)) (Kd.C_below G2.out.1 HBf.out) G2.out.2.2.1 (Nat.le_trans G2.out.2.2.2 (by decide)) (Kd.C_below G3.out.1 HBf.out) G3.out.2.2.1 (Nat.le_trans G3.out.2.2.2 (by decide)) (Kd.C_below G4.out.1 HBf.out) G4.out.2.2.1 (Nat.le_trans G4.out.2.2.2 (by decide)) (Kd.C_below D1.out.1 HBf.out) D1.out.2 BK.out.1 (Nat.le_trans KL.out.1 (by decide))).mono ?_
        rintro e u7 ⟨v7, rfl, hR, hB⟩
        rw [← HHS.out] at hR
        obtain ⟨Ab, cb, hv7, hcb, hCb⟩ := Kd.R_reads hR
        obtain ⟨nb, hnb⟩ : ∃ x, x = hs.length := ⟨_, rfl⟩
        rw [← hnb] at hv7 hcb
        subst hv7
        have CB := Aside0.mk (And.intro hCb hnb)
        have CA7 := Aside0.mk (And.intro (Kd.C_below CA.out.1 hB) CA.out.2)
        have HBg := Aside0.mk (below_step HBf.out hB)
        have HPg := Aside0.mk ((hB.block g (Array.getElem?_eq_some_iff.1 HPf.out).1).trans HPf.out)
        have CTg := Aside0.mk (Kd.C_below CTf.out hB)
        have CFg := Aside0.mk (And.intro (Kd.C_below CFf.out.1 hB) CFf.out.2)
        clear hR hB hCb hnb hcb CA HPf CTf CFf q0 q1 q2 q3 q4
        go_wp2_with fail
        refine (derive_any Af cf k A2 c2 h a4 A3 c3 d a5 u7 CTg.out (by have := CFg.out.2; omega) BK.out.1 (Nat.le_trans KL.out.1 (by decide)) (Kd.C_below D2.out.1 HBg.out) D2.out.2 (Nat.le_trans KL.out.2.1 (by decide)) (Kd.C_below D3.out.1 HBg.out) D3.out.2 (Nat.le_trans KL.out.2.2 (by decide))).mono ?_
        rintro e u8 ⟨v8, rfl, hR, hB⟩
        obtain ⟨ds, hds⟩ : ∃ x, x = derV k h a4 d a5 := ⟨_, rfl⟩
        obtain ⟨de, hde⟩ : ∃ x, x = derE a5 := ⟨_, rfl⟩
        rw [← hds] at hR
        have HDS := Aside0.mk (And.intro hds hde)
        rw [← hde]
        clear hds hde
        obtain ⟨Ac, cc, hv8, hcc, hCc⟩ := Kd.R_reads hR
        obtain ⟨nc, hnc⟩ : ∃ x, x = ds.length := ⟨_, rfl⟩
        rw [← hnc] at hv8 hcc
        subst hv8
        have CC := Aside0.mk (And.intro hCc hnc)
        have CA8 := Aside0.mk (And.intro (Kd.C_below CA7.out.1 hB) CA7.out.2)
        have CB8 := Aside0.mk (And.intro (Kd.C_below CB.out.1 hB) CB.out.2)
        have HBh := Aside0.mk (below_step HBg.out hB)
        have HPh := Aside0.mk ((hB.block g (Array.getElem?_eq_some_iff.1 HPg.out).1).trans HPg.out)
        have CFh := Aside0.mk (And.intro (Kd.C_below CFg.out.1 hB) CFg.out.2)
        clear hR hB hCc hnc hcc CA7 CB HPg CTg CFg hcut
        go_wp2_with fail
        refine (rDerive_any A1 c1 k A2 c2 h a4 A3 c3 d a5 u8 (Kd.C_below D1.out.1 HBh.out) D1.out.2 BK.out.1 (Nat.le_trans KL.out.1 (by decide)) (Kd.C_below D2.out.1 HBh.out) D2.out.2 (Nat.le_trans KL.out.2.1 (by decide)) (Kd.C_below D3.out.1 HBh.out) D3.out.2 (Nat.le_trans KL.out.2.2 (by decide))).mono ?_
        rintro e u9 ⟨v9, rfl, hR, hB⟩
        rw [← HDS.out.1] at hR
        rw [← HDS.out.2]
        obtain ⟨Ad, cd, hv9, hcd, hCd⟩ := Kd.R_reads hR
        obtain ⟨nd, hnd⟩ : ∃ x, x = ds.length := ⟨_, rfl⟩
        rw [← hnd] at hv9 hcd
        subst hv9
        have CD := Aside0.mk (And.intro hCd hnd)
        have CA9 := Aside0.mk (And.intro (Kd.C_below CA8.out.1 hB) CA8.out.2)
        have CB9 := Aside0.mk (And.intro (Kd.C_below CB8.out.1 hB) CB8.out.2)
        have CC9 := Aside0.mk (And.intro (Kd.C_below CC.out.1 hB) CC.out.2)
        have HBi := Aside0.mk (below_step HBh.out hB)
        have HPi := Aside0.mk ((hB.block g (Array.getElem?_eq_some_iff.1 HPh.out).1).trans HPh.out)
        have CFi := Aside0.mk (And.intro (Kd.C_below CFh.out.1 hB) CFh.out.2)
        clear hR hB hCd hnd hcd CA8 CB8 CC HPh CFh
        go_wp2_with fail
        change Code.wp _ _ _ _ u9
        have ea := CA9.out.2
        have eb := CB9.out.2
        have ec := CC9.out.2
        have ed := CD.out.2
        subst ea eb ec ed
        have Q0 := Aside0.mk (fun (w' : World) (h : Below u9.heap.size u9 w') => Kd.C_string (P := Try.prog) (c := ca) Try.underlying22 Try.underlying5 Try.underlying9 (Kd.C_below CA9.out.1 h))
        have Q1 := Aside0.mk (fun (w' : World) (h : Below u9.heap.size u9 w') => Kd.C_string (P := Try.prog) (c := cb) Try.underlying22 Try.underlying5 Try.underlying9 (Kd.C_below CB9.out.1 h))
        have Q2 := Aside0.mk (fun (w' : World) (h : Below u9.heap.size u9 w') => Kd.C_string (P := Try.prog) (c := cc) Try.underlying22 Try.underlying5 Try.underlying9 (Kd.C_below CC9.out.1 h))
        have Q3 := Aside0.mk (fun (w' : World) (h : Below u9.heap.size u9 w') => Kd.C_string (P := Try.prog) (c := cd) Try.underlying22 Try.underlying5 Try.underlying9 (Kd.C_below CD.out.1 h))
        have Q4 := Aside0.mk (fun (w' : World) (h : Below u9.heap.size u9 w') => show w'.cell? ⟨g, 0, none⟩ = some (.slice B0 x0.length e0) from by
          have h1 := (h.block g (Array.getElem?_eq_some_iff.1 HPi.out).1).trans HPi.out
          unfold World.cell?
          simp only [h1]
          rfl)
        have E1 := Aside0.mk (Kd.C_below D1.out.1 HBi.out)
        have E2 := Aside0.mk (Kd.C_below D2.out.1 HBi.out)
        have E0 := Aside0.mk (Kd.C_below G0.out.1 HBi.out)
        obtain ⟨m, hm⟩ : ∃ x, x = Sha.macF k h := ⟨_, rfl⟩
        obtain ⟨sx, hsx⟩ : ∃ x, x = Sha.shaF x0 := ⟨_, rfl⟩
        have fM := Aside0.mk (show kdf_Mac.f k h = some m ∧ Sha.macF k h = m by rw [hm]; exact ⟨mac_some k h (Nat.le_trans KL.out.1 (by decide)) (Nat.le_trans KL.out.2.1 (by decide)), rfl⟩)
        have fS := Aside0.mk (show kdf_Sum.f x0 = some sx ∧ Sha.shaF x0 = sx by rw [hsx]; exact ⟨sum_some x0 (Nat.le_trans G0.out.2.2.2 (by decide)), rfl⟩)
        have IC := Aside0.mk (fun (w' : World) (hb : Below u9.heap.size u9 w') => show Calls Try.prog 34 #[.slice Af (k.length + 80) cf, .slice A1 k.length c1, .int .u8 165] w' (fun e w2 => e = .returned (.bool true) ∧ Drawn0 w' w2) from by
          rw [← FT.out.2]
          exact strongroombook_Intact_byte.calls Af cf full A1 c1 k 165 true _ (Kd.C_below CFi.out.1 hb) (by rw [FT.out.2]; exact CFi.out.2) (Kd.C_below E1.out hb) D1.out.2 FI.out)
        have G9 := Aside0.mk (show x0.length ≤ e0 ∧ x0.length ≤ 1000 from ⟨G0.out.2.1, Nat.le_trans G0.out.2.2.2 (by decide)⟩)
        clear hm hsx
        refine start_ (n := 48) (S := fun w' => Below u9.heap.size u9 w') (ds := []) #[false, false, false, false, false, false, false, false, false, false, false, false, false, false, false, false, false, false, false, false, false, false, false, false, false, false, false, false, false, false, false, false, false, false, false, false, false, false, false, false, false, false, false, false, false, false, false, false] (by kernel_rfl) rfl rfl (below_drew1 (Below.refl _ _)) (fun hHeld => ?_)
        refine with_tabW kdfTells.tab16 kdfTells.bits16 (fun HT_ HW_ => ?_)
        refine pure_ (i := 0) (N := some 109) (v := ?_) (a' := ?_) #[true, false, false, false, false, false, false, false, false, false, false, false, false, false, false, false, false, false, false, false, false, false, false, false, false, false, false, false, false, false, false, false, false, false, false, false, false, false, false, false, false, false, false, false, false, false, false, false] rfl rfl (any_of HT_.out (by kernel_rfl)) (fun _ _ _ h => h) (Or.inl ⟨by rfl, ?_⟩) ?_ ?_
        rotate_left
        · intro w'
          go_simp
          with_reducible rfl
        rotate_left
        · simp only [Act.put, List.setIfInBounds_toArray, List.set_cons_zero, List.set_cons_succ]
          rfl
        refine pure_ (i := 2) (N := some 111) (v := ?_) (a' := ?_) #[true, false, true, false, false, false, false, false, false, false, false, false, false, false, false, false, false, false, false, false, false, false, false, false, false, false, false, false, false, false, false, false, false, false, false, false, false, false, false, false, false, false, false, false, false, false, false, false] rfl rfl (any_of HT_.out (by kernel_rfl)) (fun _ _ _ h => h) (Or.inl ⟨by rfl, ?_⟩) ?_ ?_
        rotate_left
        · intro w'
          go_simp
          with_reducible rfl
        rotate_left
        · simp only [Act.put, List.setIfInBounds_toArray, List.set_cons_zero, List.set_cons_succ]
          rfl
        refine take_ (i := 1) (N := some 110) (v := ?_) (a' := ?_) #[true, true, true, false, false, false, false, false, false, false, false, false, false, false, false, false, false, false, false, false, false, false, false, false, false, false, false, false, false, false, false, false, false, false, false, false, false, false, false, false, false, false, false, false, false, false, false, false] rfl rfl (take_ofW HT_.out HW_.out (by kernel_rfl)) (fun _ _ _ h => h) (Or.inl ⟨by rfl, ?_⟩) hHeld ?_ ?_
        rotate_left
        · intro w' s0
          have q0_ := Q0.out w' s0
          have q1_ := Q1.out w' s0
          have q2_ := Q2.out w' s0
          have q3_ := Q3.out w' s0
          have q4_ := Q4.out w' s0
          go_simp
          with_reducible rfl
        rotate_left
        · simp only [Act.put, List.setIfInBounds_toArray, List.set_cons_zero, List.set_cons_succ]
          rfl
        refine take_ (i := 3) (N := some 112) (v := ?_) (a' := ?_) #[true, true, true, true, false, false, false, false, false, false, false, false, false, false, false, false, false, false, false, false, false, false, false, false, false, false, false, false, false, false, false, false, false, false, false, false, false, false, false, false, false, false, false, false, false, false, false, false] rfl rfl (take_ofW HT_.out HW_.out (by kernel_rfl)) (fun _ _ _ h => h) (Or.inl ⟨by rfl, ?_⟩) hHeld ?_ ?_
        rotate_left
        · intro w' s0
          have q0_ := Q0.out w' s0
          have q1_ := Q1.out w' s0
          have q2_ := Q2.out w' s0
          have q3_ := Q3.out w' s0
          have q4_ := Q4.out w' s0
          go_simp
          with_reducible rfl
        rotate_left
        · simp only [Act.put, List.setIfInBounds_toArray, List.set_cons_zero, List.set_cons_succ]
          rfl
        refine pure_ (i := 4) (N := some 113) (v := ?_) (a' := ?_) #[true, true, true, true, true, false, false, false, false, false, false, false, false, false, false, false, false, false, false, false, false, false, false, false, false, false, false, false, false, false, false, false, false, false, false, false, false, false, false, false, false, false, false, false, false, false, false, false] rfl rfl (any_of HT_.out (by kernel_rfl)) (fun _ _ _ h => h) (Or.inl ⟨by rfl, ?_⟩) ?_ ?_
        rotate_left
        · intro w'
          go_simp
          with_reducible rfl
        rotate_left
        · simp only [Act.put, List.setIfInBounds_toArray, List.set_cons_zero, List.set_cons_succ]
          rfl
        refine pure_ (i := 5) (N := some 114) (v := ?_) (a' := ?_) #[true, true, true, true, true, true, false, false, false, false, false, false, false, false, false, false, false, false, false, false, false, false, false, false, false, false, false, false, false, false, false, false, false, false, false, false, false, false, false, false, false, false, false, false, false, false, false, false] rfl rfl (any_of HT_.out (by kernel_rfl)) (fun _ _ _ h => h) (Or.inl ⟨by rfl, ?_⟩) ?_ ?_
        rotate_left
        · intro w'
          go_simp
          with_reducible rfl
        rotate_left
        · simp only [Act.put, List.setIfInBounds_toArray, List.set_cons_zero, List.set_cons_succ]
          rfl
        refine pure_ (i := 6) (N := some 115) (v := ?_) (a' := ?_) #[true, true, true, true, true, true, true, false, false, false, false, false, false, false, false, false, false, false, false, false, false, false, false, false, false, false, false, false, false, false, false, false, false, false, false, false, false, false, false, false, false, false, false, false, false, false, false, false] rfl rfl (any_of HT_.out (by kernel_rfl)) (fun _ _ _ h => h) (Or.inl ⟨by rfl, ?_⟩) ?_ ?_
        rotate_left
        · intro w'
          go_simp
          with_reducible rfl
        rotate_left
        · simp only [Act.put, List.setIfInBounds_toArray, List.set_cons_zero, List.set_cons_succ]
          rfl
        refine pure_ (i := 8) (N := some 117) (v := ?_) (a' := ?_) #[true, true, true, true, true, true, true, false, true, false, false, false, false, false, false, false, false, false, false, false, false, false, false, false, false, false, false, false, false, false, false, false, false, false, false, false, false, false, false, false, false, false, false, false, false, false, false, false] rfl rfl (any_of HT_.out (by kernel_rfl)) (fun _ _ _ h => h) (Or.inl ⟨by rfl, ?_⟩) ?_ ?_
        rotate_left
        · intro w'
          go_simp
          with_reducible rfl
        rotate_left
        · simp only [Act.put, List.setIfInBounds_toArray, List.set_cons_zero, List.set_cons_succ]
          rfl
        refine take_ (i := 7) (N := some 116) (v := ?_) (a' := ?_) #[true, true, true, true, true, true, true, true, true, false, false, false, false, false, false, false, false, false, false, false, false, false, false, false, false, false, false, false, false, false, false, false, false, false, false, false, false, false, false, false, false, false, false, false, false, false, false, false] rfl rfl (take_ofW HT_.out HW_.out (by kernel_rfl)) (fun _ _ _ h => h) (Or.inl ⟨by rfl, ?_⟩) hHeld ?_ ?_
        rotate_left
        · intro w' s0
          have q0_ := Q0.out w' s0
          have q1_ := Q1.out w' s0
          have q2_ := Q2.out w' s0
          have q3_ := Q3.out w' s0
          have q4_ := Q4.out w' s0
          go_simp
          with_reducible rfl
        rotate_left
        · simp only [Act.put, List.setIfInBounds_toArray, List.set_cons_zero, List.set_cons_succ]
          rfl
        refine take_ (i := 9) (N := some 118) (v := ?_) (a' := ?_) #[true, true, true, true, true, true, true, true, true, true, false, false, false, false, false, false, false, false, false, false, false, false, false, false, false, false, false, false, false, false, false, false, false, false, false, false, false, false, false, false, false, false, false, false, false, false, false, false] rfl rfl (take_ofW HT_.out HW_.out (by kernel_rfl)) (fun _ _ _ h => h) (Or.inl ⟨by rfl, ?_⟩) hHeld ?_ ?_
        rotate_left
        · intro w' s0
          have q0_ := Q0.out w' s0
          have q1_ := Q1.out w' s0
          have q2_ := Q2.out w' s0
          have q3_ := Q3.out w' s0
          have q4_ := Q4.out w' s0
          go_simp
          with_reducible rfl
        rotate_left
        · simp only [Act.put, List.setIfInBounds_toArray, List.set_cons_zero, List.set_cons_succ]
          rfl
        refine pure_ (i := 10) (N := some 119) (v := ?_) (a' := ?_) #[true, true, true, true, true, true, true, true, true, true, true, false, false, false, false, false, false, false, false, false, false, false, false, false, false, false, false, false, false, false, false, false, false, false, false, false, false, false, false, false, false, false, false, false, false, false, false, false] rfl rfl (any_of HT_.out (by kernel_rfl)) (fun _ _ _ h => h) (Or.inl ⟨by rfl, ?_⟩) ?_ ?_
        rotate_left
        · intro w'
          go_simp
          with_reducible rfl
        rotate_left
        · simp only [Act.put, List.setIfInBounds_toArray, List.set_cons_zero, List.set_cons_succ]
          rfl
        refine pure_ (i := 11) (N := some 120) (v := ?_) (a' := ?_) #[true, true, true, true, true, true, true, true, true, true, true, true, false, false, false, false, false, false, false, false, false, false, false, false, false, false, false, false, false, false, false, false, false, false, false, false, false, false, false, false, false, false, false, false, false, false, false, false] rfl rfl (any_of HT_.out (by kernel_rfl)) (fun _ _ _ h => h) (Or.inl ⟨by rfl, ?_⟩) ?_ ?_
        rotate_left
        · intro w'
          go_simp
          with_reducible rfl
        rotate_left
        · simp only [Act.put, List.setIfInBounds_toArray, List.set_cons_zero, List.set_cons_succ]
          rfl
        refine pure_ (i := 12) (N := some 121) (v := ?_) (a' := ?_) #[true, true, true, true, true, true, true, true, true, true, true, true, true, false, false, false, false, false, false, false, false, false, false, false, false, false, false, false, false, false, false, false, false, false, false, false, false, false, false, false, false, false, false, false, false, false, false, false] rfl rfl (any_of HT_.out (by kernel_rfl)) (fun _ _ _ h => h) (Or.inl ⟨by rfl, ?_⟩) ?_ ?_
        rotate_left
        · intro w'
          go_simp
          with_reducible rfl
        rotate_left
        · simp only [Act.put, List.setIfInBounds_toArray, List.set_cons_zero, List.set_cons_succ]
          rfl
        refine pure_ (i := 13) (N := some 122) (v := ?_) (a' := ?_) #[true, true, true, true, true, true, true, true, true, true, true, true, true, true, false, false, false, false, false, false, false, false, false, false, false, false, false, false, false, false, false, false, false, false, false, false, false, false, false, false, false, false, false, false, false, false, false, false] rfl rfl (any_of HT_.out (by kernel_rfl)) (fun _ _ _ h => h) (Or.inl ⟨by rfl, ?_⟩) ?_ ?_
        rotate_left
        · intro w'
          go_simp
          with_reducible rfl
        rotate_left
        · simp only [Act.put, List.setIfInBounds_toArray, List.set_cons_zero, List.set_cons_succ]
          rfl
        refine pure_ (i := 14) (N := some 123) (v := ?_) (a' := ?_) #[true, true, true, true, true, true, true, true, true, true, true, true, true, true, true, false, false, false, false, false, false, false, false, false, false, false, false, false, false, false, false, false, false, false, false, false, false, false, false, false, false, false, false, false, false, false, false, false] rfl rfl (any_of HT_.out (by kernel_rfl)) (fun _ _ _ h => h) (Or.inl ⟨by rfl, ?_⟩) ?_ ?_
        rotate_left
        · intro w'
          go_simp
          with_reducible rfl
        rotate_left
        · simp only [Act.put, List.setIfInBounds_toArray, List.set_cons_zero, List.set_cons_succ]
          rfl
        refine pure_ (i := 15) (N := some 124) (v := ?_) (a' := ?_) #[true, true, true, true, true, true, true, true, true, true, true, true, true, true, true, true, false, false, false, false, false, false, false, false, false, false, false, false, false, false, false, false, false, false, false, false, false, false, false, false, false, false, false, false, false, false, false, false] rfl rfl (any_of HT_.out (by kernel_rfl)) (fun _ _ _ h => h) (Or.inl ⟨by rfl, ?_⟩) ?_ ?_
        rotate_left
        · intro w'
          go_simp
          with_reducible rfl
        rotate_left
        · simp only [Act.put, List.setIfInBounds_toArray, List.set_cons_zero, List.set_cons_succ]
          rfl
        refine pure_ (i := 16) (N := some 125) (v := ?_) (a' := ?_) #[true, true, true, true, true, true, true, true, true, true, true, true, true, true, true, true, true, false, false, false, false, false, false, false, false, false, false, false, false, false, false, false, false, false, false, false, false, false, false, false, false, false, false, false, false, false, false, false] rfl rfl (any_of HT_.out (by kernel_rfl)) (fun _ _ _ h => h) (Or.inl ⟨by rfl, ?_⟩) ?_ ?_
        rotate_left
        · intro w'
          go_simp
          with_reducible rfl
        rotate_left
        · simp only [Act.put, List.setIfInBounds_toArray, List.set_cons_zero, List.set_cons_succ]
          rfl
        refine pure_ (i := 17) (N := some 126) (v := ?_) (a' := ?_) #[true, true, true, true, true, true, true, true, true, true, true, true, true, true, true, true, true, true, false, false, false, false, false, false, false, false, false, false, false, false, false, false, false, false, false, false, false, false, false, false, false, false, false, false, false, false, false, false] rfl rfl (any_of HT_.out (by kernel_rfl)) (fun _ _ _ h => h) (Or.inl ⟨by rfl, ?_⟩) ?_ ?_
        rotate_left
        · intro w'
          go_simp
          with_reducible rfl
        rotate_left
        · simp only [Act.put, List.setIfInBounds_toArray, List.set_cons_zero, List.set_cons_succ]
          rfl
        refine pure_ (i := 18) (N := some 127) (v := ?_) (a' := ?_) #[true, true, true, true, true, true, true, true, true, true, true, true, true, true, true, true, true, true, true, false, false, false, false, false, false, false, false, false, false, false, false, false, false, false, false, false, false, false, false, false, false, false, false, false, false, false, false, false] rfl rfl (any_of HT_.out (by kernel_rfl)) (fun _ _ _ h => h) (Or.inl ⟨by rfl, ?_⟩) ?_ ?_
        rotate_left
        · intro w'
          go_simp
          with_reducible rfl
        rotate_left
        · simp only [Act.put, List.setIfInBounds_toArray, List.set_cons_zero, List.set_cons_succ]
          rfl
        refine pure_ (i := 19) (N := some 128) (v := ?_) (a' := ?_) #[true, true, true, true, true, true, true, true, true, true, true, true, true, true, true, true, true, true, true, true, false, false, false, false, false, false, false, false, false, false, false, false, false, false, false, false, false, false, false, false, false, false, false, false, false, false, false, false] rfl rfl (any_of HT_.out (by kernel_rfl)) (fun _ _ _ h => h) (Or.inl ⟨by rfl, ?_⟩) ?_ ?_
        rotate_left
        · intro w'
          go_simp
          with_reducible rfl
        rotate_left
        · simp only [Act.put, List.setIfInBounds_toArray, List.set_cons_zero, List.set_cons_succ]
          rfl
        refine pure_ (i := 22) (N := some 131) (v := ?_) (a' := ?_) #[true, true, true, true, true, true, true, true, true, true, true, true, true, true, true, true, true, true, true, true, false, false, true, false, false, false, false, false, false, false, false, false, false, false, false, false, false, false, false, false, false, false, false, false, false, false, false, false] rfl rfl (any_of HT_.out (by kernel_rfl)) (fun _ _ _ h => h) (Or.inl ⟨by rfl, ?_⟩) ?_ ?_
        rotate_left
        · intro w'
          go_simp
          with_reducible rfl
        rotate_left
        · simp only [Act.put, List.setIfInBounds_toArray, List.set_cons_zero, List.set_cons_succ]
          rfl
        refine pure_ (i := 23) (N := some 132) (v := ?_) (a' := ?_) #[true, true, true, true, true, true, true, true, true, true, true, true, true, true, true, true, true, true, true, true, false, false, true, true, false, false, false, false, false, false, false, false, false, false, false, false, false, false, false, false, false, false, false, false, false, false, false, false] rfl rfl (any_of HT_.out (by kernel_rfl)) (fun _ _ _ h => h) (Or.inl ⟨by rfl, ?_⟩) ?_ ?_
        rotate_left
        · intro w'
          go_simp
          with_reducible rfl
        rotate_left
        · simp only [Act.put, List.setIfInBounds_toArray, List.set_cons_zero, List.set_cons_succ]
          rfl
        refine one_ (i := 20) (N := some 129) #[true, true, true, true, true, true, true, true, true, true, true, true, true, true, true, true, true, true, true, true, true, false, true, true, false, false, false, false, false, false, false, false, false, false, false, false, false, false, false, false, false, false, false, false, false, false, false, false] rfl rfl (one_of HT_.out (by kernel_rfl)) (by decide) (fun K hK => ?_)
        refine goes_ Try.func14 (by kernel_rfl) rfl #[.slice A1 k.length c1, .slice A2 h.length c2] (by rfl) rfl rfl (by simp only [List.map_toArray, List.map_cons, List.map_nil]; rfl) ?_
        with_reducible refine (kdf_Mac.calls A1 c1 k A2 c2 h m _ (Kd.C_below E1.out hHeld) D1.out.2 (Kd.C_below E2.out hHeld) D2.out.2 fM.out.1).mono ?_
        rintro e wa ⟨va, rfl, hRa, hBa⟩
        refine ⟨_, rfl, ?_⟩
        obtain ⟨Aa2, ca2, rfl, h1_, h2_⟩ := Kd.R_reads hRa
        have CAa := h2_
        have hba := below_step hHeld hBa
        clear hRa h1_ h2_
        refine hK.out _ _ (hba) (fun hHeld => ?_)
        clear hK K
        refine norm_ (a' := ?_) ?_ ?_
        rotate_left
        · show Act.put _ (some 129) _ = _
          simp only [Act.put, List.setIfInBounds_toArray, List.set_cons_zero, List.set_cons_succ]
          rfl
        refine join_ (σ := Value) 22 #[true, true, true, true, true, true, true, true, true, true, true, true, true, true, true, true, true, true, true, true, true, true, true, true, true, true, false, false, false, false, false, false, false, false, false, false, false, false, false, false, false, false, false, false, false, false, false, false] (fun s_ => [(130, .string (strOfNums m)), (133, s_), (134, .string (strOfNums m))]) (fun _ w' => Below u9.heap.size u9 w') ?_ ?_
        rotate_left
        · intro hCont
          refine two_ (i := 21) (j := 24) (Ni := some 130) (Nj := some 133) #[true, true, true, true, true, true, true, true, true, true, true, true, true, true, true, true, true, true, true, true, true, true, true, true, false, false, false, false, false, false, false, false, false, false, false, false, false, false, false, false, false, false, false, false, false, false, false, false] #[true, true, true, true, true, true, true, true, true, true, true, true, true, true, true, true, true, true, true, true, true, false, true, true, true, false, false, false, false, false, false, false, false, false, false, false, false, false, false, false, false, false, false, false, false, false, false, false] rfl rfl rfl rfl (two_of HT_.out (by kernel_rfl)) (by decide) (by decide) (fun K hK => ?_) (fun K hK => ?_)
          · skip
            have q12 := Kd.C_string (P := Try.prog) (c := ca2) Try.underlying22 Try.underlying5 Try.underlying9 CAa
            refine value_ (w1 := ?_) (v := ?_) (by rfl) rfl ?_ ?_
            rotate_left 2
            · go_simp
              constructor
              · rfl
              · rfl
            clear q12
            refine hK.out _ _ (hHeld) (fun hHeld => ?_)
            clear hK K
            refine norm_ (a' := ?_) ?_ ?_
            rotate_left
            · show Act.put _ (some 130) _ = _
              simp only [Act.put, List.setIfInBounds_toArray, List.set_cons_zero, List.set_cons_succ]
              rfl
            refine one_ (i := 24) (N := some 133) #[true, true, true, true, true, true, true, true, true, true, true, true, true, true, true, true, true, true, true, true, true, true, true, true, true, false, false, false, false, false, false, false, false, false, false, false, false, false, false, false, false, false, false, false, false, false, false, false] rfl rfl (one_of HT_.out (by kernel_rfl)) (by decide) (fun K hK => ?_)
            refine goes_ Try.func29 (by kernel_rfl) rfl #[.slice A1 k.length c1, .slice A2 h.length c2] (by rfl) rfl rfl (by simp only [List.map_toArray, List.map_cons, List.map_nil]; rfl) ?_
            with_reducible refine (refM_calls A1 c1 k A2 c2 h m _ (Kd.C_below E1.out hHeld) D1.out.2 (Kd.C_below E2.out hHeld) D2.out.2 (Nat.le_trans KL.out.1 (by decide)) (Nat.le_trans KL.out.2.1 (by decide)) fM.out.2).mono ?_
            rintro e wq ⟨vq, rfl, hRq, hBq⟩
            refine ⟨_, rfl, ?_⟩
            have CPq := Kd.C_below CAa hBq
            obtain ⟨Aq, cq, rfl, h1_, h2_⟩ := Kd.R_reads hRq
            have CQ := h2_
            have hbq := below_step hHeld hBq
            clear hRq h1_ h2_
            refine hK.out _ _ (hbq) (fun hHeld => ?_)
            clear hK K
            refine norm_ (a' := ?_) ?_ ?_
            rotate_left
            · show Act.put _ (some 133) _ = _
              simp only [Act.put, List.setIfInBounds_toArray, List.set_cons_zero, List.set_cons_succ]
              rfl
            refine one_ (i := 25) (N := some 134) #[true, true, true, true, true, true, true, true, true, true, true, true, true, true, true, true, true, true, true, true, true, true, true, true, true, true, false, false, false, false, false, false, false, false, false, false, false, false, false, false, false, false, false, false, false, false, false, false] rfl rfl (one_of HT_.out (by kernel_rfl)) (by decide) (fun K hK => ?_)
            have q15 := Kd.C_string (P := Try.prog) (c := cq) Try.underlying22 Try.underlying5 Try.underlying9 CQ
            refine value_ (w1 := ?_) (v := ?_) (by rfl) rfl ?_ ?_
            rotate_left 2
            · go_simp
              constructor
              · rfl
              · rfl
            clear q15
            refine hK.out _ _ (hHeld) (fun hHeld => ?_)
            clear hK K
            refine norm_ (a' := ?_) ?_ ?_
            rotate_left
            · show Act.put _ (some 134) _ = _
              simp only [Act.put, List.setIfInBounds_toArray, List.set_cons_zero, List.set_cons_succ]
              rfl
            exact norm_ (by simp only [putAll, Act.put, List.setIfInBounds_toArray, List.set_cons_zero, List.set_cons_succ]) (hCont (.slice Aq m.length cq) _ hbq)
          · skip
            refine goes_ Try.func29 (by kernel_rfl) rfl #[.slice A1 k.length c1, .slice A2 h.length c2] (by rfl) rfl rfl (by simp only [List.map_toArray, List.map_cons, List.map_nil]; rfl) ?_
            with_reducible refine (refM_calls A1 c1 k A2 c2 h m _ (Kd.C_below E1.out hHeld) D1.out.2 (Kd.C_below E2.out hHeld) D2.out.2 (Nat.le_trans KL.out.1 (by decide)) (Nat.le_trans KL.out.2.1 (by decide)) fM.out.2).mono ?_
            rintro e wq ⟨vq, rfl, hRq, hBq⟩
            refine ⟨_, rfl, ?_⟩
            have CPq := Kd.C_below CAa hBq
            obtain ⟨Aq, cq, rfl, h1_, h2_⟩ := Kd.R_reads hRq
            have CQ := h2_
            have hbq := below_step hHeld hBq
            clear hRq h1_ h2_
            refine hK.out _ _ (hbq) (fun hHeld => ?_)
            clear hK K
            refine norm_ (a' := ?_) ?_ ?_
            rotate_left
            · show Act.put _ (some 133) _ = _
              simp only [Act.put, List.setIfInBounds_toArray, List.set_cons_zero, List.set_cons_succ]
              rfl
            refine two_ (i := 21) (j := 25) (Ni := some 130) (Nj := some 134) #[true, true, true, true, true, true, true, true, true, true, true, true, true, true, true, true, true, true, true, true, true, true, true, true, true, false, false, false, false, false, false, false, false, false, false, false, false, false, false, false, false, false, false, false, false, false, false, false] #[true, true, true, true, true, true, true, true, true, true, true, true, true, true, true, true, true, true, true, true, true, false, true, true, true, true, false, false, false, false, false, false, false, false, false, false, false, false, false, false, false, false, false, false, false, false, false, false] rfl rfl rfl rfl (two_of HT_.out (by kernel_rfl)) (by decide) (by decide) (fun K hK => ?_) (fun K hK => ?_)
            · skip
              have q12 := Kd.C_string (P := Try.prog) (c := ca2) Try.underlying22 Try.underlying5 Try.underlying9 CPq
              refine value_ (w1 := ?_) (v := ?_) (by rfl) rfl ?_ ?_
              rotate_left 2
              · go_simp
                constructor
                · rfl
                · rfl
              clear q12
              refine hK.out _ _ (hHeld) (fun hHeld => ?_)
              clear hK K
              refine norm_ (a' := ?_) ?_ ?_
              rotate_left
              · show Act.put _ (some 130) _ = _
                simp only [Act.put, List.setIfInBounds_toArray, List.set_cons_zero, List.set_cons_succ]
                rfl
              refine one_ (i := 25) (N := some 134) #[true, true, true, true, true, true, true, true, true, true, true, true, true, true, true, true, true, true, true, true, true, true, true, true, true, true, false, false, false, false, false, false, false, false, false, false, false, false, false, false, false, false, false, false, false, false, false, false] rfl rfl (one_of HT_.out (by kernel_rfl)) (by decide) (fun K hK => ?_)
              have q15 := Kd.C_string (P := Try.prog) (c := cq) Try.underlying22 Try.underlying5 Try.underlying9 CQ
              refine value_ (w1 := ?_) (v := ?_) (by rfl) rfl ?_ ?_
              rotate_left 2
              · go_simp
                constructor
                · rfl
                · rfl
              clear q15
              refine hK.out _ _ (hHeld) (fun hHeld => ?_)
              clear hK K
              refine norm_ (a' := ?_) ?_ ?_
              rotate_left
              · show Act.put _ (some 134) _ = _
                simp only [Act.put, List.setIfInBounds_toArray, List.set_cons_zero, List.set_cons_succ]
                rfl
              exact norm_ (by simp only [putAll, Act.put, List.setIfInBounds_toArray, List.set_cons_zero, List.set_cons_succ]) (hCont (.slice Aq m.length cq) _ hbq)
            · skip
              have q15 := Kd.C_string (P := Try.prog) (c := cq) Try.underlying22 Try.underlying5 Try.underlying9 CQ
              refine value_ (w1 := ?_) (v := ?_) (by rfl) rfl ?_ ?_
              rotate_left 2
              · go_simp
                constructor
                · rfl
                · rfl
              clear q15
              refine hK.out _ _ (hHeld) (fun hHeld => ?_)
              clear hK K
              refine norm_ (a' := ?_) ?_ ?_
              rotate_left
              · show Act.put _ (some 134) _ = _
                simp only [Act.put, List.setIfInBounds_toArray, List.set_cons_zero, List.set_cons_succ]
                rfl
              refine one_ (i := 21) (N := some 130) #[true, true, true, true, true, true, true, true, true, true, true, true, true, true, true, true, true, true, true, true, true, true, true, true, true, true, false, false, false, false, false, false, false, false, false, false, false, false, false, false, false, false, false, false, false, false, false, false] rfl rfl (one_of HT_.out (by kernel_rfl)) (by decide) (fun K hK => ?_)
              have q12 := Kd.C_string (P := Try.prog) (c := ca2) Try.underlying22 Try.underlying5 Try.underlying9 CPq
              refine value_ (w1 := ?_) (v := ?_) (by rfl) rfl ?_ ?_
              rotate_left 2
              · go_simp
                constructor
                · rfl
                · rfl
              clear q12
              refine hK.out _ _ (hHeld) (fun hHeld => ?_)
              clear hK K
              refine norm_ (a' := ?_) ?_ ?_
              rotate_left
              · show Act.put _ (some 130) _ = _
                simp only [Act.put, List.setIfInBounds_toArray, List.set_cons_zero, List.set_cons_succ]
                rfl
              exact norm_ (by simp only [putAll, Act.put, List.setIfInBounds_toArray, List.set_cons_zero, List.set_cons_succ]) (hCont (.slice Aq m.length cq) _ hbq)
        rintro s24 w24 hHeld
        refine norm_ (a' := ?_) ?_ ?_
        rotate_left
        · simp only [putAll, Act.put, List.setIfInBounds_toArray, List.set_cons_zero, List.set_cons_succ]
          rfl
        refine pure_ (i := 26) (N := some 135) (v := ?_) (a' := ?_) #[true, true, true, true, true, true, true, true, true, true, true, true, true, true, true, true, true, true, true, true, true, true, true, true, true, true, true, false, false, false, false, false, false, false, false, false, false, false, false, false, false, false, false, false, false, false, false, false] rfl rfl (any_of HT_.out (by kernel_rfl)) (fun _ _ _ h => h) (Or.inl ⟨by rfl, ?_⟩) ?_ ?_
        rotate_left
        · intro w'
          go_simp
          with_reducible rfl
        rotate_left
        · simp only [Act.put, List.setIfInBounds_toArray, List.set_cons_zero, List.set_cons_succ]
          rfl
        refine pure_ (i := 27) (N := some 136) (v := ?_) (a' := ?_) #[true, true, true, true, true, true, true, true, true, true, true, true, true, true, true, true, true, true, true, true, true, true, true, true, true, true, true, true, false, false, false, false, false, false, false, false, false, false, false, false, false, false, false, false, false, false, false, false] rfl rfl (any_of HT_.out (by kernel_rfl)) (fun _ _ _ h => h) (Or.inl ⟨by rfl, ?_⟩) ?_ ?_
        rotate_left
        · intro w'
          go_simp
          with_reducible rfl
        rotate_left
        · simp only [Act.put, List.setIfInBounds_toArray, List.set_cons_zero, List.set_cons_succ]
          rfl
        refine pure_ (i := 28) (N := some 137) (v := ?_) (a' := ?_) #[true, true, true, true, true, true, true, true, true, true, true, true, true, true, true, true, true, true, true, true, true, true, true, true, true, true, true, true, true, false, false, false, false, false, false, false, false, false, false, false, false, false, false, false, false, false, false, false] rfl rfl (any_of HT_.out (by kernel_rfl)) (fun _ _ _ h => h) (Or.inl ⟨by rfl, ?_⟩) ?_ ?_
        rotate_left
        · intro w'
          go_simp
          with_reducible rfl
        rotate_left
        · simp only [Act.put, List.setIfInBounds_toArray, List.set_cons_zero, List.set_cons_succ]
          rfl
        refine pure_ (i := 29) (N := some 138) (v := ?_) (a' := ?_) #[true, true, true, true, true, true, true, true, true, true, true, true, true, true, true, true, true, true, true, true, true, true, true, true, true, true, true, true, true, true, false, false, false, false, false, false, false, false, false, false, false, false, false, false, false, false, false, false] rfl rfl (any_of HT_.out (by kernel_rfl)) (fun _ _ _ h => h) (Or.inl ⟨by rfl, ?_⟩) ?_ ?_
        rotate_left
        · intro w'
          go_simp
          with_reducible rfl
        rotate_left
        · simp only [Act.put, List.setIfInBounds_toArray, List.set_cons_zero, List.set_cons_succ]
          rfl
        refine pure_ (i := 33) (N := some 142) (v := ?_) (a' := ?_) #[true, true, true, true, true, true, true, true, true, true, true, true, true, true, true, true, true, true, true, true, true, true, true, true, true, true, true, true, true, true, false, false, false, true, false, false, false, false, false, false, false, false, false, false, false, false, false, false] rfl rfl (any_of HT_.out (by kernel_rfl)) (fun _ _ _ h => h) (Or.inl ⟨by rfl, ?_⟩) ?_ ?_
        rotate_left
        · intro w'
          go_simp
          with_reducible rfl
        rotate_left
        · simp only [Act.put, List.setIfInBounds_toArray, List.set_cons_zero, List.set_cons_succ]
          rfl
        refine take_ (i := 30) (N := some 139) (v := ?_) (a' := ?_) #[true, true, true, true, true, true, true, true, true, true, true, true, true, true, true, true, true, true, true, true, true, true, true, true, true, true, true, true, true, true, true, false, false, true, false, false, false, false, false, false, false, false, false, false, false, false, false, false] rfl rfl (take_ofW HT_.out HW_.out (by kernel_rfl)) (fun _ _ _ h => h) (Or.inl ⟨by rfl, ?_⟩) hHeld ?_ ?_
        rotate_left
        · intro w' s0
          have q0_ := Q0.out w' s0
          have q1_ := Q1.out w' s0
          have q2_ := Q2.out w' s0
          have q3_ := Q3.out w' s0
          have q4_ := Q4.out w' s0
          go_simp
          with_reducible rfl
        rotate_left
        · simp only [Act.put, List.setIfInBounds_toArray, List.set_cons_zero, List.set_cons_succ]
          rfl
        refine take_ (i := 34) (N := some 143) (v := ?_) (a' := ?_) #[true, true, true, true, true, true, true, true, true, true, true, true, true, true, true, true, true, true, true, true, true, true, true, true, true, true, true, true, true, true, true, false, false, true, true, false, false, false, false, false, false, false, false, false, false, false, false, false] rfl rfl (take_ofW HT_.out HW_.out (by kernel_rfl)) (fun _ _ _ h => h) (Or.inl ⟨by rfl, ?_⟩) hHeld ?_ ?_
        rotate_left
        · intro w' s0
          have q0_ := Q0.out w' s0
          have q1_ := Q1.out w' s0
          have q2_ := Q2.out w' s0
          have q3_ := Q3.out w' s0
          have q4_ := Q4.out w' s0
          go_simp
          with_reducible rfl
        rotate_left
        · simp only [Act.put, List.setIfInBounds_toArray, List.set_cons_zero, List.set_cons_succ]
          rfl
        refine one_ (i := 31) (N := some 140) #[true, true, true, true, true, true, true, true, true, true, true, true, true, true, true, true, true, true, true, true, true, true, true, true, true, true, true, true, true, true, true, true, false, true, true, false, false, false, false, false, false, false, false, false, false, false, false, false] rfl rfl (one_of HT_.out (by kernel_rfl)) (by decide) (fun K hK => ?_)
        refine goes_ Try.func15 (by kernel_rfl) rfl #[.slice B0 x0.length e0] (by rfl) rfl rfl (by simp only [List.map_toArray, List.map_cons, List.map_nil]; rfl) ?_
        with_reducible refine (kdf_Sum.calls B0 e0 x0 sx _ (Kd.C_below E0.out hHeld) G9.out.1 fS.out.1).mono ?_
        rintro e wa ⟨va, rfl, hRa, hBa⟩
        refine ⟨_, rfl, ?_⟩
        obtain ⟨Ap2, cp2, rfl, h1_, h2_⟩ := Kd.R_reads hRa
        have CAp := h2_
        have hba := below_step hHeld hBa
        clear hRa h1_ h2_
        refine hK.out _ _ (hba) (fun hHeld => ?_)
        clear hK K
        refine norm_ (a' := ?_) ?_ ?_
        rotate_left
        · show Act.put _ (some 140) _ = _
          simp only [Act.put, List.setIfInBounds_toArray, List.set_cons_zero, List.set_cons_succ]
          rfl
        refine join_ (σ := Value) 11 #[true, true, true, true, true, true, true, true, true, true, true, true, true, true, true, true, true, true, true, true, true, true, true, true, true, true, true, true, true, true, true, true, true, true, true, true, true, false, false, false, false, false, false, false, false, false, false, false] (fun s_ => [(141, .string (strOfNums sx)), (144, s_), (145, .string (strOfNums sx))]) (fun _ w' => Below u9.heap.size u9 w') ?_ ?_
        rotate_left
        · intro hCont
          refine two_ (i := 32) (j := 35) (Ni := some 141) (Nj := some 144) #[true, true, true, true, true, true, true, true, true, true, true, true, true, true, true, true, true, true, true, true, true, true, true, true, true, true, true, true, true, true, true, true, true, true, true, false, false, false, false, false, false, false, false, false, false, false, false, false] #[true, true, true, true, true, true, true, true, true, true, true, true, true, true, true, true, true, true, true, true, true, true, true, true, true, true, true, true, true, true, true, true, false, true, true, true, false, false, false, false, false, false, false, false, false, false, false, false] rfl rfl rfl rfl (two_of HT_.out (by kernel_rfl)) (by decide) (by decide) (fun K hK => ?_) (fun K hK => ?_)
          · skip
            have q12 := Kd.C_string (P := Try.prog) (c := cp2) Try.underlying22 Try.underlying5 Try.underlying9 CAp
            refine value_ (w1 := ?_) (v := ?_) (by rfl) rfl ?_ ?_
            rotate_left 2
            · go_simp
              constructor
              · rfl
              · rfl
            clear q12
            refine hK.out _ _ (hHeld) (fun hHeld => ?_)
            clear hK K
            refine norm_ (a' := ?_) ?_ ?_
            rotate_left
            · show Act.put _ (some 141) _ = _
              simp only [Act.put, List.setIfInBounds_toArray, List.set_cons_zero, List.set_cons_succ]
              rfl
            refine one_ (i := 35) (N := some 144) #[true, true, true, true, true, true, true, true, true, true, true, true, true, true, true, true, true, true, true, true, true, true, true, true, true, true, true, true, true, true, true, true, true, true, true, true, false, false, false, false, false, false, false, false, false, false, false, false] rfl rfl (one_of HT_.out (by kernel_rfl)) (by decide) (fun K hK => ?_)
            refine goes_ Try.func28 (by kernel_rfl) rfl #[.slice B0 x0.length e0] (by rfl) rfl rfl (by simp only [List.map_toArray, List.map_cons, List.map_nil]; rfl) ?_
            with_reducible refine (refS_calls B0 e0 x0 sx _ (Kd.C_below E0.out hHeld) G9.out.1 G9.out.2 fS.out.2).mono ?_
            rintro e wq ⟨vq, rfl, hRq, hBq⟩
            refine ⟨_, rfl, ?_⟩
            have CPq := Kd.C_below CAp hBq
            obtain ⟨Aq, cq, rfl, h1_, h2_⟩ := Kd.R_reads hRq
            have CQ := h2_
            have hbq := below_step hHeld hBq
            clear hRq h1_ h2_
            refine hK.out _ _ (hbq) (fun hHeld => ?_)
            clear hK K
            refine norm_ (a' := ?_) ?_ ?_
            rotate_left
            · show Act.put _ (some 144) _ = _
              simp only [Act.put, List.setIfInBounds_toArray, List.set_cons_zero, List.set_cons_succ]
              rfl
            refine one_ (i := 36) (N := some 145) #[true, true, true, true, true, true, true, true, true, true, true, true, true, true, true, true, true, true, true, true, true, true, true, true, true, true, true, true, true, true, true, true, true, true, true, true, true, false, false, false, false, false, false, false, false, false, false, false] rfl rfl (one_of HT_.out (by kernel_rfl)) (by decide) (fun K hK => ?_)
            have q15 := Kd.C_string (P := Try.prog) (c := cq) Try.underlying22 Try.underlying5 Try.underlying9 CQ
            refine value_ (w1 := ?_) (v := ?_) (by rfl) rfl ?_ ?_
            rotate_left 2
            · go_simp
              constructor
              · rfl
              · rfl
            clear q15
            refine hK.out _ _ (hHeld) (fun hHeld => ?_)
            clear hK K
            refine norm_ (a' := ?_) ?_ ?_
            rotate_left
            · show Act.put _ (some 145) _ = _
              simp only [Act.put, List.setIfInBounds_toArray, List.set_cons_zero, List.set_cons_succ]
              rfl
            exact norm_ (by simp only [putAll, Act.put, List.setIfInBounds_toArray, List.set_cons_zero, List.set_cons_succ]) (hCont (.slice Aq sx.length cq) _ hbq)
          · skip
            refine goes_ Try.func28 (by kernel_rfl) rfl #[.slice B0 x0.length e0] (by rfl) rfl rfl (by simp only [List.map_toArray, List.map_cons, List.map_nil]; rfl) ?_
            with_reducible refine (refS_calls B0 e0 x0 sx _ (Kd.C_below E0.out hHeld) G9.out.1 G9.out.2 fS.out.2).mono ?_
            rintro e wq ⟨vq, rfl, hRq, hBq⟩
            refine ⟨_, rfl, ?_⟩
            have CPq := Kd.C_below CAp hBq
            obtain ⟨Aq, cq, rfl, h1_, h2_⟩ := Kd.R_reads hRq
            have CQ := h2_
            have hbq := below_step hHeld hBq
            clear hRq h1_ h2_
            refine hK.out _ _ (hbq) (fun hHeld => ?_)
            clear hK K
            refine norm_ (a' := ?_) ?_ ?_
            rotate_left
            · show Act.put _ (some 144) _ = _
              simp only [Act.put, List.setIfInBounds_toArray, List.set_cons_zero, List.set_cons_succ]
              rfl
            refine two_ (i := 32) (j := 36) (Ni := some 141) (Nj := some 145) #[true, true, true, true, true, true, true, true, true, true, true, true, true, true, true, true, true, true, true, true, true, true, true, true, true, true, true, true, true, true, true, true, true, true, true, true, false, false, false, false, false, false, false, false, false, false, false, false] #[true, true, true, true, true, true, true, true, true, true, true, true, true, true, true, true, true, true, true, true, true, true, true, true, true, true, true, true, true, true, true, true, false, true, true, true, true, false, false, false, false, false, false, false, false, false, false, false] rfl rfl rfl rfl (two_of HT_.out (by kernel_rfl)) (by decide) (by decide) (fun K hK => ?_) (fun K hK => ?_)
            · skip
              have q12 := Kd.C_string (P := Try.prog) (c := cp2) Try.underlying22 Try.underlying5 Try.underlying9 CPq
              refine value_ (w1 := ?_) (v := ?_) (by rfl) rfl ?_ ?_
              rotate_left 2
              · go_simp
                constructor
                · rfl
                · rfl
              clear q12
              refine hK.out _ _ (hHeld) (fun hHeld => ?_)
              clear hK K
              refine norm_ (a' := ?_) ?_ ?_
              rotate_left
              · show Act.put _ (some 141) _ = _
                simp only [Act.put, List.setIfInBounds_toArray, List.set_cons_zero, List.set_cons_succ]
                rfl
              refine one_ (i := 36) (N := some 145) #[true, true, true, true, true, true, true, true, true, true, true, true, true, true, true, true, true, true, true, true, true, true, true, true, true, true, true, true, true, true, true, true, true, true, true, true, true, false, false, false, false, false, false, false, false, false, false, false] rfl rfl (one_of HT_.out (by kernel_rfl)) (by decide) (fun K hK => ?_)
              have q15 := Kd.C_string (P := Try.prog) (c := cq) Try.underlying22 Try.underlying5 Try.underlying9 CQ
              refine value_ (w1 := ?_) (v := ?_) (by rfl) rfl ?_ ?_
              rotate_left 2
              · go_simp
                constructor
                · rfl
                · rfl
              clear q15
              refine hK.out _ _ (hHeld) (fun hHeld => ?_)
              clear hK K
              refine norm_ (a' := ?_) ?_ ?_
              rotate_left
              · show Act.put _ (some 145) _ = _
                simp only [Act.put, List.setIfInBounds_toArray, List.set_cons_zero, List.set_cons_succ]
                rfl
              exact norm_ (by simp only [putAll, Act.put, List.setIfInBounds_toArray, List.set_cons_zero, List.set_cons_succ]) (hCont (.slice Aq sx.length cq) _ hbq)
            · skip
              have q15 := Kd.C_string (P := Try.prog) (c := cq) Try.underlying22 Try.underlying5 Try.underlying9 CQ
              refine value_ (w1 := ?_) (v := ?_) (by rfl) rfl ?_ ?_
              rotate_left 2
              · go_simp
                constructor
                · rfl
                · rfl
              clear q15
              refine hK.out _ _ (hHeld) (fun hHeld => ?_)
              clear hK K
              refine norm_ (a' := ?_) ?_ ?_
              rotate_left
              · show Act.put _ (some 145) _ = _
                simp only [Act.put, List.setIfInBounds_toArray, List.set_cons_zero, List.set_cons_succ]
                rfl
              refine one_ (i := 32) (N := some 141) #[true, true, true, true, true, true, true, true, true, true, true, true, true, true, true, true, true, true, true, true, true, true, true, true, true, true, true, true, true, true, true, true, true, true, true, true, true, false, false, false, false, false, false, false, false, false, false, false] rfl rfl (one_of HT_.out (by kernel_rfl)) (by decide) (fun K hK => ?_)
              have q12 := Kd.C_string (P := Try.prog) (c := cp2) Try.underlying22 Try.underlying5 Try.underlying9 CPq
              refine value_ (w1 := ?_) (v := ?_) (by rfl) rfl ?_ ?_
              rotate_left 2
              · go_simp
                constructor
                · rfl
                · rfl
              clear q12
              refine hK.out _ _ (hHeld) (fun hHeld => ?_)
              clear hK K
              refine norm_ (a' := ?_) ?_ ?_
              rotate_left
              · show Act.put _ (some 141) _ = _
                simp only [Act.put, List.setIfInBounds_toArray, List.set_cons_zero, List.set_cons_succ]
                rfl
              exact norm_ (by simp only [putAll, Act.put, List.setIfInBounds_toArray, List.set_cons_zero, List.set_cons_succ]) (hCont (.slice Aq sx.length cq) _ hbq)
        rintro s35 w35 hHeld
        refine norm_ (a' := ?_) ?_ ?_
        rotate_left
        · simp only [putAll, Act.put, List.setIfInBounds_toArray, List.set_cons_zero, List.set_cons_succ]
          rfl
        refine pure_ (i := 37) (N := some 146) (v := ?_) (a' := ?_) #[true, true, true, true, true, true, true, true, true, true, true, true, true, true, true, true, true, true, true, true, true, true, true, true, true, true, true, true, true, true, true, true, true, true, true, true, true, true, false, false, false, false, false, false, false, false, false, false] rfl rfl (any_of HT_.out (by kernel_rfl)) (fun _ _ _ h => h) (Or.inl ⟨by rfl, ?_⟩) ?_ ?_
        rotate_left
        · intro w'
          go_simp
          with_reducible rfl
        rotate_left
        · simp only [Act.put, List.setIfInBounds_toArray, List.set_cons_zero, List.set_cons_succ]
          rfl
        refine pure_ (i := 38) (N := some 147) (v := ?_) (a' := ?_) #[true, true, true, true, true, true, true, true, true, true, true, true, true, true, true, true, true, true, true, true, true, true, true, true, true, true, true, true, true, true, true, true, true, true, true, true, true, true, true, false, false, false, false, false, false, false, false, false] rfl rfl (any_of HT_.out (by kernel_rfl)) (fun _ _ _ h => h) (Or.inl ⟨by rfl, ?_⟩) ?_ ?_
        rotate_left
        · intro w'
          go_simp
          with_reducible rfl
        rotate_left
        · simp only [Act.put, List.setIfInBounds_toArray, List.set_cons_zero, List.set_cons_succ]
          rfl
        refine pure_ (i := 39) (N := some 148) (v := ?_) (a' := ?_) #[true, true, true, true, true, true, true, true, true, true, true, true, true, true, true, true, true, true, true, true, true, true, true, true, true, true, true, true, true, true, true, true, true, true, true, true, true, true, true, true, false, false, false, false, false, false, false, false] rfl rfl (any_of HT_.out (by kernel_rfl)) (fun _ _ _ h => h) (Or.inl ⟨by rfl, ?_⟩) ?_ ?_
        rotate_left
        · intro w'
          go_simp
          with_reducible rfl
        rotate_left
        · simp only [Act.put, List.setIfInBounds_toArray, List.set_cons_zero, List.set_cons_succ]
          rfl
        refine pure_ (i := 40) (N := some 149) (v := ?_) (a' := ?_) #[true, true, true, true, true, true, true, true, true, true, true, true, true, true, true, true, true, true, true, true, true, true, true, true, true, true, true, true, true, true, true, true, true, true, true, true, true, true, true, true, true, false, false, false, false, false, false, false] rfl rfl (any_of HT_.out (by kernel_rfl)) (fun _ _ _ h => h) (Or.inl ⟨by rfl, ?_⟩) ?_ ?_
        rotate_left
        · intro w'
          go_simp
          with_reducible rfl
        rotate_left
        · simp only [Act.put, List.setIfInBounds_toArray, List.set_cons_zero, List.set_cons_succ]
          rfl
        refine pure_ (i := 41) (N := some 150) (v := ?_) (a' := ?_) #[true, true, true, true, true, true, true, true, true, true, true, true, true, true, true, true, true, true, true, true, true, true, true, true, true, true, true, true, true, true, true, true, true, true, true, true, true, true, true, true, true, true, false, false, false, false, false, false] rfl rfl (any_of HT_.out (by kernel_rfl)) (fun _ _ _ h => h) (Or.inl ⟨by rfl, ?_⟩) ?_ ?_
        rotate_left
        · intro w'
          go_simp
          with_reducible rfl
        rotate_left
        · simp only [Act.put, List.setIfInBounds_toArray, List.set_cons_zero, List.set_cons_succ]
          rfl
        refine one_ (i := 42) (N := some 151) #[true, true, true, true, true, true, true, true, true, true, true, true, true, true, true, true, true, true, true, true, true, true, true, true, true, true, true, true, true, true, true, true, true, true, true, true, true, true, true, true, true, true, true, false, false, false, false, false] rfl rfl (one_of HT_.out (by kernel_rfl)) (by decide) (fun K hK => ?_)
        refine goes_ Try.func34 (by kernel_rfl) rfl #[.slice Af (k.length + 80) cf, .slice A1 k.length c1, .int .u8 165] (by rfl) rfl rfl (by simp only [List.map_toArray, List.map_cons, List.map_nil]; rfl) ?_
        with_reducible refine (IC.out _ hHeld).mono ?_
        rintro e wi ⟨rfl, ⟨ni, hwi⟩⟩
        refine ⟨_, rfl, ?_⟩
        have hbi : Below u9.heap.size u9 wi := by rw [hwi]; exact pw_below_drewN hHeld ni
        clear hwi
        refine hK.out _ _ (hbi) (fun hHeld => ?_)
        clear hK K
        refine norm_ (a' := ?_) ?_ ?_
        rotate_left
        · show Act.put _ (some 151) _ = _
          simp only [Act.put, List.setIfInBounds_toArray, List.set_cons_zero, List.set_cons_succ]
          rfl
        refine pure_ (i := 43) (N := some 152) (v := ?_) (a' := ?_) #[true, true, true, true, true, true, true, true, true, true, true, true, true, true, true, true, true, true, true, true, true, true, true, true, true, true, true, true, true, true, true, true, true, true, true, true, true, true, true, true, true, true, true, true, false, false, false, false] rfl rfl (any_of HT_.out (by kernel_rfl)) (fun _ _ _ h => h) (Or.inl ⟨by rfl, ?_⟩) ?_ ?_
        rotate_left
        · intro w'
          go_simp
          with_reducible rfl
        rotate_left
        · simp only [Act.put, List.setIfInBounds_toArray, List.set_cons_zero, List.set_cons_succ]
          rfl
        refine pure_ (i := 44) (N := some 153) (v := ?_) (a' := ?_) #[true, true, true, true, true, true, true, true, true, true, true, true, true, true, true, true, true, true, true, true, true, true, true, true, true, true, true, true, true, true, true, true, true, true, true, true, true, true, true, true, true, true, true, true, true, false, false, false] rfl rfl (any_of HT_.out (by kernel_rfl)) (fun _ _ _ h => h) (Or.inl ⟨by rfl, ?_⟩) ?_ ?_
        rotate_left
        · intro w'
          go_simp
          with_reducible rfl
        rotate_left
        · simp only [Act.put, List.setIfInBounds_toArray, List.set_cons_zero, List.set_cons_succ]
          rfl
        refine one_ (i := 45) (N := some 154) #[true, true, true, true, true, true, true, true, true, true, true, true, true, true, true, true, true, true, true, true, true, true, true, true, true, true, true, true, true, true, true, true, true, true, true, true, true, true, true, true, true, true, true, true, true, true, false, false] rfl rfl (one_of HT_.out (by kernel_rfl)) (by decide) (fun K hK => ?_)
        refine goes_ Try.func17 (by kernel_rfl) rfl #[] (by rfl) rfl rfl (by simp only [List.map_toArray, List.map_nil]) ?_
        with_reducible refine (known6_calls _).mono ?_
        rintro e wk ⟨rfl, hBk⟩
        refine ⟨_, rfl, ?_⟩
        have hbk := below_step hHeld hBk
        clear hBk
        refine hK.out _ _ (hbk) (fun hHeld => ?_)
        clear hK K
        refine norm_ (a' := ?_) ?_ ?_
        rotate_left
        · show Act.put _ (some 154) _ = _
          simp only [Act.put, List.setIfInBounds_toArray, List.set_cons_zero, List.set_cons_succ]
          rfl
        refine pure_ (i := 46) (N := some 155) (v := ?_) (a' := ?_) #[true, true, true, true, true, true, true, true, true, true, true, true, true, true, true, true, true, true, true, true, true, true, true, true, true, true, true, true, true, true, true, true, true, true, true, true, true, true, true, true, true, true, true, true, true, true, true, false] rfl rfl (any_of HT_.out (by kernel_rfl)) (fun _ _ _ h => h) (Or.inl ⟨by rfl, ?_⟩) ?_ ?_
        rotate_left
        · intro w'
          go_simp
          with_reducible rfl
        rotate_left
        · simp only [Act.put, List.setIfInBounds_toArray, List.set_cons_zero, List.set_cons_succ]
          rfl
        refine pure_ (i := 47) (N := some 16) (v := ?_) (a' := ?_) #[true, true, true, true, true, true, true, true, true, true, true, true, true, true, true, true, true, true, true, true, true, true, true, true, true, true, true, true, true, true, true, true, true, true, true, true, true, true, true, true, true, true, true, true, true, true, true, true] rfl rfl (any_of HT_.out (by kernel_rfl)) (fun _ _ _ h => h) (Or.inl ⟨by rfl, ?_⟩) ?_ ?_
        rotate_left
        · intro w'
          go_simp
          with_reducible rfl
        rotate_left
        · simp only [Act.put, List.setIfInBounds_toArray, List.set_cons_zero, List.set_cons_succ]
          rfl
        refine done_ (done_of HT_.out (by kernel_rfl)) ?_
        have BZ := Aside0.mk (HBi.out.trans (hHeld.mono HBi.out.size))
        clear hHeld
        go_wp2_with fail
        go_ret
        exact ⟨rfl, BZ.out⟩
    · obtain rfl : i = 5 := by omega
      rw [show ((5 : Nat) : Int) = 5 from rfl]
      obtain ⟨B0, e0, x0, B1', e1, x1, B2, e2, x2, B3, e3, x3, B4, e4, x4, rfl⟩ := five R hR
      have G0 := Aside0.mk (HZ.out _ (by simp : ((B0, e0, x0) : Rw) ∈ _))
      have G1 := Aside0.mk (HZ.out _ (by simp : ((B1', e1, x1) : Rw) ∈ _))
      have G2 := Aside0.mk (HZ.out _ (by simp : ((B2, e2, x2) : Rw) ∈ _))
      have G3 := Aside0.mk (HZ.out _ (by simp : ((B3, e3, x3) : Rw) ∈ _))
      have G4 := Aside0.mk (HZ.out _ (by simp : ((B4, e4, x4) : Rw) ∈ _))
      clear HZ hR
      go_wp2_with fail
      refine (strongroomkeep_CutR.calls A1 c1 l1 100 k _ (Kd.C_below K0.out.1 HB.out) K0.out.2.1 f1.out).mono ?_
      rintro e u1 ⟨rfl, ⟨n1, rfl⟩⟩
      have HPa := Aside0.mk (show (wr.drewN n1).heap[g]? = _ from HP.out)
      have HBa := Aside0.mk (pw_below_drewN HB.out n1)
      generalize wr.drewN n1 = u1 at HPa HBa ⊢
      go_wp2_with fail
      refine (strongroomkeep_CutR.calls A2 c2 l2 100 h _ (Kd.C_below K1.out.1 HBa.out) K1.out.2.1 f2.out).mono ?_
      rintro e u2 ⟨rfl, ⟨n2, rfl⟩⟩
      have HPb := Aside0.mk (show (u1.drewN n2).heap[g]? = _ from HPa.out)
      have HBb := Aside0.mk (pw_below_drewN HBa.out n2)
      generalize u1.drewN n2 = u2 at HPb HBb ⊢
      go_wp2_with fail
      refine (strongroomkeep_CutR.calls A3 c3 l3 100 d _ (Kd.C_below K2.out.1 HBb.out) K2.out.2.1 f3.out).mono ?_
      rintro e u3 ⟨rfl, ⟨n3, rfl⟩⟩
      have HPc := Aside0.mk (show (u2.drewN n3).heap[g]? = _ from HPb.out)
      have HBc := Aside0.mk (pw_below_drewN HBb.out n3)
      generalize u2.drewN n3 = u3 at HPc HBc ⊢
      go_wp2_with fail
      refine (HC.out u3).mono ?_
      rintro e _ ⟨rfl, rfl⟩
      go_wp2_with fail
      refine (HS.out _).mono ?_
      rintro e _ ⟨rfl, rfl⟩
      go_wp2_with fail
      refine (strongroombook_Roomy_byte.calls A1 c1 k 165 full _ (Kd.C_below D1.out.1 HBc.out) D1.out.2 fF.out).mono ?_
      rintro e u4 ⟨vF, rfl, hR, hB⟩
      have HBd := Aside0.mk (below_step HBc.out hB)
      obtain ⟨Af, cf, hvF, hcf, hCf⟩ := Kd.R_reads hR
      rw [FT.out.2] at hvF hcf
      subst hvF
      have CF := Aside0.mk (And.intro hCf hcf)
      have HPd := Aside0.mk ((hB.block g (Array.getElem?_eq_some_iff.1 HPc.out).1).trans HPc.out)
      clear hR hB hcf hCf
      have q0 : u4.cell? ⟨g, 0, none⟩ = some (.slice B0 x0.length e0) := by unfold World.cell?; simp only [HPd.out]; rfl
      have q1 : u4.cell? ⟨g, 1, none⟩ = some (.slice B1' x1.length e1) := by unfold World.cell?; simp only [HPd.out]; rfl
      have q2 : u4.cell? ⟨g, 2, none⟩ = some (.slice B2 x2.length e2) := by unfold World.cell?; simp only [HPd.out]; rfl
      have q3 : u4.cell? ⟨g, 3, none⟩ = some (.slice B3 x3.length e3) := by unfold World.cell?; simp only [HPd.out]; rfl
      have q4 : u4.cell? ⟨g, 4, none⟩ = some (.slice B4 x4.length e4) := by unfold World.cell?; simp only [HPd.out]; rfl
      obtain ⟨I0, hI0⟩ : ∃ i, Try.prog.info? 5 = some i := ⟨_, rfl⟩
      have hcut := cut_to (P := Try.prog) 22 5 .i64 Try.underlying22 hI0 Af (k.length + 80) cf (k.length : Int) (by omega) (by omega) CF.out.2
      rw [Int.toNat_natCast] at hcut
      clear hI0
      have CT := Aside0.mk (show (Kd.int .u8).C u4 Af k.length k from by
        have h := Kd.C_take (m := k.length) CF.out.1 (by rw [FT.out.2]; omega)
        rwa [FT.out.1] at h)
      go_wp2_with fail
      go_still_tail 17, (by kernel_rfl)
      change wpList _ _ _ _ _ u4.drew
      have bd := drewN_of (W := u4) 1
      change Below u4.heap.size u4 u4.drew at bd
      have HBe := Aside0.mk (below_step HBd.out bd)
      have HPe := Aside0.mk (show u4.drew.heap[g]? = _ from HPd.out)
      have CTe := Aside0.mk (Kd.C_below CT.out bd)
      have CFe := Aside0.mk (And.intro (Kd.C_below CF.out.1 bd) CF.out.2)
      generalize u4.drew = u5 at HBe HPe CTe CFe ⊢
      clear bd CT CF q0 q1 q2 q3 q4
      go_wp2_with fail
      refine (hash_calls vd vt B0 e0 x0 B1' e1 x1 B2 e2 x2 B3 e3 x3 B4 e4 x4 Af cf k u5 VL.out.1 VL.out.2 (Kd.C_below G0.out.1 HBe.out) G0.out.2.2.1 (Nat.le_trans G0.out.2.2.2 (by decide)) (Kd.C_below G1.out.1 HBe.out) G1.out.2.2.1 (Nat.le_trans G1.out.2.2.2 (by decide)) (Kd.C_below G2.out.1 HBe.out) G2.out.2.2.1 (Nat.le_trans G2.out.2.2.2 (by decide)) (Kd.C_below G3.out.1 HBe.out) G3.out.2.2.1 (Nat.le_trans G3.out.2.2.2 (by decide)) (Kd.C_below G4.out.1 HBe.out) G4.out.2.2.1 (Nat.le_trans G4.out.2.2.2 (by decide)) CTe.out (by have := CFe.out.2; omega) BK.out.1 (Nat.le_trans KL.out.1 (by decide))).mono ?_
      rintro e u6 ⟨v6, rfl, hR, hB⟩
      obtain ⟨hs, hhs⟩ : ∃ x, x = Sha.shaF (hashB (bytesOf vd) (bytesOf vt) [x0, x1, x2, x3, x4] k) := ⟨_, rfl⟩
      rw [← hhs] at hR
      have HHS := Aside0.mk hhs
      clear hhs
      obtain ⟨Aa, ca, hv6, hca, hCa⟩ := Kd.R_reads hR
      obtain ⟨na, hna⟩ : ∃ x, x = hs.length := ⟨_, rfl⟩
      rw [← hna] at hv6 hca
      subst hv6
      have CA := Aside0.mk (And.intro hCa hna)
      have HBf := Aside0.mk (below_step HBe.out hB)
      have HPf := Aside0.mk ((hB.block g (Array.getElem?_eq_some_iff.1 HPe.out).1).trans HPe.out)
      have CTf := Aside0.mk (Kd.C_below CTe.out hB)
      have CFf := Aside0.mk (And.intro (Kd.C_below CFe.out.1 hB) CFe.out.2)
      clear hR hB hCa hna hca HPe CTe CFe
      have q0 : u6.cell? ⟨g, 0, none⟩ = some (.slice B0 x0.length e0) := by unfold World.cell?; simp only [HPf.out]; rfl
      have q1 : u6.cell? ⟨g, 1, none⟩ = some (.slice B1' x1.length e1) := by unfold World.cell?; simp only [HPf.out]; rfl
      have q2 : u6.cell? ⟨g, 2, none⟩ = some (.slice B2 x2.length e2) := by unfold World.cell?; simp only [HPf.out]; rfl
      have q3 : u6.cell? ⟨g, 3, none⟩ = some (.slice B3 x3.length e3) := by unfold World.cell?; simp only [HPf.out]; rfl
      have q4 : u6.cell? ⟨g, 4, none⟩ = some (.slice B4 x4.length e4) := by unfold World.cell?; simp only [HPf.out]; rfl
      go_wp2_with fail
      refine (rHash_calls vd vt B0 e0 x0 B1' e1 x1 B2 e2 x2 B3 e3 x3 B4 e4 x4 A1 c1 k u6 VL.out.1 VL.out.2 (Kd.C_below G0.out.1 HBf.out) G0.out.2.2.1 (Nat.le_trans G0.out.2.2.2 (by decide)) (Kd.C_below G1.out.1 HBf.out) G1.out.2.2.1 (Nat.le_trans G1.out.2.2.2 (by decide)) (Kd.C_below G2.out.1 HBf.out) G2.out.2.2.1 (Nat.le_trans G2.out.2.2.2 (by decide)) (Kd.C_below G3.out.1 HBf.out) G3.out.2.2.1 (Nat.le_trans G3.out.2.2.2 (by decide)) (Kd.C_below G4.out.1 HBf.out) G4.out.2.2.1 (Nat.le_trans G4.out.2.2.2 (by decide)) (Kd.C_below D1.out.1 HBf.out) D1.out.2 BK.out.1 (Nat.le_trans KL.out.1 (by decide))).mono ?_
      rintro e u7 ⟨v7, rfl, hR, hB⟩
      rw [← HHS.out] at hR
      obtain ⟨Ab, cb, hv7, hcb, hCb⟩ := Kd.R_reads hR
      obtain ⟨nb, hnb⟩ : ∃ x, x = hs.length := ⟨_, rfl⟩
      rw [← hnb] at hv7 hcb
      subst hv7
      have CB := Aside0.mk (And.intro hCb hnb)
      have CA7 := Aside0.mk (And.intro (Kd.C_below CA.out.1 hB) CA.out.2)
      have HBg := Aside0.mk (below_step HBf.out hB)
      have HPg := Aside0.mk ((hB.block g (Array.getElem?_eq_some_iff.1 HPf.out).1).trans HPf.out)
      have CTg := Aside0.mk (Kd.C_below CTf.out hB)
      have CFg := Aside0.mk (And.intro (Kd.C_below CFf.out.1 hB) CFf.out.2)
      clear hR hB hCb hnb hcb CA HPf CTf CFf q0 q1 q2 q3 q4
      go_wp2_with fail
      refine (derive_any Af cf k A2 c2 h a4 A3 c3 d a5 u7 CTg.out (by have := CFg.out.2; omega) BK.out.1 (Nat.le_trans KL.out.1 (by decide)) (Kd.C_below D2.out.1 HBg.out) D2.out.2 (Nat.le_trans KL.out.2.1 (by decide)) (Kd.C_below D3.out.1 HBg.out) D3.out.2 (Nat.le_trans KL.out.2.2 (by decide))).mono ?_
      rintro e u8 ⟨v8, rfl, hR, hB⟩
      obtain ⟨ds, hds⟩ : ∃ x, x = derV k h a4 d a5 := ⟨_, rfl⟩
      obtain ⟨de, hde⟩ : ∃ x, x = derE a5 := ⟨_, rfl⟩
      rw [← hds] at hR
      have HDS := Aside0.mk (And.intro hds hde)
      rw [← hde]
      clear hds hde
      obtain ⟨Ac, cc, hv8, hcc, hCc⟩ := Kd.R_reads hR
      obtain ⟨nc, hnc⟩ : ∃ x, x = ds.length := ⟨_, rfl⟩
      rw [← hnc] at hv8 hcc
      subst hv8
      have CC := Aside0.mk (And.intro hCc hnc)
      have CA8 := Aside0.mk (And.intro (Kd.C_below CA7.out.1 hB) CA7.out.2)
      have CB8 := Aside0.mk (And.intro (Kd.C_below CB.out.1 hB) CB.out.2)
      have HBh := Aside0.mk (below_step HBg.out hB)
      have HPh := Aside0.mk ((hB.block g (Array.getElem?_eq_some_iff.1 HPg.out).1).trans HPg.out)
      have CFh := Aside0.mk (And.intro (Kd.C_below CFg.out.1 hB) CFg.out.2)
      clear hR hB hCc hnc hcc CA7 CB HPg CTg CFg hcut
      go_wp2_with fail
      refine (rDerive_any A1 c1 k A2 c2 h a4 A3 c3 d a5 u8 (Kd.C_below D1.out.1 HBh.out) D1.out.2 BK.out.1 (Nat.le_trans KL.out.1 (by decide)) (Kd.C_below D2.out.1 HBh.out) D2.out.2 (Nat.le_trans KL.out.2.1 (by decide)) (Kd.C_below D3.out.1 HBh.out) D3.out.2 (Nat.le_trans KL.out.2.2 (by decide))).mono ?_
      rintro e u9 ⟨v9, rfl, hR, hB⟩
      rw [← HDS.out.1] at hR
      rw [← HDS.out.2]
      obtain ⟨Ad, cd, hv9, hcd, hCd⟩ := Kd.R_reads hR
      obtain ⟨nd, hnd⟩ : ∃ x, x = ds.length := ⟨_, rfl⟩
      rw [← hnd] at hv9 hcd
      subst hv9
      have CD := Aside0.mk (And.intro hCd hnd)
      have CA9 := Aside0.mk (And.intro (Kd.C_below CA8.out.1 hB) CA8.out.2)
      have CB9 := Aside0.mk (And.intro (Kd.C_below CB8.out.1 hB) CB8.out.2)
      have CC9 := Aside0.mk (And.intro (Kd.C_below CC.out.1 hB) CC.out.2)
      have HBi := Aside0.mk (below_step HBh.out hB)
      have HPi := Aside0.mk ((hB.block g (Array.getElem?_eq_some_iff.1 HPh.out).1).trans HPh.out)
      have CFi := Aside0.mk (And.intro (Kd.C_below CFh.out.1 hB) CFh.out.2)
      clear hR hB hCd hnd hcd CA8 CB8 CC HPh CFh
      go_wp2_with fail
      change Code.wp _ _ _ _ u9
      have ea := CA9.out.2
      have eb := CB9.out.2
      have ec := CC9.out.2
      have ed := CD.out.2
      subst ea eb ec ed
      have Q0 := Aside0.mk (fun (w' : World) (h : Below u9.heap.size u9 w') => Kd.C_string (P := Try.prog) (c := ca) Try.underlying22 Try.underlying5 Try.underlying9 (Kd.C_below CA9.out.1 h))
      have Q1 := Aside0.mk (fun (w' : World) (h : Below u9.heap.size u9 w') => Kd.C_string (P := Try.prog) (c := cb) Try.underlying22 Try.underlying5 Try.underlying9 (Kd.C_below CB9.out.1 h))
      have Q2 := Aside0.mk (fun (w' : World) (h : Below u9.heap.size u9 w') => Kd.C_string (P := Try.prog) (c := cc) Try.underlying22 Try.underlying5 Try.underlying9 (Kd.C_below CC9.out.1 h))
      have Q3 := Aside0.mk (fun (w' : World) (h : Below u9.heap.size u9 w') => Kd.C_string (P := Try.prog) (c := cd) Try.underlying22 Try.underlying5 Try.underlying9 (Kd.C_below CD.out.1 h))
      have Q4 := Aside0.mk (fun (w' : World) (h : Below u9.heap.size u9 w') => show w'.cell? ⟨g, 0, none⟩ = some (.slice B0 x0.length e0) from by
        have h1 := (h.block g (Array.getElem?_eq_some_iff.1 HPi.out).1).trans HPi.out
        unfold World.cell?
        simp only [h1]
        rfl)
      have E1 := Aside0.mk (Kd.C_below D1.out.1 HBi.out)
      have E2 := Aside0.mk (Kd.C_below D2.out.1 HBi.out)
      have E0 := Aside0.mk (Kd.C_below G0.out.1 HBi.out)
      obtain ⟨m, hm⟩ : ∃ x, x = Sha.macF k h := ⟨_, rfl⟩
      obtain ⟨sx, hsx⟩ : ∃ x, x = Sha.shaF x0 := ⟨_, rfl⟩
      have fM := Aside0.mk (show kdf_Mac.f k h = some m ∧ Sha.macF k h = m by rw [hm]; exact ⟨mac_some k h (Nat.le_trans KL.out.1 (by decide)) (Nat.le_trans KL.out.2.1 (by decide)), rfl⟩)
      have fS := Aside0.mk (show kdf_Sum.f x0 = some sx ∧ Sha.shaF x0 = sx by rw [hsx]; exact ⟨sum_some x0 (Nat.le_trans G0.out.2.2.2 (by decide)), rfl⟩)
      have IC := Aside0.mk (fun (w' : World) (hb : Below u9.heap.size u9 w') => show Calls Try.prog 34 #[.slice Af (k.length + 80) cf, .slice A1 k.length c1, .int .u8 165] w' (fun e w2 => e = .returned (.bool true) ∧ Drawn0 w' w2) from by
        rw [← FT.out.2]
        exact strongroombook_Intact_byte.calls Af cf full A1 c1 k 165 true _ (Kd.C_below CFi.out.1 hb) (by rw [FT.out.2]; exact CFi.out.2) (Kd.C_below E1.out hb) D1.out.2 FI.out)
      have G9 := Aside0.mk (show x0.length ≤ e0 ∧ x0.length ≤ 1000 from ⟨G0.out.2.1, Nat.le_trans G0.out.2.2.2 (by decide)⟩)
      clear hm hsx
      refine start_ (n := 48) (S := fun w' => Below u9.heap.size u9 w') (ds := []) #[false, false, false, false, false, false, false, false, false, false, false, false, false, false, false, false, false, false, false, false, false, false, false, false, false, false, false, false, false, false, false, false, false, false, false, false, false, false, false, false, false, false, false, false, false, false, false, false] (by kernel_rfl) rfl rfl (below_drew1 (Below.refl _ _)) (fun hHeld => ?_)
      refine with_tabW kdfTells.tab16 kdfTells.bits16 (fun HT_ HW_ => ?_)
      refine pure_ (i := 0) (N := some 109) (v := ?_) (a' := ?_) #[true, false, false, false, false, false, false, false, false, false, false, false, false, false, false, false, false, false, false, false, false, false, false, false, false, false, false, false, false, false, false, false, false, false, false, false, false, false, false, false, false, false, false, false, false, false, false, false] rfl rfl (any_of HT_.out (by kernel_rfl)) (fun _ _ _ h => h) (Or.inl ⟨by rfl, ?_⟩) ?_ ?_
      rotate_left
      · intro w'
        go_simp
        with_reducible rfl
      rotate_left
      · simp only [Act.put, List.setIfInBounds_toArray, List.set_cons_zero, List.set_cons_succ]
        rfl
      refine pure_ (i := 2) (N := some 111) (v := ?_) (a' := ?_) #[true, false, true, false, false, false, false, false, false, false, false, false, false, false, false, false, false, false, false, false, false, false, false, false, false, false, false, false, false, false, false, false, false, false, false, false, false, false, false, false, false, false, false, false, false, false, false, false] rfl rfl (any_of HT_.out (by kernel_rfl)) (fun _ _ _ h => h) (Or.inl ⟨by rfl, ?_⟩) ?_ ?_
      rotate_left
      · intro w'
        go_simp
        with_reducible rfl
      rotate_left
      · simp only [Act.put, List.setIfInBounds_toArray, List.set_cons_zero, List.set_cons_succ]
        rfl
      refine take_ (i := 1) (N := some 110) (v := ?_) (a' := ?_) #[true, true, true, false, false, false, false, false, false, false, false, false, false, false, false, false, false, false, false, false, false, false, false, false, false, false, false, false, false, false, false, false, false, false, false, false, false, false, false, false, false, false, false, false, false, false, false, false] rfl rfl (take_ofW HT_.out HW_.out (by kernel_rfl)) (fun _ _ _ h => h) (Or.inl ⟨by rfl, ?_⟩) hHeld ?_ ?_
      rotate_left
      · intro w' s0
        have q0_ := Q0.out w' s0
        have q1_ := Q1.out w' s0
        have q2_ := Q2.out w' s0
        have q3_ := Q3.out w' s0
        have q4_ := Q4.out w' s0
        go_simp
        with_reducible rfl
      rotate_left
      · simp only [Act.put, List.setIfInBounds_toArray, List.set_cons_zero, List.set_cons_succ]
        rfl
      refine take_ (i := 3) (N := some 112) (v := ?_) (a' := ?_) #[true, true, true, true, false, false, false, false, false, false, false, false, false, false, false, false, false, false, false, false, false, false, false, false, false, false, false, false, false, false, false, false, false, false, false, false, false, false, false, false, false, false, false, false, false, false, false, false] rfl rfl (take_ofW HT_.out HW_.out (by kernel_rfl)) (fun _ _ _ h => h) (Or.inl ⟨by rfl, ?_⟩) hHeld ?_ ?_
      rotate_left
      · intro w' s0
        have q0_ := Q0.out w' s0
        have q1_ := Q1.out w' s0
        have q2_ := Q2.out w' s0
        have q3_ := Q3.out w' s0
        have q4_ := Q4.out w' s0
        go_simp
        with_reducible rfl
      rotate_left
      · simp only [Act.put, List.setIfInBounds_toArray, List.set_cons_zero, List.set_cons_succ]
        rfl
      refine pure_ (i := 4) (N := some 113) (v := ?_) (a' := ?_) #[true, true, true, true, true, false, false, false, false, false, false, false, false, false, false, false, false, false, false, false, false, false, false, false, false, false, false, false, false, false, false, false, false, false, false, false, false, false, false, false, false, false, false, false, false, false, false, false] rfl rfl (any_of HT_.out (by kernel_rfl)) (fun _ _ _ h => h) (Or.inl ⟨by rfl, ?_⟩) ?_ ?_
      rotate_left
      · intro w'
        go_simp
        with_reducible rfl
      rotate_left
      · simp only [Act.put, List.setIfInBounds_toArray, List.set_cons_zero, List.set_cons_succ]
        rfl
      refine pure_ (i := 5) (N := some 114) (v := ?_) (a' := ?_) #[true, true, true, true, true, true, false, false, false, false, false, false, false, false, false, false, false, false, false, false, false, false, false, false, false, false, false, false, false, false, false, false, false, false, false, false, false, false, false, false, false, false, false, false, false, false, false, false] rfl rfl (any_of HT_.out (by kernel_rfl)) (fun _ _ _ h => h) (Or.inl ⟨by rfl, ?_⟩) ?_ ?_
      rotate_left
      · intro w'
        go_simp
        with_reducible rfl
      rotate_left
      · simp only [Act.put, List.setIfInBounds_toArray, List.set_cons_zero, List.set_cons_succ]
        rfl
      refine pure_ (i := 6) (N := some 115) (v := ?_) (a' := ?_) #[true, true, true, true, true, true, true, false, false, false, false, false, false, false, false, false, false, false, false, false, false, false, false, false, false, false, false, false, false, false, false, false, false, false, false, false, false, false, false, false, false, false, false, false, false, false, false, false] rfl rfl (any_of HT_.out (by kernel_rfl)) (fun _ _ _ h => h) (Or.inl ⟨by rfl, ?_⟩) ?_ ?_
      rotate_left
      · intro w'
        go_simp
        with_reducible rfl
      rotate_left
      · simp only [Act.put, List.setIfInBounds_toArray, List.set_cons_zero, List.set_cons_succ]
        rfl
      refine pure_ (i := 8) (N := some 117) (v := ?_) (a' := ?_) #[true, true, true, true, true, true, true, false, true, false, false, false, false, false, false, false, false, false, false, false, false, false, false, false, false, false, false, false, false, false, false, false, false, false, false, false, false, false, false, false, false, false, false, false, false, false, false, false] rfl rfl (any_of HT_.out (by kernel_rfl)) (fun _ _ _ h => h) (Or.inl ⟨by rfl, ?_⟩) ?_ ?_
      rotate_left
      · intro w'
        go_simp
        with_reducible rfl
      rotate_left
      · simp only [Act.put, List.setIfInBounds_toArray, List.set_cons_zero, List.set_cons_succ]
        rfl
      refine take_ (i := 7) (N := some 116) (v := ?_) (a' := ?_) #[true, true, true, true, true, true, true, true, true, false, false, false, false, false, false, false, false, false, false, false, false, false, false, false, false, false, false, false, false, false, false, false, false, false, false, false, false, false, false, false, false, false, false, false, false, false, false, false] rfl rfl (take_ofW HT_.out HW_.out (by kernel_rfl)) (fun _ _ _ h => h) (Or.inl ⟨by rfl, ?_⟩) hHeld ?_ ?_
      rotate_left
      · intro w' s0
        have q0_ := Q0.out w' s0
        have q1_ := Q1.out w' s0
        have q2_ := Q2.out w' s0
        have q3_ := Q3.out w' s0
        have q4_ := Q4.out w' s0
        go_simp
        with_reducible rfl
      rotate_left
      · simp only [Act.put, List.setIfInBounds_toArray, List.set_cons_zero, List.set_cons_succ]
        rfl
      refine take_ (i := 9) (N := some 118) (v := ?_) (a' := ?_) #[true, true, true, true, true, true, true, true, true, true, false, false, false, false, false, false, false, false, false, false, false, false, false, false, false, false, false, false, false, false, false, false, false, false, false, false, false, false, false, false, false, false, false, false, false, false, false, false] rfl rfl (take_ofW HT_.out HW_.out (by kernel_rfl)) (fun _ _ _ h => h) (Or.inl ⟨by rfl, ?_⟩) hHeld ?_ ?_
      rotate_left
      · intro w' s0
        have q0_ := Q0.out w' s0
        have q1_ := Q1.out w' s0
        have q2_ := Q2.out w' s0
        have q3_ := Q3.out w' s0
        have q4_ := Q4.out w' s0
        go_simp
        with_reducible rfl
      rotate_left
      · simp only [Act.put, List.setIfInBounds_toArray, List.set_cons_zero, List.set_cons_succ]
        rfl
      refine pure_ (i := 10) (N := some 119) (v := ?_) (a' := ?_) #[true, true, true, true, true, true, true, true, true, true, true, false, false, false, false, false, false, false, false, false, false, false, false, false, false, false, false, false, false, false, false, false, false, false, false, false, false, false, false, false, false, false, false, false, false, false, false, false] rfl rfl (any_of HT_.out (by kernel_rfl)) (fun _ _ _ h => h) (Or.inl ⟨by rfl, ?_⟩) ?_ ?_
      rotate_left
      · intro w'
        go_simp
        with_reducible rfl
      rotate_left
      · simp only [Act.put, List.setIfInBounds_toArray, List.set_cons_zero, List.set_cons_succ]
        rfl
      refine pure_ (i := 11) (N := some 120) (v := ?_) (a' := ?_) #[true, true, true, true, true, true, true, true, true, true, true, true, false, false, false, false, false, false, false, false, false, false, false, false, false, false, false, false, false, false, false, false, false, false, false, false, false, false, false, false, false, false, false, false, false, false, false, false] rfl rfl (any_of HT_.out (by kernel_rfl)) (fun _ _ _ h => h) (Or.inl ⟨by rfl, ?_⟩) ?_ ?_
      rotate_left
      · intro w'
        go_simp
        with_reducible rfl
      rotate_left
      · simp only [Act.put, List.setIfInBounds_toArray, List.set_cons_zero, List.set_cons_succ]
        rfl
      refine pure_ (i := 12) (N := some 121) (v := ?_) (a' := ?_) #[true, true, true, true, true, true, true, true, true, true, true, true, true, false, false, false, false, false, false, false, false, false, false, false, false, false, false, false, false, false, false, false, false, false, false, false, false, false, false, false, false, false, false, false, false, false, false, false] rfl rfl (any_of HT_.out (by kernel_rfl)) (fun _ _ _ h => h) (Or.inl ⟨by rfl, ?_⟩) ?_ ?_
      rotate_left
      · intro w'
        go_simp
        with_reducible rfl
      rotate_left
      · simp only [Act.put, List.setIfInBounds_toArray, List.set_cons_zero, List.set_cons_succ]
        rfl
      refine pure_ (i := 13) (N := some 122) (v := ?_) (a' := ?_) #[true, true, true, true, true, true, true, true, true, true, true, true, true, true, false, false, false, false, false, false, false, false, false, false, false, false, false, false, false, false, false, false, false, false, false, false, false, false, false, false, false, false, false, false, false, false, false, false] rfl rfl (any_of HT_.out (by kernel_rfl)) (fun _ _ _ h => h) (Or.inl ⟨by rfl, ?_⟩) ?_ ?_
      rotate_left
      · intro w'
        go_simp
        with_reducible rfl
      rotate_left
      · simp only [Act.put, List.setIfInBounds_toArray, List.set_cons_zero, List.set_cons_succ]
        rfl
      refine pure_ (i := 14) (N := some 123) (v := ?_) (a' := ?_) #[true, true, true, true, true, true, true, true, true, true, true, true, true, true, true, false, false, false, false, false, false, false, false, false, false, false, false, false, false, false, false, false, false, false, false, false, false, false, false, false, false, false, false, false, false, false, false, false] rfl rfl (any_of HT_.out (by kernel_rfl)) (fun _ _ _ h => h) (Or.inl ⟨by rfl, ?_⟩) ?_ ?_
      rotate_left
      · intro w'
        go_simp
        with_reducible rfl
      rotate_left
      · simp only [Act.put, List.setIfInBounds_toArray, List.set_cons_zero, List.set_cons_succ]
        rfl
      refine pure_ (i := 15) (N := some 124) (v := ?_) (a' := ?_) #[true, true, true, true, true, true, true, true, true, true, true, true, true, true, true, true, false, false, false, false, false, false, false, false, false, false, false, false, false, false, false, false, false, false, false, false, false, false, false, false, false, false, false, false, false, false, false, false] rfl rfl (any_of HT_.out (by kernel_rfl)) (fun _ _ _ h => h) (Or.inl ⟨by rfl, ?_⟩) ?_ ?_
      rotate_left
      · intro w'
        go_simp
        with_reducible rfl
      rotate_left
      · simp only [Act.put, List.setIfInBounds_toArray, List.set_cons_zero, List.set_cons_succ]
        rfl
      refine pure_ (i := 16) (N := some 125) (v := ?_) (a' := ?_) #[true, true, true, true, true, true, true, true, true, true, true, true, true, true, true, true, true, false, false, false, false, false, false, false, false, false, false, false, false, false, false, false, false, false, false, false, false, false, false, false, false, false, false, false, false, false, false, false] rfl rfl (any_of HT_.out (by kernel_rfl)) (fun _ _ _ h => h) (Or.inl ⟨by rfl, ?_⟩) ?_ ?_
      rotate_left
      · intro w'
        go_simp
        with_reducible rfl
      rotate_left
      · simp only [Act.put, List.setIfInBounds_toArray, List.set_cons_zero, List.set_cons_succ]
        rfl
      refine pure_ (i := 17) (N := some 126) (v := ?_) (a' := ?_) #[true, true, true, true, true, true, true, true, true, true, true, true, true, true, true, true, true, true, false, false, false, false, false, false, false, false, false, false, false, false, false, false, false, false, false, false, false, false, false, false, false, false, false, false, false, false, false, false] rfl rfl (any_of HT_.out (by kernel_rfl)) (fun _ _ _ h => h) (Or.inl ⟨by rfl, ?_⟩) ?_ ?_
      rotate_left
      · intro w'
        go_simp
        with_reducible rfl
      rotate_left
      · simp only [Act.put, List.setIfInBounds_toArray, List.set_cons_zero, List.set_cons_succ]
        rfl
      refine pure_ (i := 18) (N := some 127) (v := ?_) (a' := ?_) #[true, true, true, true, true, true, true, true, true, true, true, true, true, true, true, true, true, true, true, false, false, false, false, false, false, false, false, false, false, false, false, false, false, false, false, false, false, false, false, false, false, false, false, false, false, false, false, false] rfl rfl (any_of HT_.out (by kernel_rfl)) (fun _ _ _ h => h) (Or.inl ⟨by rfl, ?_⟩) ?_ ?_
      rotate_left
      · intro w'
        go_simp
        with_reducible rfl
      rotate_left
      · simp only [Act.put, List.setIfInBounds_toArray, List.set_cons_zero, List.set_cons_succ]
        rfl
      refine pure_ (i := 19) (N := some 128) (v := ?_) (a' := ?_) #[true, true, true, true, true, true, true, true, true, true, true, true, true, true, true, true, true, true, true, true, false, false, false, false, false, false, false, false, false, false, false, false, false, false, false, false, false, false, false, false, false, false, false, false, false, false, false, false] rfl rfl (any_of HT_.out (by kernel_rfl)) (fun _ _ _ h => h) (Or.inl ⟨by rfl, ?_⟩) ?_ ?_
      rotate_left
      · intro w'
        go_simp
        with_reducible rfl
      rotate_left
      · simp only [Act.put, List.setIfInBounds_toArray, List.set_cons_zero, List.set_cons_succ]
        rfl
      refine pure_ (i := 22) (N := some 131) (v := ?_) (a' := ?_) #[true, true, true, true, true, true, true, true, true, true, true, true, true, true, true, true, true, true, true, true, false, false, true, false, false, false, false, false, false, false, false, false, false, false, false, false, false, false, false, false, false, false, false, false, false, false, false, false] rfl rfl (any_of HT_.out (by kernel_rfl)) (fun _ _ _ h => h) (Or.inl ⟨by rfl, ?_⟩) ?_ ?_
      rotate_left
      · intro w'
        go_simp
        with_reducible rfl
      rotate_left
      · simp only [Act.put, List.setIfInBounds_toArray, List.set_cons_zero, List.set_cons_succ]
        rfl
      refine pure_ (i := 23) (N := some 132) (v := ?_) (a' := ?_) #[true, true, true, true, true, true, true, true, true, true, true, true, true, true, true, true, true, true, true, true, false, false, true, true, false, false, false, false, false, false, false, false, false, false, false, false, false, false, false, false, false, false, false, false, false, false, false, false] rfl rfl (any_of HT_.out (by kernel_rfl)) (fun _ _ _ h => h) (Or.inl ⟨by rfl, ?_⟩) ?_ ?_
      rotate_left
      · intro w'
        go_simp
        with_reducible rfl
      rotate_left
      · simp only [Act.put, List.setIfInBounds_toArray, List.set_cons_zero, List.set_cons_succ]
        rfl
      refine one_ (i := 20) (N := some 129) #[true, true, true, true, true, true, true, true, true, true, true, true, true, true, true, true, true, true, true, true, true, false, true, true, false, false, false, false, false, false, false, false, false, false, false, false, false, false, false, false, false, false, false, false, false, false, false, false] rfl rfl (one_of HT_.out (by kernel_rfl)) (by decide) (fun K hK => ?_)
      refine goes_ Try.func14 (by kernel_rfl) rfl #[.slice A1 k.length c1, .slice A2 h.length c2] (by rfl) rfl rfl (by simp only [List.map_toArray, List.map_cons, List.map_nil]; rfl) ?_
      with_reducible refine (kdf_Mac.calls A1 c1 k A2 c2 h m _ (Kd.C_below E1.out hHeld) D1.out.2 (Kd.C_below E2.out hHeld) D2.out.2 fM.out.1).mono ?_
      rintro e wa ⟨va, rfl, hRa, hBa⟩
      refine ⟨_, rfl, ?_⟩
      obtain ⟨Aa2, ca2, rfl, h1_, h2_⟩ := Kd.R_reads hRa
      have CAa := h2_
      have hba := below_step hHeld hBa
      clear hRa h1_ h2_
      refine hK.out _ _ (hba) (fun hHeld => ?_)
      clear hK K
      refine norm_ (a' := ?_) ?_ ?_
      rotate_left
      · show Act.put _ (some 129) _ = _
        simp only [Act.put, List.setIfInBounds_toArray, List.set_cons_zero, List.set_cons_succ]
        rfl
      refine join_ (σ := Value) 22 #[true, true, true, true, true, true, true, true, true, true, true, true, true, true, true, true, true, true, true, true, true, true, true, true, true, true, false, false, false, false, false, false, false, false, false, false, false, false, false, false, false, false, false, false, false, false, false, false] (fun s_ => [(130, .string (strOfNums m)), (133, s_), (134, .string (strOfNums m))]) (fun _ w' => Below u9.heap.size u9 w') ?_ ?_
      rotate_left
      · intro hCont
        refine two_ (i := 21) (j := 24) (Ni := some 130) (Nj := some 133) #[true, true, true, true, true, true, true, true, true, true, true, true, true, true, true, true, true, true, true, true, true, true, true, true, false, false, false, false, false, false, false, false, false, false, false, false, false, false, false, false, false, false, false, false, false, false, false, false] #[true, true, true, true, true, true, true, true, true, true, true, true, true, true, true, true, true, true, true, true, true, false, true, true, true, false, false, false, false, false, false, false, false, false, false, false, false, false, false, false, false, false, false, false, false, false, false, false] rfl rfl rfl rfl (two_of HT_.out (by kernel_rfl)) (by decide) (by decide) (fun K hK => ?_) (fun K hK => ?_)
        · skip
          have q12 := Kd.C_string (P := Try.prog) (c := ca2) Try.underlying22 Try.underlying5 Try.underlying9 CAa
          refine value_ (w1 := ?_) (v := ?_) (by rfl) rfl ?_ ?_
          rotate_left 2
          · go_simp
            constructor
            · rfl
            · rfl
          clear q12
          refine hK.out _ _ (hHeld) (fun hHeld => ?_)
          clear hK K
          refine norm_ (a' := ?_) ?_ ?_
          rotate_left
          · show Act.put _ (some 130) _ = _
            simp only [Act.put, List.setIfInBounds_toArray, List.set_cons_zero, List.set_cons_succ]
            rfl
          refine one_ (i := 24) (N := some 133) #[true, true, true, true, true, true, true, true, true, true, true, true, true, true, true, true, true, true, true, true, true, true, true, true, true, false, false, false, false, false, false, false, false, false, false, false, false, false, false, false, false, false, false, false, false, false, false, false] rfl rfl (one_of HT_.out (by kernel_rfl)) (by decide) (fun K hK => ?_)
          refine goes_ Try.func29 (by kernel_rfl) rfl #[.slice A1 k.length c1, .slice A2 h.length c2] (by rfl) rfl rfl (by simp only [List.map_toArray, List.map_cons, List.map_nil]; rfl) ?_
          with_reducible refine (refM_calls A1 c1 k A2 c2 h m _ (Kd.C_below E1.out hHeld) D1.out.2 (Kd.C_below E2.out hHeld) D2.out.2 (Nat.le_trans KL.out.1 (by decide)) (Nat.le_trans KL.out.2.1 (by decide)) fM.out.2).mono ?_
          rintro e wq ⟨vq, rfl, hRq, hBq⟩
          refine ⟨_, rfl, ?_⟩
          have CPq := Kd.C_below CAa hBq
          obtain ⟨Aq, cq, rfl, h1_, h2_⟩ := Kd.R_reads hRq
          have CQ := h2_
          have hbq := below_step hHeld hBq
          clear hRq h1_ h2_
          refine hK.out _ _ (hbq) (fun hHeld => ?_)
          clear hK K
          refine norm_ (a' := ?_) ?_ ?_
          rotate_left
          · show Act.put _ (some 133) _ = _
            simp only [Act.put, List.setIfInBounds_toArray, List.set_cons_zero, List.set_cons_succ]
            rfl
          refine one_ (i := 25) (N := some 134) #[true, true, true, true, true, true, true, true, true, true, true, true, true, true, true, true, true, true, true, true, true, true, true, true, true, true, false, false, false, false, false, false, false, false, false, false, false, false, false, false, false, false, false, false, false, false, false, false] rfl rfl (one_of HT_.out (by kernel_rfl)) (by decide) (fun K hK => ?_)
          have q15 := Kd.C_string (P := Try.prog) (c := cq) Try.underlying22 Try.underlying5 Try.underlying9 CQ
          refine value_ (w1 := ?_) (v := ?_) (by rfl) rfl ?_ ?_
          rotate_left 2
          · go_simp
            constructor
            · rfl
            · rfl
          clear q15
          refine hK.out _ _ (hHeld) (fun hHeld => ?_)
          clear hK K
          refine norm_ (a' := ?_) ?_ ?_
          rotate_left
          · show Act.put _ (some 134) _ = _
            simp only [Act.put, List.setIfInBounds_toArray, List.set_cons_zero, List.set_cons_succ]
            rfl
          exact norm_ (by simp only [putAll, Act.put, List.setIfInBounds_toArray, List.set_cons_zero, List.set_cons_succ]) (hCont (.slice Aq m.length cq) _ hbq)
        · skip
          refine goes_ Try.func29 (by kernel_rfl) rfl #[.slice A1 k.length c1, .slice A2 h.length c2] (by rfl) rfl rfl (by simp only [List.map_toArray, List.map_cons, List.map_nil]; rfl) ?_
          with_reducible refine (refM_calls A1 c1 k A2 c2 h m _ (Kd.C_below E1.out hHeld) D1.out.2 (Kd.C_below E2.out hHeld) D2.out.2 (Nat.le_trans KL.out.1 (by decide)) (Nat.le_trans KL.out.2.1 (by decide)) fM.out.2).mono ?_
          rintro e wq ⟨vq, rfl, hRq, hBq⟩
          refine ⟨_, rfl, ?_⟩
          have CPq := Kd.C_below CAa hBq
          obtain ⟨Aq, cq, rfl, h1_, h2_⟩ := Kd.R_reads hRq
          have CQ := h2_
          have hbq := below_step hHeld hBq
          clear hRq h1_ h2_
          refine hK.out _ _ (hbq) (fun hHeld => ?_)
          clear hK K
          refine norm_ (a' := ?_) ?_ ?_
          rotate_left
          · show Act.put _ (some 133) _ = _
            simp only [Act.put, List.setIfInBounds_toArray, List.set_cons_zero, List.set_cons_succ]
            rfl
          refine two_ (i := 21) (j := 25) (Ni := some 130) (Nj := some 134) #[true, true, true, true, true, true, true, true, true, true, true, true, true, true, true, true, true, true, true, true, true, true, true, true, true, false, false, false, false, false, false, false, false, false, false, false, false, false, false, false, false, false, false, false, false, false, false, false] #[true, true, true, true, true, true, true, true, true, true, true, true, true, true, true, true, true, true, true, true, true, false, true, true, true, true, false, false, false, false, false, false, false, false, false, false, false, false, false, false, false, false, false, false, false, false, false, false] rfl rfl rfl rfl (two_of HT_.out (by kernel_rfl)) (by decide) (by decide) (fun K hK => ?_) (fun K hK => ?_)
          · skip
            have q12 := Kd.C_string (P := Try.prog) (c := ca2) Try.underlying22 Try.underlying5 Try.underlying9 CPq
            refine value_ (w1 := ?_) (v := ?_) (by rfl) rfl ?_ ?_
            rotate_left 2
            · go_simp
              constructor
              · rfl
              · rfl
            clear q12
            refine hK.out _ _ (hHeld) (fun hHeld => ?_)
            clear hK K
            refine norm_ (a' := ?_) ?_ ?_
            rotate_left
            · show Act.put _ (some 130) _ = _
              simp only [Act.put, List.setIfInBounds_toArray, List.set_cons_zero, List.set_cons_succ]
              rfl
            refine one_ (i := 25) (N := some 134) #[true, true, true, true, true, true, true, true, true, true, true, true, true, true, true, true, true, true, true, true, true, true, true, true, true, true, false, false, false, false, false, false, false, false, false, false, false, false, false, false, false, false, false, false, false, false, false, false] rfl rfl (one_of HT_.out (by kernel_rfl)) (by decide) (fun K hK => ?_)
            have q15 := Kd.C_string (P := Try.prog) (c := cq) Try.underlying22 Try.underlying5 Try.underlying9 CQ
            refine value_ (w1 := ?_) (v := ?_) (by rfl) rfl ?_ ?_
            rotate_left 2
            · go_simp
              constructor
              · rfl
              · rfl
            clear q15
            refine hK.out _ _ (hHeld) (fun hHeld => ?_)
            clear hK K
            refine norm_ (a' := ?_) ?_ ?_
            rotate_left
            · show Act.put _ (some 134) _ = _
              simp only [Act.put, List.setIfInBounds_toArray, List.set_cons_zero, List.set_cons_succ]
              rfl
            exact norm_ (by simp only [putAll, Act.put, List.setIfInBounds_toArray, List.set_cons_zero, List.set_cons_succ]) (hCont (.slice Aq m.length cq) _ hbq)
          · skip
            have q15 := Kd.C_string (P := Try.prog) (c := cq) Try.underlying22 Try.underlying5 Try.underlying9 CQ
            refine value_ (w1 := ?_) (v := ?_) (by rfl) rfl ?_ ?_
            rotate_left 2
            · go_simp
              constructor
              · rfl
              · rfl
            clear q15
            refine hK.out _ _ (hHeld) (fun hHeld => ?_)
            clear hK K
            refine norm_ (a' := ?_) ?_ ?_
            rotate_left
            · show Act.put _ (some 134) _ = _
              simp only [Act.put, List.setIfInBounds_toArray, List.set_cons_zero, List.set_cons_succ]
              rfl
            refine one_ (i := 21) (N := some 130) #[true, true, true, true, true, true, true, true, true, true, true, true, true, true, true, true, true, true, true, true, true, true, true, true, true, true, false, false, false, false, false, false, false, false, false, false, false, false, false, false, false, false, false, false, false, false, false, false] rfl rfl (one_of HT_.out (by kernel_rfl)) (by decide) (fun K hK => ?_)
            have q12 := Kd.C_string (P := Try.prog) (c := ca2) Try.underlying22 Try.underlying5 Try.underlying9 CPq
            refine value_ (w1 := ?_) (v := ?_) (by rfl) rfl ?_ ?_
            rotate_left 2
            · go_simp
              constructor
              · rfl
              · rfl
            clear q12
            refine hK.out _ _ (hHeld) (fun hHeld => ?_)
            clear hK K
            refine norm_ (a' := ?_) ?_ ?_
            rotate_left
            · show Act.put _ (some 130) _ = _
              simp only [Act.put, List.setIfInBounds_toArray, List.set_cons_zero, List.set_cons_succ]
              rfl
            exact norm_ (by simp only [putAll, Act.put, List.setIfInBounds_toArray, List.set_cons_zero, List.set_cons_succ]) (hCont (.slice Aq m.length cq) _ hbq)
      rintro s24 w24 hHeld
      refine norm_ (a' := ?_) ?_ ?_
      rotate_left
      · simp only [putAll, Act.put, List.setIfInBounds_toArray, List.set_cons_zero, List.set_cons_succ]
        rfl
      refine pure_ (i := 26) (N := some 135) (v := ?_) (a' := ?_) #[true, true, true, true, true, true, true, true, true, true, true, true, true, true, true, true, true, true, true, true, true, true, true, true, true, true, true, false, false, false, false, false, false, false, false, false, false, false, false, false, false, false, false, false, false, false, false, false] rfl rfl (any_of HT_.out (by kernel_rfl)) (fun _ _ _ h => h) (Or.inl ⟨by rfl, ?_⟩) ?_ ?_
      rotate_left
      · intro w'
        go_simp
        with_reducible rfl
      rotate_left
      · simp only [Act.put, List.setIfInBounds_toArray, List.set_cons_zero, List.set_cons_succ]
        rfl
      refine pure_ (i := 27) (N := some 136) (v := ?_) (a' := ?_) #[true, true, true, true, true, true, true, true, true, true, true, true, true, true, true, true, true, true, true, true, true, true, true, true, true, true, true, true, false, false, false, false, false, false, false, false, false, false, false, false, false, false, false, false, false, false, false, false] rfl rfl (any_of HT_.out (by kernel_rfl)) (fun _ _ _ h => h) (Or.inl ⟨by rfl, ?_⟩) ?_ ?_
      rotate_left
      · intro w'
        go_simp
        with_reducible rfl
      rotate_left
      · simp only [Act.put, List.setIfInBounds_toArray, List.set_cons_zero, List.set_cons_succ]
        rfl
      refine pure_ (i := 28) (N := some 137) (v := ?_) (a' := ?_) #[true, true, true, true, true, true, true, true, true, true, true, true, true, true, true, true, true, true, true, true, true, true, true, true, true, true, true, true, true, false, false, false, false, false, false, false, false, false, false, false, false, false, false, false, false, false, false, false] rfl rfl (any_of HT_.out (by kernel_rfl)) (fun _ _ _ h => h) (Or.inl ⟨by rfl, ?_⟩) ?_ ?_
      rotate_left
      · intro w'
        go_simp
        with_reducible rfl
      rotate_left
      · simp only [Act.put, List.setIfInBounds_toArray, List.set_cons_zero, List.set_cons_succ]
        rfl
      refine pure_ (i := 29) (N := some 138) (v := ?_) (a' := ?_) #[true, true, true, true, true, true, true, true, true, true, true, true, true, true, true, true, true, true, true, true, true, true, true, true, true, true, true, true, true, true, false, false, false, false, false, false, false, false, false, false, false, false, false, false, false, false, false, false] rfl rfl (any_of HT_.out (by kernel_rfl)) (fun _ _ _ h => h) (Or.inl ⟨by rfl, ?_⟩) ?_ ?_
      rotate_left
      · intro w'
        go_simp
        with_reducible rfl
      rotate_left
      · simp only [Act.put, List.setIfInBounds_toArray, List.set_cons_zero, List.set_cons_succ]
        rfl
      refine pure_ (i := 33) (N := some 142) (v := ?_) (a' := ?_) #[true, true, true, true, true, true, true, true, true, true, true, true, true, true, true, true, true, true, true, true, true, true, true, true, true, true, true, true, true, true, false, false, false, true, false, false, false, false, false, false, false, false, false, false, false, false, false, false] rfl rfl (any_of HT_.out (by kernel_rfl)) (fun _ _ _ h => h) (Or.inl ⟨by rfl, ?_⟩) ?_ ?_
      rotate_left
      · intro w'
        go_simp
        with_reducible rfl
      rotate_left
      · simp only [Act.put, List.setIfInBounds_toArray, List.set_cons_zero, List.set_cons_succ]
        rfl
      refine take_ (i := 30) (N := some 139) (v := ?_) (a' := ?_) #[true, true, true, true, true, true, true, true, true, true, true, true, true, true, true, true, true, true, true, true, true, true, true, true, true, true, true, true, true, true, true, false, false, true, false, false, false, false, false, false, false, false, false, false, false, false, false, false] rfl rfl (take_ofW HT_.out HW_.out (by kernel_rfl)) (fun _ _ _ h => h) (Or.inl ⟨by rfl, ?_⟩) hHeld ?_ ?_
      rotate_left
      · intro w' s0
        have q0_ := Q0.out w' s0
        have q1_ := Q1.out w' s0
        have q2_ := Q2.out w' s0
        have q3_ := Q3.out w' s0
        have q4_ := Q4.out w' s0
        go_simp
        with_reducible rfl
      rotate_left
      · simp only [Act.put, List.setIfInBounds_toArray, List.set_cons_zero, List.set_cons_succ]
        rfl
      refine take_ (i := 34) (N := some 143) (v := ?_) (a' := ?_) #[true, true, true, true, true, true, true, true, true, true, true, true, true, true, true, true, true, true, true, true, true, true, true, true, true, true, true, true, true, true, true, false, false, true, true, false, false, false, false, false, false, false, false, false, false, false, false, false] rfl rfl (take_ofW HT_.out HW_.out (by kernel_rfl)) (fun _ _ _ h => h) (Or.inl ⟨by rfl, ?_⟩) hHeld ?_ ?_
      rotate_left
      · intro w' s0
        have q0_ := Q0.out w' s0
        have q1_ := Q1.out w' s0
        have q2_ := Q2.out w' s0
        have q3_ := Q3.out w' s0
        have q4_ := Q4.out w' s0
        go_simp
        with_reducible rfl
      rotate_left
      · simp only [Act.put, List.setIfInBounds_toArray, List.set_cons_zero, List.set_cons_succ]
        rfl
      refine one_ (i := 31) (N := some 140) #[true, true, true, true, true, true, true, true, true, true, true, true, true, true, true, true, true, true, true, true, true, true, true, true, true, true, true, true, true, true, true, true, false, true, true, false, false, false, false, false, false, false, false, false, false, false, false, false] rfl rfl (one_of HT_.out (by kernel_rfl)) (by decide) (fun K hK => ?_)
      refine goes_ Try.func15 (by kernel_rfl) rfl #[.slice B0 x0.length e0] (by rfl) rfl rfl (by simp only [List.map_toArray, List.map_cons, List.map_nil]; rfl) ?_
      with_reducible refine (kdf_Sum.calls B0 e0 x0 sx _ (Kd.C_below E0.out hHeld) G9.out.1 fS.out.1).mono ?_
      rintro e wa ⟨va, rfl, hRa, hBa⟩
      refine ⟨_, rfl, ?_⟩
      obtain ⟨Ap2, cp2, rfl, h1_, h2_⟩ := Kd.R_reads hRa
      have CAp := h2_
      have hba := below_step hHeld hBa
      clear hRa h1_ h2_
      refine hK.out _ _ (hba) (fun hHeld => ?_)
      clear hK K
      refine norm_ (a' := ?_) ?_ ?_
      rotate_left
      · show Act.put _ (some 140) _ = _
        simp only [Act.put, List.setIfInBounds_toArray, List.set_cons_zero, List.set_cons_succ]
        rfl
      refine join_ (σ := Value) 11 #[true, true, true, true, true, true, true, true, true, true, true, true, true, true, true, true, true, true, true, true, true, true, true, true, true, true, true, true, true, true, true, true, true, true, true, true, true, false, false, false, false, false, false, false, false, false, false, false] (fun s_ => [(141, .string (strOfNums sx)), (144, s_), (145, .string (strOfNums sx))]) (fun _ w' => Below u9.heap.size u9 w') ?_ ?_
      rotate_left
      · intro hCont
        refine two_ (i := 32) (j := 35) (Ni := some 141) (Nj := some 144) #[true, true, true, true, true, true, true, true, true, true, true, true, true, true, true, true, true, true, true, true, true, true, true, true, true, true, true, true, true, true, true, true, true, true, true, false, false, false, false, false, false, false, false, false, false, false, false, false] #[true, true, true, true, true, true, true, true, true, true, true, true, true, true, true, true, true, true, true, true, true, true, true, true, true, true, true, true, true, true, true, true, false, true, true, true, false, false, false, false, false, false, false, false, false, false, false, false] rfl rfl rfl rfl (two_of HT_.out (by kernel_rfl)) (by decide) (by decide) (fun K hK => ?_) (fun K hK => ?_)
        · skip
          have q12 := Kd.C_string (P := Try.prog) (c := cp2) Try.underlying22 Try.underlying5 Try.underlying9 CAp
          refine value_ (w1 := ?_) (v := ?_) (by rfl) rfl ?_ ?_
          rotate_left 2
          · go_simp
            constructor
            · rfl
            · rfl
          clear q12
          refine hK.out _ _ (hHeld) (fun hHeld => ?_)
          clear hK K
          refine norm_ (a' := ?_) ?_ ?_
          rotate_left
          · show Act.put _ (some 141) _ = _
            simp only [Act.put, List.setIfInBounds_toArray, List.set_cons_zero, List.set_cons_succ]
            rfl
          refine one_ (i := 35) (N := some 144) #[true, true, true, true, true, true, true, true, true, true, true, true, true, true, true, true, true, true, true, true, true, true, true, true, true, true, true, true, true, true, true, true, true, true, true, true, false, false, false, false, false, false, false, false, false, false, false, false] rfl rfl (one_of HT_.out (by kernel_rfl)) (by decide) (fun K hK => ?_)
          refine goes_ Try.func28 (by kernel_rfl) rfl #[.slice B0 x0.length e0] (by rfl) rfl rfl (by simp only [List.map_toArray, List.map_cons, List.map_nil]; rfl) ?_
          with_reducible refine (refS_calls B0 e0 x0 sx _ (Kd.C_below E0.out hHeld) G9.out.1 G9.out.2 fS.out.2).mono ?_
          rintro e wq ⟨vq, rfl, hRq, hBq⟩
          refine ⟨_, rfl, ?_⟩
          have CPq := Kd.C_below CAp hBq
          obtain ⟨Aq, cq, rfl, h1_, h2_⟩ := Kd.R_reads hRq
          have CQ := h2_
          have hbq := below_step hHeld hBq
          clear hRq h1_ h2_
          refine hK.out _ _ (hbq) (fun hHeld => ?_)
          clear hK K
          refine norm_ (a' := ?_) ?_ ?_
          rotate_left
          · show Act.put _ (some 144) _ = _
            simp only [Act.put, List.setIfInBounds_toArray, List.set_cons_zero, List.set_cons_succ]
            rfl
          refine one_ (i := 36) (N := some 145) #[true, true, true, true, true, true, true, true, true, true, true, true, true, true, true, true, true, true, true, true, true, true, true, true, true, true, true, true, true, true, true, true, true, true, true, true, true, false, false, false, false, false, false, false, false, false, false, false] rfl rfl (one_of HT_.out (by kernel_rfl)) (by decide) (fun K hK => ?_)
          have q15 := Kd.C_string (P := Try.prog) (c := cq) Try.underlying22 Try.underlying5 Try.underlying9 CQ
          refine value_ (w1 := ?_) (v := ?_) (by rfl) rfl ?_ ?_
          rotate_left 2
          · go_simp
            constructor
            · rfl
            · rfl
          clear q15
          refine hK.out _ _ (hHeld) (fun hHeld => ?_)
          clear hK K
          refine norm_ (a' := ?_) ?_ ?_
          rotate_left
          · show Act.put _ (some 145) _ = _
            simp only [Act.put, List.setIfInBounds_toArray, List.set_cons_zero, List.set_cons_succ]
            rfl
          exact norm_ (by simp only [putAll, Act.put, List.setIfInBounds_toArray, List.set_cons_zero, List.set_cons_succ]) (hCont (.slice Aq sx.length cq) _ hbq)
        · skip
          refine goes_ Try.func28 (by kernel_rfl) rfl #[.slice B0 x0.length e0] (by rfl) rfl rfl (by simp only [List.map_toArray, List.map_cons, List.map_nil]; rfl) ?_
          with_reducible refine (refS_calls B0 e0 x0 sx _ (Kd.C_below E0.out hHeld) G9.out.1 G9.out.2 fS.out.2).mono ?_
          rintro e wq ⟨vq, rfl, hRq, hBq⟩
          refine ⟨_, rfl, ?_⟩
          have CPq := Kd.C_below CAp hBq
          obtain ⟨Aq, cq, rfl, h1_, h2_⟩ := Kd.R_reads hRq
          have CQ := h2_
          have hbq := below_step hHeld hBq
          clear hRq h1_ h2_
          refine hK.out _ _ (hbq) (fun hHeld => ?_)
          clear hK K
          refine norm_ (a' := ?_) ?_ ?_
          rotate_left
          · show Act.put _ (some 144) _ = _
            simp only [Act.put, List.setIfInBounds_toArray, List.set_cons_zero, List.set_cons_succ]
            rfl
          refine two_ (i := 32) (j := 36) (Ni := some 141) (Nj := some 145) #[true, true, true, true, true, true, true, true, true, true, true, true, true, true, true, true, true, true, true, true, true, true, true, true, true, true, true, true, true, true, true, true, true, true, true, true, false, false, false, false, false, false, false, false, false, false, false, false] #[true, true, true, true, true, true, true, true, true, true, true, true, true, true, true, true, true, true, true, true, true, true, true, true, true, true, true, true, true, true, true, true, false, true, true, true, true, false, false, false, false, false, false, false, false, false, false, false] rfl rfl rfl rfl (two_of HT_.out (by kernel_rfl)) (by decide) (by decide) (fun K hK => ?_) (fun K hK => ?_)
          · skip
            have q12 := Kd.C_string (P := Try.prog) (c := cp2) Try.underlying22 Try.underlying5 Try.underlying9 CPq
            refine value_ (w1 := ?_) (v := ?_) (by rfl) rfl ?_ ?_
            rotate_left 2
            · go_simp
              constructor
              · rfl
              · rfl
            clear q12
            refine hK.out _ _ (hHeld) (fun hHeld => ?_)
            clear hK K
            refine norm_ (a' := ?_) ?_ ?_
            rotate_left
            · show Act.put _ (some 141) _ = _
              simp only [Act.put, List.setIfInBounds_toArray, List.set_cons_zero, List.set_cons_succ]
              rfl
            refine one_ (i := 36) (N := some 145) #[true, true, true, true, true, true, true, true, true, true, true, true, true, true, true, true, true, true, true, true, true, true, true, true, true, true, true, true, true, true, true, true, true, true, true, true, true, false, false, false, false, false, false, false, false, false, false, false] rfl rfl (one_of HT_.out (by kernel_rfl)) (by decide) (fun K hK => ?_)
            have q15 := Kd.C_string (P := Try.prog) (c := cq) Try.underlying22 Try.underlying5 Try.underlying9 CQ
            refine value_ (w1 := ?_) (v := ?_) (by rfl) rfl ?_ ?_
            rotate_left 2
            · go_simp
              constructor
              · rfl
              · rfl
            clear q15
            refine hK.out _ _ (hHeld) (fun hHeld => ?_)
            clear hK K
            refine norm_ (a' := ?_) ?_ ?_
            rotate_left
            · show Act.put _ (some 145) _ = _
              simp only [Act.put, List.setIfInBounds_toArray, List.set_cons_zero, List.set_cons_succ]
              rfl
            exact norm_ (by simp only [putAll, Act.put, List.setIfInBounds_toArray, List.set_cons_zero, List.set_cons_succ]) (hCont (.slice Aq sx.length cq) _ hbq)
          · skip
            have q15 := Kd.C_string (P := Try.prog) (c := cq) Try.underlying22 Try.underlying5 Try.underlying9 CQ
            refine value_ (w1 := ?_) (v := ?_) (by rfl) rfl ?_ ?_
            rotate_left 2
            · go_simp
              constructor
              · rfl
              · rfl
            clear q15
            refine hK.out _ _ (hHeld) (fun hHeld => ?_)
            clear hK K
            refine norm_ (a' := ?_) ?_ ?_
            rotate_left
            · show Act.put _ (some 145) _ = _
              simp only [Act.put, List.setIfInBounds_toArray, List.set_cons_zero, List.set_cons_succ]
              rfl
            refine one_ (i := 32) (N := some 141) #[true, true, true, true, true, true, true, true, true, true, true, true, true, true, true, true, true, true, true, true, true, true, true, true, true, true, true, true, true, true, true, true, true, true, true, true, true, false, false, false, false, false, false, false, false, false, false, false] rfl rfl (one_of HT_.out (by kernel_rfl)) (by decide) (fun K hK => ?_)
            have q12 := Kd.C_string (P := Try.prog) (c := cp2) Try.underlying22 Try.underlying5 Try.underlying9 CPq
            refine value_ (w1 := ?_) (v := ?_) (by rfl) rfl ?_ ?_
            rotate_left 2
            · go_simp
              constructor
              · rfl
              · rfl
            clear q12
            refine hK.out _ _ (hHeld) (fun hHeld => ?_)
            clear hK K
            refine norm_ (a' := ?_) ?_ ?_
            rotate_left
            · show Act.put _ (some 141) _ = _
              simp only [Act.put, List.setIfInBounds_toArray, List.set_cons_zero, List.set_cons_succ]
              rfl
            exact norm_ (by simp only [putAll, Act.put, List.setIfInBounds_toArray, List.set_cons_zero, List.set_cons_succ]) (hCont (.slice Aq sx.length cq) _ hbq)
      rintro s35 w35 hHeld
      refine norm_ (a' := ?_) ?_ ?_
      rotate_left
      · simp only [putAll, Act.put, List.setIfInBounds_toArray, List.set_cons_zero, List.set_cons_succ]
        rfl
      refine pure_ (i := 37) (N := some 146) (v := ?_) (a' := ?_) #[true, true, true, true, true, true, true, true, true, true, true, true, true, true, true, true, true, true, true, true, true, true, true, true, true, true, true, true, true, true, true, true, true, true, true, true, true, true, false, false, false, false, false, false, false, false, false, false] rfl rfl (any_of HT_.out (by kernel_rfl)) (fun _ _ _ h => h) (Or.inl ⟨by rfl, ?_⟩) ?_ ?_
      rotate_left
      · intro w'
        go_simp
        with_reducible rfl
      rotate_left
      · simp only [Act.put, List.setIfInBounds_toArray, List.set_cons_zero, List.set_cons_succ]
        rfl
      refine pure_ (i := 38) (N := some 147) (v := ?_) (a' := ?_) #[true, true, true, true, true, true, true, true, true, true, true, true, true, true, true, true, true, true, true, true, true, true, true, true, true, true, true, true, true, true, true, true, true, true, true, true, true, true, true, false, false, false, false, false, false, false, false, false] rfl rfl (any_of HT_.out (by kernel_rfl)) (fun _ _ _ h => h) (Or.inl ⟨by rfl, ?_⟩) ?_ ?_
      rotate_left
      · intro w'
        go_simp
        with_reducible rfl
      rotate_left
      · simp only [Act.put, List.setIfInBounds_toArray, List.set_cons_zero, List.set_cons_succ]
        rfl
      refine pure_ (i := 39) (N := some 148) (v := ?_) (a' := ?_) #[true, true, true, true, true, true, true, true, true, true, true, true, true, true, true, true, true, true, true, true, true, true, true, true, true, true, true, true, true, true, true, true, true, true, true, true, true, true, true, true, false, false, false, false, false, false, false, false] rfl rfl (any_of HT_.out (by kernel_rfl)) (fun _ _ _ h => h) (Or.inl ⟨by rfl, ?_⟩) ?_ ?_
      rotate_left
      · intro w'
        go_simp
        with_reducible rfl
      rotate_left
      · simp only [Act.put, List.setIfInBounds_toArray, List.set_cons_zero, List.set_cons_succ]
        rfl
      refine pure_ (i := 40) (N := some 149) (v := ?_) (a' := ?_) #[true, true, true, true, true, true, true, true, true, true, true, true, true, true, true, true, true, true, true, true, true, true, true, true, true, true, true, true, true, true, true, true, true, true, true, true, true, true, true, true, true, false, false, false, false, false, false, false] rfl rfl (any_of HT_.out (by kernel_rfl)) (fun _ _ _ h => h) (Or.inl ⟨by rfl, ?_⟩) ?_ ?_
      rotate_left
      · intro w'
        go_simp
        with_reducible rfl
      rotate_left
      · simp only [Act.put, List.setIfInBounds_toArray, List.set_cons_zero, List.set_cons_succ]
        rfl
      refine pure_ (i := 41) (N := some 150) (v := ?_) (a' := ?_) #[true, true, true, true, true, true, true, true, true, true, true, true, true, true, true, true, true, true, true, true, true, true, true, true, true, true, true, true, true, true, true, true, true, true, true, true, true, true, true, true, true, true, false, false, false, false, false, false] rfl rfl (any_of HT_.out (by kernel_rfl)) (fun _ _ _ h => h) (Or.inl ⟨by rfl, ?_⟩) ?_ ?_
      rotate_left
      · intro w'
        go_simp
        with_reducible rfl
      rotate_left
      · simp only [Act.put, List.setIfInBounds_toArray, List.set_cons_zero, List.set_cons_succ]
        rfl
      refine one_ (i := 42) (N := some 151) #[true, true, true, true, true, true, true, true, true, true, true, true, true, true, true, true, true, true, true, true, true, true, true, true, true, true, true, true, true, true, true, true, true, true, true, true, true, true, true, true, true, true, true, false, false, false, false, false] rfl rfl (one_of HT_.out (by kernel_rfl)) (by decide) (fun K hK => ?_)
      refine goes_ Try.func34 (by kernel_rfl) rfl #[.slice Af (k.length + 80) cf, .slice A1 k.length c1, .int .u8 165] (by rfl) rfl rfl (by simp only [List.map_toArray, List.map_cons, List.map_nil]; rfl) ?_
      with_reducible refine (IC.out _ hHeld).mono ?_
      rintro e wi ⟨rfl, ⟨ni, hwi⟩⟩
      refine ⟨_, rfl, ?_⟩
      have hbi : Below u9.heap.size u9 wi := by rw [hwi]; exact pw_below_drewN hHeld ni
      clear hwi
      refine hK.out _ _ (hbi) (fun hHeld => ?_)
      clear hK K
      refine norm_ (a' := ?_) ?_ ?_
      rotate_left
      · show Act.put _ (some 151) _ = _
        simp only [Act.put, List.setIfInBounds_toArray, List.set_cons_zero, List.set_cons_succ]
        rfl
      refine pure_ (i := 43) (N := some 152) (v := ?_) (a' := ?_) #[true, true, true, true, true, true, true, true, true, true, true, true, true, true, true, true, true, true, true, true, true, true, true, true, true, true, true, true, true, true, true, true, true, true, true, true, true, true, true, true, true, true, true, true, false, false, false, false] rfl rfl (any_of HT_.out (by kernel_rfl)) (fun _ _ _ h => h) (Or.inl ⟨by rfl, ?_⟩) ?_ ?_
      rotate_left
      · intro w'
        go_simp
        with_reducible rfl
      rotate_left
      · simp only [Act.put, List.setIfInBounds_toArray, List.set_cons_zero, List.set_cons_succ]
        rfl
      refine pure_ (i := 44) (N := some 153) (v := ?_) (a' := ?_) #[true, true, true, true, true, true, true, true, true, true, true, true, true, true, true, true, true, true, true, true, true, true, true, true, true, true, true, true, true, true, true, true, true, true, true, true, true, true, true, true, true, true, true, true, true, false, false, false] rfl rfl (any_of HT_.out (by kernel_rfl)) (fun _ _ _ h => h) (Or.inl ⟨by rfl, ?_⟩) ?_ ?_
      rotate_left
      · intro w'
        go_simp
        with_reducible rfl
      rotate_left
      · simp only [Act.put, List.setIfInBounds_toArray, List.set_cons_zero, List.set_cons_succ]
        rfl
      refine one_ (i := 45) (N := some 154) #[true, true, true, true, true, true, true, true, true, true, true, true, true, true, true, true, true, true, true, true, true, true, true, true, true, true, true, true, true, true, true, true, true, true, true, true, true, true, true, true, true, true, true, true, true, true, false, false] rfl rfl (one_of HT_.out (by kernel_rfl)) (by decide) (fun K hK => ?_)
      refine goes_ Try.func17 (by kernel_rfl) rfl #[] (by rfl) rfl rfl (by simp only [List.map_toArray, List.map_nil]) ?_
      with_reducible refine (known6_calls _).mono ?_
      rintro e wk ⟨rfl, hBk⟩
      refine ⟨_, rfl, ?_⟩
      have hbk := below_step hHeld hBk
      clear hBk
      refine hK.out _ _ (hbk) (fun hHeld => ?_)
      clear hK K
      refine norm_ (a' := ?_) ?_ ?_
      rotate_left
      · show Act.put _ (some 154) _ = _
        simp only [Act.put, List.setIfInBounds_toArray, List.set_cons_zero, List.set_cons_succ]
        rfl
      refine pure_ (i := 46) (N := some 155) (v := ?_) (a' := ?_) #[true, true, true, true, true, true, true, true, true, true, true, true, true, true, true, true, true, true, true, true, true, true, true, true, true, true, true, true, true, true, true, true, true, true, true, true, true, true, true, true, true, true, true, true, true, true, true, false] rfl rfl (any_of HT_.out (by kernel_rfl)) (fun _ _ _ h => h) (Or.inl ⟨by rfl, ?_⟩) ?_ ?_
      rotate_left
      · intro w'
        go_simp
        with_reducible rfl
      rotate_left
      · simp only [Act.put, List.setIfInBounds_toArray, List.set_cons_zero, List.set_cons_succ]
        rfl
      refine pure_ (i := 47) (N := some 16) (v := ?_) (a' := ?_) #[true, true, true, true, true, true, true, true, true, true, true, true, true, true, true, true, true, true, true, true, true, true, true, true, true, true, true, true, true, true, true, true, true, true, true, true, true, true, true, true, true, true, true, true, true, true, true, true] rfl rfl (any_of HT_.out (by kernel_rfl)) (fun _ _ _ h => h) (Or.inl ⟨by rfl, ?_⟩) ?_ ?_
      rotate_left
      · intro w'
        go_simp
        with_reducible rfl
      rotate_left
      · simp only [Act.put, List.setIfInBounds_toArray, List.set_cons_zero, List.set_cons_succ]
        rfl
      refine done_ (done_of HT_.out (by kernel_rfl)) ?_
      have BZ := Aside0.mk (HBi.out.trans (hHeld.mono HBi.out.size))
      clear hHeld
      go_wp2_with fail
      go_ret
      exact ⟨rfl, BZ.out⟩
end Go.Proofs.Ythahhjkokdillaa
