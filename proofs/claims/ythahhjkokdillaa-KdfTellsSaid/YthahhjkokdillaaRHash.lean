/-
  The document's Hash (strongroomref6), walked: it reckons what kdf.Hash reckons.
-/
import Derived.Test.YthahhjkokdillaaRef1
import Derived.Test.YthahhjkokdillaaHash
import Derived.Test.YthahhjkokdillaaRSha
import Derived.Test.YthahhjkokdillaaWTab
namespace Go.Proofs.Ythahhjkokdillaa.Wire
open Go.RowKit Go.Proofs.YthahhjkokdillaaW.PrintWords Go.Proofs.YthahhjkokdillaaW.PrintLast Go.Proofs.YthahhjkokdillaaW.PrintMore Go.Proofs.Ythahhjkokdillaa.Arr Go.Proofs.Ythahhjkokdillaa.Bits
set_option linter.unusedVariables false
theorem hC_nil (w : World) : (Kd.int .u8).C w none ([] : List Int).length [] :=
  Kd.C_of_reads (enc := Value.int .u8) (d := (0 : Int)) (h1 := fun _ => rfl) ⟨rfl, by simp, fun h => by simp at h⟩
theorem rText0_calls (w : World) (s : ByteArray) (hs : s.size ≤ 2000000) :
    Calls Try.prog 47 #[.slice none 0 0, .string s] w fun e w' => ∃ v, e = .returned v ∧ (Kd.int .u8).R 5 w' w.heap.size (fun _ => True) v (textF (bytesOf s)) ∧ Below w.heap.size w w' := rText_calls none 0 [] s (hC_nil w) (by decide) hs
set_option maxHeartbeats 8000000
set_option maxRecDepth 100000
theorem text_n {l : List Int} {A : Option Addr} {c : Nat} {s : ByteArray} {w : World} {Q : Ending → World → Prop} (h : Calls Try.prog 47 #[.slice A l.length c, .string s] w Q) (n : Nat) (hn : n = l.length) : Calls Try.prog 47 #[.slice A n c, .string s] w Q := by rw [hn]; exact h
theorem mp_n {l k : List Int} {A B : Option Addr} {c d : Nat} {w : World} {Q : Ending → World → Prop} (h : Calls Try.prog 48 #[.slice A l.length c, .slice B k.length d] w Q) (n : Nat) (hn : n = l.length) : Calls Try.prog 48 #[.slice A n c, .slice B k.length d] w Q := by rw [hn]; exact h
theorem sum_n {l : List Int} {A : Option Addr} {c : Nat} {w : World} {Q : Ending → World → Prop} (h : Calls Try.prog 28 #[.slice A l.length c] w Q) (n : Nat) (hn : n = l.length) : Calls Try.prog 28 #[.slice A n c] w Q := by rw [hn]; exact h
theorem rHash_calls (vc vs : ByteArray) (A0 : Option Addr) (c0 : Nat) (x0 : List Int) (A1 : Option Addr) (c1 : Nat) (x1 : List Int) (A2 : Option Addr) (c2 : Nat) (x2 : List Int) (A3 : Option Addr) (c3 : Nat) (x3 : List Int) (A4 : Option Addr) (c4 : Nat) (x4 : List Int) (Ak : Option Addr) (ck : Nat) (k : List Int) (w : World) (hv : vc.size ≤ 50000) (hs : vs.size ≤ 50000) (hr0 : (Kd.int .u8).C w A0 x0.length x0) (hb0 : Bytes x0) (hl0 : x0.length ≤ 1000) (hr1 : (Kd.int .u8).C w A1 x1.length x1) (hb1 : Bytes x1) (hl1 : x1.length ≤ 1000) (hr2 : (Kd.int .u8).C w A2 x2.length x2) (hb2 : Bytes x2) (hl2 : x2.length ≤ 1000) (hr3 : (Kd.int .u8).C w A3 x3.length x3) (hb3 : Bytes x3) (hl3 : x3.length ≤ 1000) (hr4 : (Kd.int .u8).C w A4 x4.length x4) (hb4 : Bytes x4) (hl4 : x4.length ≤ 1000) (hrk : (Kd.int .u8).C w Ak k.length k) (hck : k.length ≤ ck) (hbk : Bytes k) (hlk : k.length ≤ 1000) :
    Calls Try.prog 32 #[(.agg #[.string vc, .string vs, .slice A0 x0.length c0, .slice A1 x1.length c1, .slice A2 x2.length c2, .slice A3 x3.length c3, .slice A4 x4.length c4]), .slice Ak k.length ck] w fun e w' => ∃ v, e = .returned v ∧ (Kd.int .u8).R 5 w' w.heap.size (fun _ => True) v (Sha.shaF (hashB (bytesOf vc) (bytesOf vs) [x0, x1, x2, x3, x4] k)) ∧ Below w.heap.size w w' := by
  have D0 := Aside0.mk (And.intro hr0 (And.intro hb0 hl0))
  have D1 := Aside0.mk (And.intro hr1 (And.intro hb1 hl1))
  have D2 := Aside0.mk (And.intro hr2 (And.intro hb2 hl2))
  have D3 := Aside0.mk (And.intro hr3 (And.intro hb3 hl3))
  have D4 := Aside0.mk (And.intro hr4 (And.intro hb4 hl4))
  have DK := Aside0.mk (And.intro hrk (And.intro hck (And.intro hbk hlk)))
  have HV := Aside0.mk (And.intro hv hs)
  clear hr0 hb0 hl0 hr1 hb1 hl1 hr2 hb2 hl2 hr3 hb3 hl3 hr4 hb4 hl4 hrk hck hbk hlk hv hs
  go_enter Try.func32, Try.ntmps32
  go_upto_region 1 with (fail)
  change Code.wp _ _ _ _ (w.alloc (.cells #[.string vc, .string vs, .slice A0 x0.length c0, .slice A1 x1.length c1, .slice A2 x2.length c2, .slice A3 x3.length c3, .slice A4 x4.length c4] 48))
  obtain ⟨bT, hbT⟩ : ∃ b, b = w.heap.size := ⟨_, rfl⟩
  have ht := heap_alloc_new w (.cells #[.string vc, .string vs, .slice A0 x0.length c0, .slice A1 x1.length c1, .slice A2 x2.length c2, .slice A3 x3.length c3, .slice A4 x4.length c4] 48)
  have bx : Below w.heap.size w (w.alloc (.cells #[.string vc, .string vs, .slice A0 x0.length c0, .slice A1 x1.length c1, .slice A2 x2.length c2, .slice A3 x3.length c3, .slice A4 x4.length c4] 48)) := (Below.refl _ _).alloc (Nat.le_refl _) _
  generalize w.alloc (.cells #[.string vc, .string vs, .slice A0 x0.length c0, .slice A1 x1.length c1, .slice A2 x2.length c2, .slice A3 x3.length c3, .slice A4 x4.length c4] 48) = w0 at ht bx ⊢
  rw [← hbT] at ht ⊢
  have T0 := Aside0.mk (show w0.heap[bT]? = some (.cells #[.string vc, .string vs, .slice A0 x0.length c0, .slice A1 x1.length c1, .slice A2 x2.length c2, .slice A3 x3.length c3, .slice A4 x4.length c4] 48 (0, 0)) from ht)
  have B0 := Aside0.mk bx
  have GT := Aside0.mk (show bT < w0.heap.size from (Array.getElem?_eq_some_iff.1 ht).1)
  have QL := Aside0.mk (fun (w' : World) (h : Below w0.heap.size w0 w') => show w'.cell? ⟨bT, 0, none⟩ = some (.string vc) ∧ w'.cell? ⟨bT, 1, none⟩ = some (.string vs) from by
    have h1 := (h.block bT GT.out).trans T0.out
    unfold World.cell?
    simp only [h1]
    exact ⟨rfl, rfl⟩)
  clear ht bx hbT
  refine start_ (n := 7) (S := fun w' => Below w0.heap.size w0 w') (ds := []) #[false, false, false, false, false, false, false] (by kernel_rfl) rfl rfl (below_drew1 (Below.refl _ _)) (fun hHeld => ?_)
  refine pure_ (i := 0) (N := some 8) (v := ?_) (a' := ?_) #[true, false, false, false, false, false, false] rfl rfl (by kernel_rfl) (fun _ _ _ h => h) (Or.inl ⟨by rfl, ?_⟩) ?_ ?_
  rotate_left
  · intro w'
    go_simp
    with_reducible rfl
  rotate_left
  · simp only [Act.put, List.setIfInBounds_toArray, List.set_cons_zero, List.set_cons_succ]
    rfl
  refine pure_ (i := 3) (N := some 11) (v := ?_) (a' := ?_) #[true, false, false, true, false, false, false] rfl rfl (by kernel_rfl) (fun _ _ _ h => h) (Or.inl ⟨by rfl, ?_⟩) ?_ ?_
  rotate_left
  · intro w'
    go_simp
    with_reducible rfl
  rotate_left
  · simp only [Act.put, List.setIfInBounds_toArray, List.set_cons_zero, List.set_cons_succ]
    rfl
  refine take_ (i := 1) (N := some 9) (v := ?_) (a' := ?_) #[true, true, false, true, false, false, false] rfl rfl (by kernel_rfl) (fun _ _ _ h => h) (Or.inl ⟨by rfl, ?_⟩) hHeld ?_ ?_
  rotate_left
  · intro w' s0
    have q0_ := QL.out w' s0
    go_simp
    with_reducible rfl
  rotate_left
  · simp only [Act.put, List.setIfInBounds_toArray, List.set_cons_zero, List.set_cons_succ]
    rfl
  refine take_ (i := 4) (N := some 12) (v := ?_) (a' := ?_) #[true, true, false, true, true, false, false] rfl rfl (by kernel_rfl) (fun _ _ _ h => h) (Or.inl ⟨by rfl, ?_⟩) hHeld ?_ ?_
  rotate_left
  · intro w' s0
    have q0_ := QL.out w' s0
    go_simp
    with_reducible rfl
  rotate_left
  · simp only [Act.put, List.setIfInBounds_toArray, List.set_cons_zero, List.set_cons_succ]
    rfl
  refine one_ (i := 2) (N := some 10) #[true, true, true, true, true, false, false] rfl rfl (by kernel_rfl) (by decide) (fun K hK => ?_)
  refine goes_ Try.func47 (by kernel_rfl) rfl #[.slice none 0 0, .string vc] (by rfl) rfl rfl (by simp only [List.map_toArray, List.map_cons, List.map_nil]; rfl) ?_
  with_reducible refine (rText0_calls _ vc (Nat.le_trans HV.out.1 (by decide))).mono ?_
  rintro e wa ⟨va, rfl, hRa, hBa⟩
  refine ⟨_, rfl, ?_⟩
  obtain ⟨Aa, ca, hva, h1_, hCa⟩ := Kd.R_reads hRa
  obtain ⟨na, hna⟩ : ∃ n, n = (textF (bytesOf vc)).length := ⟨_, rfl⟩
  rw [← hna] at hva
  subst hva
  have CAa := Aside0.mk (And.intro hCa hna)
  have hba := below_step hHeld hBa
  clear hRa hBa h1_ hCa hna
  refine hK.out _ _ (hba) (fun hHeld => ?_)
  clear hK K
  refine norm_ (a' := ?_) ?_ ?_
  rotate_left
  · show Act.put _ (some 10) _ = _
    simp only [Act.put, List.setIfInBounds_toArray, List.set_cons_zero, List.set_cons_succ]
    rfl
  refine one_ (i := 5) (N := some 13) #[true, true, true, true, true, true, false] rfl rfl (by kernel_rfl) (by decide) (fun K hK => ?_)
  refine goes_ Try.func47 (by kernel_rfl) rfl #[.slice Aa na ca, .string vs] (by rfl) rfl rfl (by simp only [List.map_toArray, List.map_cons, List.map_nil]; rfl) ?_
  with_reducible refine (text_n (rText_calls Aa ca (textF (bytesOf vc)) vs CAa.out.1 (by rw [len_textF, bytesOf_length]; have := HV.out.1; omega) (Nat.le_trans HV.out.2 (by decide))) na CAa.out.2).mono ?_
  rintro e wb ⟨vb, rfl, hRb, hBb⟩
  refine ⟨_, rfl, ?_⟩
  obtain ⟨Ab, cb, hvb, h1_, hCb⟩ := Kd.R_reads hRb
  obtain ⟨nb, hnb⟩ : ∃ n, n = (textF (bytesOf vc) ++ textF (bytesOf vs)).length := ⟨_, rfl⟩
  rw [← hnb] at hvb
  subst hvb
  have CBb := Aside0.mk (And.intro hCb hnb)
  have hbb := below_step hHeld hBb
  clear hRb hBb h1_ hCb hnb
  refine hK.out _ _ (hbb) (fun hHeld => ?_)
  clear hK K
  refine norm_ (a' := ?_) ?_ ?_
  rotate_left
  · show Act.put _ (some 13) _ = _
    simp only [Act.put, List.setIfInBounds_toArray, List.set_cons_zero, List.set_cons_succ]
    rfl
  refine pure_ (i := 6) (N := some 5) (v := ?_) (a' := ?_) #[true, true, true, true, true, true, true] rfl rfl (by kernel_rfl) (fun _ _ _ h => h) (Or.inl ⟨by rfl, ?_⟩) ?_ ?_
  rotate_left
  · intro w'
    go_simp
    with_reducible rfl
  rotate_left
  · simp only [Act.put, List.setIfInBounds_toArray, List.set_cons_zero, List.set_cons_succ]
    rfl
  refine done_ (by kernel_rfl) ?_
  have B1 := Aside0.mk (B0.out.trans (hHeld.mono B0.out.size))
  have T1 := Aside0.mk ((hHeld.block bT GT.out).trans T0.out)
  clear hHeld QL
  have q0 : wb.cell? ⟨bT, 2, none⟩ = some (.slice A0 x0.length c0) := by unfold World.cell?; simp only [T1.out]; rfl
  have q1 : wb.cell? ⟨bT, 3, none⟩ = some (.slice A1 x1.length c1) := by unfold World.cell?; simp only [T1.out]; rfl
  have q2 : wb.cell? ⟨bT, 4, none⟩ = some (.slice A2 x2.length c2) := by unfold World.cell?; simp only [T1.out]; rfl
  have q3 : wb.cell? ⟨bT, 5, none⟩ = some (.slice A3 x3.length c3) := by unfold World.cell?; simp only [T1.out]; rfl
  have q4 : wb.cell? ⟨bT, 6, none⟩ = some (.slice A4 x4.length c4) := by unfold World.cell?; simp only [T1.out]; rfl
  go_wp2_with fail
  obtain ⟨Tx, hTx⟩ : ∃ f : Nat → List Int, f = fun i => textsF ([bytesOf vc, bytesOf vs, x0, x1, x2, x3, x4].take (i + 2)) := ⟨_, rfl⟩
  have X0 := Aside0.mk (show textF (bytesOf vc) ++ textF (bytesOf vs) = Tx 0 by rw [hTx]; simp [textsF])
  have X5 := Aside0.mk (show Tx 5 = textsF [bytesOf vc, bytesOf vs, x0, x1, x2, x3, x4] by rw [hTx]; rfl)
  have XZ := Aside0.mk (show (Tx 0).length ≤ 100008 by rw [← X0.out, List.length_append, len_textF, len_textF, bytesOf_length, bytesOf_length]; have := HV.out.1; have := HV.out.2; omega)
  change Code.wp _ _ _ _ (wb.alloc (.cells #[.slice A0 x0.length c0, .slice A1 x1.length c1, .slice A2 x2.length c2, .slice A3 x3.length c3, .slice A4 x4.length c4] 22))
  have hl := heap_alloc_new wb (.cells #[.slice A0 x0.length c0, .slice A1 x1.length c1, .slice A2 x2.length c2, .slice A3 x3.length c3, .slice A4 x4.length c4] 22)
  have bl : Below wb.heap.size wb (wb.alloc (.cells #[.slice A0 x0.length c0, .slice A1 x1.length c1, .slice A2 x2.length c2, .slice A3 x3.length c3, .slice A4 x4.length c4] 22)) := (Below.refl _ _).alloc (Nat.le_refl _) _
  generalize wb.alloc (.cells #[.slice A0 x0.length c0, .slice A1 x1.length c1, .slice A2 x2.length c2, .slice A3 x3.length c3, .slice A4 x4.length c4] 22) = w2 at hl bl ⊢
  obtain ⟨bL, hbL⟩ : ∃ b, b = wb.heap.size := ⟨_, rfl⟩
  rw [← hbL] at hl ⊢
  have NL := Aside0.mk (Array.getElem?_eq_some_iff.1 hl).1
  have B2 := Aside0.mk (below_step B1.out bl)
  have CC := Aside0.mk (And.intro (Kd.C_below CBb.out.1 bl) (CBb.out.2.trans (congrArg List.length X0.out)))
  have ST := Aside0.mk (show ∀ (i : Nat), i < 5 → ∀ w', Below w2.heap.size w2 w' → ∃ A c x, w'.cell? ⟨bL, i, none⟩ = some (.slice A (List.length x) c) ∧ (Kd.int .u8).C w A x.length x ∧ Bytes x ∧ x.length ≤ 1000 ∧ Tx (i + 1) = Tx i ++ textF x from by
    intro i hi w' hb'
    have h1 := (hb'.block bL NL.out).trans hl
    have hs : ∀ (j : Nat) (hj : j < 7), textsF ([bytesOf vc, bytesOf vs, x0, x1, x2, x3, x4].take (j + 1)) = textsF ([bytesOf vc, bytesOf vs, x0, x1, x2, x3, x4].take j) ++ textF [bytesOf vc, bytesOf vs, x0, x1, x2, x3, x4][j] := fun j hj => textsF_step [bytesOf vc, bytesOf vs, x0, x1, x2, x3, x4] j hj
    unfold World.cell?
    simp only [h1, hTx]
    rcases i with _ | _ | _ | _ | _ | i
    · exact ⟨A0, c0, x0, rfl, D0.out.1, D0.out.2.1, D0.out.2.2, hs 2 (by decide)⟩
    · exact ⟨A1, c1, x1, rfl, D1.out.1, D1.out.2.1, D1.out.2.2, hs 3 (by decide)⟩
    · exact ⟨A2, c2, x2, rfl, D2.out.1, D2.out.2.1, D2.out.2.2, hs 4 (by decide)⟩
    · exact ⟨A3, c3, x3, rfl, D3.out.1, D3.out.2.1, D3.out.2.2, hs 5 (by decide)⟩
    · exact ⟨A4, c4, x4, rfl, D4.out.1, D4.out.2.1, D4.out.2.2, hs 6 (by decide)⟩
    · omega)
  have GL := Aside0.mk (show w.heap.size ≤ w2.heap.size from B2.out.size)
  rw [X0.out] at CC
  clear hTx hl bl hbL q0 q1 q2 q3 q4 T1 B1 CBb X0
  go_loopw [5, 26] (fun u v w' => ∃ i : Nat, i ≤ 5 ∧ v = .int .i64 (i : Int) ∧ ∃ A n c, u = .slice A n c ∧ Aside0 ((Kd.int .u8).C w' A (Tx i).length (Tx i) ∧ n = (Tx i).length) ∧ Aside0 (Below w2.heap.size w2 w') ∧ Aside0 ((Tx i).length ≤ 100008 + i * 1004)) (fun _ v _ => 5 - (intOf v).toNat)
  case atStart => exact ⟨0, by omega, rfl, _, _, _, rfl, CC, ⟨Below.refl _ _⟩, ⟨by have := XZ.out; omega⟩⟩
  case round =>
    obtain ⟨i, hi, rfl, A, n, c, rfl, HC, HB, HX⟩ := hrel
    by_cases h5 : i < 5
    · have i0 : (i : Int) < 5 := by omega
      obtain ⟨Ax, cx, x, hcell, hCx, hBx, hlx, hTs⟩ := ST.out i h5 _ HB.out
      obtain ⟨m, hm⟩ : ∃ m, m = x.length := ⟨_, rfl⟩
      have z := Kd.C_string (P := Try.prog) (c := cx) Try.underlying22 Try.underlying5 Try.underlying9 (Kd.C_below (Kd.C_below hCx B2.out) HB.out)
      have TC := Aside0.mk (text_n (rText_calls A c (Tx i) (strOfNums x) HC.out.1 (by have := HX.out; omega) (by rw [strOfNums_size]; omega)) n HC.out.2)
      have HS := Aside0.mk (And.intro h5 (And.intro hBx (And.intro hlx hTs)))
      rw [← hm] at hcell z
      clear hm hCx hBx hlx hTs h5 hi
      go_wp2_with fail
      refine TC.out.mono ?_
      rintro e w3 ⟨v3, rfl, hR, hB⟩
      rw [bytesOf_str _ HS.out.2.1, ← HS.out.2.2.2] at hR
      obtain ⟨A', c', hv3, hc3, hC3⟩ := Kd.R_reads hR
      obtain ⟨n', hn'⟩ : ∃ n, n = (Tx (i + 1)).length := ⟨_, rfl⟩
      rw [← hn'] at hv3
      subst hv3
      have C3 := Aside0.mk (And.intro hC3 hn')
      have B3 := Aside0.mk (below_step HB.out hB)
      have L3 := Aside0.mk (show (Tx (i + 1)).length ≤ 100008 + (i + 1) * 1004 by rw [HS.out.2.2.2, List.length_append, len_textF]; have := HX.out; have := HS.out.2.2.1; omega)
      clear hR hB hc3 hC3 hn' z hcell
      go_wp2_with fail
      refine ⟨⟨i + 1, HS.out.1, congrArg (Value.int .i64) rfl, _, _, _, rfl, C3, B3, L3⟩, ?_⟩
      have := HS.out.1
      simp only [intOf]
      omega
    · obtain rfl : i = 5 := by omega
      rw [show ((5 : Nat) : Int) = 5 from rfl]
      have B5 := Aside0.mk (B2.out.trans (HB.out.mono GL.out))
      have MC := Aside0.mk (mp_n (rMpint_calls A c (Tx 5) Ak ck k HC.out.1 (by have := HX.out; omega) (Kd.C_below DK.out.1 B5.out) DK.out.2.1 (Nat.le_trans DK.out.2.2.2 (by decide)) DK.out.2.2.1) n HC.out.2)
      clear h5 hi
      go_wp2_with fail
      refine MC.out.mono ?_
      rintro e w3 ⟨v3, rfl, hR, hB⟩
      obtain ⟨ys, hys⟩ : ∃ y, y = Tx 5 ++ textF (mpS k) := ⟨_, rfl⟩
      rw [← hys] at hR
      have HY := Aside0.mk (And.intro hys (show ys.length ≤ 500000 by rw [hys, List.length_append, len_textF]; have := HX.out; have := len_mpS k; have := DK.out.2.2.2; omega))
      obtain ⟨A', c', hv3, hc3, hC3⟩ := Kd.R_reads hR
      obtain ⟨n', hn'⟩ : ∃ n, n = ys.length := ⟨_, rfl⟩
      rw [← hn'] at hv3 hc3
      subst hv3
      have C3 := Aside0.mk (And.intro hC3 (And.intro hn' hc3))
      have B3 := Aside0.mk (below_step B5.out hB)
      clear hR hB hc3 hC3 hn' hys
      go_wp2_with fail
      refine (sum_n (Sha.refSum_calls A' c' ys w3 C3.out.1 (by rw [← C3.out.2.1]; exact C3.out.2.2) (Nat.le_trans HY.out.2 (by decide))) n' C3.out.2.1).mono ?_
      rintro e w5 ⟨v5, rfl, hR, hB⟩
      have R5 := Aside0.mk hR
      have B6 := Aside0.mk (below_step B3.out hB)
      clear hR hB
      go_wp2_with fail
      go_ret
      refine ⟨_, rfl, ?_, B6.out⟩
      have h := R5.out
      rw [HY.out.1, X5.out] at h
      exact Kd.R_lower h B3.out.size
end Go.Proofs.Ythahhjkokdillaa.Wire
