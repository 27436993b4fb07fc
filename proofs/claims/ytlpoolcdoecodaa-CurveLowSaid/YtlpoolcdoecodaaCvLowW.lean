/-
  CurveLow, walked.
-/
import Derived.Test.YtlpoolcdoecodaaCvLow
import Derived.Test.YtlpoolcdoecodaaCvK
import Derived.Test.YtlpoolcdoecodaaSized
import Derived.Test.YtlpoolcdoecodaaWZeros
import Derived.Test.YtlpoolcdoecodaaWTab
namespace Go.Proofs.Ytlpoolcdoecodaa
open Go.RowKit Go.Proofs.YtlpoolcdoecodaaW.PrintWords Go.Proofs.YtlpoolcdoecodaaW.PrintLast Go.Proofs.YtlpoolcdoecodaaW.PrintMore Go.Proofs.Ytlpoolcdoecodaa.Arr Go.Proofs.Ytlpoolcdoecodaa.Cv
set_option linter.unusedVariables false
set_option maxHeartbeats 8000000
set_option maxRecDepth 100000
theorem sized_bytesL (b : List Int) (n : Nat) (h : ∀ x ∈ b, 0 ≤ x ∧ x < 256) : ∀ x ∈ sizedF b n, 0 ≤ x ∧ x < 256 := by
  intro x hx
  unfold sizedF at hx
  obtain ⟨i, _, rfl⟩ := List.mem_map.1 hx
  split
  · exact ⟨by decide, by decide⟩
  · unfold rd
    rw [List.getD_eq_getElem?_getD]
    rcases hj : b[(((i % b.length : Nat) : Int)).toNat]? with _ | y
    · exact ⟨by decide, by decide⟩
    · exact h y (List.mem_of_getElem? hj)
def ff30 : List Int := List.replicate 30 255
theorem sized_ff : strongroomkeep_Sized.f [255] 30 = some ff30 := by rw [show (30 : Int) = ((30 : Nat) : Int) from rfl, sized_some [255] 30 (by decide) (by decide)]; decide +kernel
/-- A first byte, thirty of 255, and 127. -/
def nearL (n : Int) : List Int := [n] ++ ff30 ++ [127]
def fewL (n : Int) : List Int := [n] ++ List.replicate 31 0
theorem val_few (n : Int) (h0 : 0 ≤ n) (h1 : n < 19) : val (unpF (fewL n)) = n := by
  have key : ∀ k : Fin 19, val (unpF (fewL ((k.val : Nat) : Int))) = ((k.val : Nat) : Int) := by decide +kernel
  obtain ⟨m, rfl⟩ := Int.eq_ofNat_of_zero_le h0
  exact key ⟨m, by omega⟩
theorem val_near (n : Int) (h0 : 0 ≤ n) (h1 : n < 19) : val (unpF (nearL (237 + n))) = P + n := by
  have key : ∀ k : Fin 19, val (unpF (nearL (237 + ((k.val : Nat) : Int)))) = P + ((k.val : Nat) : Int) := by decide +kernel
  obtain ⟨m, rfl⟩ := Int.eq_ofNat_of_zero_le h0
  exact key ⟨m, by omega⟩
theorem val_last : val (unpF (nearL 236)) = P - 1 := by decide +kernel
theorem few_bytes (n : Int) (h0 : 0 ≤ n) (h1 : n < 256) : ∀ x ∈ fewL n, 0 ≤ x ∧ x < 256 := by
  intro x hx
  unfold fewL at hx
  rcases List.mem_append.1 hx with h | h
  · rw [List.mem_singleton.1 h]; exact ⟨h0, h1⟩
  · rw [List.eq_of_mem_replicate h]; decide
theorem near_bytes (n : Int) (h0 : 0 ≤ n) (h1 : n < 256) : ∀ x ∈ nearL n, 0 ≤ x ∧ x < 256 := by
  intro x hx
  unfold nearL ff30 at hx
  rcases List.mem_append.1 hx with h | h
  · rcases List.mem_append.1 h with h | h
    · rw [List.mem_singleton.1 h]; exact ⟨h0, h1⟩
    · rw [List.eq_of_mem_replicate h]; decide
  · rw [List.mem_singleton.1 h]; decide
theorem none_bytes : ∀ x ∈ noneL, 0 ≤ x ∧ x < 256 := by decide
theorem u8w (x : Int) : IntKind.u8.wrap x = x % 256 := by simp [IntKind.wrap, IntKind.bits, IntKind.signed]
theorem mul32 (A0 : Option Addr) (c0 : Nat) (s : List Int) (A1 : Option Addr) (c1 : Nat) (p : List Int) (w : World) (hs : s.length = 32) (hp : p.length = 32) (hbs : ∀ x ∈ s, 0 ≤ x ∧ x < 256) (hbp : ∀ x ∈ p, 0 ≤ x ∧ x < 256)
    (hC0 : (Kd.int .u8).C w A0 32 s) (hc0 : 32 ≤ c0) (hC1 : (Kd.int .u8).C w A1 32 p) (hc1 : 32 ≤ c1) :
    Calls Try.prog 8 #[.slice A0 32 c0, .slice A1 32 c1] w fun e w' => ∃ A c, e = .returned (.tuple #[.slice A 32 c, .int .i64 0]) ∧ (Kd.int .u8).C w' A 32 (curveF s p) ∧ Below w.heap.size w w' := by
  have h := mul_calls A0 c0 s A1 c1 p w hbs hbp (by rw [hs]; exact hC0) (by rw [hs]; exact hc0) (by rw [hp]; exact hC1) (by rw [hp]; exact hc1)
  rw [hs, hp, show mulE s p = 0 from if_pos ⟨hs, hp⟩, show mulV s p = curveF s p from if_pos ⟨hs, hp⟩] at h
  refine h.mono ?_
  rintro e w' ⟨v, rfl, hR, hB⟩
  obtain ⟨A, c, rfl, _, hC⟩ := Kd.R_reads hR
  have hl : (curveF s p).length = 32 := len_curveF s p hbp
  rw [hl] at hC ⊢
  exact ⟨A, c, rfl, hC, hB⟩
theorem curveLow_calls (A1 : Option Addr) (c1 : Nat) (l1 : List Int) (a2 : Int) (w : World) (hr1 : Kd.C (Kd.int .u8) w A1 l1.length l1) (hc1 : l1.length ≤ c1) (hm1 : l1.length ≤ 9223372036854775807) (hb1 : ∀ x ∈ l1, 0 ≤ x ∧ x < 256) (ha2 : 0 ≤ a2 ∧ a2 < 256) :
    Calls Try.prog 7 #[.slice A1 l1.length c1, .int .u8 a2] w fun e w' => e = .returned (.bool true) ∧ Below w.heap.size w w' := by
  have f1 := Aside0.mk (show strongroomkeep_Sized.f l1 32 = some (sizedF l1 32) from sized_some l1 32 (by decide) hm1)
  have K1 := Aside0.mk (And.intro hr1 hc1)
  obtain ⟨a, ha⟩ : ∃ a, a = sizedF l1 32 := ⟨_, rfl⟩
  have LA := Aside0.mk (show a.length = 32 by rw [ha, len_sizedF])
  have BA := Aside0.mk (show ∀ x ∈ a, 0 ≤ x ∧ x < 256 by rw [ha]; exact sized_bytesL l1 32 hb1)
  have A0 := Aside0.mk (show 0 ≤ a.getD 0 0 by
    rw [List.getD_eq_getElem?_getD]
    rcases hj : a[0]? with _ | y
    · simp
    · simpa using (BA.out y (List.mem_of_getElem? hj)).1)
  have HA2 := Aside0.mk ha2
  have HAA := Aside0.mk ha
  clear hr1 hc1 hm1 hb1 ha ha2
  go_enter Try.func7, Try.ntmps7
  go_wp2_with fail
  refine (strongroomkeep_Sized.calls A1 c1 l1 32 _ w K1.out.1 K1.out.2 f1.out).mono ?_
  rintro e w1 ⟨v1, rfl, hR, hB⟩
  rw [← HAA.out] at hR
  obtain ⟨Aa, ca, rfl, hca, hCa⟩ := Kd.R_reads hR
  rw [LA.out] at hca hCa ⊢
  have CA := Aside0.mk (And.intro hCa hca)
  have B1 := Aside0.mk hB
  clear hR hB hca hCa K1 f1
  have e32 : madeCells #[.int .u8 0] 32 = (nums .u8 noneL).toArray := by kernel_rfl
  have hmk : ∀ W : World, (Instr.makeSlice 22 (.int .i64 32) (.int .i64 32)).run Try.prog W = .ok (.slice (some ⟨W.heap.size, 0, none⟩) 32 32) (W.alloc (.cells (nums .u8 noneL).toArray 5)) := fun W => by
    have h := run_make_row' (P := Try.prog) 22 5 (.int .u8 0) 1 Try.underlying22 info_u8 rfl .i64 .i64 32 (by decide) (by decide) W
    rw [e32] at h
    exact h
  have HMK := Aside0.mk hmk
  clear e32
  obtain ⟨ns, hns⟩ : ∃ s, s = strOfNums noneL := ⟨_, rfl⟩
  have q0 : (convert 22 9 (.slice (some ⟨w1.heap.size, 0, none⟩) 32 32)).run Try.prog (w1.alloc (.cells (nums .u8 noneL).toArray 5)) = .ok (.string ns) (w1.alloc (.cells (nums .u8 noneL).toArray 5)) := by
    rw [hns]
    exact Kd.C_string (P := Try.prog) (c := 32) Try.underlying22 Try.underlying5 Try.underlying9 (C_of_is8 (new_is w1 5 .u8 noneL) (by decide))
  have HNS := Aside0.mk hns
  clear hns
  go_upto_region 3 with (fail)
  change Code.wp _ _ _ _ (w1.alloc (.cells (nums .u8 noneL).toArray 5))
  have B2 := Aside0.mk (show Below w.heap.size w (w1.alloc (.cells (nums .u8 noneL).toArray 5)) from B1.out.alloc B1.out.size _)
  have CA2 := Aside0.mk (And.intro (Kd.C_below CA.out.1 (show Below w1.heap.size w1 (w1.alloc (.cells (nums .u8 noneL).toArray 5)) from (Below.refl _ _).alloc (Nat.le_refl _) _)) CA.out.2)
  generalize w1.alloc (.cells (nums .u8 noneL).toArray 5) = w2 at B2 CA2 ⊢
  clear hmk q0 CA B1
  have i1 : (Kd.int .u8).R 5 (w2.alloc (.cells (nums .u8 [236]).toArray 5)) w2.heap.size (fun _ => True) (.slice (some ⟨w2.heap.size, 0, none⟩) 1 1) [236] := lit_R w2 w2.heap.size w2.heap.size 5 .u8 [236] 1 rfl (Nat.le_refl _) rfl (by decide)
  have b1 : Below w2.heap.size w2 (w2.alloc (.cells (nums .u8 [236]).toArray 5)) := (Below.refl _ _).alloc (Nat.le_refl _) _
  have i2 : (Kd.int .u8).C ((w2.alloc (.cells (nums .u8 [236]).toArray 5)).alloc (.cells (nums .u8 [255]).toArray 5)) (some ⟨(w2.alloc (.cells (nums .u8 [236]).toArray 5)).heap.size, 0, none⟩) 1 [255] := lit_C _ 5 .u8 [255] (0, 0) 1 rfl (by decide)
  have b2 : Below (w2.alloc (.cells (nums .u8 [236]).toArray 5)).heap.size (w2.alloc (.cells (nums .u8 [236]).toArray 5)) ((w2.alloc (.cells (nums .u8 [236]).toArray 5)).alloc (.cells (nums .u8 [255]).toArray 5)) := (Below.refl _ _).alloc (Nat.le_refl _) _
  have j1 := Kd.R_below i1 b2
  have bb := below_step b1 b2
  rw [World.size_alloc] at i2
  have RJ := Aside0.mk j1
  have CJ := Aside0.mk i2
  have BJ := Aside0.mk (below_step B2.out bb)
  have BK := Aside0.mk bb
  clear i1 b1 i2 b2 j1 bb
  go_wp2_with fail
  change Calls _ _ _ ((w2.alloc (.cells (nums .u8 [236]).toArray 5)).alloc (.cells (nums .u8 [255]).toArray 5)) _
  refine (strongroomkeep_Sized.calls (some ⟨w2.heap.size + 1, 0, none⟩) 1 [255] 30 _ _ CJ.out (Nat.le_refl _) sized_ff).mono ?_
  rintro e w3 ⟨vs, rfl, hR, hB⟩
  obtain ⟨Av, cv, rfl, hcv, hCv⟩ := Kd.R_reads hR
  rw [show ff30.length = 30 from rfl] at hcv hCv ⊢
  have CV := Aside0.mk (And.intro hCv hcv)
  have R3 := Aside0.mk (Kd.R_below RJ.out hB)
  have N3 := Aside0.mk (below_step BK.out hB)
  have B3 := Aside0.mk (below_step BJ.out hB)
  clear hR hB hcv hCv RJ CJ BJ BK
  go_upto_region 4 with (first | ((with_reducible refine gate_builtin (b := .append) (xs := #[.tmp 22, .tmp 24]) rfl ?_); at_builtin; (refine Kd.R_append_row (w0 := w2) (Value.int .u8) (0 : Int) (h1 := fun _ => rfl) w2.heap.size rfl (.tmp 22) (.tmp 24) 22 5 (.int .u8 0) 1 rfl Try.underlying22 info_u8 rfl Nat.one_pos _ [236] ff30 Av 30 cv (fun _ => True) rfl rfl (fun _ _ => trivial) ?q1 ?q2 ?q3 ?q4 ?q5 ?_; (case q1 => exact R3.out); (case q2 => exact CV.out.1); (case q3 => exact N3.out); (case q4 => exact N3.out.size); (case q5 => simp); intro va wa hR hB _ _; have RA := Aside0.mk (show (Kd.int .u8).R 5 wa w2.heap.size (fun _ => True) va ([236] ++ ff30) from hR); have NA := Aside0.mk hB; clear hR hB)) | ((with_reducible refine gate_builtin (b := .append) (xs := #[.tmp 25, .tmp 26]) rfl ?_); at_builtin; refine lit_append w2.heap.size rfl (.tmp 25) (.tmp 26) 22 5 .u8 1 rfl Try.underlying22 info_u8 Nat.one_pos _ ([236] ++ ff30) [127] 1 ?q1 rfl ?q3 ?q4 ?q5 ?q6 ?_; (case q1 => rfl); (case q3 => rfl); (case q4 => exact RA.out); (case q5 => exact NA.out.size); (case q6 => simp [ff30]); intro vb wb hR1 hB1; have LA3 := Aside0.mk (show (Kd.int .u8).R 5 wb w2.heap.size (fun _ => True) vb (nearL 236) from hR1); have LA3B := Aside0.mk (NA.out.trans hB1); clear hR1 hB1))
  obtain ⟨Al, cl, rfl, hcl, hCl⟩ := Kd.R_reads LA3.out
  rw [show (nearL 236).length = 32 from rfl] at hcl hCl ⊢
  have CL := Aside0.mk (And.intro hCl hcl)
  have BW := Aside0.mk (below_step B2.out LA3B.out)
  have CA3 := Aside0.mk (And.intro (Kd.C_below CA2.out.1 LA3B.out) CA2.out.2)
  clear hcl hCl LA3 LA3B B2 CA2 RA NA R3 N3 CV B3
  change Code.wp _ _ _ _ wb
  refine start_ (n := 7) (S := fun w' => Below wb.heap.size wb w') (ds := []) #[false, false, false, false, false, false, false] (by kernel_rfl) rfl rfl (below_drew1 (Below.refl _ _)) (fun hHeld => ?_)
  refine pure_ (i := 3) (N := some 31) (v := ?_) (a' := ?_) #[false, false, false, true, false, false, false] rfl rfl (by kernel_rfl) (fun _ _ _ h => h) (Or.inl ⟨by rfl, ?_⟩) ?_ ?_
  rotate_left
  · intro w'
    go_simp
    with_reducible rfl
  rotate_left
  · simp only [Act.put, List.setIfInBounds_toArray, List.set_cons_zero, List.set_cons_succ]
    rfl
  refine pure_ (i := 6) (N := some 34) (v := ?_) (a' := ?_) #[false, false, false, true, false, false, true] rfl rfl (by kernel_rfl) (fun _ _ _ h => h) (Or.inl ⟨by rfl, ?_⟩) ?_ ?_
  rotate_left
  · intro w'
    go_simp
    with_reducible rfl
  rotate_left
  · simp only [Act.put, List.setIfInBounds_toArray, List.set_cons_zero, List.set_cons_succ]
    rfl
  refine join_ (σ := Nat × Nat × Value) 2 #[true, true, true, true, false, false, true] (fun s_ => [(28, .slice (some ⟨s_.1, 0, none⟩) 32 32), (29, .slice (some ⟨s_.2.1, 0, none⟩) 1 1), (30, s_.2.2)]) (fun s_ w' => Below wb.heap.size wb w' ∧ Is w' s_.1 5 .u8 noneL ∧ wb.heap.size ≤ s_.1 ∧ (Kd.int .u8).R 5 w' wb.heap.size (fun _ => True) s_.2.2 (fewL 1)) ?_ ?_
  rotate_left
  · intro hJ0_1_2
    refine join_ (σ := Nat × Nat × Value) 3 #[true, true, false, true, false, false, true] (fun s_ => [(28, .slice (some ⟨s_.1, 0, none⟩) 32 32), (29, .slice (some ⟨s_.2.1, 0, none⟩) 1 1)]) (fun s_ w' => Below wb.heap.size wb w' ∧ Is w' s_.1 5 .u8 noneL ∧ wb.heap.size ≤ s_.1 ∧ (Kd.int .u8).R 5 w' wb.heap.size (fun _ => True) (.slice (some ⟨s_.2.1, 0, none⟩) 1 1) [1] ∧ s_.1 ≠ s_.2.1) ?_ ?_
    rotate_left
    · intro hJ0_1
      refine join_ (σ := Nat × Nat × Value) 3 #[false, true, true, true, false, false, true] (fun s_ => [(29, .slice (some ⟨s_.2.1, 0, none⟩) 1 1), (30, s_.2.2)]) (fun s_ w' => Below wb.heap.size wb w' ∧ (Kd.int .u8).R 5 w' wb.heap.size (fun _ => True) s_.2.2 (fewL 1)) ?_ ?_
      rotate_left
      · intro hJ1_2
        refine join_ (σ := Nat × Nat × Value) 4 #[true, false, false, true, false, false, true] (fun s_ => [(28, .slice (some ⟨s_.1, 0, none⟩) 32 32)]) (fun s_ w' => Below wb.heap.size wb w' ∧ Is w' s_.1 5 .u8 noneL ∧ wb.heap.size ≤ s_.1) ?_ ?_
        rotate_left
        · intro hJ0
          refine join_ (σ := Nat × Nat × Value) 4 #[false, true, false, true, false, false, true] (fun s_ => [(29, .slice (some ⟨s_.2.1, 0, none⟩) 1 1)]) (fun s_ w' => Below wb.heap.size wb w' ∧ (Kd.int .u8).R 5 w' wb.heap.size (fun _ => True) (.slice (some ⟨s_.2.1, 0, none⟩) 1 1) [1]) ?_ ?_
          rotate_left
          · intro hJ1
            refine two_ (i := 0) (j := 1) (Ni := some 28) (Nj := some 29) #[true, false, false, true, false, false, true] #[false, true, false, true, false, false, true] rfl rfl rfl rfl (by kernel_rfl) (by decide) (by decide) (fun K hK => ?_) (fun K hK => ?_)
            · skip
              have n_fI0 : Is (wb.drew.alloc (.cells (nums .u8 noneL).toArray 5)) wb.drew.heap.size 5 .u8 noneL := new_is wb.drew 5 .u8 noneL
              have n_fZ0 : wb.heap.size ≤ wb.drew.heap.size := hHeld.size
              have hmk_ := HMK.out
              refine value_ (w1 := ?_) (v := ?_) (by rfl) rfl ?_ ?_
              rotate_left 2
              · go_simp
                constructor
                · rfl
                · rfl
              clear hmk_
              refine hK.out _ _ ((below_alloc hHeld _)) (fun hHeld => ?_)
              clear hK K
              refine norm_ (a' := ?_) ?_ ?_
              rotate_left
              · show Act.put _ (some 28) _ = _
                simp only [Act.put, List.setIfInBounds_toArray, List.set_cons_zero, List.set_cons_succ]
                rfl
              exact norm_ (by first | (simp only [putAll, Act.put, List.setIfInBounds_toArray, List.set_cons_zero, List.set_cons_succ]; done) | (simp only [putAll, Act.put, List.setIfInBounds_toArray, List.set_cons_zero, List.set_cons_succ]; rfl)) (hJ0 (wb.heap.size, 0, (.bool false)) _ ⟨hHeld, n_fI0, n_fZ0⟩)
            · skip
              have n_f1 : (Kd.int .u8).R 5 (wb.drew.alloc (.cells #[.int .u8 1] 5)) wb.heap.size (fun _ => True) (.slice (some ⟨wb.drew.heap.size, 0, none⟩) 1 1) [1] := lit_R wb.drew wb.heap.size wb.drew.heap.size 5 .u8 [1] 1 rfl hHeld.size rfl (by decide)
              refine value_ (w1 := ?_) (v := ?_) (by rfl) rfl ?_ ?_
              rotate_left 2
              · go_simp
                constructor
                · rfl
                · rfl
              refine hK.out _ _ ((below_alloc hHeld _)) (fun hHeld => ?_)
              clear hK K
              refine norm_ (a' := ?_) ?_ ?_
              rotate_left
              · show Act.put _ (some 29) _ = _
                simp only [Act.put, List.setIfInBounds_toArray, List.set_cons_zero, List.set_cons_succ]
                rfl
              exact norm_ (by first | (simp only [putAll, Act.put, List.setIfInBounds_toArray, List.set_cons_zero, List.set_cons_succ]; done) | (simp only [putAll, Act.put, List.setIfInBounds_toArray, List.set_cons_zero, List.set_cons_succ]; rfl)) (hJ1 (0, wb.heap.size, (.bool false)) _ ⟨hHeld, n_f1⟩)
          · skip
            rintro ⟨B0, B1, v2⟩ w9 ⟨hHeld, f1⟩
            refine norm_ (a' := ?_) ?_ ?_
            rotate_left
            · simp only [putAll, Act.put, List.setIfInBounds_toArray, List.set_cons_zero, List.set_cons_succ]
              rfl
            refine two_ (i := 0) (j := 2) (Ni := some 28) (Nj := some 30) #[true, true, false, true, false, false, true] #[false, true, true, true, false, false, true] rfl rfl rfl rfl (by kernel_rfl) (by decide) (by decide) (fun K hK => ?_) (fun K hK => ?_)
            · skip
              have n_fI0 : Is (w9.alloc (.cells (nums .u8 noneL).toArray 5)) w9.heap.size 5 .u8 noneL := new_is w9 5 .u8 noneL
              have n_fZ0 : wb.heap.size ≤ w9.heap.size := hHeld.size
              have n_f1 := Kd.R_below f1 (show Below w9.heap.size w9 (w9.alloc (.cells (nums .u8 noneL).toArray 5)) from (Below.refl _ _).alloc (Nat.le_refl _) _)
              have n_fNE : w9.heap.size ≠ B1 := by have := Kd.R_lt f1 B1 (by simp [Value.ownBlock]); omega
              have hmk_ := HMK.out
              refine value_ (w1 := ?_) (v := ?_) (by rfl) rfl ?_ ?_
              rotate_left 2
              · go_simp
                constructor
                · rfl
                · rfl
              clear hmk_
              refine hK.out _ _ ((below_alloc hHeld _)) (fun hHeld => ?_)
              clear hK K
              refine norm_ (a' := ?_) ?_ ?_
              rotate_left
              · show Act.put _ (some 28) _ = _
                simp only [Act.put, List.setIfInBounds_toArray, List.set_cons_zero, List.set_cons_succ]
                rfl
              exact norm_ (by first | (simp only [putAll, Act.put, List.setIfInBounds_toArray, List.set_cons_zero, List.set_cons_succ]; done) | (simp only [putAll, Act.put, List.setIfInBounds_toArray, List.set_cons_zero, List.set_cons_succ]; rfl)) (hJ0_1 (w9.heap.size, B1, v2) _ ⟨hHeld, n_fI0, n_fZ0, n_f1, n_fNE⟩)
            · skip
              refine Kd.R_append_zeros_step (Kd.int .u8) (w0 := wb) wb.heap.size (by rfl) (.tmp 29) (.const (.int .i64 31)) 22 3 5 (.int .u8 0) 1 rfl Try.underlying22 Try.underlying3 info_u8 rfl (by decide) (by decide) (.slice (some ⟨B1, 0, none⟩) 1 1) [1] 0 31 (fun _ => True) rfl rfl rfl ?aF ?aO ?a0 ?aB ?aS ?aL ?_
              (case aF => exact fun _ _ => trivial)
              (case aO => exact f1)
              (case a0 => decide)
              (case aB => exact hHeld)
              (case aS => exact hHeld.size)
              (case aL => decide)
              intro v3 w3 ho hb hg hat
              have n_f2 : (Kd.int .u8).R 5 w3 wb.heap.size (fun _ => True) v3 (fewL 1) := ho
              have n_hb : Below wb.heap.size wb w3 := hb
              clear ho hb hg hat
              refine hK.out _ _ (n_hb) (fun hHeld => ?_)
              clear hK K
              refine norm_ (a' := ?_) ?_ ?_
              rotate_left
              · show Act.put _ (some 30) _ = _
                simp only [Act.put, List.setIfInBounds_toArray, List.set_cons_zero, List.set_cons_succ]
                rfl
              exact norm_ (by first | (simp only [putAll, Act.put, List.setIfInBounds_toArray, List.set_cons_zero, List.set_cons_succ]; done) | (simp only [putAll, Act.put, List.setIfInBounds_toArray, List.set_cons_zero, List.set_cons_succ]; rfl)) (hJ1_2 (B0, B1, v3) _ ⟨hHeld, n_f2⟩)
        · skip
          rintro ⟨B0, B1, v2⟩ w9 ⟨hHeld, fI0, fZ0⟩
          refine norm_ (a' := ?_) ?_ ?_
          rotate_left
          · simp only [putAll, Act.put, List.setIfInBounds_toArray, List.set_cons_zero, List.set_cons_succ]
            rfl
          refine one_ (i := 1) (N := some 29) #[true, true, false, true, false, false, true] rfl rfl (by kernel_rfl) (by decide) (fun K hK => ?_)
          have n_f1 : (Kd.int .u8).R 5 (w9.alloc (.cells #[.int .u8 1] 5)) wb.heap.size (fun _ => True) (.slice (some ⟨w9.heap.size, 0, none⟩) 1 1) [1] := lit_R w9 wb.heap.size w9.heap.size 5 .u8 [1] 1 rfl hHeld.size rfl (by decide)
          have n_fI0 := Is.below fI0 (show Below w9.heap.size w9 (w9.alloc (.cells #[.int .u8 1] 5)) from (Below.refl _ _).alloc (Nat.le_refl _) _)
          have n_fZ0 := fZ0
          have n_fNE : B0 ≠ w9.heap.size := by have := Is.lt fI0; omega
          refine value_ (w1 := ?_) (v := ?_) (by rfl) rfl ?_ ?_
          rotate_left 2
          · go_simp
            constructor
            · rfl
            · rfl
          refine hK.out _ _ ((below_alloc hHeld _)) (fun hHeld => ?_)
          clear hK K
          refine norm_ (a' := ?_) ?_ ?_
          rotate_left
          · show Act.put _ (some 29) _ = _
            simp only [Act.put, List.setIfInBounds_toArray, List.set_cons_zero, List.set_cons_succ]
            rfl
          exact norm_ (by first | (simp only [putAll, Act.put, List.setIfInBounds_toArray, List.set_cons_zero, List.set_cons_succ]; done) | (simp only [putAll, Act.put, List.setIfInBounds_toArray, List.set_cons_zero, List.set_cons_succ]; rfl)) (hJ0_1 (B0, w9.heap.size, v2) _ ⟨hHeld, n_fI0, n_fZ0, n_f1, n_fNE⟩)
      · skip
        rintro ⟨B0, B1, v2⟩ w9 ⟨hHeld, f2⟩
        refine norm_ (a' := ?_) ?_ ?_
        rotate_left
        · simp only [putAll, Act.put, List.setIfInBounds_toArray, List.set_cons_zero, List.set_cons_succ]
          rfl
        refine one_ (i := 0) (N := some 28) #[true, true, true, true, false, false, true] rfl rfl (by kernel_rfl) (by decide) (fun K hK => ?_)
        have n_fI0 : Is (w9.alloc (.cells (nums .u8 noneL).toArray 5)) w9.heap.size 5 .u8 noneL := new_is w9 5 .u8 noneL
        have n_fZ0 : wb.heap.size ≤ w9.heap.size := hHeld.size
        have n_f2 := Kd.R_below f2 (show Below w9.heap.size w9 (w9.alloc (.cells (nums .u8 noneL).toArray 5)) from (Below.refl _ _).alloc (Nat.le_refl _) _)
        have hmk_ := HMK.out
        refine value_ (w1 := ?_) (v := ?_) (by rfl) rfl ?_ ?_
        rotate_left 2
        · go_simp
          constructor
          · rfl
          · rfl
        clear hmk_
        refine hK.out _ _ ((below_alloc hHeld _)) (fun hHeld => ?_)
        clear hK K
        refine norm_ (a' := ?_) ?_ ?_
        rotate_left
        · show Act.put _ (some 28) _ = _
          simp only [Act.put, List.setIfInBounds_toArray, List.set_cons_zero, List.set_cons_succ]
          rfl
        exact norm_ (by first | (simp only [putAll, Act.put, List.setIfInBounds_toArray, List.set_cons_zero, List.set_cons_succ]; done) | (simp only [putAll, Act.put, List.setIfInBounds_toArray, List.set_cons_zero, List.set_cons_succ]; rfl)) (hJ0_1_2 (w9.heap.size, B1, v2) _ ⟨hHeld, n_fI0, n_fZ0, n_f2⟩)
    · skip
      rintro ⟨B0, B1, v2⟩ w9 ⟨hHeld, fI0, fZ0, f1, fNE⟩
      refine norm_ (a' := ?_) ?_ ?_
      rotate_left
      · simp only [putAll, Act.put, List.setIfInBounds_toArray, List.set_cons_zero, List.set_cons_succ]
        rfl
      refine one_ (i := 2) (N := some 30) #[true, true, true, true, false, false, true] rfl rfl (by kernel_rfl) (by decide) (fun K hK => ?_)
      refine Kd.R_append_zeros_step (Kd.int .u8) (w0 := wb) wb.heap.size (by rfl) (.tmp 29) (.const (.int .i64 31)) 22 3 5 (.int .u8 0) 1 rfl Try.underlying22 Try.underlying3 info_u8 rfl (by decide) (by decide) (.slice (some ⟨B1, 0, none⟩) 1 1) [1] 0 31 (fun _ => True) rfl rfl rfl ?aF ?aO ?a0 ?aB ?aS ?aL ?_
      (case aF => exact fun _ _ => trivial)
      (case aO => exact f1)
      (case a0 => decide)
      (case aB => exact hHeld)
      (case aS => exact hHeld.size)
      (case aL => decide)
      intro v3 w3 ho hb hg hat
      have n_f2 : (Kd.int .u8).R 5 w3 wb.heap.size (fun _ => True) v3 (fewL 1) := ho
      have n_hb : Below wb.heap.size wb w3 := hb
      have n_fI0 : Is w3 B0 5 .u8 noneL := (hg.block B0 (Is.lt fI0) (by simp only [Value.ownBlock]; exact fun h => fNE (Option.some.inj h))).trans fI0
      have n_fZ0 := fZ0
      clear ho hb hg hat
      refine hK.out _ _ (n_hb) (fun hHeld => ?_)
      clear hK K
      refine norm_ (a' := ?_) ?_ ?_
      rotate_left
      · show Act.put _ (some 30) _ = _
        simp only [Act.put, List.setIfInBounds_toArray, List.set_cons_zero, List.set_cons_succ]
        rfl
      exact norm_ (by first | (simp only [putAll, Act.put, List.setIfInBounds_toArray, List.set_cons_zero, List.set_cons_succ]; done) | (simp only [putAll, Act.put, List.setIfInBounds_toArray, List.set_cons_zero, List.set_cons_succ]; rfl)) (hJ0_1_2 (B0, B1, v3) _ ⟨hHeld, n_fI0, n_fZ0, n_f2⟩)
  rintro ⟨B0, B1, v2⟩ w9 ⟨hHeld, fI0, fZ0, f2⟩
  obtain ⟨Af, cf, rfl, hcf, hCf⟩ := Kd.R_reads f2
  rw [show (fewL 1).length = 32 from rfl] at hcf hCf ⊢
  have CF9 := Aside0.mk (And.intro hCf hcf)
  have I09 := Aside0.mk fI0
  have HB9 := Aside0.mk hHeld
  refine norm_ (a' := ?_) ?_ ?_
  rotate_left
  · simp only [putAll, Act.put, List.setIfInBounds_toArray, List.set_cons_zero, List.set_cons_succ]
    rfl
  refine one_ (i := 4) (N := some 32) #[true, true, true, true, true, false, true] rfl rfl (by kernel_rfl) (by decide) (fun K hK => ?_)
  refine value_ (w1 := ?_) (v := ?_) (by rfl) rfl ?_ ?_
  rotate_left 2
  · go_simp
    constructor
    · rfl
    · rfl
  refine hK.out _ _ ((below_alloc hHeld _)) (fun hHeld => ?_)
  clear hK K
  refine norm_ (a' := ?_) ?_ ?_
  rotate_left
  · show Act.put _ (some 32) _ = _
    simp only [Act.put, List.setIfInBounds_toArray, List.set_cons_zero, List.set_cons_succ]
    rfl
  refine pure_ (i := 5) (N := some 33) (v := ?_) (a' := ?_) #[true, true, true, true, true, true, true] rfl rfl (by kernel_rfl) (fun _ _ _ h => h) (Or.inl ⟨by rfl, ?_⟩) ?_ ?_
  rotate_left
  · intro w'
    go_simp
    with_reducible rfl
  rotate_left
  · simp only [Act.put, List.setIfInBounds_toArray, List.set_cons_zero, List.set_cons_succ]
    rfl
  refine done_ (by kernel_rfl) ?_
  obtain ⟨gR, hgR⟩ : ∃ x, x = w9.heap.size := ⟨_, rfl⟩
  have bA : Below w9.heap.size w9 (w9.alloc (.cells #[.slice (some ⟨B0, 0, none⟩) 32 32, .slice Af 32 cf, .slice Al 32 cl] 22)) := (Below.refl _ _).alloc (Nat.le_refl _) _
  have pA := heap_alloc_new w9 (.cells #[.slice (some ⟨B0, 0, none⟩) 32 32, .slice Af 32 cf, .slice Al 32 cl] 22)
  have BA9 := Aside0.mk (below_step (below_step BW.out HB9.out) bA)
  have CAA := Aside0.mk (And.intro (Kd.C_below (Kd.C_below CA3.out.1 HB9.out) bA) CA3.out.2)
  have C9 := Aside0.mk (Kd.C_below (show (Kd.int .u8).C w9 (some ⟨B0, 0, none⟩) 32 noneL from C_of_is8 I09.out (by decide)) bA)
  have F9 := Aside0.mk (And.intro (Kd.C_below CF9.out.1 bA) CF9.out.2)
  have L9 := Aside0.mk (And.intro (Kd.C_below (Kd.C_below CL.out.1 HB9.out) bA) CL.out.2)
  go_wp2_with fail
  change Code.wp _ _ _ _ (w9.alloc (.cells #[.slice (some ⟨B0, 0, none⟩) 32 32, .slice Af 32 cf, .slice Al 32 cl] 22))
  rw [← hgR] at pA ⊢
  generalize w9.alloc (.cells #[.slice (some ⟨B0, 0, none⟩) 32 32, .slice Af 32 cf, .slice Al 32 cl] 22) = wA at pA BA9 CAA C9 F9 L9 ⊢
  have GL := Aside0.mk (show gR < wA.heap.size from (Array.getElem?_eq_some_iff.1 pA).1)
  have PA := Aside0.mk pA
  have HRW := Aside0.mk (fun (i : Nat) (hi : i < 3) => show ∃ (B : Option Addr) (c : Nat) (l : List Int), (∀ W, Below wA.heap.size wA W → W.cell? ⟨gR, i, none⟩ = some (.slice B 32 c)) ∧ (Kd.int .u8).C wA B 32 l ∧ 32 ≤ c ∧ l.length = 32 ∧ (∀ x ∈ l, 0 ≤ x ∧ x < 256) ∧ curveF a l = noneL by
    have cell : ∀ (v : Value), (#[.slice (some ⟨B0, 0, none⟩) 32 32, .slice Af 32 cf, .slice Al 32 cl] : Array Value)[i]? = some v → ∀ W, Below wA.heap.size wA W → W.cell? ⟨gR, i, none⟩ = some v := by
      intro v hv W hW
      unfold World.cell?
      simp only [(hW.block gR GL.out).trans PA.out]
      exact hv
    rcases (by omega : i = 0 ∨ i = 1 ∨ i = 2) with rfl | rfl | rfl
    · exact ⟨_, _, noneL, cell _ rfl, C9.out, Nat.le_refl _, rfl, none_bytes, (curve_eq a noneL none_bytes 0 (Eqv.of_eq (by decide +kernel))).trans (low_zero a 0 (Eqv.refl 0))⟩
    · exact ⟨_, _, fewL 1, cell _ rfl, F9.out.1, F9.out.2, rfl, few_bytes 1 (by decide) (by decide), (curve_eq a _ (few_bytes 1 (by decide) (by decide)) 1 (by rw [val_few 1 (by decide) (by decide)]; exact Eqv.refl 1)).trans (low_one a 1 LA.out A0.out (Eqv.of_eq (by decide)))⟩
    · exact ⟨_, _, nearL 236, cell _ rfl, L9.out.1, L9.out.2, rfl, near_bytes 236 (by decide) (by decide), (curve_eq a _ (near_bytes 236 (by decide) (by decide)) (P - 1) (by rw [val_last]; exact Eqv.refl _)).trans (low_one a (P - 1) LA.out A0.out ⟨P - 2, by decide⟩)⟩)
  have MA := Aside0.mk (fun (W : World) (h : Below wA.heap.size wA W) (B : Option Addr) (c : Nat) (l : List Int) (hC : (Kd.int .u8).C W B 32 l) (hc : 32 ≤ c) (hl : l.length = 32) (hb : ∀ x ∈ l, 0 ≤ x ∧ x < 256) => mul32 Aa ca a B c l W LA.out hl BA.out hb (Kd.C_below CAA.out.1 h) CAA.out.2 hC hc)
  clear pA bA hgR BW HB9 CA3 I09 CF9 CL PA GL C9 F9 L9 BA A0 CAA
  go_loopw [34] (fun v w' => ∃ i : Nat, i ≤ 3 ∧ v = .int .i64 (i : Int) ∧ Aside0 (Below wA.heap.size wA w')) (fun v _ => 3 - (intOf v).toNat)
  case atStart => exact ⟨0, by omega, rfl, ⟨Below.refl _ _⟩⟩
  case round =>
    obtain ⟨i, hi, rfl, HB⟩ := hrel
    by_cases q3 : i < 3
    · have i0 : (i : Int) < 3 := by omega
      obtain ⟨B, c, l, hcell, hC, hc, hl, hb, hv⟩ := HRW.out i q3
      have hc0 := hcell wr HB.out
      have MC := Aside0.mk (MA.out wr HB.out B c l (Kd.C_below hC HB.out) hc hl hb)
      have HV := Aside0.mk hv
      have Q3 := Aside0.mk q3
      clear hcell hC hc hl hb hv q3
      go_wp2_with fail
      refine MC.out.mono ?_
      rintro e w5 ⟨X, k, rfl, hC, hB⟩
      have HB5 := Aside0.mk (HB.out.trans (hB.mono HB.out.size))
      rw [HV.out] at hC
      have qs := Kd.C_string (P := Try.prog) (c := k) Try.underlying22 Try.underlying5 Try.underlying9 (show (Kd.int .u8).C w5 X noneL.length noneL from hC)
      rw [← HNS.out, show noneL.length = 32 from rfl] at qs
      clear hc0 hB hC MC
      go_wp2_with fail
      refine ⟨⟨i + 1, Q3.out, congrArg (Value.int .i64) rfl, HB5⟩, ?_⟩
      simp only [intOf]
      have := Q3.out
      omega
    · obtain rfl : i = 3 := by omega
      clear hi q3
      rw [show ((3 : Nat) : Int) = 3 from rfl]
      obtain ⟨n, hn⟩ : ∃ n, n = a2 % 19 := ⟨_, rfl⟩
      have N0 := Aside0.mk (show 0 ≤ n ∧ n < 19 by rw [hn]; omega)
      have hq : Int.tmod a2 19 = n := by
        have := HA2.out
        rw [Int.tmod_eq_emod_of_nonneg this.1, hn]
      have hp : IntKind.u8.wrap (237 + n) = 237 + n := by
        have := N0.out
        rw [u8w]
        omega
      have HP := Aside0.mk hp
      clear hn hp
      go_upto_region 12 with (fail)
      clear hq
      have i1 : (Kd.int .u8).R 5 (wr.alloc (.cells (nums .u8 [n]).toArray 5)) wr.heap.size (fun _ => True) (.slice (some ⟨wr.heap.size, 0, none⟩) 1 1) [n] := lit_R wr wr.heap.size wr.heap.size 5 .u8 [n] 1 rfl (Nat.le_refl _) rfl (by decide)
      have b1 : Below wr.heap.size wr (wr.alloc (.cells (nums .u8 [n]).toArray 5)) := (Below.refl _ _).alloc (Nat.le_refl _) _
      have I1 := Aside0.mk i1
      have B1 := Aside0.mk b1
      clear i1 b1
      go_upto_region 13 with ((with_reducible refine gate_builtin (b := .append) (xs := #[.tmp 56, .const (.int .i64 31)]) rfl ?_); at_builtin; (refine Kd.R_append_zeros (Kd.int .u8) (w0 := wr) wr.heap.size rfl (.tmp 56) (.const (.int .i64 31)) 22 3 5 (.int .u8 0) 1 rfl Try.underlying22 Try.underlying3 info_u8 rfl (by decide) (by decide) (.slice (some ⟨wr.heap.size, 0, none⟩) 1 1) [n] 0 31 (fun _ => True) rfl rfl rfl ?aF ?aO ?a0 ?aB ?aS ?aL ?_; (case aF => exact fun _ _ => trivial); (case aO => exact I1.out); (case a0 => decide); (case aB => exact B1.out); (case aS => exact B1.out.size); (case aL => simp); intro v3 w3 ho hb hg hat; have R3 := Aside0.mk (show (Kd.int .u8).R 5 w3 wr.heap.size (fun _ => True) v3 (fewL n) from ho); have HB3 := Aside0.mk (below_step HB.out hb); clear ho hb hg hat))
      obtain ⟨Ae, ce, rfl, hce, hCe⟩ := Kd.R_reads R3.out
      rw [show (fewL n).length = 32 from rfl] at hce hCe ⊢
      have CE := Aside0.mk (And.intro hCe hce)
      have hp := HP.out
      clear hce hCe R3 I1 B1 HB
      have i1 : (Kd.int .u8).R 5 (w3.alloc (.cells (nums .u8 [237 + n]).toArray 5)) w3.heap.size (fun _ => True) (.slice (some ⟨w3.heap.size, 0, none⟩) 1 1) [237 + n] := lit_R w3 w3.heap.size w3.heap.size 5 .u8 [237 + n] 1 rfl (Nat.le_refl _) rfl (by decide)
      have b1 : Below w3.heap.size w3 (w3.alloc (.cells (nums .u8 [237 + n]).toArray 5)) := (Below.refl _ _).alloc (Nat.le_refl _) _
      have i2 : (Kd.int .u8).C ((w3.alloc (.cells (nums .u8 [237 + n]).toArray 5)).alloc (.cells (nums .u8 [255]).toArray 5)) (some ⟨(w3.alloc (.cells (nums .u8 [237 + n]).toArray 5)).heap.size, 0, none⟩) 1 [255] := lit_C _ 5 .u8 [255] (0, 0) 1 rfl (by decide)
      have b2 : Below (w3.alloc (.cells (nums .u8 [237 + n]).toArray 5)).heap.size (w3.alloc (.cells (nums .u8 [237 + n]).toArray 5)) ((w3.alloc (.cells (nums .u8 [237 + n]).toArray 5)).alloc (.cells (nums .u8 [255]).toArray 5)) := (Below.refl _ _).alloc (Nat.le_refl _) _
      have j1 := Kd.R_below i1 b2
      have bb := below_step b1 b2
      rw [World.size_alloc] at i2
      have RJ := Aside0.mk j1
      have CJ := Aside0.mk i2
      have BJ := Aside0.mk (below_step HB3.out bb)
      have BK := Aside0.mk bb
      clear i1 b1 i2 b2 j1 bb
      go_wp2_with fail
      change Calls _ _ _ ((w3.alloc (.cells (nums .u8 [237 + n]).toArray 5)).alloc (.cells (nums .u8 [255]).toArray 5)) _
      refine (strongroomkeep_Sized.calls (some ⟨w3.heap.size + 1, 0, none⟩) 1 [255] 30 _ _ CJ.out (Nat.le_refl _) sized_ff).mono ?_
      rintro e w8 ⟨vs, rfl, hR, hB⟩
      obtain ⟨Av, cv, rfl, hcv, hCv⟩ := Kd.R_reads hR
      rw [show ff30.length = 30 from rfl] at hcv hCv ⊢
      have CV := Aside0.mk (And.intro hCv hcv)
      have R8 := Aside0.mk (Kd.R_below RJ.out hB)
      have N8 := Aside0.mk (below_step BK.out hB)
      have B8 := Aside0.mk (below_step BJ.out hB)
      clear hR hB hcv hCv RJ CJ BJ BK
      go_upto_region 14 with (first | ((with_reducible refine gate_builtin (b := .append) (xs := #[.tmp 60, .tmp 62]) rfl ?_); at_builtin; (refine Kd.R_append_row (w0 := w3) (Value.int .u8) (0 : Int) (h1 := fun _ => rfl) w3.heap.size rfl (.tmp 60) (.tmp 62) 22 5 (.int .u8 0) 1 rfl Try.underlying22 info_u8 rfl Nat.one_pos _ [237 + n] ff30 Av 30 cv (fun _ => True) rfl rfl (fun _ _ => trivial) ?q1 ?q2 ?q3 ?q4 ?q5 ?_; (case q1 => exact R8.out); (case q2 => exact CV.out.1); (case q3 => exact N8.out); (case q4 => exact N8.out.size); (case q5 => simp); intro va wa hR hB _ _; have RA := Aside0.mk (show (Kd.int .u8).R 5 wa w3.heap.size (fun _ => True) va ([237 + n] ++ ff30) from hR); have NA := Aside0.mk hB; clear hR hB)) | ((with_reducible refine gate_builtin (b := .append) (xs := #[.tmp 63, .tmp 64]) rfl ?_); at_builtin; refine lit_append w3.heap.size rfl (.tmp 63) (.tmp 64) 22 5 .u8 1 rfl Try.underlying22 info_u8 Nat.one_pos _ ([237 + n] ++ ff30) [127] 1 ?q1 rfl ?q3 ?q4 ?q5 ?q6 ?_; (case q1 => rfl); (case q3 => rfl); (case q4 => exact RA.out); (case q5 => exact NA.out.size); (case q6 => simp [ff30]); intro vb wb hR1 hB1; have LX := Aside0.mk (show (Kd.int .u8).R 5 wb w3.heap.size (fun _ => True) vb (nearL (237 + n)) from hR1); have LXB := Aside0.mk (NA.out.trans hB1); clear hR1 hB1))
      obtain ⟨Ag, cg, rfl, hcg, hCg⟩ := Kd.R_reads LX.out
      rw [show (nearL (237 + n)).length = 32 from rfl] at hcg hCg ⊢
      have HBb := Aside0.mk (below_step HB3.out LXB.out)
      have M1 := Aside0.mk (fun (W : World) (h : Below wb.heap.size wb W) => MA.out W (HBb.out.trans (h.mono HBb.out.size)) Ae ce (fewL n) (Kd.C_below (Kd.C_below CE.out.1 LXB.out) h) CE.out.2 rfl (few_bytes n N0.out.1 (by have := N0.out.2; omega)))
      have M2 := Aside0.mk (fun (W : World) (h : Below wb.heap.size wb W) => MA.out W (HBb.out.trans (h.mono HBb.out.size)) Ag cg (nearL (237 + n)) (Kd.C_below hCg h) hcg rfl (near_bytes _ (by have := N0.out.1; omega) (by have := N0.out.2; omega)))
      obtain ⟨mv, hmv⟩ : ∃ v, v = curveF a (fewL n) := ⟨_, rfl⟩
      have hmw : curveF a (nearL (237 + n)) = mv := by
        have h0 := N0.out
        rw [hmv, curve_eq a (fewL n) (few_bytes n h0.1 (by omega)) n (by rw [val_few n h0.1 h0.2]; exact Eqv.refl n)]
        exact curve_eq a (nearL (237 + n)) (near_bytes _ (by omega) (by omega)) n (by rw [val_near n h0.1 h0.2]; exact ⟨1, by omega⟩)
      have ML := Aside0.mk (show mv.length = 32 by rw [hmv]; exact len_curveF a _ (few_bytes n N0.out.1 (by have := N0.out.2; omega)))
      rw [hmw] at M2
      rw [← hmv] at M1
      clear hcg hCg hmv hmw LX LXB CE HB3 RA NA R8 N8 CV B8 hp HP
      go_wp2_with fail
      refine (M1.out wb (Below.refl _ _)).mono ?_
      rintro e u5 ⟨X1, k1, rfl, hC, hB⟩
      have X1C := Aside0.mk hC
      have L5 := Aside0.mk hB
      clear hB hC
      go_wp2_with fail
      refine (M2.out u5 L5.out).mono ?_
      rintro e u6 ⟨X2, k2, rfl, hC, hB⟩
      have L6 := Aside0.mk (below_step L5.out hB)
      have q1 : (convert 22 9 (.slice X1 32 k1)).run Try.prog u6 = .ok (.string (strOfNums mv)) u6 := by
        have h := Kd.C_string (P := Try.prog) (c := k1) Try.underlying22 Try.underlying5 Try.underlying9 (show (Kd.int .u8).C u6 X1 mv.length mv by rw [ML.out]; exact Kd.C_below X1C.out hB)
        rw [ML.out] at h
        exact h
      have q2 : (convert 22 9 (.slice X2 32 k2)).run Try.prog u6 = .ok (.string (strOfNums mv)) u6 := by
        have h := Kd.C_string (P := Try.prog) (c := k2) Try.underlying22 Try.underlying5 Try.underlying9 (show (Kd.int .u8).C u6 X2 mv.length mv by rw [ML.out]; exact hC)
        rw [ML.out] at h
        exact h
      clear hB hC X1C M1 M2
      go_wp2_with fail
      refine (known5_calls u6).mono ?_
      rintro e u9 ⟨rfl, hB⟩
      have LZ := Aside0.mk (below_step (below_step BA9.out HBb.out) (below_step L6.out hB))
      clear hB
      go_wp2_with fail
      go_ret
      exact ⟨rfl, LZ.out⟩
end Go.Proofs.Ytlpoolcdoecodaa
