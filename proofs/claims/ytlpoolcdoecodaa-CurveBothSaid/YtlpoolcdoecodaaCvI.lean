/-
  ladder, walked.
-/
import Derived.Test.YtlpoolcdoecodaaCvL
namespace Go.Proofs.Ytlpoolcdoecodaa.Cv
open Go.RowKit Go.Proofs.YtlpoolcdoecodaaW.PrintWords Go.Proofs.YtlpoolcdoecodaaW.PrintLast Go.Proofs.YtlpoolcdoecodaaW.PrintMore Go.Proofs.Ytlpoolcdoecodaa.Arr
set_option linter.unusedVariables false
set_option maxHeartbeats 8000000
set_option maxRecDepth 100000
def ladder.T5 : Bool × List (List Nat × List Nat) := (true, [([], []), ([], []), ([], []), ([], []), ([], []), ([], []), ([], []), ([], []), ([4, 0, 0, 4, 5, 6, 7], [0, 4]), ([5, 1, 8, 0, 1, 4, 5, 6, 7, 8], [1, 5]), ([6, 2, 9, 0, 1, 2, 4, 5, 6, 7, 8, 9], [2, 6]), ([7, 3, 10, 0, 1, 2, 3, 4, 5, 6, 7, 8, 9, 10], [3, 7])])
def ladder.B5 : List Nat := [0, 0, 0, 0, 0, 0, 0, 0, 241, 499, 1015, 2047]
theorem ladder.tab5 : rtab .any (opsOf Try.f16 5) = ladder.T5 := by kernel_rfl
theorem ladder.bits5 : waitsOk ladder.T5.2 ladder.B5 = true := by kernel_rfl
def ladder.T24 : Bool × List (List Nat × List Nat) := (true, [([], []), ([], []), ([0, 1], [0, 1]), ([], []), ([2, 3, 2], [2, 3]), ([4, 4, 0, 1, 2, 3, 4], [4])])
def ladder.B24 : List Nat := [0, 0, 3, 0, 15, 31]
theorem ladder.tab24 : rtab .any (opsOf Try.f16 24) = ladder.T24 := by kernel_rfl
theorem ladder.bits24 : waitsOk ladder.T24.2 ladder.B24 = true := by kernel_rfl
theorem ladder_calls (A0 : Option Addr) (c0 : Nat) (s : List Int) (A1 : Option Addr) (c1 : Nat) (p : List Int) (w : World) (hls : s.length = 32) (hlp : p.length = 32) (hbs : ∀ x ∈ s, 0 ≤ x ∧ x < 256) (hbp : ∀ x ∈ p, 0 ≤ x ∧ x < 256)
    (hC0 : (Kd.int .u8).C w A0 32 s) (hc0 : 32 ≤ c0) (hC1 : (Kd.int .u8).C w A1 32 p) (hc1 : 32 ≤ c1) :
    Calls Try.prog 16 #[.slice A0 32 c0, .slice A1 32 c1] w fun e w' => ∃ v, e = .returned v ∧ (Kd.int .u8).R 5 w' w.heap.size (fun _ => True) v (curveF s p) ∧ Below w.heap.size w w' := by
  have hgs : ∀ j, 0 ≤ s.getD j 0 ∧ s.getD j 0 < 256 := fun j => by
    rw [List.getD_eq_getElem?_getD]
    rcases hj : s[j]? with _ | y
    · simp
    · simpa using hbs y (List.mem_of_getElem? hj)
  have HS := Aside0.mk (And.intro hls hgs)
  have HP := Aside0.mk (And.intro hlp hbp)
  have H0 := Aside0.mk (show (Kd.int .u8).C w A0 s.length s ∧ 32 ≤ c0 by rw [hls]; exact ⟨hC0, hc0⟩)
  have H1 := Aside0.mk (And.intro hC1 hc1)
  have SX := Aside0.mk (sm_unp p hbp)
  have Z1 := Aside0.mk (show (Kd.int .u8).R 5 (w.alloc (.cells #[] 5)) w.heap.size (fun _ => True) (.slice (some ⟨w.heap.size, 0, none⟩) 0 0) [] from lit_R w w.heap.size w.heap.size 5 .u8 [] 0 rfl (Nat.le_refl _) rfl (by decide))
  have B1 := Aside0.mk (show Below w.heap.size w (w.alloc (.cells #[] 5)) from (Below.refl _ _).alloc (Nat.le_refl _) _)
  have L32 := Aside0.mk hls.symm
  have HC0 := Aside0.mk (show (Kd.int .u8).C (w.alloc (.cells #[] 5)) A0 32 s from Kd.C_below hC0 B1.out)
  clear hls hlp hbs hbp hC0 hc0 hC1 hc1 hgs
  go_enter Try.func16, Try.ntmps16
  go_upto_region 2 with (((with_reducible refine gate_builtin (b := .append) (xs := #[.tmp 15, .tmp 16]) rfl ?_); at_builtin; (refine Kd.R_append_row (w0 := w) (Value.int .u8) (0 : Int) (h1 := fun _ => rfl) w.heap.size rfl (.tmp 15) (.tmp 16) 22 5 (.int .u8 0) 1 rfl Try.underlying22 info_u8 rfl Nat.one_pos _ [] s A0 32 c0 (fun _ => True) rfl rfl (fun _ _ => trivial) ?q1 ?q2 ?q3 ?q4 ?q5 ?_; (case q1 => exact Z1.out); (case q2 => exact HC0.out); (case q3 => exact B1.out); (case q4 => exact B1.out.size); (case q5 => have := HS.out.1; simp only [List.length_nil]; omega); intro v2 w2 hR hB _ _; have R2 := Aside0.mk (show (Kd.int .u8).R 5 w2 w.heap.size (fun _ => True) v2 s from hR); have B2 := Aside0.mk hB; clear hR hB)))
  obtain ⟨gz, cz, rfl, hgz, hgzl, _⟩ := Kd.R_form R2.out (by rw [HS.out.1]; decide)
  have R2' := R2.out
  rw [HS.out.1] at R2' ⊢
  have RZ := Aside0.mk R2'
  have GZ := Aside0.mk (And.intro hgz hgzl)
  clear R2 R2' hgz hgzl Z1 HC0 L32
  have b31 := HS.out.2 31
  have b0 := HS.out.2 0
  have x1 := (Kd.R_celln (0 : Int) RZ.out 31 (by decide) (by decide))
  have hp := Kd.R_putg RZ.out 31 (rd s 31 % 64 + 64)
  have e31 : rd s 31 = s.getD 31 0 := rfl
  have cl := clamp31 (rd s 31) (by rw [e31]; omega) (by rw [e31]; omega)
  obtain ⟨x1, x2⟩ := x1
  replace x1 : w2.cell? ⟨gz, 31, none⟩ = some (.int .u8 (rd s 31)) := x1
  replace x2 : w2.frozen? ⟨gz, 31, none⟩ = false := x2
  rw [show Int.toNat 31 = 31 from rfl] at hp
  have HPP := Aside0.mk hp
  have CL := Aside0.mk cl
  clear hp cl e31
  go_upto_region 3 with (fail)
  try rw [CL.out]
  change Code.wp _ _ _ _ (w2.setCell ⟨gz, 31, none⟩ (.int .u8 (rd s 31 % 64 + 64)))
  have R3 := Aside0.mk (show (Kd.int .u8).R 5 (w2.setCell ⟨gz, 31, none⟩ (.int .u8 (rd s 31 % 64 + 64))) w.heap.size (fun _ => True) (.slice (some ⟨gz, 0, none⟩) 32 cz) (s.set 31 (rd s 31 % 64 + 64)) from HPP.out.1)
  have B3 := Aside0.mk (show Below w.heap.size w (w2.setCell ⟨gz, 31, none⟩ (.int .u8 (rd s 31 % 64 + 64))) from below_set B2.out GZ.out.1)
  have Y3 := Aside0.mk (show gz < (w2.setCell ⟨gz, 31, none⟩ (.int .u8 (rd s 31 % 64 + 64))).heap.size by simp only [World.setCell, Array.size_modify]; exact GZ.out.2)
  generalize w2.setCell ⟨gz, 31, none⟩ (.int .u8 (rd s 31 % 64 + 64)) = w3 at R3 B3 Y3 ⊢
  clear x1 x2 HPP CL RZ b31
  have x1 := (Kd.R_celln (0 : Int) R3.out 0 (by decide) (by decide))
  have hp := Kd.R_putg R3.out 0 (rd s 0 - rd s 0 % 8)
  have e0 : rd s 0 = s.getD 0 0 := rfl
  have cl := clamp0 (rd s 0) (by rw [e0]; omega) (by rw [e0]; omega)
  obtain ⟨x1, x2⟩ := x1
  have ee : rdOf (0 : Int) (s.set 31 (rd s 31 % 64 + 64)) 0 = rd s 0 := by
    show (s.set 31 (rd s 31 % 64 + 64)).getD 0 0 = s.getD 0 0
    rw [getD_set _ _ _ _ (by rw [HS.out.1]; decide), if_neg (by decide)]
  rw [ee] at x1
  replace x1 : w3.cell? ⟨gz, 0, none⟩ = some (.int .u8 (rd s 0)) := x1
  replace x2 : w3.frozen? ⟨gz, 0, none⟩ = false := x2
  rw [show Int.toNat 0 = 0 from rfl] at hp
  have HPP := Aside0.mk hp
  have CL := Aside0.mk cl
  clear hp cl e0 ee b0
  go_upto_region 4 with (fail)
  try rw [CL.out]
  change Code.wp _ _ _ _ (w3.setCell ⟨gz, 0, none⟩ (.int .u8 (rd s 0 - rd s 0 % 8)))
  obtain ⟨z, hz⟩ : ∃ z, z = clampF s := ⟨_, rfl⟩
  have ez : (s.set 31 (rd s 31 % 64 + 64)).set 0 (rd s 0 - rd s 0 % 8) = z := by rw [hz]; rfl
  have R4 := Aside0.mk (show (Kd.int .u8).R 5 (w3.setCell ⟨gz, 0, none⟩ (.int .u8 (rd s 0 - rd s 0 % 8))) w.heap.size (fun _ => True) (.slice (some ⟨gz, 0, none⟩) 32 cz) z by rw [← ez]; exact HPP.out.1)
  have B4 := Aside0.mk (show Below w.heap.size w (w3.setCell ⟨gz, 0, none⟩ (.int .u8 (rd s 0 - rd s 0 % 8))) from below_set B3.out GZ.out.1)
  generalize w3.setCell ⟨gz, 0, none⟩ (.int .u8 (rd s 0 - rd s 0 % 8)) = w4 at R4 B4 ⊢
  have HZ := Aside0.mk hz
  have ZB := Aside0.mk (show ∀ j, 0 ≤ z.getD j 0 ∧ z.getD j 0 < 256 by
    intro j
    rw [hz, clampF]
    have h1 := HS.out.2 j
    have h31 := HS.out.2 31
    have h0 := HS.out.2 0
    rw [getD_set _ _ _ _ (by rw [List.length_set, HS.out.1]; decide), getD_set _ _ _ _ (by rw [HS.out.1]; decide)]
    split
    · omega
    · split <;> omega)
  have CZ := Aside0.mk (show (Kd.int .u8).C w4 (some ⟨gz, 0, none⟩) 32 z from by have h := Kd.R_reads' R4.out; have hc := h.2.2; rw [← h.1] at hc; exact hc)
  clear x1 x2 HPP CL R3 B3 Y3 R4 hz ez B2 GZ
  go_wp2_with fail
  refine (unpack_calls A1 c1 p HP.out.1 HP.out.2 w4 (Kd.C_below H1.out.1 B4.out) H1.out.2).mono ?_
  rintro e w5 ⟨rfl, h5⟩
  obtain ⟨x, hx⟩ : ∃ x, x = unpF p := ⟨_, rfl⟩
  rw [← hx]
  have HX := Aside0.mk hx
  have SXX := Aside0.mk (show Sm x by rw [hx]; exact SX.out)
  have B5 := Aside0.mk (below_step B4.out h5)
  have CZ5 := Aside0.mk (Kd.C_below CZ.out h5)
  clear h5 hx CZ B4 H1 HP SX
  have HIx := Aside0.mk (show (Try.prog.info? 48).map (·.size) = some x.length by rw [SXX.out.len]; exact info_f)
  have HLx := Aside0.mk (show z16.length = x.length by rw [SXX.out.len]; rfl)
  have N5 := Aside0.mk (show Is (w5.alloc (.cells #[.int .i64 0, .int .i64 0, .int .i64 0, .int .i64 0, .int .i64 0, .int .i64 0, .int .i64 0, .int .i64 0, .int .i64 0, .int .i64 0, .int .i64 0, .int .i64 0, .int .i64 0, .int .i64 0, .int .i64 0, .int .i64 0] 48)) w5.heap.size 48 .i64 z16 from new_is w5 48 .i64 z16)
  have A5 := Aside0.mk (show Below w5.heap.size w5 (w5.alloc (.cells #[.int .i64 0, .int .i64 0, .int .i64 0, .int .i64 0, .int .i64 0, .int .i64 0, .int .i64 0, .int .i64 0, .int .i64 0, .int .i64 0, .int .i64 0, .int .i64 0, .int .i64 0, .int .i64 0, .int .i64 0, .int .i64 0] 48)) from (Below.refl _ _).alloc (Nat.le_refl _) _)
  go_upto_region 5 with (first | (with_reducible refine storeL_is (b := w5.heap.size) (e := 48) (k := .i64) (xs := z16) 48 (.tmp 6) (.tmp 31) rfl rfl rfl x rfl rfl N5.out HLx.out HIx.out ?_))
  change Code.wp _ _ _ _ (put (w5.alloc (.cells (nums .i64 z16).toArray 48)) w5.heap.size .i64 x)
  have i6 : Is (put (w5.alloc (.cells (nums .i64 z16).toArray 48)) w5.heap.size .i64 x) w5.heap.size 48 .i64 x := put_heap (ys := x) N5.out
  have b6 : Below w5.heap.size w5 (put (w5.alloc (.cells (nums .i64 z16).toArray 48)) w5.heap.size .i64 x) := below_put (k := .i64) (ys := x) A5.out (Nat.le_refl _)
  generalize put (w5.alloc (.cells (nums .i64 z16).toArray 48)) w5.heap.size .i64 x = w6 at i6 b6 ⊢
  obtain ⟨gx, hgx⟩ : ∃ g, g = w5.heap.size := ⟨_, rfl⟩
  rw [← hgx] at i6 ⊢
  have IX := Aside0.mk i6
  have CZ6 := Aside0.mk (Kd.C_below CZ5.out b6)
  have B6 := Aside0.mk (below_step B5.out b6)
  have GX := Aside0.mk (show w.heap.size ≤ gx ∧ gx < w6.heap.size from ⟨by rw [hgx]; exact B5.out.size, i6.lt⟩)
  clear i6 b6 hgx N5 A5 CZ5 B5
  have HI1 := Aside0.mk (show (Try.prog.info? 48).map (·.size) = some oneF.length from info_f)
  refine start_ (n := 12) (S := fun w' => Below w6.heap.size w6 w') (ds := [11]) #[false, false, false, false, false, false, false, false, false, false, false, false] (by kernel_rfl) rfl rfl (below_drew1 (Below.refl _ _)) (fun hHeld => ?_)
  refine with_tabW ladder.tab5 ladder.bits5 (fun HT_ HW_ => ?_)
  refine pure_ (i := 0) (N := some 32) (v := ?_) (a' := ?_) #[true, false, false, false, false, false, false, false, false, false, false, false] rfl rfl (any_of HT_.out (by kernel_rfl)) (fun _ _ _ h => h) (Or.inl ⟨by rfl, ?_⟩) ?_ ?_
  rotate_left
  · intro w'
    go_simp
    with_reducible rfl
  rotate_left
  · simp only [Act.put, List.setIfInBounds_toArray, List.set_cons_zero, List.set_cons_succ]
    rfl
  refine pure_ (i := 2) (N := some 34) (v := ?_) (a' := ?_) #[true, false, true, false, false, false, false, false, false, false, false, false] rfl rfl (any_of HT_.out (by kernel_rfl)) (fun _ _ _ h => h) (Or.inl ⟨by rfl, ?_⟩) ?_ ?_
  rotate_left
  · intro w'
    go_simp
    with_reducible rfl
  rotate_left
  · simp only [Act.put, List.setIfInBounds_toArray, List.set_cons_zero, List.set_cons_succ]
    rfl
  refine pure_ (i := 3) (N := some 35) (v := ?_) (a' := ?_) #[true, false, true, true, false, false, false, false, false, false, false, false] rfl rfl (any_of HT_.out (by kernel_rfl)) (fun _ _ _ h => h) (Or.inl ⟨by rfl, ?_⟩) ?_ ?_
  rotate_left
  · intro w'
    go_simp
    with_reducible rfl
  rotate_left
  · simp only [Act.put, List.setIfInBounds_toArray, List.set_cons_zero, List.set_cons_succ]
    rfl
  refine take_ (i := 1) (N := some 33) (v := ?_) (a' := ?_) #[true, true, true, true, false, false, false, false, false, false, false, false] rfl rfl (take_ofW HT_.out HW_.out (by kernel_rfl)) (fun _ _ _ h => h) (Or.inl ⟨by rfl, ?_⟩) hHeld ?_ ?_
  rotate_left
  · intro w' s0
    refine load_ev (.tmp 6) ?_ gx x ?_ (IX.out.below s0) SXX.out.len <;> rfl
  rotate_left
  · simp only [Act.put, List.setIfInBounds_toArray, List.set_cons_zero, List.set_cons_succ]
    rfl
  refine join_ (σ := Nat × Nat × Nat × Nat) 4 #[true, true, true, true, true, true, true, true, false, false, false, false] (fun s_ => [(7, .pointer (some ⟨s_.1, 0, none⟩)), (8, .pointer (some ⟨s_.2.1, 0, none⟩)), (9, .pointer (some ⟨s_.2.2.1, 0, none⟩)), (10, .pointer (some ⟨s_.2.2.2, 0, none⟩))]) (fun s_ w' => Below w6.heap.size w6 w' ∧ Four w6.heap.size w' [s_.1, s_.2.1, s_.2.2.1, s_.2.2.2]) ?_ ?_
  rotate_left
  · intro hJ4_5_6_7
    refine join_ (σ := Nat × Nat × Nat × Nat) 5 #[true, true, true, true, true, true, true, false, false, false, false, false] (fun s_ => [(7, .pointer (some ⟨s_.1, 0, none⟩)), (8, .pointer (some ⟨s_.2.1, 0, none⟩)), (9, .pointer (some ⟨s_.2.2.1, 0, none⟩))]) (fun s_ w' => Below w6.heap.size w6 w' ∧ Four w6.heap.size w' [s_.1, s_.2.1, s_.2.2.1]) ?_ ?_
    rotate_left
    · intro hJ4_5_6
      refine join_ (σ := Nat × Nat × Nat × Nat) 5 #[true, true, true, true, true, true, false, true, false, false, false, false] (fun s_ => [(7, .pointer (some ⟨s_.1, 0, none⟩)), (8, .pointer (some ⟨s_.2.1, 0, none⟩)), (10, .pointer (some ⟨s_.2.2.2, 0, none⟩))]) (fun s_ w' => Below w6.heap.size w6 w' ∧ Four w6.heap.size w' [s_.1, s_.2.1, s_.2.2.2]) ?_ ?_
      rotate_left
      · intro hJ4_5_7
        refine join_ (σ := Nat × Nat × Nat × Nat) 5 #[true, true, true, true, true, false, true, true, false, false, false, false] (fun s_ => [(7, .pointer (some ⟨s_.1, 0, none⟩)), (9, .pointer (some ⟨s_.2.2.1, 0, none⟩)), (10, .pointer (some ⟨s_.2.2.2, 0, none⟩))]) (fun s_ w' => Below w6.heap.size w6 w' ∧ Four w6.heap.size w' [s_.1, s_.2.2.1, s_.2.2.2]) ?_ ?_
        rotate_left
        · intro hJ4_6_7
          refine join_ (σ := Nat × Nat × Nat × Nat) 5 #[true, true, true, true, false, true, true, true, false, false, false, false] (fun s_ => [(8, .pointer (some ⟨s_.2.1, 0, none⟩)), (9, .pointer (some ⟨s_.2.2.1, 0, none⟩)), (10, .pointer (some ⟨s_.2.2.2, 0, none⟩))]) (fun s_ w' => Below w6.heap.size w6 w' ∧ Four w6.heap.size w' [s_.2.1, s_.2.2.1, s_.2.2.2]) ?_ ?_
          rotate_left
          · intro hJ5_6_7
            refine join_ (σ := Nat × Nat × Nat × Nat) 6 #[true, true, true, true, true, true, false, false, false, false, false, false] (fun s_ => [(7, .pointer (some ⟨s_.1, 0, none⟩)), (8, .pointer (some ⟨s_.2.1, 0, none⟩))]) (fun s_ w' => Below w6.heap.size w6 w' ∧ Four w6.heap.size w' [s_.1, s_.2.1]) ?_ ?_
            rotate_left
            · intro hJ4_5
              refine join_ (σ := Nat × Nat × Nat × Nat) 6 #[true, true, true, true, true, false, true, false, false, false, false, false] (fun s_ => [(7, .pointer (some ⟨s_.1, 0, none⟩)), (9, .pointer (some ⟨s_.2.2.1, 0, none⟩))]) (fun s_ w' => Below w6.heap.size w6 w' ∧ Four w6.heap.size w' [s_.1, s_.2.2.1]) ?_ ?_
              rotate_left
              · intro hJ4_6
                refine join_ (σ := Nat × Nat × Nat × Nat) 6 #[true, true, true, true, true, false, false, true, false, false, false, false] (fun s_ => [(7, .pointer (some ⟨s_.1, 0, none⟩)), (10, .pointer (some ⟨s_.2.2.2, 0, none⟩))]) (fun s_ w' => Below w6.heap.size w6 w' ∧ Four w6.heap.size w' [s_.1, s_.2.2.2]) ?_ ?_
                rotate_left
                · intro hJ4_7
                  refine join_ (σ := Nat × Nat × Nat × Nat) 6 #[true, true, true, true, false, true, true, false, false, false, false, false] (fun s_ => [(8, .pointer (some ⟨s_.2.1, 0, none⟩)), (9, .pointer (some ⟨s_.2.2.1, 0, none⟩))]) (fun s_ w' => Below w6.heap.size w6 w' ∧ Four w6.heap.size w' [s_.2.1, s_.2.2.1]) ?_ ?_
                  rotate_left
                  · intro hJ5_6
                    refine join_ (σ := Nat × Nat × Nat × Nat) 6 #[true, true, true, true, false, true, false, true, false, false, false, false] (fun s_ => [(8, .pointer (some ⟨s_.2.1, 0, none⟩)), (10, .pointer (some ⟨s_.2.2.2, 0, none⟩))]) (fun s_ w' => Below w6.heap.size w6 w' ∧ Four w6.heap.size w' [s_.2.1, s_.2.2.2]) ?_ ?_
                    rotate_left
                    · intro hJ5_7
                      refine join_ (σ := Nat × Nat × Nat × Nat) 6 #[true, true, true, true, false, false, true, true, false, false, false, false] (fun s_ => [(9, .pointer (some ⟨s_.2.2.1, 0, none⟩)), (10, .pointer (some ⟨s_.2.2.2, 0, none⟩))]) (fun s_ w' => Below w6.heap.size w6 w' ∧ Four w6.heap.size w' [s_.2.2.1, s_.2.2.2]) ?_ ?_
                      rotate_left
                      · intro hJ6_7
                        refine join_ (σ := Nat × Nat × Nat × Nat) 7 #[true, true, true, true, true, false, false, false, false, false, false, false] (fun s_ => [(7, .pointer (some ⟨s_.1, 0, none⟩))]) (fun s_ w' => Below w6.heap.size w6 w' ∧ Four w6.heap.size w' [s_.1]) ?_ ?_
                        rotate_left
                        · intro hJ4
                          refine join_ (σ := Nat × Nat × Nat × Nat) 7 #[true, true, true, true, false, true, false, false, false, false, false, false] (fun s_ => [(8, .pointer (some ⟨s_.2.1, 0, none⟩))]) (fun s_ w' => Below w6.heap.size w6 w' ∧ Four w6.heap.size w' [s_.2.1]) ?_ ?_
                          rotate_left
                          · intro hJ5
                            refine join_ (σ := Nat × Nat × Nat × Nat) 7 #[true, true, true, true, false, false, true, false, false, false, false, false] (fun s_ => [(9, .pointer (some ⟨s_.2.2.1, 0, none⟩))]) (fun s_ w' => Below w6.heap.size w6 w' ∧ Four w6.heap.size w' [s_.2.2.1]) ?_ ?_
                            rotate_left
                            · intro hJ6
                              refine join_ (σ := Nat × Nat × Nat × Nat) 7 #[true, true, true, true, false, false, false, true, false, false, false, false] (fun s_ => [(10, .pointer (some ⟨s_.2.2.2, 0, none⟩))]) (fun s_ w' => Below w6.heap.size w6 w' ∧ Four w6.heap.size w' [s_.2.2.2]) ?_ ?_
                              rotate_left
                              · intro hJ7
                                refine four_ (i := 4) (j := 5) (k := 6) (m := 7) (Ni := some 7) (Nj := some 8) (Nk := some 9) (Nm := some 10) #[true, true, true, true, true, false, false, false, false, false, false, false] #[true, true, true, true, false, true, false, false, false, false, false, false] #[true, true, true, true, false, false, true, false, false, false, false, false] #[true, true, true, true, false, false, false, true, false, false, false, false] rfl rfl rfl rfl rfl rfl rfl rfl (four_of HT_.out (by kernel_rfl)) (by decide) (by decide) (by decide) (by decide) (fun K hK => ?_) (fun K hK => ?_) (fun K hK => ?_) (fun K hK => ?_)
                                · skip
                                  have n_four := Four.ins [] [] (Four.nil (N := w6.heap.size) (w := w6.drew)) (Nat.le_refl _)
                                  refine value_ (w1 := ?_) (v := ?_) (by rfl) rfl ?_ ?_
                                  rotate_left 2
                                  · go_simp
                                    constructor
                                    · rfl
                                    · rfl
                                  refine hK.out _ _ ((below_alloc hHeld _)) (fun hHeld => ?_)
                                  clear hK K
                                  refine norm_ (a' := ?_) ?_ ?_
                                  rotate_left
                                  · show Act.put _ (some 7) _ = _
                                    simp only [Act.put, List.setIfInBounds_toArray, List.set_cons_zero, List.set_cons_succ]
                                    rfl
                                  exact norm_ (by first | (simp only [putAll, Act.put, List.setIfInBounds_toArray, List.set_cons_zero, List.set_cons_succ]; done) | (simp only [putAll, Act.put, List.setIfInBounds_toArray, List.set_cons_zero, List.set_cons_succ]; rfl)) (hJ4 (w6.heap.size, 0, 0, 0) _ ⟨hHeld, n_four⟩)
                                · skip
                                  have n_four := Four.ins [] [] (Four.nil (N := w6.heap.size) (w := w6.drew)) (Nat.le_refl _)
                                  refine value_ (w1 := ?_) (v := ?_) (by rfl) rfl ?_ ?_
                                  rotate_left 2
                                  · go_simp
                                    constructor
                                    · rfl
                                    · rfl
                                  refine hK.out _ _ ((below_alloc hHeld _)) (fun hHeld => ?_)
                                  clear hK K
                                  refine norm_ (a' := ?_) ?_ ?_
                                  rotate_left
                                  · show Act.put _ (some 8) _ = _
                                    simp only [Act.put, List.setIfInBounds_toArray, List.set_cons_zero, List.set_cons_succ]
                                    rfl
                                  exact norm_ (by first | (simp only [putAll, Act.put, List.setIfInBounds_toArray, List.set_cons_zero, List.set_cons_succ]; done) | (simp only [putAll, Act.put, List.setIfInBounds_toArray, List.set_cons_zero, List.set_cons_succ]; rfl)) (hJ5 (0, w6.heap.size, 0, 0) _ ⟨hHeld, n_four⟩)
                                · skip
                                  have n_four := Four.ins [] [] (Four.nil (N := w6.heap.size) (w := w6.drew)) (Nat.le_refl _)
                                  refine value_ (w1 := ?_) (v := ?_) (by rfl) rfl ?_ ?_
                                  rotate_left 2
                                  · go_simp
                                    constructor
                                    · rfl
                                    · rfl
                                  refine hK.out _ _ ((below_alloc hHeld _)) (fun hHeld => ?_)
                                  clear hK K
                                  refine norm_ (a' := ?_) ?_ ?_
                                  rotate_left
                                  · show Act.put _ (some 9) _ = _
                                    simp only [Act.put, List.setIfInBounds_toArray, List.set_cons_zero, List.set_cons_succ]
                                    rfl
                                  exact norm_ (by first | (simp only [putAll, Act.put, List.setIfInBounds_toArray, List.set_cons_zero, List.set_cons_succ]; done) | (simp only [putAll, Act.put, List.setIfInBounds_toArray, List.set_cons_zero, List.set_cons_succ]; rfl)) (hJ6 (0, 0, w6.heap.size, 0) _ ⟨hHeld, n_four⟩)
                                · skip
                                  have n_four := Four.ins [] [] (Four.nil (N := w6.heap.size) (w := w6.drew)) (Nat.le_refl _)
                                  refine value_ (w1 := ?_) (v := ?_) (by rfl) rfl ?_ ?_
                                  rotate_left 2
                                  · go_simp
                                    constructor
                                    · rfl
                                    · rfl
                                  refine hK.out _ _ ((below_alloc hHeld _)) (fun hHeld => ?_)
                                  clear hK K
                                  refine norm_ (a' := ?_) ?_ ?_
                                  rotate_left
                                  · show Act.put _ (some 10) _ = _
                                    simp only [Act.put, List.setIfInBounds_toArray, List.set_cons_zero, List.set_cons_succ]
                                    rfl
                                  exact norm_ (by first | (simp only [putAll, Act.put, List.setIfInBounds_toArray, List.set_cons_zero, List.set_cons_succ]; done) | (simp only [putAll, Act.put, List.setIfInBounds_toArray, List.set_cons_zero, List.set_cons_succ]; rfl)) (hJ7 (0, 0, 0, w6.heap.size) _ ⟨hHeld, n_four⟩)
                              · skip
                                rintro ⟨B1, B2, B3, B4_⟩ w9 ⟨hHeld, hFour⟩
                                refine norm_ (a' := ?_) ?_ ?_
                                rotate_left
                                · simp only [putAll, Act.put, List.setIfInBounds_toArray, List.set_cons_zero, List.set_cons_succ]
                                  rfl
                                refine three_ (i := 4) (j := 5) (k := 6) (Ni := some 7) (Nj := some 8) (Nk := some 9) #[true, true, true, true, true, false, false, true, false, false, false, false] #[true, true, true, true, false, true, false, true, false, false, false, false] #[true, true, true, true, false, false, true, true, false, false, false, false] rfl rfl rfl rfl rfl rfl (three_of HT_.out (by kernel_rfl)) (by decide) (by decide) (by decide) (fun K hK => ?_) (fun K hK => ?_) (fun K hK => ?_)
                                · skip
                                  have n_four := Four.ins [] [B4_] hFour hHeld.size
                                  refine value_ (w1 := ?_) (v := ?_) (by rfl) rfl ?_ ?_
                                  rotate_left 2
                                  · go_simp
                                    constructor
                                    · rfl
                                    · rfl
                                  refine hK.out _ _ ((below_alloc hHeld _)) (fun hHeld => ?_)
                                  clear hK K
                                  refine norm_ (a' := ?_) ?_ ?_
                                  rotate_left
                                  · show Act.put _ (some 7) _ = _
                                    simp only [Act.put, List.setIfInBounds_toArray, List.set_cons_zero, List.set_cons_succ]
                                    rfl
                                  exact norm_ (by first | (simp only [putAll, Act.put, List.setIfInBounds_toArray, List.set_cons_zero, List.set_cons_succ]; done) | (simp only [putAll, Act.put, List.setIfInBounds_toArray, List.set_cons_zero, List.set_cons_succ]; rfl)) (hJ4_7 (w9.heap.size, B2, B3, B4_) _ ⟨hHeld, n_four⟩)
                                · skip
                                  have n_four := Four.ins [] [B4_] hFour hHeld.size
                                  refine value_ (w1 := ?_) (v := ?_) (by rfl) rfl ?_ ?_
                                  rotate_left 2
                                  · go_simp
                                    constructor
                                    · rfl
                                    · rfl
                                  refine hK.out _ _ ((below_alloc hHeld _)) (fun hHeld => ?_)
                                  clear hK K
                                  refine norm_ (a' := ?_) ?_ ?_
                                  rotate_left
                                  · show Act.put _ (some 8) _ = _
                                    simp only [Act.put, List.setIfInBounds_toArray, List.set_cons_zero, List.set_cons_succ]
                                    rfl
                                  exact norm_ (by first | (simp only [putAll, Act.put, List.setIfInBounds_toArray, List.set_cons_zero, List.set_cons_succ]; done) | (simp only [putAll, Act.put, List.setIfInBounds_toArray, List.set_cons_zero, List.set_cons_succ]; rfl)) (hJ5_7 (B1, w9.heap.size, B3, B4_) _ ⟨hHeld, n_four⟩)
                                · skip
                                  have n_four := Four.ins [] [B4_] hFour hHeld.size
                                  refine value_ (w1 := ?_) (v := ?_) (by rfl) rfl ?_ ?_
                                  rotate_left 2
                                  · go_simp
                                    constructor
                                    · rfl
                                    · rfl
                                  refine hK.out _ _ ((below_alloc hHeld _)) (fun hHeld => ?_)
                                  clear hK K
                                  refine norm_ (a' := ?_) ?_ ?_
                                  rotate_left
                                  · show Act.put _ (some 9) _ = _
                                    simp only [Act.put, List.setIfInBounds_toArray, List.set_cons_zero, List.set_cons_succ]
                                    rfl
                                  exact norm_ (by first | (simp only [putAll, Act.put, List.setIfInBounds_toArray, List.set_cons_zero, List.set_cons_succ]; done) | (simp only [putAll, Act.put, List.setIfInBounds_toArray, List.set_cons_zero, List.set_cons_succ]; rfl)) (hJ6_7 (B1, B2, w9.heap.size, B4_) _ ⟨hHeld, n_four⟩)
                            · skip
                              rintro ⟨B1, B2, B3, B4_⟩ w9 ⟨hHeld, hFour⟩
                              refine norm_ (a' := ?_) ?_ ?_
                              rotate_left
                              · simp only [putAll, Act.put, List.setIfInBounds_toArray, List.set_cons_zero, List.set_cons_succ]
                                rfl
                              refine three_ (i := 4) (j := 5) (k := 7) (Ni := some 7) (Nj := some 8) (Nk := some 10) #[true, true, true, true, true, false, true, false, false, false, false, false] #[true, true, true, true, false, true, true, false, false, false, false, false] #[true, true, true, true, false, false, true, true, false, false, false, false] rfl rfl rfl rfl rfl rfl (three_of HT_.out (by kernel_rfl)) (by decide) (by decide) (by decide) (fun K hK => ?_) (fun K hK => ?_) (fun K hK => ?_)
                              · skip
                                have n_four := Four.ins [] [B3] hFour hHeld.size
                                refine value_ (w1 := ?_) (v := ?_) (by rfl) rfl ?_ ?_
                                rotate_left 2
                                · go_simp
                                  constructor
                                  · rfl
                                  · rfl
                                refine hK.out _ _ ((below_alloc hHeld _)) (fun hHeld => ?_)
                                clear hK K
                                refine norm_ (a' := ?_) ?_ ?_
                                rotate_left
                                · show Act.put _ (some 7) _ = _
                                  simp only [Act.put, List.setIfInBounds_toArray, List.set_cons_zero, List.set_cons_succ]
                                  rfl
                                exact norm_ (by first | (simp only [putAll, Act.put, List.setIfInBounds_toArray, List.set_cons_zero, List.set_cons_succ]; done) | (simp only [putAll, Act.put, List.setIfInBounds_toArray, List.set_cons_zero, List.set_cons_succ]; rfl)) (hJ4_6 (w9.heap.size, B2, B3, B4_) _ ⟨hHeld, n_four⟩)
                              · skip
                                have n_four := Four.ins [] [B3] hFour hHeld.size
                                refine value_ (w1 := ?_) (v := ?_) (by rfl) rfl ?_ ?_
                                rotate_left 2
                                · go_simp
                                  constructor
                                  · rfl
                                  · rfl
                                refine hK.out _ _ ((below_alloc hHeld _)) (fun hHeld => ?_)
                                clear hK K
                                refine norm_ (a' := ?_) ?_ ?_
                                rotate_left
                                · show Act.put _ (some 8) _ = _
                                  simp only [Act.put, List.setIfInBounds_toArray, List.set_cons_zero, List.set_cons_succ]
                                  rfl
                                exact norm_ (by first | (simp only [putAll, Act.put, List.setIfInBounds_toArray, List.set_cons_zero, List.set_cons_succ]; done) | (simp only [putAll, Act.put, List.setIfInBounds_toArray, List.set_cons_zero, List.set_cons_succ]; rfl)) (hJ5_6 (B1, w9.heap.size, B3, B4_) _ ⟨hHeld, n_four⟩)
                              · skip
                                have n_four := Four.ins [B3] [] hFour hHeld.size
                                refine value_ (w1 := ?_) (v := ?_) (by rfl) rfl ?_ ?_
                                rotate_left 2
                                · go_simp
                                  constructor
                                  · rfl
                                  · rfl
                                refine hK.out _ _ ((below_alloc hHeld _)) (fun hHeld => ?_)
                                clear hK K
                                refine norm_ (a' := ?_) ?_ ?_
                                rotate_left
                                · show Act.put _ (some 10) _ = _
                                  simp only [Act.put, List.setIfInBounds_toArray, List.set_cons_zero, List.set_cons_succ]
                                  rfl
                                exact norm_ (by first | (simp only [putAll, Act.put, List.setIfInBounds_toArray, List.set_cons_zero, List.set_cons_succ]; done) | (simp only [putAll, Act.put, List.setIfInBounds_toArray, List.set_cons_zero, List.set_cons_succ]; rfl)) (hJ6_7 (B1, B2, B3, w9.heap.size) _ ⟨hHeld, n_four⟩)
                          · skip
                            rintro ⟨B1, B2, B3, B4_⟩ w9 ⟨hHeld, hFour⟩
                            refine norm_ (a' := ?_) ?_ ?_
                            rotate_left
                            · simp only [putAll, Act.put, List.setIfInBounds_toArray, List.set_cons_zero, List.set_cons_succ]
                              rfl
                            refine three_ (i := 4) (j := 6) (k := 7) (Ni := some 7) (Nj := some 9) (Nk := some 10) #[true, true, true, true, true, true, false, false, false, false, false, false] #[true, true, true, true, false, true, true, false, false, false, false, false] #[true, true, true, true, false, true, false, true, false, false, false, false] rfl rfl rfl rfl rfl rfl (three_of HT_.out (by kernel_rfl)) (by decide) (by decide) (by decide) (fun K hK => ?_) (fun K hK => ?_) (fun K hK => ?_)
                            · skip
                              have n_four := Four.ins [] [B2] hFour hHeld.size
                              refine value_ (w1 := ?_) (v := ?_) (by rfl) rfl ?_ ?_
                              rotate_left 2
                              · go_simp
                                constructor
                                · rfl
                                · rfl
                              refine hK.out _ _ ((below_alloc hHeld _)) (fun hHeld => ?_)
                              clear hK K
                              refine norm_ (a' := ?_) ?_ ?_
                              rotate_left
                              · show Act.put _ (some 7) _ = _
                                simp only [Act.put, List.setIfInBounds_toArray, List.set_cons_zero, List.set_cons_succ]
                                rfl
                              exact norm_ (by first | (simp only [putAll, Act.put, List.setIfInBounds_toArray, List.set_cons_zero, List.set_cons_succ]; done) | (simp only [putAll, Act.put, List.setIfInBounds_toArray, List.set_cons_zero, List.set_cons_succ]; rfl)) (hJ4_5 (w9.heap.size, B2, B3, B4_) _ ⟨hHeld, n_four⟩)
                            · skip
                              have n_four := Four.ins [B2] [] hFour hHeld.size
                              refine value_ (w1 := ?_) (v := ?_) (by rfl) rfl ?_ ?_
                              rotate_left 2
                              · go_simp
                                constructor
                                · rfl
                                · rfl
                              refine hK.out _ _ ((below_alloc hHeld _)) (fun hHeld => ?_)
                              clear hK K
                              refine norm_ (a' := ?_) ?_ ?_
                              rotate_left
                              · show Act.put _ (some 9) _ = _
                                simp only [Act.put, List.setIfInBounds_toArray, List.set_cons_zero, List.set_cons_succ]
                                rfl
                              exact norm_ (by first | (simp only [putAll, Act.put, List.setIfInBounds_toArray, List.set_cons_zero, List.set_cons_succ]; done) | (simp only [putAll, Act.put, List.setIfInBounds_toArray, List.set_cons_zero, List.set_cons_succ]; rfl)) (hJ5_6 (B1, B2, w9.heap.size, B4_) _ ⟨hHeld, n_four⟩)
                            · skip
                              have n_four := Four.ins [B2] [] hFour hHeld.size
                              refine value_ (w1 := ?_) (v := ?_) (by rfl) rfl ?_ ?_
                              rotate_left 2
                              · go_simp
                                constructor
                                · rfl
                                · rfl
                              refine hK.out _ _ ((below_alloc hHeld _)) (fun hHeld => ?_)
                              clear hK K
                              refine norm_ (a' := ?_) ?_ ?_
                              rotate_left
                              · show Act.put _ (some 10) _ = _
                                simp only [Act.put, List.setIfInBounds_toArray, List.set_cons_zero, List.set_cons_succ]
                                rfl
                              exact norm_ (by first | (simp only [putAll, Act.put, List.setIfInBounds_toArray, List.set_cons_zero, List.set_cons_succ]; done) | (simp only [putAll, Act.put, List.setIfInBounds_toArray, List.set_cons_zero, List.set_cons_succ]; rfl)) (hJ5_7 (B1, B2, B3, w9.heap.size) _ ⟨hHeld, n_four⟩)
                        · skip
                          rintro ⟨B1, B2, B3, B4_⟩ w9 ⟨hHeld, hFour⟩
                          refine norm_ (a' := ?_) ?_ ?_
                          rotate_left
                          · simp only [putAll, Act.put, List.setIfInBounds_toArray, List.set_cons_zero, List.set_cons_succ]
                            rfl
                          refine three_ (i := 5) (j := 6) (k := 7) (Ni := some 8) (Nj := some 9) (Nk := some 10) #[true, true, true, true, true, true, false, false, false, false, false, false] #[true, true, true, true, true, false, true, false, false, false, false, false] #[true, true, true, true, true, false, false, true, false, false, false, false] rfl rfl rfl rfl rfl rfl (three_of HT_.out (by kernel_rfl)) (by decide) (by decide) (by decide) (fun K hK => ?_) (fun K hK => ?_) (fun K hK => ?_)
                          · skip
                            have n_four := Four.ins [B1] [] hFour hHeld.size
                            refine value_ (w1 := ?_) (v := ?_) (by rfl) rfl ?_ ?_
                            rotate_left 2
                            · go_simp
                              constructor
                              · rfl
                              · rfl
                            refine hK.out _ _ ((below_alloc hHeld _)) (fun hHeld => ?_)
                            clear hK K
                            refine norm_ (a' := ?_) ?_ ?_
                            rotate_left
                            · show Act.put _ (some 8) _ = _
                              simp only [Act.put, List.setIfInBounds_toArray, List.set_cons_zero, List.set_cons_succ]
                              rfl
                            exact norm_ (by first | (simp only [putAll, Act.put, List.setIfInBounds_toArray, List.set_cons_zero, List.set_cons_succ]; done) | (simp only [putAll, Act.put, List.setIfInBounds_toArray, List.set_cons_zero, List.set_cons_succ]; rfl)) (hJ4_5 (B1, w9.heap.size, B3, B4_) _ ⟨hHeld, n_four⟩)
                          · skip
                            have n_four := Four.ins [B1] [] hFour hHeld.size
                            refine value_ (w1 := ?_) (v := ?_) (by rfl) rfl ?_ ?_
                            rotate_left 2
                            · go_simp
                              constructor
                              · rfl
                              · rfl
                            refine hK.out _ _ ((below_alloc hHeld _)) (fun hHeld => ?_)
                            clear hK K
                            refine norm_ (a' := ?_) ?_ ?_
                            rotate_left
                            · show Act.put _ (some 9) _ = _
                              simp only [Act.put, List.setIfInBounds_toArray, List.set_cons_zero, List.set_cons_succ]
                              rfl
                            exact norm_ (by first | (simp only [putAll, Act.put, List.setIfInBounds_toArray, List.set_cons_zero, List.set_cons_succ]; done) | (simp only [putAll, Act.put, List.setIfInBounds_toArray, List.set_cons_zero, List.set_cons_succ]; rfl)) (hJ4_6 (B1, B2, w9.heap.size, B4_) _ ⟨hHeld, n_four⟩)
                          · skip
                            have n_four := Four.ins [B1] [] hFour hHeld.size
                            refine value_ (w1 := ?_) (v := ?_) (by rfl) rfl ?_ ?_
                            rotate_left 2
                            · go_simp
                              constructor
                              · rfl
                              · rfl
                            refine hK.out _ _ ((below_alloc hHeld _)) (fun hHeld => ?_)
                            clear hK K
                            refine norm_ (a' := ?_) ?_ ?_
                            rotate_left
                            · show Act.put _ (some 10) _ = _
                              simp only [Act.put, List.setIfInBounds_toArray, List.set_cons_zero, List.set_cons_succ]
                              rfl
                            exact norm_ (by first | (simp only [putAll, Act.put, List.setIfInBounds_toArray, List.set_cons_zero, List.set_cons_succ]; done) | (simp only [putAll, Act.put, List.setIfInBounds_toArray, List.set_cons_zero, List.set_cons_succ]; rfl)) (hJ4_7 (B1, B2, B3, w9.heap.size) _ ⟨hHeld, n_four⟩)
                      · skip
                        rintro ⟨B1, B2, B3, B4_⟩ w9 ⟨hHeld, hFour⟩
                        refine norm_ (a' := ?_) ?_ ?_
                        rotate_left
                        · simp only [putAll, Act.put, List.setIfInBounds_toArray, List.set_cons_zero, List.set_cons_succ]
                          rfl
                        refine two_ (i := 4) (j := 5) (Ni := some 7) (Nj := some 8) #[true, true, true, true, true, false, true, true, false, false, false, false] #[true, true, true, true, false, true, true, true, false, false, false, false] rfl rfl rfl rfl (two_of HT_.out (by kernel_rfl)) (by decide) (by decide) (fun K hK => ?_) (fun K hK => ?_)
                        · skip
                          have n_four := Four.ins [] [B3, B4_] hFour hHeld.size
                          refine value_ (w1 := ?_) (v := ?_) (by rfl) rfl ?_ ?_
                          rotate_left 2
                          · go_simp
                            constructor
                            · rfl
                            · rfl
                          refine hK.out _ _ ((below_alloc hHeld _)) (fun hHeld => ?_)
                          clear hK K
                          refine norm_ (a' := ?_) ?_ ?_
                          rotate_left
                          · show Act.put _ (some 7) _ = _
                            simp only [Act.put, List.setIfInBounds_toArray, List.set_cons_zero, List.set_cons_succ]
                            rfl
                          exact norm_ (by first | (simp only [putAll, Act.put, List.setIfInBounds_toArray, List.set_cons_zero, List.set_cons_succ]; done) | (simp only [putAll, Act.put, List.setIfInBounds_toArray, List.set_cons_zero, List.set_cons_succ]; rfl)) (hJ4_6_7 (w9.heap.size, B2, B3, B4_) _ ⟨hHeld, n_four⟩)
                        · skip
                          have n_four := Four.ins [] [B3, B4_] hFour hHeld.size
                          refine value_ (w1 := ?_) (v := ?_) (by rfl) rfl ?_ ?_
                          rotate_left 2
                          · go_simp
                            constructor
                            · rfl
                            · rfl
                          refine hK.out _ _ ((below_alloc hHeld _)) (fun hHeld => ?_)
                          clear hK K
                          refine norm_ (a' := ?_) ?_ ?_
                          rotate_left
                          · show Act.put _ (some 8) _ = _
                            simp only [Act.put, List.setIfInBounds_toArray, List.set_cons_zero, List.set_cons_succ]
                            rfl
                          exact norm_ (by first | (simp only [putAll, Act.put, List.setIfInBounds_toArray, List.set_cons_zero, List.set_cons_succ]; done) | (simp only [putAll, Act.put, List.setIfInBounds_toArray, List.set_cons_zero, List.set_cons_succ]; rfl)) (hJ5_6_7 (B1, w9.heap.size, B3, B4_) _ ⟨hHeld, n_four⟩)
                    · skip
                      rintro ⟨B1, B2, B3, B4_⟩ w9 ⟨hHeld, hFour⟩
                      refine norm_ (a' := ?_) ?_ ?_
                      rotate_left
                      · simp only [putAll, Act.put, List.setIfInBounds_toArray, List.set_cons_zero, List.set_cons_succ]
                        rfl
                      refine two_ (i := 4) (j := 6) (Ni := some 7) (Nj := some 9) #[true, true, true, true, true, true, false, true, false, false, false, false] #[true, true, true, true, false, true, true, true, false, false, false, false] rfl rfl rfl rfl (two_of HT_.out (by kernel_rfl)) (by decide) (by decide) (fun K hK => ?_) (fun K hK => ?_)
                      · skip
                        have n_four := Four.ins [] [B2, B4_] hFour hHeld.size
                        refine value_ (w1 := ?_) (v := ?_) (by rfl) rfl ?_ ?_
                        rotate_left 2
                        · go_simp
                          constructor
                          · rfl
                          · rfl
                        refine hK.out _ _ ((below_alloc hHeld _)) (fun hHeld => ?_)
                        clear hK K
                        refine norm_ (a' := ?_) ?_ ?_
                        rotate_left
                        · show Act.put _ (some 7) _ = _
                          simp only [Act.put, List.setIfInBounds_toArray, List.set_cons_zero, List.set_cons_succ]
                          rfl
                        exact norm_ (by first | (simp only [putAll, Act.put, List.setIfInBounds_toArray, List.set_cons_zero, List.set_cons_succ]; done) | (simp only [putAll, Act.put, List.setIfInBounds_toArray, List.set_cons_zero, List.set_cons_succ]; rfl)) (hJ4_5_7 (w9.heap.size, B2, B3, B4_) _ ⟨hHeld, n_four⟩)
                      · skip
                        have n_four := Four.ins [B2] [B4_] hFour hHeld.size
                        refine value_ (w1 := ?_) (v := ?_) (by rfl) rfl ?_ ?_
                        rotate_left 2
                        · go_simp
                          constructor
                          · rfl
                          · rfl
                        refine hK.out _ _ ((below_alloc hHeld _)) (fun hHeld => ?_)
                        clear hK K
                        refine norm_ (a' := ?_) ?_ ?_
                        rotate_left
                        · show Act.put _ (some 9) _ = _
                          simp only [Act.put, List.setIfInBounds_toArray, List.set_cons_zero, List.set_cons_succ]
                          rfl
                        exact norm_ (by first | (simp only [putAll, Act.put, List.setIfInBounds_toArray, List.set_cons_zero, List.set_cons_succ]; done) | (simp only [putAll, Act.put, List.setIfInBounds_toArray, List.set_cons_zero, List.set_cons_succ]; rfl)) (hJ5_6_7 (B1, B2, w9.heap.size, B4_) _ ⟨hHeld, n_four⟩)
                  · skip
                    rintro ⟨B1, B2, B3, B4_⟩ w9 ⟨hHeld, hFour⟩
                    refine norm_ (a' := ?_) ?_ ?_
                    rotate_left
                    · simp only [putAll, Act.put, List.setIfInBounds_toArray, List.set_cons_zero, List.set_cons_succ]
                      rfl
                    refine two_ (i := 4) (j := 7) (Ni := some 7) (Nj := some 10) #[true, true, true, true, true, true, true, false, false, false, false, false] #[true, true, true, true, false, true, true, true, false, false, false, false] rfl rfl rfl rfl (two_of HT_.out (by kernel_rfl)) (by decide) (by decide) (fun K hK => ?_) (fun K hK => ?_)
                    · skip
                      have n_four := Four.ins [] [B2, B3] hFour hHeld.size
                      refine value_ (w1 := ?_) (v := ?_) (by rfl) rfl ?_ ?_
                      rotate_left 2
                      · go_simp
                        constructor
                        · rfl
                        · rfl
                      refine hK.out _ _ ((below_alloc hHeld _)) (fun hHeld => ?_)
                      clear hK K
                      refine norm_ (a' := ?_) ?_ ?_
                      rotate_left
                      · show Act.put _ (some 7) _ = _
                        simp only [Act.put, List.setIfInBounds_toArray, List.set_cons_zero, List.set_cons_succ]
                        rfl
                      exact norm_ (by first | (simp only [putAll, Act.put, List.setIfInBounds_toArray, List.set_cons_zero, List.set_cons_succ]; done) | (simp only [putAll, Act.put, List.setIfInBounds_toArray, List.set_cons_zero, List.set_cons_succ]; rfl)) (hJ4_5_6 (w9.heap.size, B2, B3, B4_) _ ⟨hHeld, n_four⟩)
                    · skip
                      have n_four := Four.ins [B2, B3] [] hFour hHeld.size
                      refine value_ (w1 := ?_) (v := ?_) (by rfl) rfl ?_ ?_
                      rotate_left 2
                      · go_simp
                        constructor
                        · rfl
                        · rfl
                      refine hK.out _ _ ((below_alloc hHeld _)) (fun hHeld => ?_)
                      clear hK K
                      refine norm_ (a' := ?_) ?_ ?_
                      rotate_left
                      · show Act.put _ (some 10) _ = _
                        simp only [Act.put, List.setIfInBounds_toArray, List.set_cons_zero, List.set_cons_succ]
                        rfl
                      exact norm_ (by first | (simp only [putAll, Act.put, List.setIfInBounds_toArray, List.set_cons_zero, List.set_cons_succ]; done) | (simp only [putAll, Act.put, List.setIfInBounds_toArray, List.set_cons_zero, List.set_cons_succ]; rfl)) (hJ5_6_7 (B1, B2, B3, w9.heap.size) _ ⟨hHeld, n_four⟩)
                · skip
                  rintro ⟨B1, B2, B3, B4_⟩ w9 ⟨hHeld, hFour⟩
                  refine norm_ (a' := ?_) ?_ ?_
                  rotate_left
                  · simp only [putAll, Act.put, List.setIfInBounds_toArray, List.set_cons_zero, List.set_cons_succ]
                    rfl
                  refine two_ (i := 5) (j := 6) (Ni := some 8) (Nj := some 9) #[true, true, true, true, true, true, false, true, false, false, false, false] #[true, true, true, true, true, false, true, true, false, false, false, false] rfl rfl rfl rfl (two_of HT_.out (by kernel_rfl)) (by decide) (by decide) (fun K hK => ?_) (fun K hK => ?_)
                  · skip
                    have n_four := Four.ins [B1] [B4_] hFour hHeld.size
                    refine value_ (w1 := ?_) (v := ?_) (by rfl) rfl ?_ ?_
                    rotate_left 2
                    · go_simp
                      constructor
                      · rfl
                      · rfl
                    refine hK.out _ _ ((below_alloc hHeld _)) (fun hHeld => ?_)
                    clear hK K
                    refine norm_ (a' := ?_) ?_ ?_
                    rotate_left
                    · show Act.put _ (some 8) _ = _
                      simp only [Act.put, List.setIfInBounds_toArray, List.set_cons_zero, List.set_cons_succ]
                      rfl
                    exact norm_ (by first | (simp only [putAll, Act.put, List.setIfInBounds_toArray, List.set_cons_zero, List.set_cons_succ]; done) | (simp only [putAll, Act.put, List.setIfInBounds_toArray, List.set_cons_zero, List.set_cons_succ]; rfl)) (hJ4_5_7 (B1, w9.heap.size, B3, B4_) _ ⟨hHeld, n_four⟩)
                  · skip
                    have n_four := Four.ins [B1] [B4_] hFour hHeld.size
                    refine value_ (w1 := ?_) (v := ?_) (by rfl) rfl ?_ ?_
                    rotate_left 2
                    · go_simp
                      constructor
                      · rfl
                      · rfl
                    refine hK.out _ _ ((below_alloc hHeld _)) (fun hHeld => ?_)
                    clear hK K
                    refine norm_ (a' := ?_) ?_ ?_
                    rotate_left
                    · show Act.put _ (some 9) _ = _
                      simp only [Act.put, List.setIfInBounds_toArray, List.set_cons_zero, List.set_cons_succ]
                      rfl
                    exact norm_ (by first | (simp only [putAll, Act.put, List.setIfInBounds_toArray, List.set_cons_zero, List.set_cons_succ]; done) | (simp only [putAll, Act.put, List.setIfInBounds_toArray, List.set_cons_zero, List.set_cons_succ]; rfl)) (hJ4_6_7 (B1, B2, w9.heap.size, B4_) _ ⟨hHeld, n_four⟩)
              · skip
                rintro ⟨B1, B2, B3, B4_⟩ w9 ⟨hHeld, hFour⟩
                refine norm_ (a' := ?_) ?_ ?_
                rotate_left
                · simp only [putAll, Act.put, List.setIfInBounds_toArray, List.set_cons_zero, List.set_cons_succ]
                  rfl
                refine two_ (i := 5) (j := 7) (Ni := some 8) (Nj := some 10) #[true, true, true, true, true, true, true, false, false, false, false, false] #[true, true, true, true, true, false, true, true, false, false, false, false] rfl rfl rfl rfl (two_of HT_.out (by kernel_rfl)) (by decide) (by decide) (fun K hK => ?_) (fun K hK => ?_)
                · skip
                  have n_four := Four.ins [B1] [B3] hFour hHeld.size
                  refine value_ (w1 := ?_) (v := ?_) (by rfl) rfl ?_ ?_
                  rotate_left 2
                  · go_simp
                    constructor
                    · rfl
                    · rfl
                  refine hK.out _ _ ((below_alloc hHeld _)) (fun hHeld => ?_)
                  clear hK K
                  refine norm_ (a' := ?_) ?_ ?_
                  rotate_left
                  · show Act.put _ (some 8) _ = _
                    simp only [Act.put, List.setIfInBounds_toArray, List.set_cons_zero, List.set_cons_succ]
                    rfl
                  exact norm_ (by first | (simp only [putAll, Act.put, List.setIfInBounds_toArray, List.set_cons_zero, List.set_cons_succ]; done) | (simp only [putAll, Act.put, List.setIfInBounds_toArray, List.set_cons_zero, List.set_cons_succ]; rfl)) (hJ4_5_6 (B1, w9.heap.size, B3, B4_) _ ⟨hHeld, n_four⟩)
                · skip
                  have n_four := Four.ins [B1, B3] [] hFour hHeld.size
                  refine value_ (w1 := ?_) (v := ?_) (by rfl) rfl ?_ ?_
                  rotate_left 2
                  · go_simp
                    constructor
                    · rfl
                    · rfl
                  refine hK.out _ _ ((below_alloc hHeld _)) (fun hHeld => ?_)
                  clear hK K
                  refine norm_ (a' := ?_) ?_ ?_
                  rotate_left
                  · show Act.put _ (some 10) _ = _
                    simp only [Act.put, List.setIfInBounds_toArray, List.set_cons_zero, List.set_cons_succ]
                    rfl
                  exact norm_ (by first | (simp only [putAll, Act.put, List.setIfInBounds_toArray, List.set_cons_zero, List.set_cons_succ]; done) | (simp only [putAll, Act.put, List.setIfInBounds_toArray, List.set_cons_zero, List.set_cons_succ]; rfl)) (hJ4_6_7 (B1, B2, B3, w9.heap.size) _ ⟨hHeld, n_four⟩)
            · skip
              rintro ⟨B1, B2, B3, B4_⟩ w9 ⟨hHeld, hFour⟩
              refine norm_ (a' := ?_) ?_ ?_
              rotate_left
              · simp only [putAll, Act.put, List.setIfInBounds_toArray, List.set_cons_zero, List.set_cons_succ]
                rfl
              refine two_ (i := 6) (j := 7) (Ni := some 9) (Nj := some 10) #[true, true, true, true, true, true, true, false, false, false, false, false] #[true, true, true, true, true, true, false, true, false, false, false, false] rfl rfl rfl rfl (two_of HT_.out (by kernel_rfl)) (by decide) (by decide) (fun K hK => ?_) (fun K hK => ?_)
              · skip
                have n_four := Four.ins [B1, B2] [] hFour hHeld.size
                refine value_ (w1 := ?_) (v := ?_) (by rfl) rfl ?_ ?_
                rotate_left 2
                · go_simp
                  constructor
                  · rfl
                  · rfl
                refine hK.out _ _ ((below_alloc hHeld _)) (fun hHeld => ?_)
                clear hK K
                refine norm_ (a' := ?_) ?_ ?_
                rotate_left
                · show Act.put _ (some 9) _ = _
                  simp only [Act.put, List.setIfInBounds_toArray, List.set_cons_zero, List.set_cons_succ]
                  rfl
                exact norm_ (by first | (simp only [putAll, Act.put, List.setIfInBounds_toArray, List.set_cons_zero, List.set_cons_succ]; done) | (simp only [putAll, Act.put, List.setIfInBounds_toArray, List.set_cons_zero, List.set_cons_succ]; rfl)) (hJ4_5_6 (B1, B2, w9.heap.size, B4_) _ ⟨hHeld, n_four⟩)
              · skip
                have n_four := Four.ins [B1, B2] [] hFour hHeld.size
                refine value_ (w1 := ?_) (v := ?_) (by rfl) rfl ?_ ?_
                rotate_left 2
                · go_simp
                  constructor
                  · rfl
                  · rfl
                refine hK.out _ _ ((below_alloc hHeld _)) (fun hHeld => ?_)
                clear hK K
                refine norm_ (a' := ?_) ?_ ?_
                rotate_left
                · show Act.put _ (some 10) _ = _
                  simp only [Act.put, List.setIfInBounds_toArray, List.set_cons_zero, List.set_cons_succ]
                  rfl
                exact norm_ (by first | (simp only [putAll, Act.put, List.setIfInBounds_toArray, List.set_cons_zero, List.set_cons_succ]; done) | (simp only [putAll, Act.put, List.setIfInBounds_toArray, List.set_cons_zero, List.set_cons_succ]; rfl)) (hJ4_5_7 (B1, B2, B3, w9.heap.size) _ ⟨hHeld, n_four⟩)
          · skip
            rintro ⟨B1, B2, B3, B4_⟩ w9 ⟨hHeld, hFour⟩
            refine norm_ (a' := ?_) ?_ ?_
            rotate_left
            · simp only [putAll, Act.put, List.setIfInBounds_toArray, List.set_cons_zero, List.set_cons_succ]
              rfl
            refine one_ (i := 4) (N := some 7) #[true, true, true, true, true, true, true, true, false, false, false, false] rfl rfl (one_of HT_.out (by kernel_rfl)) (by decide) (fun K hK => ?_)
            have n_four := Four.ins [] [B2, B3, B4_] hFour hHeld.size
            refine value_ (w1 := ?_) (v := ?_) (by rfl) rfl ?_ ?_
            rotate_left 2
            · go_simp
              constructor
              · rfl
              · rfl
            refine hK.out _ _ ((below_alloc hHeld _)) (fun hHeld => ?_)
            clear hK K
            refine norm_ (a' := ?_) ?_ ?_
            rotate_left
            · show Act.put _ (some 7) _ = _
              simp only [Act.put, List.setIfInBounds_toArray, List.set_cons_zero, List.set_cons_succ]
              rfl
            exact norm_ (by first | (simp only [putAll, Act.put, List.setIfInBounds_toArray, List.set_cons_zero, List.set_cons_succ]; done) | (simp only [putAll, Act.put, List.setIfInBounds_toArray, List.set_cons_zero, List.set_cons_succ]; rfl)) (hJ4_5_6_7 (w9.heap.size, B2, B3, B4_) _ ⟨hHeld, n_four⟩)
        · skip
          rintro ⟨B1, B2, B3, B4_⟩ w9 ⟨hHeld, hFour⟩
          refine norm_ (a' := ?_) ?_ ?_
          rotate_left
          · simp only [putAll, Act.put, List.setIfInBounds_toArray, List.set_cons_zero, List.set_cons_succ]
            rfl
          refine one_ (i := 5) (N := some 8) #[true, true, true, true, true, true, true, true, false, false, false, false] rfl rfl (one_of HT_.out (by kernel_rfl)) (by decide) (fun K hK => ?_)
          have n_four := Four.ins [B1] [B3, B4_] hFour hHeld.size
          refine value_ (w1 := ?_) (v := ?_) (by rfl) rfl ?_ ?_
          rotate_left 2
          · go_simp
            constructor
            · rfl
            · rfl
          refine hK.out _ _ ((below_alloc hHeld _)) (fun hHeld => ?_)
          clear hK K
          refine norm_ (a' := ?_) ?_ ?_
          rotate_left
          · show Act.put _ (some 8) _ = _
            simp only [Act.put, List.setIfInBounds_toArray, List.set_cons_zero, List.set_cons_succ]
            rfl
          exact norm_ (by first | (simp only [putAll, Act.put, List.setIfInBounds_toArray, List.set_cons_zero, List.set_cons_succ]; done) | (simp only [putAll, Act.put, List.setIfInBounds_toArray, List.set_cons_zero, List.set_cons_succ]; rfl)) (hJ4_5_6_7 (B1, w9.heap.size, B3, B4_) _ ⟨hHeld, n_four⟩)
      · skip
        rintro ⟨B1, B2, B3, B4_⟩ w9 ⟨hHeld, hFour⟩
        refine norm_ (a' := ?_) ?_ ?_
        rotate_left
        · simp only [putAll, Act.put, List.setIfInBounds_toArray, List.set_cons_zero, List.set_cons_succ]
          rfl
        refine one_ (i := 6) (N := some 9) #[true, true, true, true, true, true, true, true, false, false, false, false] rfl rfl (one_of HT_.out (by kernel_rfl)) (by decide) (fun K hK => ?_)
        have n_four := Four.ins [B1, B2] [B4_] hFour hHeld.size
        refine value_ (w1 := ?_) (v := ?_) (by rfl) rfl ?_ ?_
        rotate_left 2
        · go_simp
          constructor
          · rfl
          · rfl
        refine hK.out _ _ ((below_alloc hHeld _)) (fun hHeld => ?_)
        clear hK K
        refine norm_ (a' := ?_) ?_ ?_
        rotate_left
        · show Act.put _ (some 9) _ = _
          simp only [Act.put, List.setIfInBounds_toArray, List.set_cons_zero, List.set_cons_succ]
          rfl
        exact norm_ (by first | (simp only [putAll, Act.put, List.setIfInBounds_toArray, List.set_cons_zero, List.set_cons_succ]; done) | (simp only [putAll, Act.put, List.setIfInBounds_toArray, List.set_cons_zero, List.set_cons_succ]; rfl)) (hJ4_5_6_7 (B1, B2, w9.heap.size, B4_) _ ⟨hHeld, n_four⟩)
    · skip
      rintro ⟨B1, B2, B3, B4_⟩ w9 ⟨hHeld, hFour⟩
      refine norm_ (a' := ?_) ?_ ?_
      rotate_left
      · simp only [putAll, Act.put, List.setIfInBounds_toArray, List.set_cons_zero, List.set_cons_succ]
        rfl
      refine one_ (i := 7) (N := some 10) #[true, true, true, true, true, true, true, true, false, false, false, false] rfl rfl (one_of HT_.out (by kernel_rfl)) (by decide) (fun K hK => ?_)
      have n_four := Four.ins [B1, B2, B3] [] hFour hHeld.size
      refine value_ (w1 := ?_) (v := ?_) (by rfl) rfl ?_ ?_
      rotate_left 2
      · go_simp
        constructor
        · rfl
        · rfl
      refine hK.out _ _ ((below_alloc hHeld _)) (fun hHeld => ?_)
      clear hK K
      refine norm_ (a' := ?_) ?_ ?_
      rotate_left
      · show Act.put _ (some 10) _ = _
        simp only [Act.put, List.setIfInBounds_toArray, List.set_cons_zero, List.set_cons_succ]
        rfl
      exact norm_ (by first | (simp only [putAll, Act.put, List.setIfInBounds_toArray, List.set_cons_zero, List.set_cons_succ]; done) | (simp only [putAll, Act.put, List.setIfInBounds_toArray, List.set_cons_zero, List.set_cons_succ]; rfl)) (hJ4_5_6_7 (B1, B2, B3, w9.heap.size) _ ⟨hHeld, n_four⟩)
  rintro ⟨B1, B2, B3, B4_⟩ w9 ⟨hHeld, hFour⟩
  have M1 : Is w9 B1 48 .i64 z16 ∧ w6.heap.size ≤ B1 := hFour.all B1 (by simp)
  have M2 : Is w9 B2 48 .i64 z16 ∧ w6.heap.size ≤ B2 := hFour.all B2 (by simp)
  have M3 : Is w9 B3 48 .i64 z16 ∧ w6.heap.size ≤ B3 := hFour.all B3 (by simp)
  have M4 : Is w9 B4_ 48 .i64 z16 ∧ w6.heap.size ≤ B4_ := hFour.all B4_ (by simp)
  have ND : B1 ≠ B2 ∧ B1 ≠ B3 ∧ B1 ≠ B4_ ∧ B2 ≠ B3 ∧ B2 ≠ B4_ ∧ B3 ≠ B4_ := by
    have h := hFour.nodup
    simp at h
    omega
  have HB9 := hHeld
  have S6 := Aside0.mk (And.intro M1 (And.intro M2 (And.intro M3 (And.intro M4 (And.intro ND HB9)))))
  refine norm_ (a' := ?_) ?_ ?_
  rotate_left
  · simp only [putAll, Act.put, List.setIfInBounds_toArray, List.set_cons_zero, List.set_cons_succ]
    rfl
  refine one_ (i := 8) (N := none) #[true, true, true, true, true, true, true, true, true, false, false, false] rfl rfl (one_of HT_.out (by kernel_rfl)) (by decide) (fun K hK => ?_)
  refine store_is (b := B1) (e := 48) (k := .i64) (xs := z16) 48 (.tmp 7) (.tmp 32) (by rfl) rfl rfl oneF rfl rfl M1.1 rfl HI1.out ?_
  refine hK.out _ _ (below_put hHeld M1.2) (fun hHeld => ?_)
  clear hK K
  refine one_ (i := 9) (N := none) #[true, true, true, true, true, true, true, true, true, true, false, false] rfl rfl (one_of HT_.out (by kernel_rfl)) (by decide) (fun K hK => ?_)
  refine store_is (b := B2) (e := 48) (k := .i64) (xs := z16) 48 (.tmp 8) (.tmp 33) (by rfl) rfl rfl x rfl rfl (show Is (put w9 B1 .i64 oneF) B2 48 .i64 z16 from (put_other B2 (Ne.symm ND.1)).trans M2.1) HLx.out HIx.out ?_
  refine hK.out _ _ (below_put hHeld M2.2) (fun hHeld => ?_)
  clear hK K
  refine one_ (i := 10) (N := none) #[true, true, true, true, true, true, true, true, true, true, true, false] rfl rfl (one_of HT_.out (by kernel_rfl)) (by decide) (fun K hK => ?_)
  refine store_is (b := B3) (e := 48) (k := .i64) (xs := z16) 48 (.tmp 9) (.tmp 34) (by rfl) rfl rfl zeroF rfl rfl (show Is (put (put w9 B1 .i64 oneF) B2 .i64 x) B3 48 .i64 z16 from ((put_other B3 (Ne.symm ND.2.2.2.1)).trans (put_other B3 (Ne.symm ND.2.1))).trans M3.1) rfl HI1.out ?_
  refine hK.out _ _ (below_put hHeld M3.2) (fun hHeld => ?_)
  clear hK K
  refine last_ (i := 11) (N := none) #[true, true, true, true, true, true, true, true, true, true, true, true] rfl rfl (one_of HT_.out (by kernel_rfl)) (by decide) (fun K hK => ?_)
  refine store_is (b := B4_) (e := 48) (k := .i64) (xs := z16) 48 (.tmp 10) (.tmp 35) (by rfl) rfl rfl oneF rfl rfl (show Is (put (put (put w9 B1 .i64 oneF) B2 .i64 x) B3 .i64 zeroF) B4_ 48 .i64 z16 from (((put_other B4_ (Ne.symm ND.2.2.2.2.2)).trans (put_other B4_ (Ne.symm ND.2.2.2.2.1))).trans (put_other B4_ (Ne.symm ND.2.2.1))).trans M4.1) rfl HI1.out ?_
  refine hK.out _ _ ?_
  clear hK K
  refine done_ (done_of HT_.out (by kernel_rfl)) ?_
  generalize hW7 : put (put (put (put w9 B1 .i64 oneF) B2 .i64 x) B3 .i64 zeroF) B4_ .i64 oneF = w7
  have ND := S6.out.2.2.2.2.1
  have I1 := Aside0.mk (show Is w7 B1 48 .i64 oneF by rw [← hW7]; exact ((((put_other B1 ND.2.2.1).trans (put_other B1 ND.2.1)).trans (put_other B1 ND.1)).trans (put_heap S6.out.1.1)))
  have I2 := Aside0.mk (show Is w7 B2 48 .i64 x by rw [← hW7]; exact (((put_other B2 ND.2.2.2.2.1).trans (put_other B2 ND.2.2.2.1)).trans (put_heap ((put_other B2 (Ne.symm ND.1)).trans S6.out.2.1.1))))
  have I3 := Aside0.mk (show Is w7 B3 48 .i64 zeroF by rw [← hW7]; exact ((put_other B3 ND.2.2.2.2.2).trans (put_heap (((put_other B3 (Ne.symm ND.2.2.2.1)).trans (put_other B3 (Ne.symm ND.2.1))).trans S6.out.2.2.1.1))))
  have I4 := Aside0.mk (show Is w7 B4_ 48 .i64 oneF by rw [← hW7]; exact put_heap ((((put_other B4_ (Ne.symm ND.2.2.2.2.2)).trans (put_other B4_ (Ne.symm ND.2.2.2.2.1))).trans (put_other B4_ (Ne.symm ND.2.2.1))).trans S6.out.2.2.2.1.1))
  have B7 := Aside0.mk (show Below w6.heap.size w6 w7 by rw [← hW7]; exact below_put (below_put (below_put (below_put S6.out.2.2.2.2.2 S6.out.1.2) S6.out.2.1.2) S6.out.2.2.1.2) S6.out.2.2.2.1.2)
  have NN := Aside0.mk (show (B1 ≠ B2 ∧ B1 ≠ B3 ∧ B1 ≠ B4_ ∧ B2 ≠ B3 ∧ B2 ≠ B4_ ∧ B3 ≠ B4_) ∧ w6.heap.size ≤ B1 ∧ w6.heap.size ≤ B2 ∧ w6.heap.size ≤ B3 ∧ w6.heap.size ≤ B4_ from ⟨ND, S6.out.1.2, S6.out.2.1.2, S6.out.2.2.1.2, S6.out.2.2.2.1.2⟩)
  clear hW7 ND M1 M2 M3 M4 HB9 S6 hFour HI1 HIx HLx
  try clear hHeld
  go_wp2_with fail
  go_loopw [11] (fun v w' => ∃ n : Nat, n ≤ 255 ∧ v = .int .i64 (254 - (n : Int)) ∧ Aside0 (Is w' B1 48 .i64 (ladL x z n).1) ∧ Aside0 (Is w' B2 48 .i64 (ladL x z n).2.1) ∧ Aside0 (Is w' B3 48 .i64 (ladL x z n).2.2.1) ∧ Aside0 (Is w' B4_ 48 .i64 (ladL x z n).2.2.2) ∧ Aside0 (Below w6.heap.size w6 w')) (fun v _ => (intOf v + 1).toNat)
  case atStart => exact ⟨0, by omega, rfl, I1, I2, I3, I4, B7⟩
  case round =>
    obtain ⟨n, hn, hkv, Ja, Jb, Jc, Jd, JB⟩ := hrel
    obtain ⟨k, hk⟩ : ∃ k : Int, k = 254 - (n : Int) := ⟨_, rfl⟩
    rw [← hk] at hkv
    subst hkv
    have HK := Aside0.mk hk
    clear I1 I2 I3 I4 B7
    by_cases h255 : n < 255
    · obtain ⟨S, hS⟩ : ∃ S : St, S = ladL x z n := ⟨_, rfl⟩
      rw [← hS] at Ja Jb Jc Jd
      have SM := Aside0.mk (show Sms S by rw [hS]; exact sms_lad x z SXX.out n)
      have QS := Aside0.mk hS
      have i0 : (0 : Int) ≤ k := by omega
      have i1 : ¬ k < 0 := by omega
      have kw : wrap64 (k - 1) = k - 1 := wrap_id (by omega) (by omega)
      have p0 : (0 : Int) ≤ k / 8 := by omega
      have p1 : k / 8 < 32 := by omega
      obtain ⟨q, hq⟩ : ∃ q : Nat, q = (k / 8).toNat := ⟨_, rfl⟩
      obtain ⟨r, hr⟩ : ∃ r : Nat, r = (k % 8).toNat := ⟨_, rfl⟩
      have m3 : Go.bits .and .i64 k 7 = k % 8 := mask3 k
      obtain ⟨ad, hA, cz0⟩ := Kd.at_int (Kd.C_below CZ6.out JB.out) (k / 8) p0 p1
      obtain rfl := Option.some.inj hA
      have zb := ZB.out q
      obtain ⟨u, hu⟩ : ∃ u, u = rd z (k / 8) := ⟨_, rfl⟩
      rw [← hu] at cz0
      have hu2 : z.getD q 0 = u := by rw [hu, rd, hq]
      rw [hu2] at zb
      rw [Go.Proofs.YtlpoolcdoecodaaW.PrintWords.add_plain, ← hq] at cz0
      have pq : (k / 8).toNat = q := hq.symm
      have KR := Aside0.mk (show r < 8 ∧ k % 8 = (r : Int) ∧ (254 - n) / 8 = q ∧ (254 - n) % 8 = r by omega)
      have ZU := Aside0.mk hu2
      have UB := Aside0.mk zb
      clear hS hA hk hq hr hu hu2 zb
      go_upto_region 10 with (fail)
      obtain ⟨so, hso⟩ : ∃ so, so = wrap64 (Go.bits .and .u8 (u / 2 ^ (k % 8).toNat) 1) := ⟨_, rfl⟩
      rw [← hso]
      have SO := Aside0.mk (show so = bitZ z (254 - n) ∧ (so = 0 ∨ so = 1) by
        have hr : (k % 8).toNat = r := by rw [KR.out.2.1]; rfl
        have hu0 : 0 ≤ u / 2 ^ r := Int.ediv_nonneg UB.out.1 (Int.le_of_lt (Int.pow_pos (by decide)))
        have hu1 : u / 2 ^ r < 256 := Int.lt_of_le_of_lt (Int.ediv_le_self _ UB.out.1) UB.out.2
        rw [hr, bit0 _ hu0 hu1, wrap_id (by omega) (by omega)] at hso
        refine ⟨?_, by omega⟩
        rw [hso, bitZ, KR.out.2.2.1, KR.out.2.2.2, ZU.out])
      clear hso cz0 m3 pq p0 p1
      obtain ⟨a0, b0, c0_, d0⟩ := S
      obtain ⟨a, ha⟩ : ∃ y, y = if so = 1 then b0 else a0 := ⟨_, rfl⟩
      obtain ⟨b, hb⟩ : ∃ y, y = if so = 1 then a0 else b0 := ⟨_, rfl⟩
      obtain ⟨c, hc⟩ : ∃ y, y = if so = 1 then d0 else c0_ := ⟨_, rfl⟩
      obtain ⟨d, hd⟩ : ∃ y, y = if so = 1 then c0_ else d0 := ⟨_, rfl⟩
      have SW := Aside0.mk (show swL so (a0, b0, c0_, d0) = (a, b, c, d) by rw [ha, hb, hc, hd]; unfold swL; split <;> rfl)
      have SA := Aside0.mk (show Sms (a, b, c, d) by rw [← SW.out]; exact sms_sw so SM.out)
      have C1 := Aside0.mk (fun (W : World) (h1 : Is W B1 48 .i64 a0) (h2 : Is W B2 48 .i64 b0) => ha ▸ hb ▸ swap_calls B1 B2 NN.out.1.1 a0 b0 so SO.out.2 SM.out.a.len SM.out.b.len (bd_sm SM.out.a) (bd_sm SM.out.b) W h1 h2)
      have C2 := Aside0.mk (fun (W : World) (h1 : Is W B3 48 .i64 c0_) (h2 : Is W B4_ 48 .i64 d0) => hc ▸ hd ▸ swap_calls B3 B4_ NN.out.1.2.2.2.2.2 c0_ d0 so SO.out.2 SM.out.c.len SM.out.d.len (bd_sm SM.out.c) (bd_sm SM.out.d) W h1 h2)
      clear ha hb hc hd
      have MID := Aside0.mk (midL_def x a b c d)
      have Fx := Aside0.mk (IX.out.below JB.out)
      obtain ⟨e, h_e⟩ : ∃ y, y = plusF a c := ⟨_, rfl⟩
      have P_e := Aside0.mk (show e.length = 16 ∧ Bd 131200 e by rw [h_e]; exact ⟨(len_plus _ _ (show a.length = c.length by rw [SA.out.a.len, SA.out.c.len])).trans SA.out.a.len, bd_plus (show a.length = c.length by rw [SA.out.a.len, SA.out.c.len]) (bd_sm SA.out.a) (bd_sm SA.out.c)⟩)
      have C3 := Aside0.mk (fun (W : World) => show Calls Try.prog 26 #[ag a, ag c] W fun E_ w' => E_ = .returned (ag e) ∧ Below W.heap.size W w' from by rw [h_e]; exact plus_calls a c SA.out.a.len SA.out.c.len (bd_sm SA.out.a) (bd_sm SA.out.c) W)
      obtain ⟨a1, h_a1⟩ : ∃ y, y = minusF a c := ⟨_, rfl⟩
      have P_a1 := Aside0.mk (show a1.length = 16 ∧ Bd 131200 a1 by rw [h_a1]; exact ⟨(len_minus _ _ (show a.length = c.length by rw [SA.out.a.len, SA.out.c.len])).trans SA.out.a.len, bd_minus (show a.length = c.length by rw [SA.out.a.len, SA.out.c.len]) (bd_sm SA.out.a) (bd_sm SA.out.c)⟩)
      have C4 := Aside0.mk (fun (W : World) => show Calls Try.prog 27 #[ag a, ag c] W fun E_ w' => E_ = .returned (ag a1) ∧ Below W.heap.size W w' from by rw [h_a1]; exact minus_calls a c SA.out.a.len SA.out.c.len (bd_sm SA.out.a) (bd_sm SA.out.c) W)
      obtain ⟨c1_, h_c1_⟩ : ∃ y, y = plusF b d := ⟨_, rfl⟩
      have P_c1_ := Aside0.mk (show c1_.length = 16 ∧ Bd 131200 c1_ by rw [h_c1_]; exact ⟨(len_plus _ _ (show b.length = d.length by rw [SA.out.b.len, SA.out.d.len])).trans SA.out.b.len, bd_plus (show b.length = d.length by rw [SA.out.b.len, SA.out.d.len]) (bd_sm SA.out.b) (bd_sm SA.out.d)⟩)
      have C5 := Aside0.mk (fun (W : World) => show Calls Try.prog 26 #[ag b, ag d] W fun E_ w' => E_ = .returned (ag c1_) ∧ Below W.heap.size W w' from by rw [h_c1_]; exact plus_calls b d SA.out.b.len SA.out.d.len (bd_sm SA.out.b) (bd_sm SA.out.d) W)
      obtain ⟨b1, h_b1⟩ : ∃ y, y = minusF b d := ⟨_, rfl⟩
      have P_b1 := Aside0.mk (show b1.length = 16 ∧ Bd 131200 b1 by rw [h_b1]; exact ⟨(len_minus _ _ (show b.length = d.length by rw [SA.out.b.len, SA.out.d.len])).trans SA.out.b.len, bd_minus (show b.length = d.length by rw [SA.out.b.len, SA.out.d.len]) (bd_sm SA.out.b) (bd_sm SA.out.d)⟩)
      have C6 := Aside0.mk (fun (W : World) => show Calls Try.prog 27 #[ag b, ag d] W fun E_ w' => E_ = .returned (ag b1) ∧ Below W.heap.size W w' from by rw [h_b1]; exact minus_calls b d SA.out.b.len SA.out.d.len (bd_sm SA.out.b) (bd_sm SA.out.d) W)
      obtain ⟨d1, h_d1⟩ : ∃ y, y = mulF e e := ⟨_, rfl⟩
      have P_d1 := Aside0.mk (show Sm d1 by rw [h_d1]; exact sm_mul P_e.out.1 P_e.out.1 P_e.out.2 P_e.out.2)
      have C7 := Aside0.mk (fun (W : World) => show Calls Try.prog 28 #[ag e] W fun E_ w' => E_ = .returned (ag d1) ∧ Below W.heap.size W w' from by rw [h_d1]; exact square_calls e P_e.out.1 P_e.out.2 W)
      obtain ⟨f, h_f⟩ : ∃ y, y = mulF a1 a1 := ⟨_, rfl⟩
      have P_f := Aside0.mk (show Sm f by rw [h_f]; exact sm_mul P_a1.out.1 P_a1.out.1 P_a1.out.2 P_a1.out.2)
      have C8 := Aside0.mk (fun (W : World) => show Calls Try.prog 28 #[ag a1] W fun E_ w' => E_ = .returned (ag f) ∧ Below W.heap.size W w' from by rw [h_f]; exact square_calls a1 P_a1.out.1 P_a1.out.2 W)
      obtain ⟨a2, h_a2⟩ : ∃ y, y = mulF c1_ a1 := ⟨_, rfl⟩
      have P_a2 := Aside0.mk (show Sm a2 by rw [h_a2]; exact sm_mul P_c1_.out.1 P_a1.out.1 P_c1_.out.2 P_a1.out.2)
      have C9 := Aside0.mk (fun (W : World) => show Calls Try.prog 29 #[ag c1_, ag a1] W fun E_ w' => E_ = .returned (ag a2) ∧ Below W.heap.size W w' from by rw [h_a2]; exact times_calls c1_ a1 P_c1_.out.1 P_a1.out.1 P_c1_.out.2 P_a1.out.2 W)
      obtain ⟨c2, h_c2⟩ : ∃ y, y = mulF b1 e := ⟨_, rfl⟩
      have P_c2 := Aside0.mk (show Sm c2 by rw [h_c2]; exact sm_mul P_b1.out.1 P_e.out.1 P_b1.out.2 P_e.out.2)
      have C10 := Aside0.mk (fun (W : World) => show Calls Try.prog 29 #[ag b1, ag e] W fun E_ w' => E_ = .returned (ag c2) ∧ Below W.heap.size W w' from by rw [h_c2]; exact times_calls b1 e P_b1.out.1 P_e.out.1 P_b1.out.2 P_e.out.2 W)
      obtain ⟨e2, h_e2⟩ : ∃ y, y = plusF a2 c2 := ⟨_, rfl⟩
      have P_e2 := Aside0.mk (show e2.length = 16 ∧ Bd 131200 e2 by rw [h_e2]; exact ⟨(len_plus _ _ (show a2.length = c2.length by rw [P_a2.out.len, P_c2.out.len])).trans P_a2.out.len, bd_plus (show a2.length = c2.length by rw [P_a2.out.len, P_c2.out.len]) (bd_sm P_a2.out) (bd_sm P_c2.out)⟩)
      have C11 := Aside0.mk (fun (W : World) => show Calls Try.prog 26 #[ag a2, ag c2] W fun E_ w' => E_ = .returned (ag e2) ∧ Below W.heap.size W w' from by rw [h_e2]; exact plus_calls a2 c2 P_a2.out.len P_c2.out.len (bd_sm P_a2.out) (bd_sm P_c2.out) W)
      obtain ⟨a3, h_a3⟩ : ∃ y, y = minusF a2 c2 := ⟨_, rfl⟩
      have P_a3 := Aside0.mk (show a3.length = 16 ∧ Bd 131200 a3 by rw [h_a3]; exact ⟨(len_minus _ _ (show a2.length = c2.length by rw [P_a2.out.len, P_c2.out.len])).trans P_a2.out.len, bd_minus (show a2.length = c2.length by rw [P_a2.out.len, P_c2.out.len]) (bd_sm P_a2.out) (bd_sm P_c2.out)⟩)
      have C12 := Aside0.mk (fun (W : World) => show Calls Try.prog 27 #[ag a2, ag c2] W fun E_ w' => E_ = .returned (ag a3) ∧ Below W.heap.size W w' from by rw [h_a3]; exact minus_calls a2 c2 P_a2.out.len P_c2.out.len (bd_sm P_a2.out) (bd_sm P_c2.out) W)
      obtain ⟨b2, h_b2⟩ : ∃ y, y = mulF a3 a3 := ⟨_, rfl⟩
      have P_b2 := Aside0.mk (show Sm b2 by rw [h_b2]; exact sm_mul P_a3.out.1 P_a3.out.1 P_a3.out.2 P_a3.out.2)
      have C13 := Aside0.mk (fun (W : World) => show Calls Try.prog 28 #[ag a3] W fun E_ w' => E_ = .returned (ag b2) ∧ Below W.heap.size W w' from by rw [h_b2]; exact square_calls a3 P_a3.out.1 P_a3.out.2 W)
      obtain ⟨c3, h_c3⟩ : ∃ y, y = minusF d1 f := ⟨_, rfl⟩
      have P_c3 := Aside0.mk (show c3.length = 16 ∧ Bd 131200 c3 by rw [h_c3]; exact ⟨(len_minus _ _ (show d1.length = f.length by rw [P_d1.out.len, P_f.out.len])).trans P_d1.out.len, bd_minus (show d1.length = f.length by rw [P_d1.out.len, P_f.out.len]) (bd_sm P_d1.out) (bd_sm P_f.out)⟩)
      have C14 := Aside0.mk (fun (W : World) => show Calls Try.prog 27 #[ag d1, ag f] W fun E_ w' => E_ = .returned (ag c3) ∧ Below W.heap.size W w' from by rw [h_c3]; exact minus_calls d1 f P_d1.out.len P_f.out.len (bd_sm P_d1.out) (bd_sm P_f.out) W)
      obtain ⟨k3, h_k3⟩ : ∃ y, y = mulF c3 kF := ⟨_, rfl⟩
      have P_k3 := Aside0.mk (show Sm k3 by rw [h_k3]; exact sm_mul P_c3.out.1 sm_k.len P_c3.out.2 (bd_sm sm_k).wide)
      have C15 := Aside0.mk (fun (W : World) => show Calls Try.prog 29 #[ag c3, ag kF] W fun E_ w' => E_ = .returned (ag k3) ∧ Below W.heap.size W w' from by rw [h_k3]; exact times_calls c3 kF P_c3.out.1 sm_k.len P_c3.out.2 (bd_sm sm_k).wide W)
      obtain ⟨a4, h_a4⟩ : ∃ y, y = plusF k3 d1 := ⟨_, rfl⟩
      have P_a4 := Aside0.mk (show a4.length = 16 ∧ Bd 131200 a4 by rw [h_a4]; exact ⟨(len_plus _ _ (show k3.length = d1.length by rw [P_k3.out.len, P_d1.out.len])).trans P_k3.out.len, bd_plus (show k3.length = d1.length by rw [P_k3.out.len, P_d1.out.len]) (bd_sm P_k3.out) (bd_sm P_d1.out)⟩)
      have C16 := Aside0.mk (fun (W : World) => show Calls Try.prog 26 #[ag k3, ag d1] W fun E_ w' => E_ = .returned (ag a4) ∧ Below W.heap.size W w' from by rw [h_a4]; exact plus_calls k3 d1 P_k3.out.len P_d1.out.len (bd_sm P_k3.out) (bd_sm P_d1.out) W)
      obtain ⟨c4, h_c4⟩ : ∃ y, y = mulF c3 a4 := ⟨_, rfl⟩
      have P_c4 := Aside0.mk (show Sm c4 by rw [h_c4]; exact sm_mul P_c3.out.1 P_a4.out.1 P_c3.out.2 P_a4.out.2)
      have C17 := Aside0.mk (fun (W : World) => show Calls Try.prog 29 #[ag c3, ag a4] W fun E_ w' => E_ = .returned (ag c4) ∧ Below W.heap.size W w' from by rw [h_c4]; exact times_calls c3 a4 P_c3.out.1 P_a4.out.1 P_c3.out.2 P_a4.out.2 W)
      obtain ⟨a5, h_a5⟩ : ∃ y, y = mulF d1 f := ⟨_, rfl⟩
      have P_a5 := Aside0.mk (show Sm a5 by rw [h_a5]; exact sm_mul P_d1.out.len P_f.out.len (bd_sm P_d1.out).wide (bd_sm P_f.out).wide)
      have C18 := Aside0.mk (fun (W : World) => show Calls Try.prog 29 #[ag d1, ag f] W fun E_ w' => E_ = .returned (ag a5) ∧ Below W.heap.size W w' from by rw [h_a5]; exact times_calls d1 f P_d1.out.len P_f.out.len (bd_sm P_d1.out).wide (bd_sm P_f.out).wide W)
      obtain ⟨d2, h_d2⟩ : ∃ y, y = mulF b2 x := ⟨_, rfl⟩
      have P_d2 := Aside0.mk (show Sm d2 by rw [h_d2]; exact sm_mul P_b2.out.len SXX.out.len (bd_sm P_b2.out).wide (bd_sm SXX.out).wide)
      have C19 := Aside0.mk (fun (W : World) => show Calls Try.prog 29 #[ag b2, ag x] W fun E_ w' => E_ = .returned (ag d2) ∧ Below W.heap.size W w' from by rw [h_d2]; exact times_calls b2 x P_b2.out.len SXX.out.len (bd_sm P_b2.out).wide (bd_sm SXX.out).wide W)
      obtain ⟨b3, h_b3⟩ : ∃ y, y = mulF e2 e2 := ⟨_, rfl⟩
      have P_b3 := Aside0.mk (show Sm b3 by rw [h_b3]; exact sm_mul P_e2.out.1 P_e2.out.1 P_e2.out.2 P_e2.out.2)
      have C20 := Aside0.mk (fun (W : World) => show Calls Try.prog 28 #[ag e2] W fun E_ w' => E_ = .returned (ag b3) ∧ Below W.heap.size W w' from by rw [h_b3]; exact square_calls e2 P_e2.out.1 P_e2.out.2 W)
      have FM := Aside0.mk (show midL x (a, b, c, d) = (a5, b3, c4, d2) by rw [MID.out, h_b3, h_d2, h_a5, h_c4, h_a4, h_k3, h_c3, h_b2, h_a3, h_e2, h_c2, h_a2, h_f, h_d1, h_b1, h_c1_, h_a1, h_e])
      have SF := Aside0.mk (show Sms (a5, b3, c4, d2) by rw [← FM.out]; exact mid_facts x SXX.out _ SA.out)
      clear h_e h_a1 h_c1_ h_b1 h_d1 h_f h_a2 h_c2 h_e2 h_a3 h_b2 h_c3 h_k3 h_a4 h_c4 h_a5 h_d2 h_b3
      have HI_a := Aside0.mk (show (Try.prog.info? 48).map (·.size) = some a.length by rw [SA.out.a.len]; exact info_f)
      have HI_a1 := Aside0.mk (show (Try.prog.info? 48).map (·.size) = some a1.length by rw [P_a1.out.1]; exact info_f)
      have HI_a2 := Aside0.mk (show (Try.prog.info? 48).map (·.size) = some a2.length by rw [P_a2.out.len]; exact info_f)
      have HI_a3 := Aside0.mk (show (Try.prog.info? 48).map (·.size) = some a3.length by rw [P_a3.out.1]; exact info_f)
      have HI_a4 := Aside0.mk (show (Try.prog.info? 48).map (·.size) = some a4.length by rw [P_a4.out.1]; exact info_f)
      have HI_a5 := Aside0.mk (show (Try.prog.info? 48).map (·.size) = some a5.length by rw [P_a5.out.len]; exact info_f)
      have HI_b := Aside0.mk (show (Try.prog.info? 48).map (·.size) = some b.length by rw [SA.out.b.len]; exact info_f)
      have HI_b1 := Aside0.mk (show (Try.prog.info? 48).map (·.size) = some b1.length by rw [P_b1.out.1]; exact info_f)
      have HI_b2 := Aside0.mk (show (Try.prog.info? 48).map (·.size) = some b2.length by rw [P_b2.out.len]; exact info_f)
      have HI_b3 := Aside0.mk (show (Try.prog.info? 48).map (·.size) = some b3.length by rw [P_b3.out.len]; exact info_f)
      have HI_c := Aside0.mk (show (Try.prog.info? 48).map (·.size) = some c.length by rw [SA.out.c.len]; exact info_f)
      have HI_c1_ := Aside0.mk (show (Try.prog.info? 48).map (·.size) = some c1_.length by rw [P_c1_.out.1]; exact info_f)
      have HI_c2 := Aside0.mk (show (Try.prog.info? 48).map (·.size) = some c2.length by rw [P_c2.out.len]; exact info_f)
      have HI_c3 := Aside0.mk (show (Try.prog.info? 48).map (·.size) = some c3.length by rw [P_c3.out.1]; exact info_f)
      have HI_c4 := Aside0.mk (show (Try.prog.info? 48).map (·.size) = some c4.length by rw [P_c4.out.len]; exact info_f)
      have HI_d := Aside0.mk (show (Try.prog.info? 48).map (·.size) = some d.length by rw [SA.out.d.len]; exact info_f)
      have HI_d1 := Aside0.mk (show (Try.prog.info? 48).map (·.size) = some d1.length by rw [P_d1.out.len]; exact info_f)
      have HI_d2 := Aside0.mk (show (Try.prog.info? 48).map (·.size) = some d2.length by rw [P_d2.out.len]; exact info_f)
      have HI_e := Aside0.mk (show (Try.prog.info? 48).map (·.size) = some e.length by rw [P_e.out.1]; exact info_f)
      have HI_e2 := Aside0.mk (show (Try.prog.info? 48).map (·.size) = some e2.length by rw [P_e2.out.1]; exact info_f)
      have HI_f := Aside0.mk (show (Try.prog.info? 48).map (·.size) = some f.length by rw [P_f.out.len]; exact info_f)
      have HI_k3 := Aside0.mk (show (Try.prog.info? 48).map (·.size) = some k3.length by rw [P_k3.out.len]; exact info_f)
      have HI_x := Aside0.mk (show (Try.prog.info? 48).map (·.size) = some x.length by rw [SXX.out.len]; exact info_f)
      have NX := Aside0.mk (show gx ≠ B1 ∧ gx ≠ B2 ∧ gx ≠ B3 ∧ gx ≠ B4_ by have := GX.out; have := NN.out.2; omega)
      go_wp2_with fail
      refine (C1.out wr Ja.out Jb.out).mono ?_
      rintro E_ wv1 ⟨rfl, h1_, h2_, hT_⟩
      have Ga1 := Aside0.mk h1_
      have Gb1 := Aside0.mk h2_
      have Gc1 := Aside0.mk (hT_.other (Ne.symm NN.out.1.2.1) (Ne.symm NN.out.1.2.2.2.1) Jc.out)
      have Gd1 := Aside0.mk (hT_.other (Ne.symm NN.out.1.2.2.1) (Ne.symm NN.out.1.2.2.2.2.1) Jd.out)
      have Gx1 := Aside0.mk (hT_.other NX.out.1 NX.out.2.1 Fx.out)
      have GB1 := Aside0.mk (Two.below JB.out hT_ NN.out.2.1 NN.out.2.2.1)
      clear h1_ h2_ hT_ Ja Jb Jc Jd Fx JB
      go_wp2_with fail
      refine (C2.out wv1 Gc1.out Gd1.out).mono ?_
      rintro E_ wv2 ⟨rfl, h1_, h2_, hT_⟩
      have Ga2 := Aside0.mk (hT_.other NN.out.1.2.1 NN.out.1.2.2.1 Ga1.out)
      have Gb2 := Aside0.mk (hT_.other NN.out.1.2.2.2.1 NN.out.1.2.2.2.2.1 Gb1.out)
      have Gc2 := Aside0.mk h1_
      have Gd2 := Aside0.mk h2_
      have Gx2 := Aside0.mk (hT_.other NX.out.2.2.1 NX.out.2.2.2 Gx1.out)
      have GB2 := Aside0.mk (Two.below GB1.out hT_ NN.out.2.2.2.1 NN.out.2.2.2.2)
      clear h1_ h2_ hT_ Ga1 Gb1 Gc1 Gd1 Gx1 GB1
      go_wp2_with (first | (with_reducible refine loadL_is (b := B1) (e := 48) (k := .i64) (xs := a) 48 2 16 (.tmp 7) rfl rfl rfl Ga2.out Try.underlying48 HI_a.out ?_) | (with_reducible refine loadL_is (b := B3) (e := 48) (k := .i64) (xs := c) 48 2 16 (.tmp 9) rfl rfl rfl Gc2.out Try.underlying48 HI_c.out ?_))
      refine (C3.out wv2).mono ?_
      rintro E_ wv3 ⟨rfl, h_⟩
      have Ga3 := Aside0.mk (Ga2.out.below h_)
      have Gb3 := Aside0.mk (Gb2.out.below h_)
      have Gc3 := Aside0.mk (Gc2.out.below h_)
      have Gd3 := Aside0.mk (Gd2.out.below h_)
      have Gx3 := Aside0.mk (Gx2.out.below h_)
      have GB3 := Aside0.mk (below_step GB2.out h_)
      clear h_ Ga2 Gb2 Gc2 Gd2 Gx2 GB2
      have N5 := Aside0.mk (show Is (wv3.alloc (.cells #[.int .i64 0, .int .i64 0, .int .i64 0, .int .i64 0, .int .i64 0, .int .i64 0, .int .i64 0, .int .i64 0, .int .i64 0, .int .i64 0, .int .i64 0, .int .i64 0, .int .i64 0, .int .i64 0, .int .i64 0, .int .i64 0] 48)) wv3.heap.size 48 .i64 z16 from new_is wv3 48 .i64 z16)
      have A5 := Aside0.mk (show Below wv3.heap.size wv3 (wv3.alloc (.cells #[.int .i64 0, .int .i64 0, .int .i64 0, .int .i64 0, .int .i64 0, .int .i64 0, .int .i64 0, .int .i64 0, .int .i64 0, .int .i64 0, .int .i64 0, .int .i64 0, .int .i64 0, .int .i64 0, .int .i64 0, .int .i64 0] 48)) from (Below.refl _ _).alloc (Nat.le_refl _) _)
      have HLn := Aside0.mk (show z16.length = e.length by rw [P_e.out.1]; rfl)
      go_upto_region 13 with (first | (with_reducible refine storeL_is (b := wv3.heap.size) (e := 48) (k := .i64) (xs := z16) 48 (.tmp 13) (.tmp 56) rfl rfl rfl e rfl rfl N5.out HLn.out HI_e.out ?_))
      change Code.wp _ _ _ _ (put (wv3.alloc (.cells (nums .i64 z16).toArray 48)) wv3.heap.size .i64 e)
      have i6 : Is (put (wv3.alloc (.cells (nums .i64 z16).toArray 48)) wv3.heap.size .i64 e) wv3.heap.size 48 .i64 e := put_heap (ys := e) N5.out
      have b6 : Below wv3.heap.size wv3 (put (wv3.alloc (.cells (nums .i64 z16).toArray 48)) wv3.heap.size .i64 e) := below_put (k := .i64) (ys := e) A5.out (Nat.le_refl _)
      generalize put (wv3.alloc (.cells (nums .i64 z16).toArray 48)) wv3.heap.size .i64 e = wv4 at i6 b6 ⊢
      obtain ⟨ge, hge⟩ : ∃ g, g = wv3.heap.size := ⟨_, rfl⟩
      rw [← hge] at i6 ⊢
      have Ga4 := Aside0.mk (Ga3.out.below b6)
      have Gb4 := Aside0.mk (Gb3.out.below b6)
      have Gc4 := Aside0.mk (Gc3.out.below b6)
      have Gd4 := Aside0.mk (Gd3.out.below b6)
      have Gx4 := Aside0.mk (Gx3.out.below b6)
      have Ge4 := Aside0.mk i6
      have GB4 := Aside0.mk (below_step GB3.out b6)
      have NE_ := Aside0.mk (show ge ≠ B1 ∧ ge ≠ B2 ∧ ge ≠ B3 ∧ ge ≠ B4_ ∧ ge ≠ gx by have := Ga3.out.lt; have := Gb3.out.lt; have := Gc3.out.lt; have := Gd3.out.lt; have := Gx3.out.lt; omega)
      have LoE := Aside0.mk (show w6.heap.size ≤ ge by rw [hge]; exact GB3.out.size)
      clear i6 b6 hge N5 A5 HLn Ga3 Gb3 Gc3 Gd3 Gx3 GB3
      go_wp2_with (first | (with_reducible refine loadL_is (b := B1) (e := 48) (k := .i64) (xs := a) 48 2 16 (.tmp 7) rfl rfl rfl Ga4.out Try.underlying48 HI_a.out ?_) | (with_reducible refine loadL_is (b := B3) (e := 48) (k := .i64) (xs := c) 48 2 16 (.tmp 9) rfl rfl rfl Gc4.out Try.underlying48 HI_c.out ?_))
      refine (C4.out wv4).mono ?_
      rintro E_ wv5 ⟨rfl, h_⟩
      have Ga5 := Aside0.mk (Ga4.out.below h_)
      have Gb5 := Aside0.mk (Gb4.out.below h_)
      have Gc5 := Aside0.mk (Gc4.out.below h_)
      have Gd5 := Aside0.mk (Gd4.out.below h_)
      have Gx5 := Aside0.mk (Gx4.out.below h_)
      have Ge5 := Aside0.mk (Ge4.out.below h_)
      have GB5 := Aside0.mk (below_step GB4.out h_)
      clear h_ Ga4 Gb4 Gc4 Gd4 Gx4 Ge4 GB4
      have HLn := Aside0.mk (show a.length = a1.length by rw [SA.out.a.len, P_a1.out.1])
      go_upto_region 14 with (first | (with_reducible refine storeL_is (b := B1) (e := 48) (k := .i64) (xs := a) 48 (.tmp 7) (.tmp 59) rfl rfl rfl a1 rfl rfl Ga5.out HLn.out HI_a1.out ?_))
      change Code.wp _ _ _ _ (put wv5 B1 .i64 a1)
      have Ga6 := Aside0.mk (put_heap (ys := a1) Ga5.out)
      have Gb6 := Aside0.mk (show Is (put wv5 B1 .i64 a1) B2 48 .i64 b from (put_other B2 (Ne.symm NN.out.1.1)).trans Gb5.out)
      have Gc6 := Aside0.mk (show Is (put wv5 B1 .i64 a1) B3 48 .i64 c from (put_other B3 (Ne.symm NN.out.1.2.1)).trans Gc5.out)
      have Gd6 := Aside0.mk (show Is (put wv5 B1 .i64 a1) B4_ 48 .i64 d from (put_other B4_ (Ne.symm NN.out.1.2.2.1)).trans Gd5.out)
      have Gx6 := Aside0.mk (show Is (put wv5 B1 .i64 a1) gx 48 .i64 x from (put_other gx NX.out.1).trans Gx5.out)
      have Ge6 := Aside0.mk (show Is (put wv5 B1 .i64 a1) ge 48 .i64 e from (put_other ge NE_.out.1).trans Ge5.out)
      have GB6 := Aside0.mk (below_put (k := .i64) (ys := a1) GB5.out NN.out.2.1)
      generalize put wv5 B1 .i64 a1 = wv6 at Ga6 Gb6 Gc6 Gd6 Gx6 Ge6 GB6 ⊢
      clear HLn Ga5 Gb5 Gc5 Gd5 Gx5 Ge5 GB5
      go_wp2_with (first | (with_reducible refine loadL_is (b := B2) (e := 48) (k := .i64) (xs := b) 48 2 16 (.tmp 8) rfl rfl rfl Gb6.out Try.underlying48 HI_b.out ?_) | (with_reducible refine loadL_is (b := B4_) (e := 48) (k := .i64) (xs := d) 48 2 16 (.tmp 10) rfl rfl rfl Gd6.out Try.underlying48 HI_d.out ?_))
      refine (C5.out wv6).mono ?_
      rintro E_ wv7 ⟨rfl, h_⟩
      have Ga7 := Aside0.mk (Ga6.out.below h_)
      have Gb7 := Aside0.mk (Gb6.out.below h_)
      have Gc7 := Aside0.mk (Gc6.out.below h_)
      have Gd7 := Aside0.mk (Gd6.out.below h_)
      have Gx7 := Aside0.mk (Gx6.out.below h_)
      have Ge7 := Aside0.mk (Ge6.out.below h_)
      have GB7 := Aside0.mk (below_step GB6.out h_)
      clear h_ Ga6 Gb6 Gc6 Gd6 Gx6 Ge6 GB6
      have HLn := Aside0.mk (show c.length = c1_.length by rw [SA.out.c.len, P_c1_.out.1])
      go_upto_region 15 with (first | (with_reducible refine storeL_is (b := B3) (e := 48) (k := .i64) (xs := c) 48 (.tmp 9) (.tmp 62) rfl rfl rfl c1_ rfl rfl Gc7.out HLn.out HI_c1_.out ?_))
      change Code.wp _ _ _ _ (put wv7 B3 .i64 c1_)
      have Ga8 := Aside0.mk (show Is (put wv7 B3 .i64 c1_) B1 48 .i64 a1 from (put_other B1 NN.out.1.2.1).trans Ga7.out)
      have Gb8 := Aside0.mk (show Is (put wv7 B3 .i64 c1_) B2 48 .i64 b from (put_other B2 NN.out.1.2.2.2.1).trans Gb7.out)
      have Gc8 := Aside0.mk (put_heap (ys := c1_) Gc7.out)
      have Gd8 := Aside0.mk (show Is (put wv7 B3 .i64 c1_) B4_ 48 .i64 d from (put_other B4_ (Ne.symm NN.out.1.2.2.2.2.2)).trans Gd7.out)
      have Gx8 := Aside0.mk (show Is (put wv7 B3 .i64 c1_) gx 48 .i64 x from (put_other gx NX.out.2.2.1).trans Gx7.out)
      have Ge8 := Aside0.mk (show Is (put wv7 B3 .i64 c1_) ge 48 .i64 e from (put_other ge NE_.out.2.2.1).trans Ge7.out)
      have GB8 := Aside0.mk (below_put (k := .i64) (ys := c1_) GB7.out NN.out.2.2.2.1)
      generalize put wv7 B3 .i64 c1_ = wv8 at Ga8 Gb8 Gc8 Gd8 Gx8 Ge8 GB8 ⊢
      clear HLn Ga7 Gb7 Gc7 Gd7 Gx7 Ge7 GB7
      go_wp2_with (first | (with_reducible refine loadL_is (b := B2) (e := 48) (k := .i64) (xs := b) 48 2 16 (.tmp 8) rfl rfl rfl Gb8.out Try.underlying48 HI_b.out ?_) | (with_reducible refine loadL_is (b := B4_) (e := 48) (k := .i64) (xs := d) 48 2 16 (.tmp 10) rfl rfl rfl Gd8.out Try.underlying48 HI_d.out ?_))
      refine (C6.out wv8).mono ?_
      rintro E_ wv9 ⟨rfl, h_⟩
      have Ga9 := Aside0.mk (Ga8.out.below h_)
      have Gb9 := Aside0.mk (Gb8.out.below h_)
      have Gc9 := Aside0.mk (Gc8.out.below h_)
      have Gd9 := Aside0.mk (Gd8.out.below h_)
      have Gx9 := Aside0.mk (Gx8.out.below h_)
      have Ge9 := Aside0.mk (Ge8.out.below h_)
      have GB9 := Aside0.mk (below_step GB8.out h_)
      clear h_ Ga8 Gb8 Gc8 Gd8 Gx8 Ge8 GB8
      have HLn := Aside0.mk (show b.length = b1.length by rw [SA.out.b.len, P_b1.out.1])
      go_upto_region 16 with (first | (with_reducible refine storeL_is (b := B2) (e := 48) (k := .i64) (xs := b) 48 (.tmp 8) (.tmp 65) rfl rfl rfl b1 rfl rfl Gb9.out HLn.out HI_b1.out ?_))
      change Code.wp _ _ _ _ (put wv9 B2 .i64 b1)
      have Ga10 := Aside0.mk (show Is (put wv9 B2 .i64 b1) B1 48 .i64 a1 from (put_other B1 NN.out.1.1).trans Ga9.out)
      have Gb10 := Aside0.mk (put_heap (ys := b1) Gb9.out)
      have Gc10 := Aside0.mk (show Is (put wv9 B2 .i64 b1) B3 48 .i64 c1_ from (put_other B3 (Ne.symm NN.out.1.2.2.2.1)).trans Gc9.out)
      have Gd10 := Aside0.mk (show Is (put wv9 B2 .i64 b1) B4_ 48 .i64 d from (put_other B4_ (Ne.symm NN.out.1.2.2.2.2.1)).trans Gd9.out)
      have Gx10 := Aside0.mk (show Is (put wv9 B2 .i64 b1) gx 48 .i64 x from (put_other gx NX.out.2.1).trans Gx9.out)
      have Ge10 := Aside0.mk (show Is (put wv9 B2 .i64 b1) ge 48 .i64 e from (put_other ge NE_.out.2.1).trans Ge9.out)
      have GB10 := Aside0.mk (below_put (k := .i64) (ys := b1) GB9.out NN.out.2.2.1)
      generalize put wv9 B2 .i64 b1 = wv10 at Ga10 Gb10 Gc10 Gd10 Gx10 Ge10 GB10 ⊢
      clear HLn Ga9 Gb9 Gc9 Gd9 Gx9 Ge9 GB9
      go_wp2_with (first | (with_reducible refine loadL_is (b := ge) (e := 48) (k := .i64) (xs := e) 48 2 16 (.tmp 13) rfl rfl rfl Ge10.out Try.underlying48 HI_e.out ?_))
      refine (C7.out wv10).mono ?_
      rintro E_ wv11 ⟨rfl, h_⟩
      have Ga11 := Aside0.mk (Ga10.out.below h_)
      have Gb11 := Aside0.mk (Gb10.out.below h_)
      have Gc11 := Aside0.mk (Gc10.out.below h_)
      have Gd11 := Aside0.mk (Gd10.out.below h_)
      have Gx11 := Aside0.mk (Gx10.out.below h_)
      have Ge11 := Aside0.mk (Ge10.out.below h_)
      have GB11 := Aside0.mk (below_step GB10.out h_)
      clear h_ Ga10 Gb10 Gc10 Gd10 Gx10 Ge10 GB10
      have HLn := Aside0.mk (show d.length = d1.length by rw [SA.out.d.len, P_d1.out.len])
      go_upto_region 17 with (first | (with_reducible refine storeL_is (b := B4_) (e := 48) (k := .i64) (xs := d) 48 (.tmp 10) (.tmp 67) rfl rfl rfl d1 rfl rfl Gd11.out HLn.out HI_d1.out ?_))
      change Code.wp _ _ _ _ (put wv11 B4_ .i64 d1)
      have Ga12 := Aside0.mk (show Is (put wv11 B4_ .i64 d1) B1 48 .i64 a1 from (put_other B1 NN.out.1.2.2.1).trans Ga11.out)
      have Gb12 := Aside0.mk (show Is (put wv11 B4_ .i64 d1) B2 48 .i64 b1 from (put_other B2 NN.out.1.2.2.2.2.1).trans Gb11.out)
      have Gc12 := Aside0.mk (show Is (put wv11 B4_ .i64 d1) B3 48 .i64 c1_ from (put_other B3 NN.out.1.2.2.2.2.2).trans Gc11.out)
      have Gd12 := Aside0.mk (put_heap (ys := d1) Gd11.out)
      have Gx12 := Aside0.mk (show Is (put wv11 B4_ .i64 d1) gx 48 .i64 x from (put_other gx NX.out.2.2.2).trans Gx11.out)
      have Ge12 := Aside0.mk (show Is (put wv11 B4_ .i64 d1) ge 48 .i64 e from (put_other ge NE_.out.2.2.2.1).trans Ge11.out)
      have GB12 := Aside0.mk (below_put (k := .i64) (ys := d1) GB11.out NN.out.2.2.2.2)
      generalize put wv11 B4_ .i64 d1 = wv12 at Ga12 Gb12 Gc12 Gd12 Gx12 Ge12 GB12 ⊢
      clear HLn Ga11 Gb11 Gc11 Gd11 Gx11 Ge11 GB11
      go_wp2_with (first | (with_reducible refine loadL_is (b := B1) (e := 48) (k := .i64) (xs := a1) 48 2 16 (.tmp 7) rfl rfl rfl Ga12.out Try.underlying48 HI_a1.out ?_))
      refine (C8.out wv12).mono ?_
      rintro E_ wv13 ⟨rfl, h_⟩
      have Ga13 := Aside0.mk (Ga12.out.below h_)
      have Gb13 := Aside0.mk (Gb12.out.below h_)
      have Gc13 := Aside0.mk (Gc12.out.below h_)
      have Gd13 := Aside0.mk (Gd12.out.below h_)
      have Gx13 := Aside0.mk (Gx12.out.below h_)
      have Ge13 := Aside0.mk (Ge12.out.below h_)
      have GB13 := Aside0.mk (below_step GB12.out h_)
      clear h_ Ga12 Gb12 Gc12 Gd12 Gx12 Ge12 GB12
      have N5 := Aside0.mk (show Is (wv13.alloc (.cells #[.int .i64 0, .int .i64 0, .int .i64 0, .int .i64 0, .int .i64 0, .int .i64 0, .int .i64 0, .int .i64 0, .int .i64 0, .int .i64 0, .int .i64 0, .int .i64 0, .int .i64 0, .int .i64 0, .int .i64 0, .int .i64 0] 48)) wv13.heap.size 48 .i64 z16 from new_is wv13 48 .i64 z16)
      have A5 := Aside0.mk (show Below wv13.heap.size wv13 (wv13.alloc (.cells #[.int .i64 0, .int .i64 0, .int .i64 0, .int .i64 0, .int .i64 0, .int .i64 0, .int .i64 0, .int .i64 0, .int .i64 0, .int .i64 0, .int .i64 0, .int .i64 0, .int .i64 0, .int .i64 0, .int .i64 0, .int .i64 0] 48)) from (Below.refl _ _).alloc (Nat.le_refl _) _)
      have HLn := Aside0.mk (show z16.length = f.length by rw [P_f.out.len]; rfl)
      go_upto_region 18 with (first | (with_reducible refine storeL_is (b := wv13.heap.size) (e := 48) (k := .i64) (xs := z16) 48 (.tmp 14) (.tmp 69) rfl rfl rfl f rfl rfl N5.out HLn.out HI_f.out ?_))
      change Code.wp _ _ _ _ (put (wv13.alloc (.cells (nums .i64 z16).toArray 48)) wv13.heap.size .i64 f)
      have i6 : Is (put (wv13.alloc (.cells (nums .i64 z16).toArray 48)) wv13.heap.size .i64 f) wv13.heap.size 48 .i64 f := put_heap (ys := f) N5.out
      have b6 : Below wv13.heap.size wv13 (put (wv13.alloc (.cells (nums .i64 z16).toArray 48)) wv13.heap.size .i64 f) := below_put (k := .i64) (ys := f) A5.out (Nat.le_refl _)
      generalize put (wv13.alloc (.cells (nums .i64 z16).toArray 48)) wv13.heap.size .i64 f = wv14 at i6 b6 ⊢
      obtain ⟨gf, hgf⟩ : ∃ g, g = wv13.heap.size := ⟨_, rfl⟩
      rw [← hgf] at i6 ⊢
      have Ga14 := Aside0.mk (Ga13.out.below b6)
      have Gb14 := Aside0.mk (Gb13.out.below b6)
      have Gc14 := Aside0.mk (Gc13.out.below b6)
      have Gd14 := Aside0.mk (Gd13.out.below b6)
      have Gx14 := Aside0.mk (Gx13.out.below b6)
      have Ge14 := Aside0.mk (Ge13.out.below b6)
      have Gf14 := Aside0.mk i6
      have GB14 := Aside0.mk (below_step GB13.out b6)
      have NF_ := Aside0.mk (show gf ≠ B1 ∧ gf ≠ B2 ∧ gf ≠ B3 ∧ gf ≠ B4_ ∧ gf ≠ gx ∧ gf ≠ ge by have := Ga13.out.lt; have := Gb13.out.lt; have := Gc13.out.lt; have := Gd13.out.lt; have := Gx13.out.lt; have := Ge13.out.lt; omega)
      have LoF := Aside0.mk (show w6.heap.size ≤ gf by rw [hgf]; exact GB13.out.size)
      clear i6 b6 hgf N5 A5 HLn Ga13 Gb13 Gc13 Gd13 Gx13 Ge13 GB13
      go_wp2_with (first | (with_reducible refine loadL_is (b := B3) (e := 48) (k := .i64) (xs := c1_) 48 2 16 (.tmp 9) rfl rfl rfl Gc14.out Try.underlying48 HI_c1_.out ?_) | (with_reducible refine loadL_is (b := B1) (e := 48) (k := .i64) (xs := a1) 48 2 16 (.tmp 7) rfl rfl rfl Ga14.out Try.underlying48 HI_a1.out ?_))
      refine (C9.out wv14).mono ?_
      rintro E_ wv15 ⟨rfl, h_⟩
      have Ga15 := Aside0.mk (Ga14.out.below h_)
      have Gb15 := Aside0.mk (Gb14.out.below h_)
      have Gc15 := Aside0.mk (Gc14.out.below h_)
      have Gd15 := Aside0.mk (Gd14.out.below h_)
      have Gx15 := Aside0.mk (Gx14.out.below h_)
      have Ge15 := Aside0.mk (Ge14.out.below h_)
      have Gf15 := Aside0.mk (Gf14.out.below h_)
      have GB15 := Aside0.mk (below_step GB14.out h_)
      clear h_ Ga14 Gb14 Gc14 Gd14 Gx14 Ge14 Gf14 GB14
      have HLn := Aside0.mk (show a1.length = a2.length by rw [P_a1.out.1, P_a2.out.len])
      go_upto_region 19 with (first | (with_reducible refine storeL_is (b := B1) (e := 48) (k := .i64) (xs := a1) 48 (.tmp 7) (.tmp 72) rfl rfl rfl a2 rfl rfl Ga15.out HLn.out HI_a2.out ?_))
      change Code.wp _ _ _ _ (put wv15 B1 .i64 a2)
      have Ga16 := Aside0.mk (put_heap (ys := a2) Ga15.out)
      have Gb16 := Aside0.mk (show Is (put wv15 B1 .i64 a2) B2 48 .i64 b1 from (put_other B2 (Ne.symm NN.out.1.1)).trans Gb15.out)
      have Gc16 := Aside0.mk (show Is (put wv15 B1 .i64 a2) B3 48 .i64 c1_ from (put_other B3 (Ne.symm NN.out.1.2.1)).trans Gc15.out)
      have Gd16 := Aside0.mk (show Is (put wv15 B1 .i64 a2) B4_ 48 .i64 d1 from (put_other B4_ (Ne.symm NN.out.1.2.2.1)).trans Gd15.out)
      have Gx16 := Aside0.mk (show Is (put wv15 B1 .i64 a2) gx 48 .i64 x from (put_other gx NX.out.1).trans Gx15.out)
      have Ge16 := Aside0.mk (show Is (put wv15 B1 .i64 a2) ge 48 .i64 e from (put_other ge NE_.out.1).trans Ge15.out)
      have Gf16 := Aside0.mk (show Is (put wv15 B1 .i64 a2) gf 48 .i64 f from (put_other gf NF_.out.1).trans Gf15.out)
      have GB16 := Aside0.mk (below_put (k := .i64) (ys := a2) GB15.out NN.out.2.1)
      generalize put wv15 B1 .i64 a2 = wv16 at Ga16 Gb16 Gc16 Gd16 Gx16 Ge16 Gf16 GB16 ⊢
      clear HLn Ga15 Gb15 Gc15 Gd15 Gx15 Ge15 Gf15 GB15
      go_wp2_with (first | (with_reducible refine loadL_is (b := B2) (e := 48) (k := .i64) (xs := b1) 48 2 16 (.tmp 8) rfl rfl rfl Gb16.out Try.underlying48 HI_b1.out ?_) | (with_reducible refine loadL_is (b := ge) (e := 48) (k := .i64) (xs := e) 48 2 16 (.tmp 13) rfl rfl rfl Ge16.out Try.underlying48 HI_e.out ?_))
      refine (C10.out wv16).mono ?_
      rintro E_ wv17 ⟨rfl, h_⟩
      have Ga17 := Aside0.mk (Ga16.out.below h_)
      have Gb17 := Aside0.mk (Gb16.out.below h_)
      have Gc17 := Aside0.mk (Gc16.out.below h_)
      have Gd17 := Aside0.mk (Gd16.out.below h_)
      have Gx17 := Aside0.mk (Gx16.out.below h_)
      have Ge17 := Aside0.mk (Ge16.out.below h_)
      have Gf17 := Aside0.mk (Gf16.out.below h_)
      have GB17 := Aside0.mk (below_step GB16.out h_)
      clear h_ Ga16 Gb16 Gc16 Gd16 Gx16 Ge16 Gf16 GB16
      have HLn := Aside0.mk (show c1_.length = c2.length by rw [P_c1_.out.1, P_c2.out.len])
      go_upto_region 20 with (first | (with_reducible refine storeL_is (b := B3) (e := 48) (k := .i64) (xs := c1_) 48 (.tmp 9) (.tmp 75) rfl rfl rfl c2 rfl rfl Gc17.out HLn.out HI_c2.out ?_))
      change Code.wp _ _ _ _ (put wv17 B3 .i64 c2)
      have Ga18 := Aside0.mk (show Is (put wv17 B3 .i64 c2) B1 48 .i64 a2 from (put_other B1 NN.out.1.2.1).trans Ga17.out)
      have Gb18 := Aside0.mk (show Is (put wv17 B3 .i64 c2) B2 48 .i64 b1 from (put_other B2 NN.out.1.2.2.2.1).trans Gb17.out)
      have Gc18 := Aside0.mk (put_heap (ys := c2) Gc17.out)
      have Gd18 := Aside0.mk (show Is (put wv17 B3 .i64 c2) B4_ 48 .i64 d1 from (put_other B4_ (Ne.symm NN.out.1.2.2.2.2.2)).trans Gd17.out)
      have Gx18 := Aside0.mk (show Is (put wv17 B3 .i64 c2) gx 48 .i64 x from (put_other gx NX.out.2.2.1).trans Gx17.out)
      have Ge18 := Aside0.mk (show Is (put wv17 B3 .i64 c2) ge 48 .i64 e from (put_other ge NE_.out.2.2.1).trans Ge17.out)
      have Gf18 := Aside0.mk (show Is (put wv17 B3 .i64 c2) gf 48 .i64 f from (put_other gf NF_.out.2.2.1).trans Gf17.out)
      have GB18 := Aside0.mk (below_put (k := .i64) (ys := c2) GB17.out NN.out.2.2.2.1)
      generalize put wv17 B3 .i64 c2 = wv18 at Ga18 Gb18 Gc18 Gd18 Gx18 Ge18 Gf18 GB18 ⊢
      clear HLn Ga17 Gb17 Gc17 Gd17 Gx17 Ge17 Gf17 GB17
      go_wp2_with (first | (with_reducible refine loadL_is (b := B1) (e := 48) (k := .i64) (xs := a2) 48 2 16 (.tmp 7) rfl rfl rfl Ga18.out Try.underlying48 HI_a2.out ?_) | (with_reducible refine loadL_is (b := B3) (e := 48) (k := .i64) (xs := c2) 48 2 16 (.tmp 9) rfl rfl rfl Gc18.out Try.underlying48 HI_c2.out ?_))
      refine (C11.out wv18).mono ?_
      rintro E_ wv19 ⟨rfl, h_⟩
      have Ga19 := Aside0.mk (Ga18.out.below h_)
      have Gb19 := Aside0.mk (Gb18.out.below h_)
      have Gc19 := Aside0.mk (Gc18.out.below h_)
      have Gd19 := Aside0.mk (Gd18.out.below h_)
      have Gx19 := Aside0.mk (Gx18.out.below h_)
      have Ge19 := Aside0.mk (Ge18.out.below h_)
      have Gf19 := Aside0.mk (Gf18.out.below h_)
      have GB19 := Aside0.mk (below_step GB18.out h_)
      clear h_ Ga18 Gb18 Gc18 Gd18 Gx18 Ge18 Gf18 GB18
      have HLn := Aside0.mk (show e.length = e2.length by rw [P_e.out.1, P_e2.out.1])
      go_upto_region 21 with (first | (with_reducible refine storeL_is (b := ge) (e := 48) (k := .i64) (xs := e) 48 (.tmp 13) (.tmp 78) rfl rfl rfl e2 rfl rfl Ge19.out HLn.out HI_e2.out ?_))
      change Code.wp _ _ _ _ (put wv19 ge .i64 e2)
      have Ga20 := Aside0.mk (show Is (put wv19 ge .i64 e2) B1 48 .i64 a2 from (put_other B1 (Ne.symm NE_.out.1)).trans Ga19.out)
      have Gb20 := Aside0.mk (show Is (put wv19 ge .i64 e2) B2 48 .i64 b1 from (put_other B2 (Ne.symm NE_.out.2.1)).trans Gb19.out)
      have Gc20 := Aside0.mk (show Is (put wv19 ge .i64 e2) B3 48 .i64 c2 from (put_other B3 (Ne.symm NE_.out.2.2.1)).trans Gc19.out)
      have Gd20 := Aside0.mk (show Is (put wv19 ge .i64 e2) B4_ 48 .i64 d1 from (put_other B4_ (Ne.symm NE_.out.2.2.2.1)).trans Gd19.out)
      have Gx20 := Aside0.mk (show Is (put wv19 ge .i64 e2) gx 48 .i64 x from (put_other gx (Ne.symm NE_.out.2.2.2.2)).trans Gx19.out)
      have Ge20 := Aside0.mk (put_heap (ys := e2) Ge19.out)
      have Gf20 := Aside0.mk (show Is (put wv19 ge .i64 e2) gf 48 .i64 f from (put_other gf NF_.out.2.2.2.2.2).trans Gf19.out)
      have GB20 := Aside0.mk (below_put (k := .i64) (ys := e2) GB19.out LoE.out)
      generalize put wv19 ge .i64 e2 = wv20 at Ga20 Gb20 Gc20 Gd20 Gx20 Ge20 Gf20 GB20 ⊢
      clear HLn Ga19 Gb19 Gc19 Gd19 Gx19 Ge19 Gf19 GB19
      go_wp2_with (first | (with_reducible refine loadL_is (b := B1) (e := 48) (k := .i64) (xs := a2) 48 2 16 (.tmp 7) rfl rfl rfl Ga20.out Try.underlying48 HI_a2.out ?_) | (with_reducible refine loadL_is (b := B3) (e := 48) (k := .i64) (xs := c2) 48 2 16 (.tmp 9) rfl rfl rfl Gc20.out Try.underlying48 HI_c2.out ?_))
      refine (C12.out wv20).mono ?_
      rintro E_ wv21 ⟨rfl, h_⟩
      have Ga21 := Aside0.mk (Ga20.out.below h_)
      have Gb21 := Aside0.mk (Gb20.out.below h_)
      have Gc21 := Aside0.mk (Gc20.out.below h_)
      have Gd21 := Aside0.mk (Gd20.out.below h_)
      have Gx21 := Aside0.mk (Gx20.out.below h_)
      have Ge21 := Aside0.mk (Ge20.out.below h_)
      have Gf21 := Aside0.mk (Gf20.out.below h_)
      have GB21 := Aside0.mk (below_step GB20.out h_)
      clear h_ Ga20 Gb20 Gc20 Gd20 Gx20 Ge20 Gf20 GB20
      have HLn := Aside0.mk (show a2.length = a3.length by rw [P_a2.out.len, P_a3.out.1])
      go_upto_region 22 with (first | (with_reducible refine storeL_is (b := B1) (e := 48) (k := .i64) (xs := a2) 48 (.tmp 7) (.tmp 81) rfl rfl rfl a3 rfl rfl Ga21.out HLn.out HI_a3.out ?_))
      change Code.wp _ _ _ _ (put wv21 B1 .i64 a3)
      have Ga22 := Aside0.mk (put_heap (ys := a3) Ga21.out)
      have Gb22 := Aside0.mk (show Is (put wv21 B1 .i64 a3) B2 48 .i64 b1 from (put_other B2 (Ne.symm NN.out.1.1)).trans Gb21.out)
      have Gc22 := Aside0.mk (show Is (put wv21 B1 .i64 a3) B3 48 .i64 c2 from (put_other B3 (Ne.symm NN.out.1.2.1)).trans Gc21.out)
      have Gd22 := Aside0.mk (show Is (put wv21 B1 .i64 a3) B4_ 48 .i64 d1 from (put_other B4_ (Ne.symm NN.out.1.2.2.1)).trans Gd21.out)
      have Gx22 := Aside0.mk (show Is (put wv21 B1 .i64 a3) gx 48 .i64 x from (put_other gx NX.out.1).trans Gx21.out)
      have Ge22 := Aside0.mk (show Is (put wv21 B1 .i64 a3) ge 48 .i64 e2 from (put_other ge NE_.out.1).trans Ge21.out)
      have Gf22 := Aside0.mk (show Is (put wv21 B1 .i64 a3) gf 48 .i64 f from (put_other gf NF_.out.1).trans Gf21.out)
      have GB22 := Aside0.mk (below_put (k := .i64) (ys := a3) GB21.out NN.out.2.1)
      generalize put wv21 B1 .i64 a3 = wv22 at Ga22 Gb22 Gc22 Gd22 Gx22 Ge22 Gf22 GB22 ⊢
      clear HLn Ga21 Gb21 Gc21 Gd21 Gx21 Ge21 Gf21 GB21
      go_wp2_with (first | (with_reducible refine loadL_is (b := B1) (e := 48) (k := .i64) (xs := a3) 48 2 16 (.tmp 7) rfl rfl rfl Ga22.out Try.underlying48 HI_a3.out ?_))
      refine (C13.out wv22).mono ?_
      rintro E_ wv23 ⟨rfl, h_⟩
      have Ga23 := Aside0.mk (Ga22.out.below h_)
      have Gb23 := Aside0.mk (Gb22.out.below h_)
      have Gc23 := Aside0.mk (Gc22.out.below h_)
      have Gd23 := Aside0.mk (Gd22.out.below h_)
      have Gx23 := Aside0.mk (Gx22.out.below h_)
      have Ge23 := Aside0.mk (Ge22.out.below h_)
      have Gf23 := Aside0.mk (Gf22.out.below h_)
      have GB23 := Aside0.mk (below_step GB22.out h_)
      clear h_ Ga22 Gb22 Gc22 Gd22 Gx22 Ge22 Gf22 GB22
      have HLn := Aside0.mk (show b1.length = b2.length by rw [P_b1.out.1, P_b2.out.len])
      go_upto_region 23 with (first | (with_reducible refine storeL_is (b := B2) (e := 48) (k := .i64) (xs := b1) 48 (.tmp 8) (.tmp 83) rfl rfl rfl b2 rfl rfl Gb23.out HLn.out HI_b2.out ?_))
      change Code.wp _ _ _ _ (put wv23 B2 .i64 b2)
      have Ga24 := Aside0.mk (show Is (put wv23 B2 .i64 b2) B1 48 .i64 a3 from (put_other B1 NN.out.1.1).trans Ga23.out)
      have Gb24 := Aside0.mk (put_heap (ys := b2) Gb23.out)
      have Gc24 := Aside0.mk (show Is (put wv23 B2 .i64 b2) B3 48 .i64 c2 from (put_other B3 (Ne.symm NN.out.1.2.2.2.1)).trans Gc23.out)
      have Gd24 := Aside0.mk (show Is (put wv23 B2 .i64 b2) B4_ 48 .i64 d1 from (put_other B4_ (Ne.symm NN.out.1.2.2.2.2.1)).trans Gd23.out)
      have Gx24 := Aside0.mk (show Is (put wv23 B2 .i64 b2) gx 48 .i64 x from (put_other gx NX.out.2.1).trans Gx23.out)
      have Ge24 := Aside0.mk (show Is (put wv23 B2 .i64 b2) ge 48 .i64 e2 from (put_other ge NE_.out.2.1).trans Ge23.out)
      have Gf24 := Aside0.mk (show Is (put wv23 B2 .i64 b2) gf 48 .i64 f from (put_other gf NF_.out.2.1).trans Gf23.out)
      have GB24 := Aside0.mk (below_put (k := .i64) (ys := b2) GB23.out NN.out.2.2.1)
      generalize put wv23 B2 .i64 b2 = wv24 at Ga24 Gb24 Gc24 Gd24 Gx24 Ge24 Gf24 GB24 ⊢
      clear HLn Ga23 Gb23 Gc23 Gd23 Gx23 Ge23 Gf23 GB23
      go_wp2_with (first | (with_reducible refine loadL_is (b := B4_) (e := 48) (k := .i64) (xs := d1) 48 2 16 (.tmp 10) rfl rfl rfl Gd24.out Try.underlying48 HI_d1.out ?_) | (with_reducible refine loadL_is (b := gf) (e := 48) (k := .i64) (xs := f) 48 2 16 (.tmp 14) rfl rfl rfl Gf24.out Try.underlying48 HI_f.out ?_))
      refine (C14.out wv24).mono ?_
      rintro E_ wv25 ⟨rfl, h_⟩
      have Ga25 := Aside0.mk (Ga24.out.below h_)
      have Gb25 := Aside0.mk (Gb24.out.below h_)
      have Gc25 := Aside0.mk (Gc24.out.below h_)
      have Gd25 := Aside0.mk (Gd24.out.below h_)
      have Gx25 := Aside0.mk (Gx24.out.below h_)
      have Ge25 := Aside0.mk (Ge24.out.below h_)
      have Gf25 := Aside0.mk (Gf24.out.below h_)
      have GB25 := Aside0.mk (below_step GB24.out h_)
      clear h_ Ga24 Gb24 Gc24 Gd24 Gx24 Ge24 Gf24 GB24
      have HLn := Aside0.mk (show c2.length = c3.length by rw [P_c2.out.len, P_c3.out.1])
      go_upto_region 24 with (first | (with_reducible refine storeL_is (b := B3) (e := 48) (k := .i64) (xs := c2) 48 (.tmp 9) (.tmp 86) rfl rfl rfl c3 rfl rfl Gc25.out HLn.out HI_c3.out ?_))
      change Code.wp _ _ _ _ (put wv25 B3 .i64 c3)
      have Ga26 := Aside0.mk (show Is (put wv25 B3 .i64 c3) B1 48 .i64 a3 from (put_other B1 NN.out.1.2.1).trans Ga25.out)
      have Gb26 := Aside0.mk (show Is (put wv25 B3 .i64 c3) B2 48 .i64 b2 from (put_other B2 NN.out.1.2.2.2.1).trans Gb25.out)
      have Gc26 := Aside0.mk (put_heap (ys := c3) Gc25.out)
      have Gd26 := Aside0.mk (show Is (put wv25 B3 .i64 c3) B4_ 48 .i64 d1 from (put_other B4_ (Ne.symm NN.out.1.2.2.2.2.2)).trans Gd25.out)
      have Gx26 := Aside0.mk (show Is (put wv25 B3 .i64 c3) gx 48 .i64 x from (put_other gx NX.out.2.2.1).trans Gx25.out)
      have Ge26 := Aside0.mk (show Is (put wv25 B3 .i64 c3) ge 48 .i64 e2 from (put_other ge NE_.out.2.2.1).trans Ge25.out)
      have Gf26 := Aside0.mk (show Is (put wv25 B3 .i64 c3) gf 48 .i64 f from (put_other gf NF_.out.2.2.1).trans Gf25.out)
      have GB26 := Aside0.mk (below_put (k := .i64) (ys := c3) GB25.out NN.out.2.2.2.1)
      generalize put wv25 B3 .i64 c3 = wv26 at Ga26 Gb26 Gc26 Gd26 Gx26 Ge26 Gf26 GB26 ⊢
      clear HLn Ga25 Gb25 Gc25 Gd25 Gx25 Ge25 Gf25 GB25
      go_upto_region 24 with (fail)
      change Code.wp _ _ _ _ wv26
      have HLn := Aside0.mk (show a3.length = a4.length by rw [P_a3.out.1, P_a4.out.1])
      refine start_ (n := 6) (S := fun w' => Below wv26.heap.size wv26 w') (ds := [5]) #[false, false, false, false, false, false] (by kernel_rfl) rfl rfl (below_drew1 (Below.refl _ _)) (fun hHeld => ?_)
      refine with_tabW ladder.tab24 ladder.bits24 (fun HT_ HW_ => ?_)
      refine pure_ (i := 1) (N := some 88) (v := ?_) (a' := ?_) #[false, true, false, false, false, false] rfl rfl (any_of HT_.out (by kernel_rfl)) (fun _ _ _ h => h) (Or.inl ⟨by rfl, ?_⟩) ?_ ?_
      rotate_left
      · intro w'
        go_simp
        with_reducible rfl
      rotate_left
      · simp only [Act.put, List.setIfInBounds_toArray, List.set_cons_zero, List.set_cons_succ]
        rfl
      refine take_ (i := 0) (N := some 87) (v := ?_) (a' := ?_) #[true, true, false, false, false, false] rfl rfl (take_ofW HT_.out HW_.out (by kernel_rfl)) (fun _ _ _ h => h) (Or.inl ⟨by rfl, ?_⟩) hHeld ?_ ?_
      rotate_left
      · intro w' s0
        refine load_ev (.tmp 9) ?_ B3 c3 ?_ (Gc26.out.below s0) P_c3.out.1 <;> rfl
      rotate_left
      · simp only [Act.put, List.setIfInBounds_toArray, List.set_cons_zero, List.set_cons_succ]
        rfl
      refine take_ (i := 3) (N := some 90) (v := ?_) (a' := ?_) #[true, true, false, true, false, false] rfl rfl (take_ofW HT_.out HW_.out (by kernel_rfl)) (fun _ _ _ h => h) (Or.inl ⟨by rfl, ?_⟩) hHeld ?_ ?_
      rotate_left
      · intro w' s0
        refine load_ev (.tmp 10) ?_ B4_ d1 ?_ (Gd26.out.below s0) P_d1.out.len <;> rfl
      rotate_left
      · simp only [Act.put, List.setIfInBounds_toArray, List.set_cons_zero, List.set_cons_succ]
        rfl
      refine one_ (i := 2) (N := some 89) #[true, true, true, true, false, false] rfl rfl (one_of HT_.out (by kernel_rfl)) (by decide) (fun K hK => ?_)
      refine goes_ Try.func29 (by kernel_rfl) rfl #[ag c3, ag kF] (by rfl) rfl rfl (by simp only [List.map_toArray, List.map_cons, List.map_nil]; rfl) ?_
      with_reducible refine (C15.out _).mono ?_
      rintro E_ wa ⟨rfl, hba⟩
      refine ⟨_, rfl, ?_⟩
      have hbb := below_step hHeld hba
      clear hba
      refine hK.out _ _ (hbb) (fun hHeld => ?_)
      clear hK K
      refine norm_ (a' := ?_) ?_ ?_
      rotate_left
      · show Act.put _ (some 89) _ = _
        simp only [Act.put, List.setIfInBounds_toArray, List.set_cons_zero, List.set_cons_succ]
        rfl
      refine one_ (i := 4) (N := some 91) #[true, true, true, true, true, false] rfl rfl (one_of HT_.out (by kernel_rfl)) (by decide) (fun K hK => ?_)
      refine goes_ Try.func26 (by kernel_rfl) rfl #[ag k3, ag d1] (by rfl) rfl rfl (by simp only [List.map_toArray, List.map_cons, List.map_nil]; rfl) ?_
      with_reducible refine (C16.out _).mono ?_
      rintro E_ wb ⟨rfl, hba⟩
      refine ⟨_, rfl, ?_⟩
      have hbb := below_step hHeld hba
      clear hba
      refine hK.out _ _ (hbb) (fun hHeld => ?_)
      clear hK K
      refine norm_ (a' := ?_) ?_ ?_
      rotate_left
      · show Act.put _ (some 91) _ = _
        simp only [Act.put, List.setIfInBounds_toArray, List.set_cons_zero, List.set_cons_succ]
        rfl
      refine last_ (i := 5) (N := none) #[true, true, true, true, true, true] rfl rfl (one_of HT_.out (by kernel_rfl)) (by decide) (fun K hK => ?_)
      have HLd := hHeld
      refine store_is (b := B1) (e := 48) (k := .i64) (xs := a3) 48 (.tmp 7) (.tmp 91) (by rfl) rfl rfl a4 rfl rfl (Ga26.out.below HLd) HLn.out HI_a4.out ?_
      refine hK.out _ _ ?_
      clear hK K
      refine done_ (done_of HT_.out (by kernel_rfl)) ?_
      have Ga27 := Aside0.mk (put_heap (ys := a4) (Ga26.out.below HLd))
      have Gb27 := Aside0.mk (show Is (put wb B1 .i64 a4) B2 48 .i64 b2 from (put_other B2 (Ne.symm NN.out.1.1)).trans (Gb26.out.below HLd))
      have Gc27 := Aside0.mk (show Is (put wb B1 .i64 a4) B3 48 .i64 c3 from (put_other B3 (Ne.symm NN.out.1.2.1)).trans (Gc26.out.below HLd))
      have Gd27 := Aside0.mk (show Is (put wb B1 .i64 a4) B4_ 48 .i64 d1 from (put_other B4_ (Ne.symm NN.out.1.2.2.1)).trans (Gd26.out.below HLd))
      have Gx27 := Aside0.mk (show Is (put wb B1 .i64 a4) gx 48 .i64 x from (put_other gx NX.out.1).trans (Gx26.out.below HLd))
      have Ge27 := Aside0.mk (show Is (put wb B1 .i64 a4) ge 48 .i64 e2 from (put_other ge NE_.out.1).trans (Ge26.out.below HLd))
      have Gf27 := Aside0.mk (show Is (put wb B1 .i64 a4) gf 48 .i64 f from (put_other gf NF_.out.1).trans (Gf26.out.below HLd))
      have GB27 := Aside0.mk (below_put (k := .i64) (ys := a4) (below_step GB26.out HLd) NN.out.2.1)
      generalize put wb B1 .i64 a4 = wv27 at Ga27 Gb27 Gc27 Gd27 Gx27 Ge27 Gf27 GB27 ⊢
      clear HLn HLd Ga26 Gb26 Gc26 Gd26 Gx26 Ge26 Gf26 GB26
      go_wp2_with (first | (with_reducible refine loadL_is (b := B3) (e := 48) (k := .i64) (xs := c3) 48 2 16 (.tmp 9) rfl rfl rfl Gc27.out Try.underlying48 HI_c3.out ?_) | (with_reducible refine loadL_is (b := B1) (e := 48) (k := .i64) (xs := a4) 48 2 16 (.tmp 7) rfl rfl rfl Ga27.out Try.underlying48 HI_a4.out ?_))
      refine (C17.out wv27).mono ?_
      rintro E_ wv28 ⟨rfl, h_⟩
      have Ga28 := Aside0.mk (Ga27.out.below h_)
      have Gb28 := Aside0.mk (Gb27.out.below h_)
      have Gc28 := Aside0.mk (Gc27.out.below h_)
      have Gd28 := Aside0.mk (Gd27.out.below h_)
      have Gx28 := Aside0.mk (Gx27.out.below h_)
      have Ge28 := Aside0.mk (Ge27.out.below h_)
      have Gf28 := Aside0.mk (Gf27.out.below h_)
      have GB28 := Aside0.mk (below_step GB27.out h_)
      clear h_ Ga27 Gb27 Gc27 Gd27 Gx27 Ge27 Gf27 GB27
      have HLn := Aside0.mk (show c3.length = c4.length by rw [P_c3.out.1, P_c4.out.len])
      go_upto_region 26 with (first | (with_reducible refine storeL_is (b := B3) (e := 48) (k := .i64) (xs := c3) 48 (.tmp 9) (.tmp 94) rfl rfl rfl c4 rfl rfl Gc28.out HLn.out HI_c4.out ?_))
      change Code.wp _ _ _ _ (put wv28 B3 .i64 c4)
      have Ga29 := Aside0.mk (show Is (put wv28 B3 .i64 c4) B1 48 .i64 a4 from (put_other B1 NN.out.1.2.1).trans Ga28.out)
      have Gb29 := Aside0.mk (show Is (put wv28 B3 .i64 c4) B2 48 .i64 b2 from (put_other B2 NN.out.1.2.2.2.1).trans Gb28.out)
      have Gc29 := Aside0.mk (put_heap (ys := c4) Gc28.out)
      have Gd29 := Aside0.mk (show Is (put wv28 B3 .i64 c4) B4_ 48 .i64 d1 from (put_other B4_ (Ne.symm NN.out.1.2.2.2.2.2)).trans Gd28.out)
      have Gx29 := Aside0.mk (show Is (put wv28 B3 .i64 c4) gx 48 .i64 x from (put_other gx NX.out.2.2.1).trans Gx28.out)
      have Ge29 := Aside0.mk (show Is (put wv28 B3 .i64 c4) ge 48 .i64 e2 from (put_other ge NE_.out.2.2.1).trans Ge28.out)
      have Gf29 := Aside0.mk (show Is (put wv28 B3 .i64 c4) gf 48 .i64 f from (put_other gf NF_.out.2.2.1).trans Gf28.out)
      have GB29 := Aside0.mk (below_put (k := .i64) (ys := c4) GB28.out NN.out.2.2.2.1)
      generalize put wv28 B3 .i64 c4 = wv29 at Ga29 Gb29 Gc29 Gd29 Gx29 Ge29 Gf29 GB29 ⊢
      clear HLn Ga28 Gb28 Gc28 Gd28 Gx28 Ge28 Gf28 GB28
      go_wp2_with (first | (with_reducible refine loadL_is (b := B4_) (e := 48) (k := .i64) (xs := d1) 48 2 16 (.tmp 10) rfl rfl rfl Gd29.out Try.underlying48 HI_d1.out ?_) | (with_reducible refine loadL_is (b := gf) (e := 48) (k := .i64) (xs := f) 48 2 16 (.tmp 14) rfl rfl rfl Gf29.out Try.underlying48 HI_f.out ?_))
      refine (C18.out wv29).mono ?_
      rintro E_ wv30 ⟨rfl, h_⟩
      have Ga30 := Aside0.mk (Ga29.out.below h_)
      have Gb30 := Aside0.mk (Gb29.out.below h_)
      have Gc30 := Aside0.mk (Gc29.out.below h_)
      have Gd30 := Aside0.mk (Gd29.out.below h_)
      have Gx30 := Aside0.mk (Gx29.out.below h_)
      have Ge30 := Aside0.mk (Ge29.out.below h_)
      have Gf30 := Aside0.mk (Gf29.out.below h_)
      have GB30 := Aside0.mk (below_step GB29.out h_)
      clear h_ Ga29 Gb29 Gc29 Gd29 Gx29 Ge29 Gf29 GB29
      have HLn := Aside0.mk (show a4.length = a5.length by rw [P_a4.out.1, P_a5.out.len])
      go_upto_region 27 with (first | (with_reducible refine storeL_is (b := B1) (e := 48) (k := .i64) (xs := a4) 48 (.tmp 7) (.tmp 97) rfl rfl rfl a5 rfl rfl Ga30.out HLn.out HI_a5.out ?_))
      change Code.wp _ _ _ _ (put wv30 B1 .i64 a5)
      have Ga31 := Aside0.mk (put_heap (ys := a5) Ga30.out)
      have Gb31 := Aside0.mk (show Is (put wv30 B1 .i64 a5) B2 48 .i64 b2 from (put_other B2 (Ne.symm NN.out.1.1)).trans Gb30.out)
      have Gc31 := Aside0.mk (show Is (put wv30 B1 .i64 a5) B3 48 .i64 c4 from (put_other B3 (Ne.symm NN.out.1.2.1)).trans Gc30.out)
      have Gd31 := Aside0.mk (show Is (put wv30 B1 .i64 a5) B4_ 48 .i64 d1 from (put_other B4_ (Ne.symm NN.out.1.2.2.1)).trans Gd30.out)
      have Gx31 := Aside0.mk (show Is (put wv30 B1 .i64 a5) gx 48 .i64 x from (put_other gx NX.out.1).trans Gx30.out)
      have Ge31 := Aside0.mk (show Is (put wv30 B1 .i64 a5) ge 48 .i64 e2 from (put_other ge NE_.out.1).trans Ge30.out)
      have Gf31 := Aside0.mk (show Is (put wv30 B1 .i64 a5) gf 48 .i64 f from (put_other gf NF_.out.1).trans Gf30.out)
      have GB31 := Aside0.mk (below_put (k := .i64) (ys := a5) GB30.out NN.out.2.1)
      generalize put wv30 B1 .i64 a5 = wv31 at Ga31 Gb31 Gc31 Gd31 Gx31 Ge31 Gf31 GB31 ⊢
      clear HLn Ga30 Gb30 Gc30 Gd30 Gx30 Ge30 Gf30 GB30
      go_wp2_with (first | (with_reducible refine loadL_is (b := B2) (e := 48) (k := .i64) (xs := b2) 48 2 16 (.tmp 8) rfl rfl rfl Gb31.out Try.underlying48 HI_b2.out ?_) | (with_reducible refine loadL_is (b := gx) (e := 48) (k := .i64) (xs := x) 48 2 16 (.tmp 6) rfl rfl rfl Gx31.out Try.underlying48 HI_x.out ?_))
      refine (C19.out wv31).mono ?_
      rintro E_ wv32 ⟨rfl, h_⟩
      have Ga32 := Aside0.mk (Ga31.out.below h_)
      have Gb32 := Aside0.mk (Gb31.out.below h_)
      have Gc32 := Aside0.mk (Gc31.out.below h_)
      have Gd32 := Aside0.mk (Gd31.out.below h_)
      have Gx32 := Aside0.mk (Gx31.out.below h_)
      have Ge32 := Aside0.mk (Ge31.out.below h_)
      have Gf32 := Aside0.mk (Gf31.out.below h_)
      have GB32 := Aside0.mk (below_step GB31.out h_)
      clear h_ Ga31 Gb31 Gc31 Gd31 Gx31 Ge31 Gf31 GB31
      have HLn := Aside0.mk (show d1.length = d2.length by rw [P_d1.out.len, P_d2.out.len])
      go_upto_region 28 with (first | (with_reducible refine storeL_is (b := B4_) (e := 48) (k := .i64) (xs := d1) 48 (.tmp 10) (.tmp 100) rfl rfl rfl d2 rfl rfl Gd32.out HLn.out HI_d2.out ?_))
      change Code.wp _ _ _ _ (put wv32 B4_ .i64 d2)
      have Ga33 := Aside0.mk (show Is (put wv32 B4_ .i64 d2) B1 48 .i64 a5 from (put_other B1 NN.out.1.2.2.1).trans Ga32.out)
      have Gb33 := Aside0.mk (show Is (put wv32 B4_ .i64 d2) B2 48 .i64 b2 from (put_other B2 NN.out.1.2.2.2.2.1).trans Gb32.out)
      have Gc33 := Aside0.mk (show Is (put wv32 B4_ .i64 d2) B3 48 .i64 c4 from (put_other B3 NN.out.1.2.2.2.2.2).trans Gc32.out)
      have Gd33 := Aside0.mk (put_heap (ys := d2) Gd32.out)
      have Gx33 := Aside0.mk (show Is (put wv32 B4_ .i64 d2) gx 48 .i64 x from (put_other gx NX.out.2.2.2).trans Gx32.out)
      have Ge33 := Aside0.mk (show Is (put wv32 B4_ .i64 d2) ge 48 .i64 e2 from (put_other ge NE_.out.2.2.2.1).trans Ge32.out)
      have Gf33 := Aside0.mk (show Is (put wv32 B4_ .i64 d2) gf 48 .i64 f from (put_other gf NF_.out.2.2.2.1).trans Gf32.out)
      have GB33 := Aside0.mk (below_put (k := .i64) (ys := d2) GB32.out NN.out.2.2.2.2)
      generalize put wv32 B4_ .i64 d2 = wv33 at Ga33 Gb33 Gc33 Gd33 Gx33 Ge33 Gf33 GB33 ⊢
      clear HLn Ga32 Gb32 Gc32 Gd32 Gx32 Ge32 Gf32 GB32
      go_wp2_with (first | (with_reducible refine loadL_is (b := ge) (e := 48) (k := .i64) (xs := e2) 48 2 16 (.tmp 13) rfl rfl rfl Ge33.out Try.underlying48 HI_e2.out ?_))
      refine (C20.out wv33).mono ?_
      rintro E_ wv34 ⟨rfl, h_⟩
      have Ga34 := Aside0.mk (Ga33.out.below h_)
      have Gb34 := Aside0.mk (Gb33.out.below h_)
      have Gc34 := Aside0.mk (Gc33.out.below h_)
      have Gd34 := Aside0.mk (Gd33.out.below h_)
      have Gx34 := Aside0.mk (Gx33.out.below h_)
      have Ge34 := Aside0.mk (Ge33.out.below h_)
      have Gf34 := Aside0.mk (Gf33.out.below h_)
      have GB34 := Aside0.mk (below_step GB33.out h_)
      clear h_ Ga33 Gb33 Gc33 Gd33 Gx33 Ge33 Gf33 GB33
      have HLn := Aside0.mk (show b2.length = b3.length by rw [P_b2.out.len, P_b3.out.len])
      go_upto_region 29 with (first | (with_reducible refine storeL_is (b := B2) (e := 48) (k := .i64) (xs := b2) 48 (.tmp 8) (.tmp 102) rfl rfl rfl b3 rfl rfl Gb34.out HLn.out HI_b3.out ?_))
      change Code.wp _ _ _ _ (put wv34 B2 .i64 b3)
      have Ga35 := Aside0.mk (show Is (put wv34 B2 .i64 b3) B1 48 .i64 a5 from (put_other B1 NN.out.1.1).trans Ga34.out)
      have Gb35 := Aside0.mk (put_heap (ys := b3) Gb34.out)
      have Gc35 := Aside0.mk (show Is (put wv34 B2 .i64 b3) B3 48 .i64 c4 from (put_other B3 (Ne.symm NN.out.1.2.2.2.1)).trans Gc34.out)
      have Gd35 := Aside0.mk (show Is (put wv34 B2 .i64 b3) B4_ 48 .i64 d2 from (put_other B4_ (Ne.symm NN.out.1.2.2.2.2.1)).trans Gd34.out)
      have Gx35 := Aside0.mk (show Is (put wv34 B2 .i64 b3) gx 48 .i64 x from (put_other gx NX.out.2.1).trans Gx34.out)
      have Ge35 := Aside0.mk (show Is (put wv34 B2 .i64 b3) ge 48 .i64 e2 from (put_other ge NE_.out.2.1).trans Ge34.out)
      have Gf35 := Aside0.mk (show Is (put wv34 B2 .i64 b3) gf 48 .i64 f from (put_other gf NF_.out.2.1).trans Gf34.out)
      have GB35 := Aside0.mk (below_put (k := .i64) (ys := b3) GB34.out NN.out.2.2.1)
      generalize put wv34 B2 .i64 b3 = wv35 at Ga35 Gb35 Gc35 Gd35 Gx35 Ge35 Gf35 GB35 ⊢
      clear HLn Ga34 Gb34 Gc34 Gd34 Gx34 Ge34 Gf34 GB34
      obtain ⟨a6, ha6⟩ : ∃ y, y = if so = 1 then b3 else a5 := ⟨_, rfl⟩
      obtain ⟨b6, hb6⟩ : ∃ y, y = if so = 1 then a5 else b3 := ⟨_, rfl⟩
      obtain ⟨c6, hc6⟩ : ∃ y, y = if so = 1 then d2 else c4 := ⟨_, rfl⟩
      obtain ⟨d6, hd6⟩ : ∃ y, y = if so = 1 then c4 else d2 := ⟨_, rfl⟩
      have FIN := Aside0.mk (show ladL x z (n + 1) = (a6, b6, c6, d6) by
        rw [ladL, ← QS.out, ← SO.out.1, rndL, SW.out, FM.out, ha6, hb6, hc6, hd6]
        unfold swL
        split <;> rfl)
      have C1 := Aside0.mk (fun (W : World) (h1 : Is W B1 48 .i64 a5) (h2 : Is W B2 48 .i64 b3) => ha6 ▸ hb6 ▸ swap_calls B1 B2 NN.out.1.1 a5 b3 so SO.out.2 SF.out.a.len SF.out.b.len (bd_sm SF.out.a) (bd_sm SF.out.b) W h1 h2)
      have C2 := Aside0.mk (fun (W : World) (h1 : Is W B3 48 .i64 c4) (h2 : Is W B4_ 48 .i64 d2) => hc6 ▸ hd6 ▸ swap_calls B3 B4_ NN.out.1.2.2.2.2.2 c4 d2 so SO.out.2 SF.out.c.len SF.out.d.len (bd_sm SF.out.c) (bd_sm SF.out.d) W h1 h2)
      clear ha6 hb6 hc6 hd6
      go_wp2_with fail
      refine (C1.out wv35 Ga35.out Gb35.out).mono ?_
      rintro E_ wv36 ⟨rfl, h1_, h2_, hT_⟩
      have Ga36 := Aside0.mk h1_
      have Gb36 := Aside0.mk h2_
      have Gc36 := Aside0.mk (hT_.other (Ne.symm NN.out.1.2.1) (Ne.symm NN.out.1.2.2.2.1) Gc35.out)
      have Gd36 := Aside0.mk (hT_.other (Ne.symm NN.out.1.2.2.1) (Ne.symm NN.out.1.2.2.2.2.1) Gd35.out)
      have Gx36 := Aside0.mk (hT_.other NX.out.1 NX.out.2.1 Gx35.out)
      have Ge36 := Aside0.mk (hT_.other NE_.out.1 NE_.out.2.1 Ge35.out)
      have Gf36 := Aside0.mk (hT_.other NF_.out.1 NF_.out.2.1 Gf35.out)
      have GB36 := Aside0.mk (Two.below GB35.out hT_ NN.out.2.1 NN.out.2.2.1)
      clear h1_ h2_ hT_ Ga35 Gb35 Gc35 Gd35 Gx35 Ge35 Gf35 GB35
      go_wp2_with fail
      refine (C2.out wv36 Gc36.out Gd36.out).mono ?_
      rintro E_ wv37 ⟨rfl, h1_, h2_, hT_⟩
      have Ga37 := Aside0.mk (hT_.other NN.out.1.2.1 NN.out.1.2.2.1 Ga36.out)
      have Gb37 := Aside0.mk (hT_.other NN.out.1.2.2.2.1 NN.out.1.2.2.2.2.1 Gb36.out)
      have Gc37 := Aside0.mk h1_
      have Gd37 := Aside0.mk h2_
      have Gx37 := Aside0.mk (hT_.other NX.out.2.2.1 NX.out.2.2.2 Gx36.out)
      have Ge37 := Aside0.mk (hT_.other NE_.out.2.2.1 NE_.out.2.2.2.1 Ge36.out)
      have Gf37 := Aside0.mk (hT_.other NF_.out.2.2.1 NF_.out.2.2.2.1 Gf36.out)
      have GB37 := Aside0.mk (Two.below GB36.out hT_ NN.out.2.2.2.1 NN.out.2.2.2.2)
      clear h1_ h2_ hT_ Ga36 Gb36 Gc36 Gd36 Gx36 Ge36 Gf36 GB36
      go_wp2_with fail
      refine ⟨⟨n + 1, by have := KR.out; omega, ?_, ⟨by rw [FIN.out]; exact Ga37.out⟩, ⟨by rw [FIN.out]; exact Gb37.out⟩, ⟨by rw [FIN.out]; exact Gc37.out⟩, ⟨by rw [FIN.out]; exact Gd37.out⟩, GB37⟩, ?_⟩
      · have := HK.out
        congr 1
        omega
      · have := HK.out
        simp only [intOf]
        omega
    · obtain rfl : n = 255 := by omega
      obtain rfl : k = -1 := by omega
      have SM := Aside0.mk (sms_lad x z SXX.out 255)
      obtain ⟨X, hX⟩ : ∃ y, y = (ladL x z 255).1 := ⟨_, rfl⟩
      obtain ⟨Z, hZ⟩ : ∃ y, y = (ladL x z 255).2.2.1 := ⟨_, rfl⟩
      rw [← hX] at Ja
      rw [← hZ] at Jc
      have PX := Aside0.mk (show Sm X by rw [hX]; exact SM.out.a)
      have PZ := Aside0.mk (show Sm Z by rw [hZ]; exact SM.out.c)
      obtain ⟨iv, hiv⟩ : ∃ y, y = invS Z 254 := ⟨_, rfl⟩
      have PI := Aside0.mk (show Sm iv by rw [hiv]; exact sm_inv PZ.out 254)
      obtain ⟨m, hm⟩ : ∃ y, y = mulF X iv := ⟨_, rfl⟩
      have PM := Aside0.mk (show Sm m by rw [hm]; exact sm_mul PX.out.len PI.out.len (bd_sm PX.out).wide (bd_sm PI.out).wide)
      have D1 := Aside0.mk (fun (W : World) => show Calls Try.prog 31 #[ag Z] W fun E_ w' => E_ = .returned (ag iv) ∧ Below W.heap.size W w' from by rw [hiv]; exact inverse_calls Z PZ.out W)
      have D2 := Aside0.mk (fun (W : World) => show Calls Try.prog 29 #[ag X, ag iv] W fun E_ w' => E_ = .returned (ag m) ∧ Below W.heap.size W w' from by rw [hm]; exact times_calls X iv PX.out.len PI.out.len (bd_sm PX.out).wide (bd_sm PI.out).wide W)
      have EQ := Aside0.mk (show packF m = curveF s p by rw [hm, hiv, hX, hZ, HX.out, HZ.out]; rfl)
      have BW := Aside0.mk (below_step B6.out JB.out)
      clear hX hZ hiv hm hn h255 hk
      go_upto_region 31 with (fail)
      change Code.wp _ _ _ _ wr
      refine start_ (n := 6) (S := fun w' => Below wr.heap.size wr w') (ds := []) #[false, false, false, false, false, false] (by kernel_rfl) rfl rfl (below_drew1 (Below.refl _ _)) (fun hHeld => ?_)
      refine take_ (i := 0) (N := some 107) (v := ?_) (a' := ?_) #[true, false, false, false, false, false] rfl rfl (by kernel_rfl) (fun _ _ _ h => h) (Or.inl ⟨by rfl, ?_⟩) hHeld ?_ ?_
      rotate_left
      · intro w' s0
        refine load_ev (.tmp 7) ?_ B1 X ?_ (Ja.out.below s0) PX.out.len <;> rfl
      rotate_left
      · simp only [Act.put, List.setIfInBounds_toArray, List.set_cons_zero, List.set_cons_succ]
        rfl
      refine take_ (i := 1) (N := some 108) (v := ?_) (a' := ?_) #[true, true, false, false, false, false] rfl rfl (by kernel_rfl) (fun _ _ _ h => h) (Or.inl ⟨by rfl, ?_⟩) hHeld ?_ ?_
      rotate_left
      · intro w' s0
        refine load_ev (.tmp 9) ?_ B3 Z ?_ (Jc.out.below s0) PZ.out.len <;> rfl
      rotate_left
      · simp only [Act.put, List.setIfInBounds_toArray, List.set_cons_zero, List.set_cons_succ]
        rfl
      refine one_ (i := 2) (N := some 109) #[true, true, true, false, false, false] rfl rfl (by kernel_rfl) (by decide) (fun K hK => ?_)
      refine goes_ Try.func31 (by kernel_rfl) rfl #[ag Z] (by rfl) rfl rfl (by simp only [List.map_toArray, List.map_cons, List.map_nil]; rfl) ?_
      with_reducible refine (D1.out _).mono ?_
      rintro E_ wa ⟨rfl, hba⟩
      refine ⟨_, rfl, ?_⟩
      have hbb := below_step hHeld hba
      clear hba
      refine hK.out _ _ (hbb) (fun hHeld => ?_)
      clear hK K
      refine norm_ (a' := ?_) ?_ ?_
      rotate_left
      · show Act.put _ (some 109) _ = _
        simp only [Act.put, List.setIfInBounds_toArray, List.set_cons_zero, List.set_cons_succ]
        rfl
      refine one_ (i := 3) (N := some 110) #[true, true, true, true, false, false] rfl rfl (by kernel_rfl) (by decide) (fun K hK => ?_)
      refine goes_ Try.func29 (by kernel_rfl) rfl #[ag X, ag iv] (by rfl) rfl rfl (by simp only [List.map_toArray, List.map_cons, List.map_nil]; rfl) ?_
      with_reducible refine (D2.out _).mono ?_
      rintro E_ wb ⟨rfl, hba⟩
      refine ⟨_, rfl, ?_⟩
      have hbb := below_step hHeld hba
      clear hba
      refine hK.out _ _ (hbb) (fun hHeld => ?_)
      clear hK K
      refine norm_ (a' := ?_) ?_ ?_
      rotate_left
      · show Act.put _ (some 110) _ = _
        simp only [Act.put, List.setIfInBounds_toArray, List.set_cons_zero, List.set_cons_succ]
        rfl
      refine one_ (i := 4) (N := some 111) #[true, true, true, true, true, false] rfl rfl (by kernel_rfl) (by decide) (fun K hK => ?_)
      refine goes_ Try.func30 (by kernel_rfl) rfl #[ag m] (by rfl) rfl rfl (by simp only [List.map_toArray, List.map_cons, List.map_nil]; rfl) ?_
      with_reducible refine (pack_calls m PM.out _).mono ?_
      rintro E_ wc ⟨vc, rfl, hR, hba⟩
      refine ⟨_, rfl, ?_⟩
      have RC := Aside0.mk (Kd.R_lower hR hHeld.size)
      have hbb := below_step hHeld hba
      clear hba hR
      refine hK.out _ _ (hbb) (fun hHeld => ?_)
      clear hK K
      refine norm_ (a' := ?_) ?_ ?_
      rotate_left
      · show Act.put _ (some 111) _ = _
        simp only [Act.put, List.setIfInBounds_toArray, List.set_cons_zero, List.set_cons_succ]
        rfl
      refine pure_ (i := 5) (N := some 4) (v := ?_) (a' := ?_) #[true, true, true, true, true, true] rfl rfl (by kernel_rfl) (fun _ _ _ h => h) (Or.inl ⟨by rfl, ?_⟩) ?_ ?_
      rotate_left
      · intro w'
        go_simp
        with_reducible rfl
      rotate_left
      · simp only [Act.put, List.setIfInBounds_toArray, List.set_cons_zero, List.set_cons_succ]
        rfl
      refine done_ (by kernel_rfl) ?_
      have BF := Aside0.mk (below_step BW.out hHeld)
      clear hHeld
      go_wp2_with fail
      go_ret
      refine ⟨_, rfl, ?_, BF.out⟩
      rw [← EQ.out]
      exact Kd.R_lower RC.out BW.out.size
end Go.Proofs.Ytlpoolcdoecodaa.Cv
