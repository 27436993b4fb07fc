/-
  The reference's Mul, walked.
-/
import Derived.Test.YtlpoolcdoecodaaCvRF
import Derived.Test.YtlpoolcdoecodaaCvJ
namespace Go.Proofs.Ytlpoolcdoecodaa.Cv
open Go.RowKit Go.Proofs.YtlpoolcdoecodaaW.PrintWords Go.Proofs.YtlpoolcdoecodaaW.PrintLast Go.Proofs.YtlpoolcdoecodaaW.PrintMore Go.Proofs.Ytlpoolcdoecodaa.Arr
set_option linter.unusedVariables false
set_option maxHeartbeats 8000000
set_option maxRecDepth 100000
theorem rladder_calls (A0 : Option Addr) (c0 : Nat) (s : List Int) (A1 : Option Addr) (c1 : Nat) (p : List Int) (w : World) (hls : s.length = 32) (hlp : p.length = 32) (hbs : ∀ x ∈ s, 0 ≤ x ∧ x < 256) (hbp : ∀ x ∈ p, 0 ≤ x ∧ x < 256)
    (hC0 : (Kd.int .u8).C w A0 32 s) (hc0 : 32 ≤ c0) (hC1 : (Kd.int .u8).C w A1 32 p) (hc1 : 32 ≤ c1) :
    Calls Try.prog 12 #[.slice A0 32 c0, .slice A1 32 c1] w fun e w' => ∃ v, e = .returned (.tuple #[v, .int .i64 0]) ∧ (Kd.int .u8).R 5 w' w.heap.size (fun _ => True) v (curveF s p) ∧ Below w.heap.size w w' := by
  have hgs : ∀ j, 0 ≤ s.getD j 0 ∧ s.getD j 0 < 256 := fun j => by
    rw [List.getD_eq_getElem?_getD]
    rcases hj : s[j]? with _ | y
    · simp
    · simpa using hbs y (List.mem_of_getElem? hj)
  have HS := Aside0.mk (And.intro hls hgs)
  have HP := Aside0.mk (And.intro hlp hbp)
  have H0 := Aside0.mk (show (Kd.int .u8).C w A0 s.length s ∧ 32 ≤ c0 by rw [hls]; exact ⟨hC0, hc0⟩)
  have H1 := Aside0.mk (And.intro hC1 hc1)
  have SX := Aside0.mk (sm_unp p hbp)
  have Z1 := Aside0.mk (show (Kd.int .u8).R 5 (w.alloc (.cells #[] 5)) w.heap.size (fun _ => True) (.slice (some ⟨w.heap.size, 0, none⟩) 0 0) [] from lit_R w w.heap.size w.heap.size 5 .u8 [] 0 rfl (Nat.le_refl _) rfl (by decide))
  have B1 := Aside0.mk (show Below w.heap.size w (w.alloc (.cells #[] 5)) from (Below.refl _ _).alloc (Nat.le_refl _) _)
  have L32 := Aside0.mk hls.symm
  have HC0 := Aside0.mk (show (Kd.int .u8).C (w.alloc (.cells #[] 5)) A0 32 s from Kd.C_below hC0 B1.out)
  clear hls hlp hbs hbp hC0 hc0 hC1 hc1 hgs
  go_enter Try.func12, Try.ntmps12
  go_upto_region 4 with (((with_reducible refine gate_builtin (b := .append) (xs := #[.tmp 25, .tmp 26]) rfl ?_); at_builtin; (refine Kd.R_append_row (w0 := w) (Value.int .u8) (0 : Int) (h1 := fun _ => rfl) w.heap.size rfl (.tmp 25) (.tmp 26) 22 5 (.int .u8 0) 1 rfl Try.underlying22 info_u8 rfl Nat.one_pos _ [] s A0 32 c0 (fun _ => True) rfl rfl (fun _ _ => trivial) ?q1 ?q2 ?q3 ?q4 ?q5 ?_; (case q1 => exact Z1.out); (case q2 => exact HC0.out); (case q3 => exact B1.out); (case q4 => exact B1.out.size); (case q5 => have := HS.out.1; simp only [List.length_nil]; omega); intro v2 w2 hR hB _ _; have R2 := Aside0.mk (show (Kd.int .u8).R 5 w2 w.heap.size (fun _ => True) v2 s from hR); have B2 := Aside0.mk hB; clear hR hB)))
  obtain ⟨gz, cz, rfl, hgz, hgzl, _⟩ := Kd.R_form R2.out (by rw [HS.out.1]; decide)
  have R2' := R2.out
  rw [HS.out.1] at R2' ⊢
  have RZ := Aside0.mk R2'
  have GZ := Aside0.mk (And.intro hgz hgzl)
  clear R2 R2' hgz hgzl Z1 HC0 L32
  have b31 := HS.out.2 31
  have b0 := HS.out.2 0
  have x1 := (Kd.R_celln (0 : Int) RZ.out 31 (by decide) (by decide))
  have hp := Kd.R_putg RZ.out 31 (rd s 31 % 64 + 64)
  have e31 : rd s 31 = s.getD 31 0 := rfl
  have cl := clamp31 (rd s 31) (by rw [e31]; omega) (by rw [e31]; omega)
  obtain ⟨x1, x2⟩ := x1
  replace x1 : w2.cell? ⟨gz, 31, none⟩ = some (.int .u8 (rd s 31)) := x1
  replace x2 : w2.frozen? ⟨gz, 31, none⟩ = false := x2
  rw [show Int.toNat 31 = 31 from rfl] at hp
  have HPP := Aside0.mk hp
  have CL := Aside0.mk cl
  clear hp cl e31
  go_upto_region 5 with (fail)
  try rw [CL.out]
  change Code.wp _ _ _ _ (w2.setCell ⟨gz, 31, none⟩ (.int .u8 (rd s 31 % 64 + 64)))
  have R3 := Aside0.mk (show (Kd.int .u8).R 5 (w2.setCell ⟨gz, 31, none⟩ (.int .u8 (rd s 31 % 64 + 64))) w.heap.size (fun _ => True) (.slice (some ⟨gz, 0, none⟩) 32 cz) (s.set 31 (rd s 31 % 64 + 64)) from HPP.out.1)
  have B3 := Aside0.mk (show Below w.heap.size w (w2.setCell ⟨gz, 31, none⟩ (.int .u8 (rd s 31 % 64 + 64))) from below_set B2.out GZ.out.1)
  have Y3 := Aside0.mk (show gz < (w2.setCell ⟨gz, 31, none⟩ (.int .u8 (rd s 31 % 64 + 64))).heap.size by simp only [World.setCell, Array.size_modify]; exact GZ.out.2)
  generalize w2.setCell ⟨gz, 31, none⟩ (.int .u8 (rd s 31 % 64 + 64)) = w3 at R3 B3 Y3 ⊢
  clear x1 x2 HPP CL RZ b31
  have x1 := (Kd.R_celln (0 : Int) R3.out 0 (by decide) (by decide))
  have hp := Kd.R_putg R3.out 0 (rd s 0 - rd s 0 % 8)
  have e0 : rd s 0 = s.getD 0 0 := rfl
  have cl := clamp0 (rd s 0) (by rw [e0]; omega) (by rw [e0]; omega)
  obtain ⟨x1, x2⟩ := x1
  have ee : rdOf (0 : Int) (s.set 31 (rd s 31 % 64 + 64)) 0 = rd s 0 := by
    show (s.set 31 (rd s 31 % 64 + 64)).getD 0 0 = s.getD 0 0
    rw [getD_set _ _ _ _ (by rw [HS.out.1]; decide), if_neg (by decide)]
  rw [ee] at x1
  replace x1 : w3.cell? ⟨gz, 0, none⟩ = some (.int .u8 (rd s 0)) := x1
  replace x2 : w3.frozen? ⟨gz, 0, none⟩ = false := x2
  rw [show Int.toNat 0 = 0 from rfl] at hp
  have HPP := Aside0.mk hp
  have CL := Aside0.mk cl
  clear hp cl e0 ee b0
  go_upto_region 6 with (fail)
  try rw [CL.out]
  change Code.wp _ _ _ _ (w3.setCell ⟨gz, 0, none⟩ (.int .u8 (rd s 0 - rd s 0 % 8)))
  obtain ⟨z, hz⟩ : ∃ z, z = clampF s := ⟨_, rfl⟩
  have ez : (s.set 31 (rd s 31 % 64 + 64)).set 0 (rd s 0 - rd s 0 % 8) = z := by rw [hz]; rfl
  have R4 := Aside0.mk (show (Kd.int .u8).R 5 (w3.setCell ⟨gz, 0, none⟩ (.int .u8 (rd s 0 - rd s 0 % 8))) w.heap.size (fun _ => True) (.slice (some ⟨gz, 0, none⟩) 32 cz) z by rw [← ez]; exact HPP.out.1)
  have B4 := Aside0.mk (show Below w.heap.size w (w3.setCell ⟨gz, 0, none⟩ (.int .u8 (rd s 0 - rd s 0 % 8))) from below_set B3.out GZ.out.1)
  generalize w3.setCell ⟨gz, 0, none⟩ (.int .u8 (rd s 0 - rd s 0 % 8)) = w4 at R4 B4 ⊢
  have HZ := Aside0.mk hz
  have ZB := Aside0.mk (show ∀ j, 0 ≤ z.getD j 0 ∧ z.getD j 0 < 256 by
    intro j
    rw [hz, clampF]
    have h1 := HS.out.2 j
    have h31 := HS.out.2 31
    have h0 := HS.out.2 0
    rw [getD_set _ _ _ _ (by rw [List.length_set, HS.out.1]; decide), getD_set _ _ _ _ (by rw [HS.out.1]; decide)]
    split
    · omega
    · split <;> omega)
  have CZ := Aside0.mk (show (Kd.int .u8).C w4 (some ⟨gz, 0, none⟩) 32 z from by have h := Kd.R_reads' R4.out; have hc := h.2.2; rw [← h.1] at hc; exact hc)
  clear x1 x2 HPP CL R3 B3 Y3 R4 hz ez B2 GZ
  go_wp2_with fail
  refine (rread_calls A1 c1 p HP.out.1 HP.out.2 w4 (Kd.C_below H1.out.1 B4.out) H1.out.2).mono ?_
  rintro e w5 ⟨rfl, h5⟩
  obtain ⟨x, hx⟩ : ∃ x, x = unpF p := ⟨_, rfl⟩
  rw [← hx]
  have HX := Aside0.mk hx
  have SXX := Aside0.mk (show Sm x by rw [hx]; exact SX.out)
  have B5 := Aside0.mk (below_step B4.out h5)
  have CZ5 := Aside0.mk (Kd.C_below CZ.out h5)
  clear h5 hx CZ B4 H1 HP SX
  have HI_x := Aside0.mk (show (Try.prog.info? 40).map (·.size) = some x.length by rw [SXX.out.len]; exact info_n)
  have HLx := Aside0.mk (show z16.length = x.length by rw [SXX.out.len]; rfl)
  have N5 := Aside0.mk (show Is (w5.alloc (.cells #[.int .i64 0, .int .i64 0, .int .i64 0, .int .i64 0, .int .i64 0, .int .i64 0, .int .i64 0, .int .i64 0, .int .i64 0, .int .i64 0, .int .i64 0, .int .i64 0, .int .i64 0, .int .i64 0, .int .i64 0, .int .i64 0] 40)) w5.heap.size 40 .i64 z16 from new_is w5 40 .i64 z16)
  have A5 := Aside0.mk (show Below w5.heap.size w5 (w5.alloc (.cells #[.int .i64 0, .int .i64 0, .int .i64 0, .int .i64 0, .int .i64 0, .int .i64 0, .int .i64 0, .int .i64 0, .int .i64 0, .int .i64 0, .int .i64 0, .int .i64 0, .int .i64 0, .int .i64 0, .int .i64 0, .int .i64 0] 40)) from (Below.refl _ _).alloc (Nat.le_refl _) _)
  go_upto_region 7 with (first | (with_reducible refine storeL_is (b := w5.heap.size) (e := 40) (k := .i64) (xs := z16) 40 (.tmp 7) (.tmp 42) rfl rfl rfl x rfl rfl N5.out HLx.out HI_x.out ?_))
  change Code.wp _ _ _ _ (put (w5.alloc (.cells (nums .i64 z16).toArray 40)) w5.heap.size .i64 x)
  have i6 : Is (put (w5.alloc (.cells (nums .i64 z16).toArray 40)) w5.heap.size .i64 x) w5.heap.size 40 .i64 x := put_heap (ys := x) N5.out
  have b6 : Below w5.heap.size w5 (put (w5.alloc (.cells (nums .i64 z16).toArray 40)) w5.heap.size .i64 x) := below_put (k := .i64) (ys := x) A5.out (Nat.le_refl _)
  generalize put (w5.alloc (.cells (nums .i64 z16).toArray 40)) w5.heap.size .i64 x = w6 at i6 b6 ⊢
  obtain ⟨gx, hgx⟩ : ∃ g, g = w5.heap.size := ⟨_, rfl⟩
  rw [← hgx] at i6 ⊢
  have IX := Aside0.mk i6
  have CZ6 := Aside0.mk (Kd.C_below CZ5.out b6)
  have B6 := Aside0.mk (below_step B5.out b6)
  have GX := Aside0.mk (show w.heap.size ≤ gx ∧ gx < w6.heap.size from ⟨by rw [hgx]; exact B5.out.size, i6.lt⟩)
  clear i6 b6 hgx N5 A5 CZ5 B5
  go_upto_region 8 with (fail)
  change Code.wp _ _ _ _ (((w6.alloc (.cells (nums .i64 z16).toArray 40)).alloc (.cells (nums .i64 z16).toArray 40)).alloc (.cells (nums .i64 z16).toArray 40))
  obtain ⟨i1, i2, i3, b3⟩ := three w6 40 40 40 z16 z16 z16 _ rfl
  have sz : (((w6.alloc (.cells (nums .i64 z16).toArray 40)).alloc (.cells (nums .i64 z16).toArray 40)).alloc (.cells (nums .i64 z16).toArray 40)).heap.size = w6.heap.size + 1 + 1 + 1 := by rw [World.size_alloc, World.size_alloc, World.size_alloc]
  generalize ((w6.alloc (.cells (nums .i64 z16).toArray 40)).alloc (.cells (nums .i64 z16).toArray 40)).alloc (.cells (nums .i64 z16).toArray 40) = w7 at i1 i2 i3 b3 sz ⊢
  obtain ⟨B1, hB1⟩ : ∃ g, g = w6.heap.size := ⟨_, rfl⟩
  obtain ⟨B3, hB3⟩ : ∃ g, g = w6.heap.size + 1 := ⟨_, rfl⟩
  obtain ⟨B4_, hB4⟩ : ∃ g, g = w6.heap.size + 1 + 1 := ⟨_, rfl⟩
  obtain ⟨B2, hB2⟩ : ∃ g, g = w7.heap.size := ⟨_, rfl⟩
  try rw [← hB4] at i3 ⊢
  try rw [← hB3] at i2 ⊢
  try rw [← hB1] at i1 ⊢
  have J1 := Aside0.mk i1
  have J3 := Aside0.mk i2
  have J4 := Aside0.mk i3
  have C7 := Aside0.mk b3
  have NN := Aside0.mk (show (B1 ≠ B2 ∧ B1 ≠ B3 ∧ B1 ≠ B4_ ∧ B2 ≠ B3 ∧ B2 ≠ B4_ ∧ B3 ≠ B4_) ∧ w6.heap.size ≤ B1 ∧ w6.heap.size ≤ B2 ∧ w6.heap.size ≤ B3 ∧ w6.heap.size ≤ B4_ by omega)
  have JX := Aside0.mk (IX.out.below b3)
  clear i1 i2 i3 b3 sz hB1 hB3 hB4
  have N7 := Aside0.mk (show Is (w7.alloc (.cells #[.int .i64 0, .int .i64 0, .int .i64 0, .int .i64 0, .int .i64 0, .int .i64 0, .int .i64 0, .int .i64 0, .int .i64 0, .int .i64 0, .int .i64 0, .int .i64 0, .int .i64 0, .int .i64 0, .int .i64 0, .int .i64 0] 40)) w7.heap.size 40 .i64 z16 from new_is w7 40 .i64 z16)
  have A7 := Aside0.mk (show Below w7.heap.size w7 (w7.alloc (.cells #[.int .i64 0, .int .i64 0, .int .i64 0, .int .i64 0, .int .i64 0, .int .i64 0, .int .i64 0, .int .i64 0, .int .i64 0, .int .i64 0, .int .i64 0, .int .i64 0, .int .i64 0, .int .i64 0, .int .i64 0, .int .i64 0] 40)) from (Below.refl _ _).alloc (Nat.le_refl _) _)
  go_upto_region 9 with (first | (with_reducible refine loadL_is (b := gx) (e := 40) (k := .i64) (xs := x) 40 2 16 (.tmp 7) rfl rfl rfl JX.out Try.underlying40 HI_x.out ?_) | (with_reducible refine storeL_is (b := w7.heap.size) (e := 40) (k := .i64) (xs := z16) 40 (.tmp 11) (.tmp 43) rfl rfl rfl x rfl rfl N7.out HLx.out HI_x.out ?_))
  change Code.wp _ _ _ _ (put (w7.alloc (.cells (nums .i64 z16).toArray 40)) w7.heap.size .i64 x)
  have i6 : Is (put (w7.alloc (.cells (nums .i64 z16).toArray 40)) w7.heap.size .i64 x) w7.heap.size 40 .i64 x := put_heap (ys := x) N7.out
  have b6 : Below w7.heap.size w7 (put (w7.alloc (.cells (nums .i64 z16).toArray 40)) w7.heap.size .i64 x) := below_put (k := .i64) (ys := x) A7.out (Nat.le_refl _)
  generalize put (w7.alloc (.cells (nums .i64 z16).toArray 40)) w7.heap.size .i64 x = w8 at i6 b6 ⊢
  rw [← hB2] at i6 ⊢
  have K1 := Aside0.mk (J1.out.below b6)
  have K3 := Aside0.mk (J3.out.below b6)
  have K4 := Aside0.mk (J4.out.below b6)
  have K2 := Aside0.mk i6
  have C8 := Aside0.mk (below_step C7.out b6)
  clear i6 b6 hB2 N7 A7 J1 J3 J4 JX C7
  have d1 := K1.out.cell 0 (by decide)
  have f1 := K1.out.free 0
  have d4 := K4.out.cell 0 (by decide)
  have f4 := K4.out.free 0
  go_upto_region 10 with (fail)
  rw [put_set K1.out]
  change Code.wp _ _ _ _ (put w8 B1 .i64 oneF)
  have I1 := Aside0.mk (put_heap (ys := oneF) K1.out)
  have I2 := Aside0.mk (show Is (put w8 B1 .i64 oneF) B2 40 .i64 x from (put_other B2 (Ne.symm NN.out.1.1)).trans K2.out)
  have I3 := Aside0.mk (show Is (put w8 B1 .i64 oneF) B3 40 .i64 z16 from (put_other B3 (Ne.symm NN.out.1.2.1)).trans K3.out)
  have I4 := Aside0.mk (show Is (put w8 B1 .i64 oneF) B4_ 40 .i64 z16 from (put_other B4_ (Ne.symm NN.out.1.2.2.1)).trans K4.out)
  have C9 := Aside0.mk (below_put (k := .i64) (ys := oneF) C8.out NN.out.2.1)
  generalize put w8 B1 .i64 oneF = w9 at I1 I2 I3 I4 C9 ⊢
  clear d1 f1 d4 f4 K1 K2 K3 K4 C8
  have d4 := I4.out.cell 0 (by decide)
  have f4 := I4.out.free 0
  go_upto_region 11 with (fail)
  rw [put_set I4.out]
  change Code.wp _ _ _ _ (put w9 B4_ .i64 oneF)
  have O1 := Aside0.mk (show Is (put w9 B4_ .i64 oneF) B1 40 .i64 oneF from (put_other B1 NN.out.1.2.2.1).trans I1.out)
  have O2 := Aside0.mk (show Is (put w9 B4_ .i64 oneF) B2 40 .i64 x from (put_other B2 NN.out.1.2.2.2.2.1).trans I2.out)
  have O3 := Aside0.mk (show Is (put w9 B4_ .i64 oneF) B3 40 .i64 z16 from (put_other B3 NN.out.1.2.2.2.2.2).trans I3.out)
  have O4 := Aside0.mk (put_heap (ys := oneF) I4.out)
  have CO := Aside0.mk (below_put (k := .i64) (ys := oneF) C9.out NN.out.2.2.2.2)
  generalize put w9 B4_ .i64 oneF = w10 at O1 O2 O3 O4 CO ⊢
  clear d4 f4 I1 I2 I3 I4 C9
  have HI_k := Aside0.mk (show (Try.prog.info? 40).map (·.size) = some kF.length from info_n)
  have N7 := Aside0.mk (show Is (w10.alloc (.cells #[.int .i64 0, .int .i64 0, .int .i64 0, .int .i64 0, .int .i64 0, .int .i64 0, .int .i64 0, .int .i64 0, .int .i64 0, .int .i64 0, .int .i64 0, .int .i64 0, .int .i64 0, .int .i64 0, .int .i64 0, .int .i64 0] 40)) w10.heap.size 40 .i64 z16 from new_is w10 40 .i64 z16)
  have A7 := Aside0.mk (show Below w10.heap.size w10 (w10.alloc (.cells #[.int .i64 0, .int .i64 0, .int .i64 0, .int .i64 0, .int .i64 0, .int .i64 0, .int .i64 0, .int .i64 0, .int .i64 0, .int .i64 0, .int .i64 0, .int .i64 0, .int .i64 0, .int .i64 0, .int .i64 0, .int .i64 0] 40)) from (Below.refl _ _).alloc (Nat.le_refl _) _)
  go_upto_region 12 with (first | (with_reducible refine storeL_is (b := w10.heap.size) (e := 40) (k := .i64) (xs := z16) 40 (.tmp 12) (.tmp 46) rfl rfl rfl kF rfl rfl N7.out rfl HI_k.out ?_))
  change Code.wp _ _ _ _ (put (w10.alloc (.cells (nums .i64 z16).toArray 40)) w10.heap.size .i64 kF)
  have i6 : Is (put (w10.alloc (.cells (nums .i64 z16).toArray 40)) w10.heap.size .i64 kF) w10.heap.size 40 .i64 kF := put_heap (ys := kF) N7.out
  have b6 : Below w10.heap.size w10 (put (w10.alloc (.cells (nums .i64 z16).toArray 40)) w10.heap.size .i64 kF) := below_put (k := .i64) (ys := kF) A7.out (Nat.le_refl _)
  generalize put (w10.alloc (.cells (nums .i64 z16).toArray 40)) w10.heap.size .i64 kF = w11 at i6 b6 ⊢
  obtain ⟨gk, hgk⟩ : ∃ g, g = w10.heap.size := ⟨_, rfl⟩
  rw [← hgk] at i6 ⊢
  have P1 := Aside0.mk (O1.out.below b6)
  have P2 := Aside0.mk (O2.out.below b6)
  have P3 := Aside0.mk (show Is w11 B3 40 .i64 zeroF from O3.out.below b6)
  have P4 := Aside0.mk (O4.out.below b6)
  have PK := Aside0.mk i6
  have CP := Aside0.mk (below_step CO.out b6)
  have NK := Aside0.mk (show gk ≠ B1 ∧ gk ≠ B2 ∧ gk ≠ B3 ∧ gk ≠ B4_ ∧ gk ≠ gx by have h1 := O1.out.lt; have h2 := O2.out.lt; have h3 := O3.out.lt; have h4 := O4.out.lt; have h5 := GX.out.2; have h6 := CO.out.size; omega)
  clear i6 b6 hgk N7 A7 O1 O2 O3 O4 CO HLx
  go_wp2_with fail
  go_loopw [13] (fun v w' => ∃ n : Nat, n ≤ 255 ∧ v = .int .i64 (254 - (n : Int)) ∧ Aside0 (Is w' B1 40 .i64 (ladL x z n).1) ∧ Aside0 (Is w' B2 40 .i64 (ladL x z n).2.1) ∧ Aside0 (Is w' B3 40 .i64 (ladL x z n).2.2.1) ∧ Aside0 (Is w' B4_ 40 .i64 (ladL x z n).2.2.2) ∧ Aside0 (Is w' gk 40 .i64 kF) ∧ Aside0 (Below w6.heap.size w6 w')) (fun v _ => (intOf v + 1).toNat)
  case atStart => exact ⟨0, by omega, rfl, P1, P2, P3, P4, PK, CP⟩
  case round =>
    obtain ⟨n, hn, hkv, Ja, Jb, Jc, Jd, Jk, JB⟩ := hrel
    obtain ⟨k, hk⟩ : ∃ k : Int, k = 254 - (n : Int) := ⟨_, rfl⟩
    rw [← hk] at hkv
    subst hkv
    have HK := Aside0.mk hk
    clear P1 P2 P3 P4 PK CP
    by_cases h255 : n < 255
    · obtain ⟨S, hS⟩ : ∃ S : St, S = ladL x z n := ⟨_, rfl⟩
      rw [← hS] at Ja Jb Jc Jd
      have SM := Aside0.mk (show Sms S by rw [hS]; exact sms_lad x z SXX.out n)
      have QS := Aside0.mk hS
      have i0 : (0 : Int) ≤ k := by omega
      have i1 : ¬ k < 0 := by omega
      have kw : wrap64 (k - 1) = k - 1 := wrap_id (by omega) (by omega)
      have p0 : (0 : Int) ≤ k / 8 := by omega
      have p1 : k / 8 < 32 := by omega
      have t1 : k.tdiv 8 = k / 8 := Int.tdiv_eq_ediv_of_nonneg i0
      have t2 : k.tmod 8 = k % 8 := Int.tmod_eq_emod_of_nonneg i0
      have w8 : wrap64 (k / 8) = k / 8 := wrap_id (by omega) (by omega)
      have w9 : wrap64 (k % 8) = k % 8 := wrap_id (by omega) (by omega)
      have w10' : IntKind.u64.wrap (k % 8) = k % 8 := by simp [IntKind.wrap, IntKind.bits, IntKind.signed]; omega
      obtain ⟨q, hq⟩ : ∃ q : Nat, q = (k / 8).toNat := ⟨_, rfl⟩
      obtain ⟨r, hr⟩ : ∃ r : Nat, r = (k % 8).toNat := ⟨_, rfl⟩
      obtain ⟨ad, hA, cz0⟩ := Kd.at_int (Kd.C_below CZ6.out JB.out) (k / 8) p0 p1
      obtain rfl := Option.some.inj hA
      have zb := ZB.out q
      obtain ⟨u, hu⟩ : ∃ u, u = rd z (k / 8) := ⟨_, rfl⟩
      rw [← hu] at cz0
      have hu2 : z.getD q 0 = u := by rw [hu, rd, hq]
      rw [hu2] at zb
      rw [Go.Proofs.YtlpoolcdoecodaaW.PrintWords.add_plain, ← hq] at cz0
      have pq : (k / 8).toNat = q := hq.symm
      have KR := Aside0.mk (show r < 8 ∧ k % 8 = (r : Int) ∧ (254 - n) / 8 = q ∧ (254 - n) % 8 = r by omega)
      have ZU := Aside0.mk hu2
      have UB := Aside0.mk zb
      clear hS hA hk hq hr hu hu2 zb
      go_upto_region 16 with (fail)
      obtain ⟨so, hso⟩ : ∃ so, so = wrap64 (Go.bits .and .u8 (u / 2 ^ (k % 8).toNat) 1) := ⟨_, rfl⟩
      rw [← hso]
      have SO := Aside0.mk (show so = bitZ z (254 - n) ∧ (so = 0 ∨ so = 1) by
        have hr : (k % 8).toNat = r := by rw [KR.out.2.1]; rfl
        have hu0 : 0 ≤ u / 2 ^ r := Int.ediv_nonneg UB.out.1 (Int.le_of_lt (Int.pow_pos (by decide)))
        have hu1 : u / 2 ^ r < 256 := Int.lt_of_le_of_lt (Int.ediv_le_self _ UB.out.1) UB.out.2
        rw [hr, bit0 _ hu0 hu1, wrap_id (by omega) (by omega)] at hso
        refine ⟨?_, by omega⟩
        rw [hso, bitZ, KR.out.2.2.1, KR.out.2.2.2, ZU.out])
      clear hso cz0 pq p0 p1 t1 t2 w8 w9 w10'
      obtain ⟨a0, b0, c0_, d0⟩ := S
      obtain ⟨a, ha⟩ : ∃ y, y = if so = 1 then b0 else a0 := ⟨_, rfl⟩
      obtain ⟨b, hb⟩ : ∃ y, y = if so = 1 then a0 else b0 := ⟨_, rfl⟩
      obtain ⟨c, hc⟩ : ∃ y, y = if so = 1 then d0 else c0_ := ⟨_, rfl⟩
      obtain ⟨d, hd⟩ : ∃ y, y = if so = 1 then c0_ else d0 := ⟨_, rfl⟩
      have SW := Aside0.mk (show swL so (a0, b0, c0_, d0) = (a, b, c, d) by rw [ha, hb, hc, hd]; unfold swL; split <;> rfl)
      have SA := Aside0.mk (show Sms (a, b, c, d) by rw [← SW.out]; exact sms_sw so SM.out)
      have C1 := Aside0.mk (fun (W : World) => show Calls Try.prog 18 #[ag a0, ag b0, .int .i64 so] W fun E_ w' => E_ = .returned (.tuple #[ag a, ag b]) ∧ Below W.heap.size W w' from by rw [ha, hb]; exact rswap_calls a0 b0 so SM.out.a.len SM.out.b.len W)
      have C2 := Aside0.mk (fun (W : World) => show Calls Try.prog 18 #[ag c0_, ag d0, .int .i64 so] W fun E_ w' => E_ = .returned (.tuple #[ag c, ag d]) ∧ Below W.heap.size W w' from by rw [hc, hd]; exact rswap_calls c0_ d0 so SM.out.c.len SM.out.d.len W)
      clear ha hb hc hd
      have MID := Aside0.mk (midL_def x a b c d)
      have Fx := Aside0.mk (IX.out.below JB.out)
      obtain ⟨e, h_e⟩ : ∃ y, y = plusF a c := ⟨_, rfl⟩
      have P_e := Aside0.mk (show e.length = 16 ∧ Bd 131200 e by rw [h_e]; exact ⟨(len_plus _ _ (show a.length = c.length by rw [SA.out.a.len, SA.out.c.len])).trans SA.out.a.len, bd_plus (show a.length = c.length by rw [SA.out.a.len, SA.out.c.len]) (bd_sm SA.out.a) (bd_sm SA.out.c)⟩)
      have C3 := Aside0.mk (fun (W : World) => show Calls Try.prog 19 #[ag a, ag c] W fun E_ w' => E_ = .returned (ag e) ∧ Below W.heap.size W w' from by rw [h_e]; exact radd_calls a c SA.out.a.len SA.out.c.len (bd_sm SA.out.a) (bd_sm SA.out.c) W)
      obtain ⟨a1, h_a1⟩ : ∃ y, y = minusF a c := ⟨_, rfl⟩
      have P_a1 := Aside0.mk (show a1.length = 16 ∧ Bd 131200 a1 by rw [h_a1]; exact ⟨(len_minus _ _ (show a.length = c.length by rw [SA.out.a.len, SA.out.c.len])).trans SA.out.a.len, bd_minus (show a.length = c.length by rw [SA.out.a.len, SA.out.c.len]) (bd_sm SA.out.a) (bd_sm SA.out.c)⟩)
      have C4 := Aside0.mk (fun (W : World) => show Calls Try.prog 20 #[ag a, ag c] W fun E_ w' => E_ = .returned (ag a1) ∧ Below W.heap.size W w' from by rw [h_a1]; exact rsub_calls a c SA.out.a.len SA.out.c.len (bd_sm SA.out.a) (bd_sm SA.out.c) W)
      obtain ⟨c1_, h_c1_⟩ : ∃ y, y = plusF b d := ⟨_, rfl⟩
      have P_c1_ := Aside0.mk (show c1_.length = 16 ∧ Bd 131200 c1_ by rw [h_c1_]; exact ⟨(len_plus _ _ (show b.length = d.length by rw [SA.out.b.len, SA.out.d.len])).trans SA.out.b.len, bd_plus (show b.length = d.length by rw [SA.out.b.len, SA.out.d.len]) (bd_sm SA.out.b) (bd_sm SA.out.d)⟩)
      have C5 := Aside0.mk (fun (W : World) => show Calls Try.prog 19 #[ag b, ag d] W fun E_ w' => E_ = .returned (ag c1_) ∧ Below W.heap.size W w' from by rw [h_c1_]; exact radd_calls b d SA.out.b.len SA.out.d.len (bd_sm SA.out.b) (bd_sm SA.out.d) W)
      obtain ⟨b1, h_b1⟩ : ∃ y, y = minusF b d := ⟨_, rfl⟩
      have P_b1 := Aside0.mk (show b1.length = 16 ∧ Bd 131200 b1 by rw [h_b1]; exact ⟨(len_minus _ _ (show b.length = d.length by rw [SA.out.b.len, SA.out.d.len])).trans SA.out.b.len, bd_minus (show b.length = d.length by rw [SA.out.b.len, SA.out.d.len]) (bd_sm SA.out.b) (bd_sm SA.out.d)⟩)
      have C6 := Aside0.mk (fun (W : World) => show Calls Try.prog 20 #[ag b, ag d] W fun E_ w' => E_ = .returned (ag b1) ∧ Below W.heap.size W w' from by rw [h_b1]; exact rsub_calls b d SA.out.b.len SA.out.d.len (bd_sm SA.out.b) (bd_sm SA.out.d) W)
      obtain ⟨d1, h_d1⟩ : ∃ y, y = mulF e e := ⟨_, rfl⟩
      have P_d1 := Aside0.mk (show Sm d1 by rw [h_d1]; exact sm_mul P_e.out.1 P_e.out.1 P_e.out.2 P_e.out.2)
      have C7 := Aside0.mk (fun (W : World) => show Calls Try.prog 21 #[ag e, ag e] W fun E_ w' => E_ = .returned (ag d1) ∧ Below W.heap.size W w' from by rw [h_d1]; exact rmul_calls e e P_e.out.1 P_e.out.1 P_e.out.2 P_e.out.2 W)
      obtain ⟨f, h_f⟩ : ∃ y, y = mulF a1 a1 := ⟨_, rfl⟩
      have P_f := Aside0.mk (show Sm f by rw [h_f]; exact sm_mul P_a1.out.1 P_a1.out.1 P_a1.out.2 P_a1.out.2)
      have C8 := Aside0.mk (fun (W : World) => show Calls Try.prog 21 #[ag a1, ag a1] W fun E_ w' => E_ = .returned (ag f) ∧ Below W.heap.size W w' from by rw [h_f]; exact rmul_calls a1 a1 P_a1.out.1 P_a1.out.1 P_a1.out.2 P_a1.out.2 W)
      obtain ⟨a2, h_a2⟩ : ∃ y, y = mulF c1_ a1 := ⟨_, rfl⟩
      have P_a2 := Aside0.mk (show Sm a2 by rw [h_a2]; exact sm_mul P_c1_.out.1 P_a1.out.1 P_c1_.out.2 P_a1.out.2)
      have C9 := Aside0.mk (fun (W : World) => show Calls Try.prog 21 #[ag c1_, ag a1] W fun E_ w' => E_ = .returned (ag a2) ∧ Below W.heap.size W w' from by rw [h_a2]; exact rmul_calls c1_ a1 P_c1_.out.1 P_a1.out.1 P_c1_.out.2 P_a1.out.2 W)
      obtain ⟨c2, h_c2⟩ : ∃ y, y = mulF b1 e := ⟨_, rfl⟩
      have P_c2 := Aside0.mk (show Sm c2 by rw [h_c2]; exact sm_mul P_b1.out.1 P_e.out.1 P_b1.out.2 P_e.out.2)
      have C10 := Aside0.mk (fun (W : World) => show Calls Try.prog 21 #[ag b1, ag e] W fun E_ w' => E_ = .returned (ag c2) ∧ Below W.heap.size W w' from by rw [h_c2]; exact rmul_calls b1 e P_b1.out.1 P_e.out.1 P_b1.out.2 P_e.out.2 W)
      obtain ⟨e2, h_e2⟩ : ∃ y, y = plusF a2 c2 := ⟨_, rfl⟩
      have P_e2 := Aside0.mk (show e2.length = 16 ∧ Bd 131200 e2 by rw [h_e2]; exact ⟨(len_plus _ _ (show a2.length = c2.length by rw [P_a2.out.len, P_c2.out.len])).trans P_a2.out.len, bd_plus (show a2.length = c2.length by rw [P_a2.out.len, P_c2.out.len]) (bd_sm P_a2.out) (bd_sm P_c2.out)⟩)
      have C11 := Aside0.mk (fun (W : World) => show Calls Try.prog 19 #[ag a2, ag c2] W fun E_ w' => E_ = .returned (ag e2) ∧ Below W.heap.size W w' from by rw [h_e2]; exact radd_calls a2 c2 P_a2.out.len P_c2.out.len (bd_sm P_a2.out) (bd_sm P_c2.out) W)
      obtain ⟨a3, h_a3⟩ : ∃ y, y = minusF a2 c2 := ⟨_, rfl⟩
      have P_a3 := Aside0.mk (show a3.length = 16 ∧ Bd 131200 a3 by rw [h_a3]; exact ⟨(len_minus _ _ (show a2.length = c2.length by rw [P_a2.out.len, P_c2.out.len])).trans P_a2.out.len, bd_minus (show a2.length = c2.length by rw [P_a2.out.len, P_c2.out.len]) (bd_sm P_a2.out) (bd_sm P_c2.out)⟩)
      have C12 := Aside0.mk (fun (W : World) => show Calls Try.prog 20 #[ag a2, ag c2] W fun E_ w' => E_ = .returned (ag a3) ∧ Below W.heap.size W w' from by rw [h_a3]; exact rsub_calls a2 c2 P_a2.out.len P_c2.out.len (bd_sm P_a2.out) (bd_sm P_c2.out) W)
      obtain ⟨b2, h_b2⟩ : ∃ y, y = mulF a3 a3 := ⟨_, rfl⟩
      have P_b2 := Aside0.mk (show Sm b2 by rw [h_b2]; exact sm_mul P_a3.out.1 P_a3.out.1 P_a3.out.2 P_a3.out.2)
      have C13 := Aside0.mk (fun (W : World) => show Calls Try.prog 21 #[ag a3, ag a3] W fun E_ w' => E_ = .returned (ag b2) ∧ Below W.heap.size W w' from by rw [h_b2]; exact rmul_calls a3 a3 P_a3.out.1 P_a3.out.1 P_a3.out.2 P_a3.out.2 W)
      obtain ⟨c3, h_c3⟩ : ∃ y, y = minusF d1 f := ⟨_, rfl⟩
      have P_c3 := Aside0.mk (show c3.length = 16 ∧ Bd 131200 c3 by rw [h_c3]; exact ⟨(len_minus _ _ (show d1.length = f.length by rw [P_d1.out.len, P_f.out.len])).trans P_d1.out.len, bd_minus (show d1.length = f.length by rw [P_d1.out.len, P_f.out.len]) (bd_sm P_d1.out) (bd_sm P_f.out)⟩)
      have C14 := Aside0.mk (fun (W : World) => show Calls Try.prog 20 #[ag d1, ag f] W fun E_ w' => E_ = .returned (ag c3) ∧ Below W.heap.size W w' from by rw [h_c3]; exact rsub_calls d1 f P_d1.out.len P_f.out.len (bd_sm P_d1.out) (bd_sm P_f.out) W)
      obtain ⟨k3, h_k3⟩ : ∃ y, y = mulF c3 kF := ⟨_, rfl⟩
      have P_k3 := Aside0.mk (show Sm k3 by rw [h_k3]; exact sm_mul P_c3.out.1 sm_k.len P_c3.out.2 (bd_sm sm_k).wide)
      have C15 := Aside0.mk (fun (W : World) => show Calls Try.prog 21 #[ag c3, ag kF] W fun E_ w' => E_ = .returned (ag k3) ∧ Below W.heap.size W w' from by rw [h_k3]; exact rmul_calls c3 kF P_c3.out.1 sm_k.len P_c3.out.2 (bd_sm sm_k).wide W)
      obtain ⟨a4, h_a4⟩ : ∃ y, y = plusF k3 d1 := ⟨_, rfl⟩
      have P_a4 := Aside0.mk (show a4.length = 16 ∧ Bd 131200 a4 by rw [h_a4]; exact ⟨(len_plus _ _ (show k3.length = d1.length by rw [P_k3.out.len, P_d1.out.len])).trans P_k3.out.len, bd_plus (show k3.length = d1.length by rw [P_k3.out.len, P_d1.out.len]) (bd_sm P_k3.out) (bd_sm P_d1.out)⟩)
      have C16 := Aside0.mk (fun (W : World) => show Calls Try.prog 19 #[ag k3, ag d1] W fun E_ w' => E_ = .returned (ag a4) ∧ Below W.heap.size W w' from by rw [h_a4]; exact radd_calls k3 d1 P_k3.out.len P_d1.out.len (bd_sm P_k3.out) (bd_sm P_d1.out) W)
      obtain ⟨c4, h_c4⟩ : ∃ y, y = mulF c3 a4 := ⟨_, rfl⟩
      have P_c4 := Aside0.mk (show Sm c4 by rw [h_c4]; exact sm_mul P_c3.out.1 P_a4.out.1 P_c3.out.2 P_a4.out.2)
      have C17 := Aside0.mk (fun (W : World) => show Calls Try.prog 21 #[ag c3, ag a4] W fun E_ w' => E_ = .returned (ag c4) ∧ Below W.heap.size W w' from by rw [h_c4]; exact rmul_calls c3 a4 P_c3.out.1 P_a4.out.1 P_c3.out.2 P_a4.out.2 W)
      obtain ⟨a5, h_a5⟩ : ∃ y, y = mulF d1 f := ⟨_, rfl⟩
      have P_a5 := Aside0.mk (show Sm a5 by rw [h_a5]; exact sm_mul P_d1.out.len P_f.out.len (bd_sm P_d1.out).wide (bd_sm P_f.out).wide)
      have C18 := Aside0.mk (fun (W : World) => show Calls Try.prog 21 #[ag d1, ag f] W fun E_ w' => E_ = .returned (ag a5) ∧ Below W.heap.size W w' from by rw [h_a5]; exact rmul_calls d1 f P_d1.out.len P_f.out.len (bd_sm P_d1.out).wide (bd_sm P_f.out).wide W)
      obtain ⟨d2, h_d2⟩ : ∃ y, y = mulF b2 x := ⟨_, rfl⟩
      have P_d2 := Aside0.mk (show Sm d2 by rw [h_d2]; exact sm_mul P_b2.out.len SXX.out.len (bd_sm P_b2.out).wide (bd_sm SXX.out).wide)
      have C19 := Aside0.mk (fun (W : World) => show Calls Try.prog 21 #[ag b2, ag x] W fun E_ w' => E_ = .returned (ag d2) ∧ Below W.heap.size W w' from by rw [h_d2]; exact rmul_calls b2 x P_b2.out.len SXX.out.len (bd_sm P_b2.out).wide (bd_sm SXX.out).wide W)
      obtain ⟨b3, h_b3⟩ : ∃ y, y = mulF e2 e2 := ⟨_, rfl⟩
      have P_b3 := Aside0.mk (show Sm b3 by rw [h_b3]; exact sm_mul P_e2.out.1 P_e2.out.1 P_e2.out.2 P_e2.out.2)
      have C20 := Aside0.mk (fun (W : World) => show Calls Try.prog 21 #[ag e2, ag e2] W fun E_ w' => E_ = .returned (ag b3) ∧ Below W.heap.size W w' from by rw [h_b3]; exact rmul_calls e2 e2 P_e2.out.1 P_e2.out.1 P_e2.out.2 P_e2.out.2 W)
      have FM := Aside0.mk (show midL x (a, b, c, d) = (a5, b3, c4, d2) by rw [MID.out, h_b3, h_d2, h_a5, h_c4, h_a4, h_k3, h_c3, h_b2, h_a3, h_e2, h_c2, h_a2, h_f, h_d1, h_b1, h_c1_, h_a1, h_e])
      have SF := Aside0.mk (show Sms (a5, b3, c4, d2) by rw [← FM.out]; exact mid_facts x SXX.out _ SA.out)
      clear h_e h_a1 h_c1_ h_b1 h_d1 h_f h_a2 h_c2 h_e2 h_a3 h_b2 h_c3 h_k3 h_a4 h_c4 h_a5 h_d2 h_b3
      have HI_a := Aside0.mk (show (Try.prog.info? 40).map (·.size) = some a.length by rw [SA.out.a.len]; exact info_n)
      have HI_a0 := Aside0.mk (show (Try.prog.info? 40).map (·.size) = some a0.length by rw [SM.out.a.len]; exact info_n)
      have HI_a1 := Aside0.mk (show (Try.prog.info? 40).map (·.size) = some a1.length by rw [P_a1.out.1]; exact info_n)
      have HI_a2 := Aside0.mk (show (Try.prog.info? 40).map (·.size) = some a2.length by rw [P_a2.out.len]; exact info_n)
      have HI_a3 := Aside0.mk (show (Try.prog.info? 40).map (·.size) = some a3.length by rw [P_a3.out.1]; exact info_n)
      have HI_a4 := Aside0.mk (show (Try.prog.info? 40).map (·.size) = some a4.length by rw [P_a4.out.1]; exact info_n)
      have HI_a5 := Aside0.mk (show (Try.prog.info? 40).map (·.size) = some a5.length by rw [P_a5.out.len]; exact info_n)
      have HI_b := Aside0.mk (show (Try.prog.info? 40).map (·.size) = some b.length by rw [SA.out.b.len]; exact info_n)
      have HI_b0 := Aside0.mk (show (Try.prog.info? 40).map (·.size) = some b0.length by rw [SM.out.b.len]; exact info_n)
      have HI_b1 := Aside0.mk (show (Try.prog.info? 40).map (·.size) = some b1.length by rw [P_b1.out.1]; exact info_n)
      have HI_b2 := Aside0.mk (show (Try.prog.info? 40).map (·.size) = some b2.length by rw [P_b2.out.len]; exact info_n)
      have HI_b3 := Aside0.mk (show (Try.prog.info? 40).map (·.size) = some b3.length by rw [P_b3.out.len]; exact info_n)
      have HI_c := Aside0.mk (show (Try.prog.info? 40).map (·.size) = some c.length by rw [SA.out.c.len]; exact info_n)
      have HI_c0_ := Aside0.mk (show (Try.prog.info? 40).map (·.size) = some c0_.length by rw [SM.out.c.len]; exact info_n)
      have HI_c1_ := Aside0.mk (show (Try.prog.info? 40).map (·.size) = some c1_.length by rw [P_c1_.out.1]; exact info_n)
      have HI_c2 := Aside0.mk (show (Try.prog.info? 40).map (·.size) = some c2.length by rw [P_c2.out.len]; exact info_n)
      have HI_c3 := Aside0.mk (show (Try.prog.info? 40).map (·.size) = some c3.length by rw [P_c3.out.1]; exact info_n)
      have HI_c4 := Aside0.mk (show (Try.prog.info? 40).map (·.size) = some c4.length by rw [P_c4.out.len]; exact info_n)
      have HI_d := Aside0.mk (show (Try.prog.info? 40).map (·.size) = some d.length by rw [SA.out.d.len]; exact info_n)
      have HI_d0 := Aside0.mk (show (Try.prog.info? 40).map (·.size) = some d0.length by rw [SM.out.d.len]; exact info_n)
      have HI_d1 := Aside0.mk (show (Try.prog.info? 40).map (·.size) = some d1.length by rw [P_d1.out.len]; exact info_n)
      have HI_d2 := Aside0.mk (show (Try.prog.info? 40).map (·.size) = some d2.length by rw [P_d2.out.len]; exact info_n)
      have HI_e := Aside0.mk (show (Try.prog.info? 40).map (·.size) = some e.length by rw [P_e.out.1]; exact info_n)
      have HI_e2 := Aside0.mk (show (Try.prog.info? 40).map (·.size) = some e2.length by rw [P_e2.out.1]; exact info_n)
      have HI_f := Aside0.mk (show (Try.prog.info? 40).map (·.size) = some f.length by rw [P_f.out.len]; exact info_n)
      have HI_k3 := Aside0.mk (show (Try.prog.info? 40).map (·.size) = some k3.length by rw [P_k3.out.len]; exact info_n)
      have HI_kF := HI_k
      have NX := Aside0.mk (show gx ≠ B1 ∧ gx ≠ B2 ∧ gx ≠ B3 ∧ gx ≠ B4_ by have := GX.out; have := NN.out.2; omega)
      go_wp2_with (first | (with_reducible refine loadL_is (b := B1) (e := 40) (k := .i64) (xs := a0) 40 2 16 (.tmp 8) rfl rfl rfl Ja.out Try.underlying40 HI_a0.out ?_) | (with_reducible refine loadL_is (b := B2) (e := 40) (k := .i64) (xs := b0) 40 2 16 (.tmp 11) rfl rfl rfl Jb.out Try.underlying40 HI_b0.out ?_))
      refine (C1.out wr).mono ?_
      rintro E_ wv1 ⟨rfl, h_⟩
      have Ga1 := Aside0.mk (Ja.out.below h_)
      have Gb1 := Aside0.mk (Jb.out.below h_)
      have Gc1 := Aside0.mk (Jc.out.below h_)
      have Gd1 := Aside0.mk (Jd.out.below h_)
      have Gx1 := Aside0.mk (Fx.out.below h_)
      have Gk1 := Aside0.mk (Jk.out.below h_)
      have GB1 := Aside0.mk (below_step JB.out h_)
      clear h_ Ja Jb Jc Jd Fx Jk JB
      have HLn := Aside0.mk (show a0.length = a.length by rw [SM.out.a.len, SA.out.a.len])
      have HLm := Aside0.mk (show b0.length = b.length by rw [SM.out.b.len, SA.out.b.len])
      have GQ := Aside0.mk (show Is (put wv1 B1 .i64 a) B2 40 .i64 b0 from (put_other B2 (Ne.symm NN.out.1.1)).trans Gb1.out)
      go_upto_region 17 with (first | (with_reducible refine storeL_is (b := B1) (e := 40) (k := .i64) (xs := a0) 40 (.tmp 8) (.tmp 67) rfl rfl rfl a rfl rfl Ga1.out HLn.out HI_a.out ?_) | (with_reducible refine storeL_is (b := B2) (e := 40) (k := .i64) (xs := b0) 40 (.tmp 11) (.tmp 68) rfl rfl rfl b rfl rfl GQ.out HLm.out HI_b.out ?_))
      change Code.wp _ _ _ _ (put (put wv1 B1 .i64 a) B2 .i64 b)
      have Ga2 := Aside0.mk (show Is (put (put wv1 B1 .i64 a) B2 .i64 b) B1 40 .i64 a from (put_other B1 NN.out.1.1).trans (put_heap Ga1.out))
      have Gb2 := Aside0.mk (put_heap (ys := b) GQ.out)
      have Gc2 := Aside0.mk (show Is (put (put wv1 B1 .i64 a) B2 .i64 b) B3 40 .i64 c0_ from ((put_other B3 (Ne.symm NN.out.1.2.2.2.1)).trans (put_other B3 (Ne.symm NN.out.1.2.1))).trans Gc1.out)
      have Gd2 := Aside0.mk (show Is (put (put wv1 B1 .i64 a) B2 .i64 b) B4_ 40 .i64 d0 from ((put_other B4_ (Ne.symm NN.out.1.2.2.2.2.1)).trans (put_other B4_ (Ne.symm NN.out.1.2.2.1))).trans Gd1.out)
      have Gx2 := Aside0.mk (show Is (put (put wv1 B1 .i64 a) B2 .i64 b) gx 40 .i64 x from ((put_other gx NX.out.2.1).trans (put_other gx NX.out.1)).trans Gx1.out)
      have Gk2 := Aside0.mk (show Is (put (put wv1 B1 .i64 a) B2 .i64 b) gk 40 .i64 kF from ((put_other gk NK.out.2.1).trans (put_other gk NK.out.1)).trans Gk1.out)
      have GB2 := Aside0.mk (below_put (k := .i64) (ys := b) (below_put (k := .i64) (ys := a) GB1.out NN.out.2.1) NN.out.2.2.1)
      generalize put (put wv1 B1 .i64 a) B2 .i64 b = wv2 at Ga2 Gb2 Gc2 Gd2 Gx2 Gk2 GB2 ⊢
      clear HLn HLm GQ Ga1 Gb1 Gc1 Gd1 Gx1 Gk1 GB1
      go_wp2_with (first | (with_reducible refine loadL_is (b := B3) (e := 40) (k := .i64) (xs := c0_) 40 2 16 (.tmp 9) rfl rfl rfl Gc2.out Try.underlying40 HI_c0_.out ?_) | (with_reducible refine loadL_is (b := B4_) (e := 40) (k := .i64) (xs := d0) 40 2 16 (.tmp 10) rfl rfl rfl Gd2.out Try.underlying40 HI_d0.out ?_))
      refine (C2.out wv2).mono ?_
      rintro E_ wv3 ⟨rfl, h_⟩
      have Ga3 := Aside0.mk (Ga2.out.below h_)
      have Gb3 := Aside0.mk (Gb2.out.below h_)
      have Gc3 := Aside0.mk (Gc2.out.below h_)
      have Gd3 := Aside0.mk (Gd2.out.below h_)
      have Gx3 := Aside0.mk (Gx2.out.below h_)
      have Gk3 := Aside0.mk (Gk2.out.below h_)
      have GB3 := Aside0.mk (below_step GB2.out h_)
      clear h_ Ga2 Gb2 Gc2 Gd2 Gx2 Gk2 GB2
      have HLn := Aside0.mk (show c0_.length = c.length by rw [SM.out.c.len, SA.out.c.len])
      have HLm := Aside0.mk (show d0.length = d.length by rw [SM.out.d.len, SA.out.d.len])
      have GQ := Aside0.mk (show Is (put wv3 B3 .i64 c) B4_ 40 .i64 d0 from (put_other B4_ (Ne.symm NN.out.1.2.2.2.2.2)).trans Gd3.out)
      go_upto_region 18 with (first | (with_reducible refine storeL_is (b := B3) (e := 40) (k := .i64) (xs := c0_) 40 (.tmp 9) (.tmp 74) rfl rfl rfl c rfl rfl Gc3.out HLn.out HI_c.out ?_) | (with_reducible refine storeL_is (b := B4_) (e := 40) (k := .i64) (xs := d0) 40 (.tmp 10) (.tmp 75) rfl rfl rfl d rfl rfl GQ.out HLm.out HI_d.out ?_))
      change Code.wp _ _ _ _ (put (put wv3 B3 .i64 c) B4_ .i64 d)
      have Ga4 := Aside0.mk (show Is (put (put wv3 B3 .i64 c) B4_ .i64 d) B1 40 .i64 a from ((put_other B1 NN.out.1.2.2.1).trans (put_other B1 NN.out.1.2.1)).trans Ga3.out)
      have Gb4 := Aside0.mk (show Is (put (put wv3 B3 .i64 c) B4_ .i64 d) B2 40 .i64 b from ((put_other B2 NN.out.1.2.2.2.2.1).trans (put_other B2 NN.out.1.2.2.2.1)).trans Gb3.out)
      have Gc4 := Aside0.mk (show Is (put (put wv3 B3 .i64 c) B4_ .i64 d) B3 40 .i64 c from (put_other B3 NN.out.1.2.2.2.2.2).trans (put_heap Gc3.out))
      have Gd4 := Aside0.mk (put_heap (ys := d) GQ.out)
      have Gx4 := Aside0.mk (show Is (put (put wv3 B3 .i64 c) B4_ .i64 d) gx 40 .i64 x from ((put_other gx NX.out.2.2.2).trans (put_other gx NX.out.2.2.1)).trans Gx3.out)
      have Gk4 := Aside0.mk (show Is (put (put wv3 B3 .i64 c) B4_ .i64 d) gk 40 .i64 kF from ((put_other gk NK.out.2.2.2.1).trans (put_other gk NK.out.2.2.1)).trans Gk3.out)
      have GB4 := Aside0.mk (below_put (k := .i64) (ys := d) (below_put (k := .i64) (ys := c) GB3.out NN.out.2.2.2.1) NN.out.2.2.2.2)
      generalize put (put wv3 B3 .i64 c) B4_ .i64 d = wv4 at Ga4 Gb4 Gc4 Gd4 Gx4 Gk4 GB4 ⊢
      clear HLn HLm GQ Ga3 Gb3 Gc3 Gd3 Gx3 Gk3 GB3
      go_wp2_with (first | (with_reducible refine loadL_is (b := B1) (e := 40) (k := .i64) (xs := a) 40 2 16 (.tmp 8) rfl rfl rfl Ga4.out Try.underlying40 HI_a.out ?_) | (with_reducible refine loadL_is (b := B3) (e := 40) (k := .i64) (xs := c) 40 2 16 (.tmp 9) rfl rfl rfl Gc4.out Try.underlying40 HI_c.out ?_))
      refine (C3.out wv4).mono ?_
      rintro E_ wv5 ⟨rfl, h_⟩
      have Ga5 := Aside0.mk (Ga4.out.below h_)
      have Gb5 := Aside0.mk (Gb4.out.below h_)
      have Gc5 := Aside0.mk (Gc4.out.below h_)
      have Gd5 := Aside0.mk (Gd4.out.below h_)
      have Gx5 := Aside0.mk (Gx4.out.below h_)
      have Gk5 := Aside0.mk (Gk4.out.below h_)
      have GB5 := Aside0.mk (below_step GB4.out h_)
      clear h_ Ga4 Gb4 Gc4 Gd4 Gx4 Gk4 GB4
      have N5 := Aside0.mk (show Is (wv5.alloc (.cells #[.int .i64 0, .int .i64 0, .int .i64 0, .int .i64 0, .int .i64 0, .int .i64 0, .int .i64 0, .int .i64 0, .int .i64 0, .int .i64 0, .int .i64 0, .int .i64 0, .int .i64 0, .int .i64 0, .int .i64 0, .int .i64 0] 40)) wv5.heap.size 40 .i64 z16 from new_is wv5 40 .i64 z16)
      have A5 := Aside0.mk (show Below wv5.heap.size wv5 (wv5.alloc (.cells #[.int .i64 0, .int .i64 0, .int .i64 0, .int .i64 0, .int .i64 0, .int .i64 0, .int .i64 0, .int .i64 0, .int .i64 0, .int .i64 0, .int .i64 0, .int .i64 0, .int .i64 0, .int .i64 0, .int .i64 0, .int .i64 0] 40)) from (Below.refl _ _).alloc (Nat.le_refl _) _)
      have HLn := Aside0.mk (show z16.length = e.length by rw [P_e.out.1]; rfl)
      go_upto_region 19 with (first | (with_reducible refine storeL_is (b := wv5.heap.size) (e := 40) (k := .i64) (xs := z16) 40 (.tmp 15) (.tmp 78) rfl rfl rfl e rfl rfl N5.out HLn.out HI_e.out ?_))
      change Code.wp _ _ _ _ (put (wv5.alloc (.cells (nums .i64 z16).toArray 40)) wv5.heap.size .i64 e)
      have i6 : Is (put (wv5.alloc (.cells (nums .i64 z16).toArray 40)) wv5.heap.size .i64 e) wv5.heap.size 40 .i64 e := put_heap (ys := e) N5.out
      have b6 : Below wv5.heap.size wv5 (put (wv5.alloc (.cells (nums .i64 z16).toArray 40)) wv5.heap.size .i64 e) := below_put (k := .i64) (ys := e) A5.out (Nat.le_refl _)
      generalize put (wv5.alloc (.cells (nums .i64 z16).toArray 40)) wv5.heap.size .i64 e = wv6 at i6 b6 ⊢
      obtain ⟨ge, hge⟩ : ∃ g, g = wv5.heap.size := ⟨_, rfl⟩
      rw [← hge] at i6 ⊢
      have Ga6 := Aside0.mk (Ga5.out.below b6)
      have Gb6 := Aside0.mk (Gb5.out.below b6)
      have Gc6 := Aside0.mk (Gc5.out.below b6)
      have Gd6 := Aside0.mk (Gd5.out.below b6)
      have Gx6 := Aside0.mk (Gx5.out.below b6)
      have Gk6 := Aside0.mk (Gk5.out.below b6)
      have Ge6 := Aside0.mk i6
      have GB6 := Aside0.mk (below_step GB5.out b6)
      have NE_ := Aside0.mk (show ge ≠ B1 ∧ ge ≠ B2 ∧ ge ≠ B3 ∧ ge ≠ B4_ ∧ ge ≠ gx ∧ ge ≠ gk by have := Ga5.out.lt; have := Gb5.out.lt; have := Gc5.out.lt; have := Gd5.out.lt; have := Gx5.out.lt; have := Gk5.out.lt; omega)
      have LoE := Aside0.mk (show w6.heap.size ≤ ge by rw [hge]; exact GB5.out.size)
      clear i6 b6 hge N5 A5 HLn Ga5 Gb5 Gc5 Gd5 Gx5 Gk5 GB5
      go_wp2_with (first | (with_reducible refine loadL_is (b := B1) (e := 40) (k := .i64) (xs := a) 40 2 16 (.tmp 8) rfl rfl rfl Ga6.out Try.underlying40 HI_a.out ?_) | (with_reducible refine loadL_is (b := B3) (e := 40) (k := .i64) (xs := c) 40 2 16 (.tmp 9) rfl rfl rfl Gc6.out Try.underlying40 HI_c.out ?_))
      refine (C4.out wv6).mono ?_
      rintro E_ wv7 ⟨rfl, h_⟩
      have Ga7 := Aside0.mk (Ga6.out.below h_)
      have Gb7 := Aside0.mk (Gb6.out.below h_)
      have Gc7 := Aside0.mk (Gc6.out.below h_)
      have Gd7 := Aside0.mk (Gd6.out.below h_)
      have Gx7 := Aside0.mk (Gx6.out.below h_)
      have Gk7 := Aside0.mk (Gk6.out.below h_)
      have Ge7 := Aside0.mk (Ge6.out.below h_)
      have GB7 := Aside0.mk (below_step GB6.out h_)
      clear h_ Ga6 Gb6 Gc6 Gd6 Gx6 Gk6 Ge6 GB6
      have HLn := Aside0.mk (show a.length = a1.length by rw [SA.out.a.len, P_a1.out.1])
      go_upto_region 20 with (first | (with_reducible refine storeL_is (b := B1) (e := 40) (k := .i64) (xs := a) 40 (.tmp 8) (.tmp 81) rfl rfl rfl a1 rfl rfl Ga7.out HLn.out HI_a1.out ?_))
      change Code.wp _ _ _ _ (put wv7 B1 .i64 a1)
      have Ga8 := Aside0.mk (put_heap (ys := a1) Ga7.out)
      have Gb8 := Aside0.mk (show Is (put wv7 B1 .i64 a1) B2 40 .i64 b from (put_other B2 (Ne.symm NN.out.1.1)).trans Gb7.out)
      have Gc8 := Aside0.mk (show Is (put wv7 B1 .i64 a1) B3 40 .i64 c from (put_other B3 (Ne.symm NN.out.1.2.1)).trans Gc7.out)
      have Gd8 := Aside0.mk (show Is (put wv7 B1 .i64 a1) B4_ 40 .i64 d from (put_other B4_ (Ne.symm NN.out.1.2.2.1)).trans Gd7.out)
      have Gx8 := Aside0.mk (show Is (put wv7 B1 .i64 a1) gx 40 .i64 x from (put_other gx NX.out.1).trans Gx7.out)
      have Gk8 := Aside0.mk (show Is (put wv7 B1 .i64 a1) gk 40 .i64 kF from (put_other gk NK.out.1).trans Gk7.out)
      have Ge8 := Aside0.mk (show Is (put wv7 B1 .i64 a1) ge 40 .i64 e from (put_other ge NE_.out.1).trans Ge7.out)
      have GB8 := Aside0.mk (below_put (k := .i64) (ys := a1) GB7.out NN.out.2.1)
      generalize put wv7 B1 .i64 a1 = wv8 at Ga8 Gb8 Gc8 Gd8 Gx8 Gk8 Ge8 GB8 ⊢
      clear HLn Ga7 Gb7 Gc7 Gd7 Gx7 Gk7 Ge7 GB7
      go_wp2_with (first | (with_reducible refine loadL_is (b := B2) (e := 40) (k := .i64) (xs := b) 40 2 16 (.tmp 11) rfl rfl rfl Gb8.out Try.underlying40 HI_b.out ?_) | (with_reducible refine loadL_is (b := B4_) (e := 40) (k := .i64) (xs := d) 40 2 16 (.tmp 10) rfl rfl rfl Gd8.out Try.underlying40 HI_d.out ?_))
      refine (C5.out wv8).mono ?_
      rintro E_ wv9 ⟨rfl, h_⟩
      have Ga9 := Aside0.mk (Ga8.out.below h_)
      have Gb9 := Aside0.mk (Gb8.out.below h_)
      have Gc9 := Aside0.mk (Gc8.out.below h_)
      have Gd9 := Aside0.mk (Gd8.out.below h_)
      have Gx9 := Aside0.mk (Gx8.out.below h_)
      have Gk9 := Aside0.mk (Gk8.out.below h_)
      have Ge9 := Aside0.mk (Ge8.out.below h_)
      have GB9 := Aside0.mk (below_step GB8.out h_)
      clear h_ Ga8 Gb8 Gc8 Gd8 Gx8 Gk8 Ge8 GB8
      have HLn := Aside0.mk (show c.length = c1_.length by rw [SA.out.c.len, P_c1_.out.1])
      go_upto_region 21 with (first | (with_reducible refine storeL_is (b := B3) (e := 40) (k := .i64) (xs := c) 40 (.tmp 9) (.tmp 84) rfl rfl rfl c1_ rfl rfl Gc9.out HLn.out HI_c1_.out ?_))
      change Code.wp _ _ _ _ (put wv9 B3 .i64 c1_)
      have Ga10 := Aside0.mk (show Is (put wv9 B3 .i64 c1_) B1 40 .i64 a1 from (put_other B1 NN.out.1.2.1).trans Ga9.out)
      have Gb10 := Aside0.mk (show Is (put wv9 B3 .i64 c1_) B2 40 .i64 b from (put_other B2 NN.out.1.2.2.2.1).trans Gb9.out)
      have Gc10 := Aside0.mk (put_heap (ys := c1_) Gc9.out)
      have Gd10 := Aside0.mk (show Is (put wv9 B3 .i64 c1_) B4_ 40 .i64 d from (put_other B4_ (Ne.symm NN.out.1.2.2.2.2.2)).trans Gd9.out)
      have Gx10 := Aside0.mk (show Is (put wv9 B3 .i64 c1_) gx 40 .i64 x from (put_other gx NX.out.2.2.1).trans Gx9.out)
      have Gk10 := Aside0.mk (show Is (put wv9 B3 .i64 c1_) gk 40 .i64 kF from (put_other gk NK.out.2.2.1).trans Gk9.out)
      have Ge10 := Aside0.mk (show Is (put wv9 B3 .i64 c1_) ge 40 .i64 e from (put_other ge NE_.out.2.2.1).trans Ge9.out)
      have GB10 := Aside0.mk (below_put (k := .i64) (ys := c1_) GB9.out NN.out.2.2.2.1)
      generalize put wv9 B3 .i64 c1_ = wv10 at Ga10 Gb10 Gc10 Gd10 Gx10 Gk10 Ge10 GB10 ⊢
      clear HLn Ga9 Gb9 Gc9 Gd9 Gx9 Gk9 Ge9 GB9
      go_wp2_with (first | (with_reducible refine loadL_is (b := B2) (e := 40) (k := .i64) (xs := b) 40 2 16 (.tmp 11) rfl rfl rfl Gb10.out Try.underlying40 HI_b.out ?_) | (with_reducible refine loadL_is (b := B4_) (e := 40) (k := .i64) (xs := d) 40 2 16 (.tmp 10) rfl rfl rfl Gd10.out Try.underlying40 HI_d.out ?_))
      refine (C6.out wv10).mono ?_
      rintro E_ wv11 ⟨rfl, h_⟩
      have Ga11 := Aside0.mk (Ga10.out.below h_)
      have Gb11 := Aside0.mk (Gb10.out.below h_)
      have Gc11 := Aside0.mk (Gc10.out.below h_)
      have Gd11 := Aside0.mk (Gd10.out.below h_)
      have Gx11 := Aside0.mk (Gx10.out.below h_)
      have Gk11 := Aside0.mk (Gk10.out.below h_)
      have Ge11 := Aside0.mk (Ge10.out.below h_)
      have GB11 := Aside0.mk (below_step GB10.out h_)
      clear h_ Ga10 Gb10 Gc10 Gd10 Gx10 Gk10 Ge10 GB10
      have HLn := Aside0.mk (show b.length = b1.length by rw [SA.out.b.len, P_b1.out.1])
      go_upto_region 22 with (first | (with_reducible refine storeL_is (b := B2) (e := 40) (k := .i64) (xs := b) 40 (.tmp 11) (.tmp 87) rfl rfl rfl b1 rfl rfl Gb11.out HLn.out HI_b1.out ?_))
      change Code.wp _ _ _ _ (put wv11 B2 .i64 b1)
      have Ga12 := Aside0.mk (show Is (put wv11 B2 .i64 b1) B1 40 .i64 a1 from (put_other B1 NN.out.1.1).trans Ga11.out)
      have Gb12 := Aside0.mk (put_heap (ys := b1) Gb11.out)
      have Gc12 := Aside0.mk (show Is (put wv11 B2 .i64 b1) B3 40 .i64 c1_ from (put_other B3 (Ne.symm NN.out.1.2.2.2.1)).trans Gc11.out)
      have Gd12 := Aside0.mk (show Is (put wv11 B2 .i64 b1) B4_ 40 .i64 d from (put_other B4_ (Ne.symm NN.out.1.2.2.2.2.1)).trans Gd11.out)
      have Gx12 := Aside0.mk (show Is (put wv11 B2 .i64 b1) gx 40 .i64 x from (put_other gx NX.out.2.1).trans Gx11.out)
      have Gk12 := Aside0.mk (show Is (put wv11 B2 .i64 b1) gk 40 .i64 kF from (put_other gk NK.out.2.1).trans Gk11.out)
      have Ge12 := Aside0.mk (show Is (put wv11 B2 .i64 b1) ge 40 .i64 e from (put_other ge NE_.out.2.1).trans Ge11.out)
      have GB12 := Aside0.mk (below_put (k := .i64) (ys := b1) GB11.out NN.out.2.2.1)
      generalize put wv11 B2 .i64 b1 = wv12 at Ga12 Gb12 Gc12 Gd12 Gx12 Gk12 Ge12 GB12 ⊢
      clear HLn Ga11 Gb11 Gc11 Gd11 Gx11 Gk11 Ge11 GB11
      go_wp2_with (first | (with_reducible refine loadL_is (b := ge) (e := 40) (k := .i64) (xs := e) 40 2 16 (.tmp 15) rfl rfl rfl Ge12.out Try.underlying40 HI_e.out ?_))
      refine (C7.out wv12).mono ?_
      rintro E_ wv13 ⟨rfl, h_⟩
      have Ga13 := Aside0.mk (Ga12.out.below h_)
      have Gb13 := Aside0.mk (Gb12.out.below h_)
      have Gc13 := Aside0.mk (Gc12.out.below h_)
      have Gd13 := Aside0.mk (Gd12.out.below h_)
      have Gx13 := Aside0.mk (Gx12.out.below h_)
      have Gk13 := Aside0.mk (Gk12.out.below h_)
      have Ge13 := Aside0.mk (Ge12.out.below h_)
      have GB13 := Aside0.mk (below_step GB12.out h_)
      clear h_ Ga12 Gb12 Gc12 Gd12 Gx12 Gk12 Ge12 GB12
      have HLn := Aside0.mk (show d.length = d1.length by rw [SA.out.d.len, P_d1.out.len])
      go_upto_region 23 with (first | (with_reducible refine storeL_is (b := B4_) (e := 40) (k := .i64) (xs := d) 40 (.tmp 10) (.tmp 90) rfl rfl rfl d1 rfl rfl Gd13.out HLn.out HI_d1.out ?_))
      change Code.wp _ _ _ _ (put wv13 B4_ .i64 d1)
      have Ga14 := Aside0.mk (show Is (put wv13 B4_ .i64 d1) B1 40 .i64 a1 from (put_other B1 NN.out.1.2.2.1).trans Ga13.out)
      have Gb14 := Aside0.mk (show Is (put wv13 B4_ .i64 d1) B2 40 .i64 b1 from (put_other B2 NN.out.1.2.2.2.2.1).trans Gb13.out)
      have Gc14 := Aside0.mk (show Is (put wv13 B4_ .i64 d1) B3 40 .i64 c1_ from (put_other B3 NN.out.1.2.2.2.2.2).trans Gc13.out)
      have Gd14 := Aside0.mk (put_heap (ys := d1) Gd13.out)
      have Gx14 := Aside0.mk (show Is (put wv13 B4_ .i64 d1) gx 40 .i64 x from (put_other gx NX.out.2.2.2).trans Gx13.out)
      have Gk14 := Aside0.mk (show Is (put wv13 B4_ .i64 d1) gk 40 .i64 kF from (put_other gk NK.out.2.2.2.1).trans Gk13.out)
      have Ge14 := Aside0.mk (show Is (put wv13 B4_ .i64 d1) ge 40 .i64 e from (put_other ge NE_.out.2.2.2.1).trans Ge13.out)
      have GB14 := Aside0.mk (below_put (k := .i64) (ys := d1) GB13.out NN.out.2.2.2.2)
      generalize put wv13 B4_ .i64 d1 = wv14 at Ga14 Gb14 Gc14 Gd14 Gx14 Gk14 Ge14 GB14 ⊢
      clear HLn Ga13 Gb13 Gc13 Gd13 Gx13 Gk13 Ge13 GB13
      go_wp2_with (first | (with_reducible refine loadL_is (b := B1) (e := 40) (k := .i64) (xs := a1) 40 2 16 (.tmp 8) rfl rfl rfl Ga14.out Try.underlying40 HI_a1.out ?_))
      refine (C8.out wv14).mono ?_
      rintro E_ wv15 ⟨rfl, h_⟩
      have Ga15 := Aside0.mk (Ga14.out.below h_)
      have Gb15 := Aside0.mk (Gb14.out.below h_)
      have Gc15 := Aside0.mk (Gc14.out.below h_)
      have Gd15 := Aside0.mk (Gd14.out.below h_)
      have Gx15 := Aside0.mk (Gx14.out.below h_)
      have Gk15 := Aside0.mk (Gk14.out.below h_)
      have Ge15 := Aside0.mk (Ge14.out.below h_)
      have GB15 := Aside0.mk (below_step GB14.out h_)
      clear h_ Ga14 Gb14 Gc14 Gd14 Gx14 Gk14 Ge14 GB14
      have N5 := Aside0.mk (show Is (wv15.alloc (.cells #[.int .i64 0, .int .i64 0, .int .i64 0, .int .i64 0, .int .i64 0, .int .i64 0, .int .i64 0, .int .i64 0, .int .i64 0, .int .i64 0, .int .i64 0, .int .i64 0, .int .i64 0, .int .i64 0, .int .i64 0, .int .i64 0] 40)) wv15.heap.size 40 .i64 z16 from new_is wv15 40 .i64 z16)
      have A5 := Aside0.mk (show Below wv15.heap.size wv15 (wv15.alloc (.cells #[.int .i64 0, .int .i64 0, .int .i64 0, .int .i64 0, .int .i64 0, .int .i64 0, .int .i64 0, .int .i64 0, .int .i64 0, .int .i64 0, .int .i64 0, .int .i64 0, .int .i64 0, .int .i64 0, .int .i64 0, .int .i64 0] 40)) from (Below.refl _ _).alloc (Nat.le_refl _) _)
      have HLn := Aside0.mk (show z16.length = f.length by rw [P_f.out.len]; rfl)
      go_upto_region 24 with (first | (with_reducible refine storeL_is (b := wv15.heap.size) (e := 40) (k := .i64) (xs := z16) 40 (.tmp 16) (.tmp 93) rfl rfl rfl f rfl rfl N5.out HLn.out HI_f.out ?_))
      change Code.wp _ _ _ _ (put (wv15.alloc (.cells (nums .i64 z16).toArray 40)) wv15.heap.size .i64 f)
      have i6 : Is (put (wv15.alloc (.cells (nums .i64 z16).toArray 40)) wv15.heap.size .i64 f) wv15.heap.size 40 .i64 f := put_heap (ys := f) N5.out
      have b6 : Below wv15.heap.size wv15 (put (wv15.alloc (.cells (nums .i64 z16).toArray 40)) wv15.heap.size .i64 f) := below_put (k := .i64) (ys := f) A5.out (Nat.le_refl _)
      generalize put (wv15.alloc (.cells (nums .i64 z16).toArray 40)) wv15.heap.size .i64 f = wv16 at i6 b6 ⊢
      obtain ⟨gf, hgf⟩ : ∃ g, g = wv15.heap.size := ⟨_, rfl⟩
      rw [← hgf] at i6 ⊢
      have Ga16 := Aside0.mk (Ga15.out.below b6)
      have Gb16 := Aside0.mk (Gb15.out.below b6)
      have Gc16 := Aside0.mk (Gc15.out.below b6)
      have Gd16 := Aside0.mk (Gd15.out.below b6)
      have Gx16 := Aside0.mk (Gx15.out.below b6)
      have Gk16 := Aside0.mk (Gk15.out.below b6)
      have Ge16 := Aside0.mk (Ge15.out.below b6)
      have Gf16 := Aside0.mk i6
      have GB16 := Aside0.mk (below_step GB15.out b6)
      have NF_ := Aside0.mk (show gf ≠ B1 ∧ gf ≠ B2 ∧ gf ≠ B3 ∧ gf ≠ B4_ ∧ gf ≠ gx ∧ gf ≠ gk ∧ gf ≠ ge by have := Ga15.out.lt; have := Gb15.out.lt; have := Gc15.out.lt; have := Gd15.out.lt; have := Gx15.out.lt; have := Gk15.out.lt; have := Ge15.out.lt; omega)
      have LoF := Aside0.mk (show w6.heap.size ≤ gf by rw [hgf]; exact GB15.out.size)
      clear i6 b6 hgf N5 A5 HLn Ga15 Gb15 Gc15 Gd15 Gx15 Gk15 Ge15 GB15
      go_wp2_with (first | (with_reducible refine loadL_is (b := B3) (e := 40) (k := .i64) (xs := c1_) 40 2 16 (.tmp 9) rfl rfl rfl Gc16.out Try.underlying40 HI_c1_.out ?_) | (with_reducible refine loadL_is (b := B1) (e := 40) (k := .i64) (xs := a1) 40 2 16 (.tmp 8) rfl rfl rfl Ga16.out Try.underlying40 HI_a1.out ?_))
      refine (C9.out wv16).mono ?_
      rintro E_ wv17 ⟨rfl, h_⟩
      have Ga17 := Aside0.mk (Ga16.out.below h_)
      have Gb17 := Aside0.mk (Gb16.out.below h_)
      have Gc17 := Aside0.mk (Gc16.out.below h_)
      have Gd17 := Aside0.mk (Gd16.out.below h_)
      have Gx17 := Aside0.mk (Gx16.out.below h_)
      have Gk17 := Aside0.mk (Gk16.out.below h_)
      have Ge17 := Aside0.mk (Ge16.out.below h_)
      have Gf17 := Aside0.mk (Gf16.out.below h_)
      have GB17 := Aside0.mk (below_step GB16.out h_)
      clear h_ Ga16 Gb16 Gc16 Gd16 Gx16 Gk16 Ge16 Gf16 GB16
      have HLn := Aside0.mk (show a1.length = a2.length by rw [P_a1.out.1, P_a2.out.len])
      go_upto_region 25 with (first | (with_reducible refine storeL_is (b := B1) (e := 40) (k := .i64) (xs := a1) 40 (.tmp 8) (.tmp 96) rfl rfl rfl a2 rfl rfl Ga17.out HLn.out HI_a2.out ?_))
      change Code.wp _ _ _ _ (put wv17 B1 .i64 a2)
      have Ga18 := Aside0.mk (put_heap (ys := a2) Ga17.out)
      have Gb18 := Aside0.mk (show Is (put wv17 B1 .i64 a2) B2 40 .i64 b1 from (put_other B2 (Ne.symm NN.out.1.1)).trans Gb17.out)
      have Gc18 := Aside0.mk (show Is (put wv17 B1 .i64 a2) B3 40 .i64 c1_ from (put_other B3 (Ne.symm NN.out.1.2.1)).trans Gc17.out)
      have Gd18 := Aside0.mk (show Is (put wv17 B1 .i64 a2) B4_ 40 .i64 d1 from (put_other B4_ (Ne.symm NN.out.1.2.2.1)).trans Gd17.out)
      have Gx18 := Aside0.mk (show Is (put wv17 B1 .i64 a2) gx 40 .i64 x from (put_other gx NX.out.1).trans Gx17.out)
      have Gk18 := Aside0.mk (show Is (put wv17 B1 .i64 a2) gk 40 .i64 kF from (put_other gk NK.out.1).trans Gk17.out)
      have Ge18 := Aside0.mk (show Is (put wv17 B1 .i64 a2) ge 40 .i64 e from (put_other ge NE_.out.1).trans Ge17.out)
      have Gf18 := Aside0.mk (show Is (put wv17 B1 .i64 a2) gf 40 .i64 f from (put_other gf NF_.out.1).trans Gf17.out)
      have GB18 := Aside0.mk (below_put (k := .i64) (ys := a2) GB17.out NN.out.2.1)
      generalize put wv17 B1 .i64 a2 = wv18 at Ga18 Gb18 Gc18 Gd18 Gx18 Gk18 Ge18 Gf18 GB18 ⊢
      clear HLn Ga17 Gb17 Gc17 Gd17 Gx17 Gk17 Ge17 Gf17 GB17
      go_wp2_with (first | (with_reducible refine loadL_is (b := B2) (e := 40) (k := .i64) (xs := b1) 40 2 16 (.tmp 11) rfl rfl rfl Gb18.out Try.underlying40 HI_b1.out ?_) | (with_reducible refine loadL_is (b := ge) (e := 40) (k := .i64) (xs := e) 40 2 16 (.tmp 15) rfl rfl rfl Ge18.out Try.underlying40 HI_e.out ?_))
      refine (C10.out wv18).mono ?_
      rintro E_ wv19 ⟨rfl, h_⟩
      have Ga19 := Aside0.mk (Ga18.out.below h_)
      have Gb19 := Aside0.mk (Gb18.out.below h_)
      have Gc19 := Aside0.mk (Gc18.out.below h_)
      have Gd19 := Aside0.mk (Gd18.out.below h_)
      have Gx19 := Aside0.mk (Gx18.out.below h_)
      have Gk19 := Aside0.mk (Gk18.out.below h_)
      have Ge19 := Aside0.mk (Ge18.out.below h_)
      have Gf19 := Aside0.mk (Gf18.out.below h_)
      have GB19 := Aside0.mk (below_step GB18.out h_)
      clear h_ Ga18 Gb18 Gc18 Gd18 Gx18 Gk18 Ge18 Gf18 GB18
      have HLn := Aside0.mk (show c1_.length = c2.length by rw [P_c1_.out.1, P_c2.out.len])
      go_upto_region 26 with (first | (with_reducible refine storeL_is (b := B3) (e := 40) (k := .i64) (xs := c1_) 40 (.tmp 9) (.tmp 99) rfl rfl rfl c2 rfl rfl Gc19.out HLn.out HI_c2.out ?_))
      change Code.wp _ _ _ _ (put wv19 B3 .i64 c2)
      have Ga20 := Aside0.mk (show Is (put wv19 B3 .i64 c2) B1 40 .i64 a2 from (put_other B1 NN.out.1.2.1).trans Ga19.out)
      have Gb20 := Aside0.mk (show Is (put wv19 B3 .i64 c2) B2 40 .i64 b1 from (put_other B2 NN.out.1.2.2.2.1).trans Gb19.out)
      have Gc20 := Aside0.mk (put_heap (ys := c2) Gc19.out)
      have Gd20 := Aside0.mk (show Is (put wv19 B3 .i64 c2) B4_ 40 .i64 d1 from (put_other B4_ (Ne.symm NN.out.1.2.2.2.2.2)).trans Gd19.out)
      have Gx20 := Aside0.mk (show Is (put wv19 B3 .i64 c2) gx 40 .i64 x from (put_other gx NX.out.2.2.1).trans Gx19.out)
      have Gk20 := Aside0.mk (show Is (put wv19 B3 .i64 c2) gk 40 .i64 kF from (put_other gk NK.out.2.2.1).trans Gk19.out)
      have Ge20 := Aside0.mk (show Is (put wv19 B3 .i64 c2) ge 40 .i64 e from (put_other ge NE_.out.2.2.1).trans Ge19.out)
      have Gf20 := Aside0.mk (show Is (put wv19 B3 .i64 c2) gf 40 .i64 f from (put_other gf NF_.out.2.2.1).trans Gf19.out)
      have GB20 := Aside0.mk (below_put (k := .i64) (ys := c2) GB19.out NN.out.2.2.2.1)
      generalize put wv19 B3 .i64 c2 = wv20 at Ga20 Gb20 Gc20 Gd20 Gx20 Gk20 Ge20 Gf20 GB20 ⊢
      clear HLn Ga19 Gb19 Gc19 Gd19 Gx19 Gk19 Ge19 Gf19 GB19
      go_wp2_with (first | (with_reducible refine loadL_is (b := B1) (e := 40) (k := .i64) (xs := a2) 40 2 16 (.tmp 8) rfl rfl rfl Ga20.out Try.underlying40 HI_a2.out ?_) | (with_reducible refine loadL_is (b := B3) (e := 40) (k := .i64) (xs := c2) 40 2 16 (.tmp 9) rfl rfl rfl Gc20.out Try.underlying40 HI_c2.out ?_))
      refine (C11.out wv20).mono ?_
      rintro E_ wv21 ⟨rfl, h_⟩
      have Ga21 := Aside0.mk (Ga20.out.below h_)
      have Gb21 := Aside0.mk (Gb20.out.below h_)
      have Gc21 := Aside0.mk (Gc20.out.below h_)
      have Gd21 := Aside0.mk (Gd20.out.below h_)
      have Gx21 := Aside0.mk (Gx20.out.below h_)
      have Gk21 := Aside0.mk (Gk20.out.below h_)
      have Ge21 := Aside0.mk (Ge20.out.below h_)
      have Gf21 := Aside0.mk (Gf20.out.below h_)
      have GB21 := Aside0.mk (below_step GB20.out h_)
      clear h_ Ga20 Gb20 Gc20 Gd20 Gx20 Gk20 Ge20 Gf20 GB20
      have HLn := Aside0.mk (show e.length = e2.length by rw [P_e.out.1, P_e2.out.1])
      go_upto_region 27 with (first | (with_reducible refine storeL_is (b := ge) (e := 40) (k := .i64) (xs := e) 40 (.tmp 15) (.tmp 102) rfl rfl rfl e2 rfl rfl Ge21.out HLn.out HI_e2.out ?_))
      change Code.wp _ _ _ _ (put wv21 ge .i64 e2)
      have Ga22 := Aside0.mk (show Is (put wv21 ge .i64 e2) B1 40 .i64 a2 from (put_other B1 (Ne.symm NE_.out.1)).trans Ga21.out)
      have Gb22 := Aside0.mk (show Is (put wv21 ge .i64 e2) B2 40 .i64 b1 from (put_other B2 (Ne.symm NE_.out.2.1)).trans Gb21.out)
      have Gc22 := Aside0.mk (show Is (put wv21 ge .i64 e2) B3 40 .i64 c2 from (put_other B3 (Ne.symm NE_.out.2.2.1)).trans Gc21.out)
      have Gd22 := Aside0.mk (show Is (put wv21 ge .i64 e2) B4_ 40 .i64 d1 from (put_other B4_ (Ne.symm NE_.out.2.2.2.1)).trans Gd21.out)
      have Gx22 := Aside0.mk (show Is (put wv21 ge .i64 e2) gx 40 .i64 x from (put_other gx (Ne.symm NE_.out.2.2.2.2.1)).trans Gx21.out)
      have Gk22 := Aside0.mk (show Is (put wv21 ge .i64 e2) gk 40 .i64 kF from (put_other gk (Ne.symm NE_.out.2.2.2.2.2)).trans Gk21.out)
      have Ge22 := Aside0.mk (put_heap (ys := e2) Ge21.out)
      have Gf22 := Aside0.mk (show Is (put wv21 ge .i64 e2) gf 40 .i64 f from (put_other gf NF_.out.2.2.2.2.2.2).trans Gf21.out)
      have GB22 := Aside0.mk (below_put (k := .i64) (ys := e2) GB21.out LoE.out)
      generalize put wv21 ge .i64 e2 = wv22 at Ga22 Gb22 Gc22 Gd22 Gx22 Gk22 Ge22 Gf22 GB22 ⊢
      clear HLn Ga21 Gb21 Gc21 Gd21 Gx21 Gk21 Ge21 Gf21 GB21
      go_wp2_with (first | (with_reducible refine loadL_is (b := B1) (e := 40) (k := .i64) (xs := a2) 40 2 16 (.tmp 8) rfl rfl rfl Ga22.out Try.underlying40 HI_a2.out ?_) | (with_reducible refine loadL_is (b := B3) (e := 40) (k := .i64) (xs := c2) 40 2 16 (.tmp 9) rfl rfl rfl Gc22.out Try.underlying40 HI_c2.out ?_))
      refine (C12.out wv22).mono ?_
      rintro E_ wv23 ⟨rfl, h_⟩
      have Ga23 := Aside0.mk (Ga22.out.below h_)
      have Gb23 := Aside0.mk (Gb22.out.below h_)
      have Gc23 := Aside0.mk (Gc22.out.below h_)
      have Gd23 := Aside0.mk (Gd22.out.below h_)
      have Gx23 := Aside0.mk (Gx22.out.below h_)
      have Gk23 := Aside0.mk (Gk22.out.below h_)
      have Ge23 := Aside0.mk (Ge22.out.below h_)
      have Gf23 := Aside0.mk (Gf22.out.below h_)
      have GB23 := Aside0.mk (below_step GB22.out h_)
      clear h_ Ga22 Gb22 Gc22 Gd22 Gx22 Gk22 Ge22 Gf22 GB22
      have HLn := Aside0.mk (show a2.length = a3.length by rw [P_a2.out.len, P_a3.out.1])
      go_upto_region 28 with (first | (with_reducible refine storeL_is (b := B1) (e := 40) (k := .i64) (xs := a2) 40 (.tmp 8) (.tmp 105) rfl rfl rfl a3 rfl rfl Ga23.out HLn.out HI_a3.out ?_))
      change Code.wp _ _ _ _ (put wv23 B1 .i64 a3)
      have Ga24 := Aside0.mk (put_heap (ys := a3) Ga23.out)
      have Gb24 := Aside0.mk (show Is (put wv23 B1 .i64 a3) B2 40 .i64 b1 from (put_other B2 (Ne.symm NN.out.1.1)).trans Gb23.out)
      have Gc24 := Aside0.mk (show Is (put wv23 B1 .i64 a3) B3 40 .i64 c2 from (put_other B3 (Ne.symm NN.out.1.2.1)).trans Gc23.out)
      have Gd24 := Aside0.mk (show Is (put wv23 B1 .i64 a3) B4_ 40 .i64 d1 from (put_other B4_ (Ne.symm NN.out.1.2.2.1)).trans Gd23.out)
      have Gx24 := Aside0.mk (show Is (put wv23 B1 .i64 a3) gx 40 .i64 x from (put_other gx NX.out.1).trans Gx23.out)
      have Gk24 := Aside0.mk (show Is (put wv23 B1 .i64 a3) gk 40 .i64 kF from (put_other gk NK.out.1).trans Gk23.out)
      have Ge24 := Aside0.mk (show Is (put wv23 B1 .i64 a3) ge 40 .i64 e2 from (put_other ge NE_.out.1).trans Ge23.out)
      have Gf24 := Aside0.mk (show Is (put wv23 B1 .i64 a3) gf 40 .i64 f from (put_other gf NF_.out.1).trans Gf23.out)
      have GB24 := Aside0.mk (below_put (k := .i64) (ys := a3) GB23.out NN.out.2.1)
      generalize put wv23 B1 .i64 a3 = wv24 at Ga24 Gb24 Gc24 Gd24 Gx24 Gk24 Ge24 Gf24 GB24 ⊢
      clear HLn Ga23 Gb23 Gc23 Gd23 Gx23 Gk23 Ge23 Gf23 GB23
      go_wp2_with (first | (with_reducible refine loadL_is (b := B1) (e := 40) (k := .i64) (xs := a3) 40 2 16 (.tmp 8) rfl rfl rfl Ga24.out Try.underlying40 HI_a3.out ?_))
      refine (C13.out wv24).mono ?_
      rintro E_ wv25 ⟨rfl, h_⟩
      have Ga25 := Aside0.mk (Ga24.out.below h_)
      have Gb25 := Aside0.mk (Gb24.out.below h_)
      have Gc25 := Aside0.mk (Gc24.out.below h_)
      have Gd25 := Aside0.mk (Gd24.out.below h_)
      have Gx25 := Aside0.mk (Gx24.out.below h_)
      have Gk25 := Aside0.mk (Gk24.out.below h_)
      have Ge25 := Aside0.mk (Ge24.out.below h_)
      have Gf25 := Aside0.mk (Gf24.out.below h_)
      have GB25 := Aside0.mk (below_step GB24.out h_)
      clear h_ Ga24 Gb24 Gc24 Gd24 Gx24 Gk24 Ge24 Gf24 GB24
      have HLn := Aside0.mk (show b1.length = b2.length by rw [P_b1.out.1, P_b2.out.len])
      go_upto_region 29 with (first | (with_reducible refine storeL_is (b := B2) (e := 40) (k := .i64) (xs := b1) 40 (.tmp 11) (.tmp 108) rfl rfl rfl b2 rfl rfl Gb25.out HLn.out HI_b2.out ?_))
      change Code.wp _ _ _ _ (put wv25 B2 .i64 b2)
      have Ga26 := Aside0.mk (show Is (put wv25 B2 .i64 b2) B1 40 .i64 a3 from (put_other B1 NN.out.1.1).trans Ga25.out)
      have Gb26 := Aside0.mk (put_heap (ys := b2) Gb25.out)
      have Gc26 := Aside0.mk (show Is (put wv25 B2 .i64 b2) B3 40 .i64 c2 from (put_other B3 (Ne.symm NN.out.1.2.2.2.1)).trans Gc25.out)
      have Gd26 := Aside0.mk (show Is (put wv25 B2 .i64 b2) B4_ 40 .i64 d1 from (put_other B4_ (Ne.symm NN.out.1.2.2.2.2.1)).trans Gd25.out)
      have Gx26 := Aside0.mk (show Is (put wv25 B2 .i64 b2) gx 40 .i64 x from (put_other gx NX.out.2.1).trans Gx25.out)
      have Gk26 := Aside0.mk (show Is (put wv25 B2 .i64 b2) gk 40 .i64 kF from (put_other gk NK.out.2.1).trans Gk25.out)
      have Ge26 := Aside0.mk (show Is (put wv25 B2 .i64 b2) ge 40 .i64 e2 from (put_other ge NE_.out.2.1).trans Ge25.out)
      have Gf26 := Aside0.mk (show Is (put wv25 B2 .i64 b2) gf 40 .i64 f from (put_other gf NF_.out.2.1).trans Gf25.out)
      have GB26 := Aside0.mk (below_put (k := .i64) (ys := b2) GB25.out NN.out.2.2.1)
      generalize put wv25 B2 .i64 b2 = wv26 at Ga26 Gb26 Gc26 Gd26 Gx26 Gk26 Ge26 Gf26 GB26 ⊢
      clear HLn Ga25 Gb25 Gc25 Gd25 Gx25 Gk25 Ge25 Gf25 GB25
      go_wp2_with (first | (with_reducible refine loadL_is (b := B4_) (e := 40) (k := .i64) (xs := d1) 40 2 16 (.tmp 10) rfl rfl rfl Gd26.out Try.underlying40 HI_d1.out ?_) | (with_reducible refine loadL_is (b := gf) (e := 40) (k := .i64) (xs := f) 40 2 16 (.tmp 16) rfl rfl rfl Gf26.out Try.underlying40 HI_f.out ?_))
      refine (C14.out wv26).mono ?_
      rintro E_ wv27 ⟨rfl, h_⟩
      have Ga27 := Aside0.mk (Ga26.out.below h_)
      have Gb27 := Aside0.mk (Gb26.out.below h_)
      have Gc27 := Aside0.mk (Gc26.out.below h_)
      have Gd27 := Aside0.mk (Gd26.out.below h_)
      have Gx27 := Aside0.mk (Gx26.out.below h_)
      have Gk27 := Aside0.mk (Gk26.out.below h_)
      have Ge27 := Aside0.mk (Ge26.out.below h_)
      have Gf27 := Aside0.mk (Gf26.out.below h_)
      have GB27 := Aside0.mk (below_step GB26.out h_)
      clear h_ Ga26 Gb26 Gc26 Gd26 Gx26 Gk26 Ge26 Gf26 GB26
      have HLn := Aside0.mk (show c2.length = c3.length by rw [P_c2.out.len, P_c3.out.1])
      go_upto_region 30 with (first | (with_reducible refine storeL_is (b := B3) (e := 40) (k := .i64) (xs := c2) 40 (.tmp 9) (.tmp 111) rfl rfl rfl c3 rfl rfl Gc27.out HLn.out HI_c3.out ?_))
      change Code.wp _ _ _ _ (put wv27 B3 .i64 c3)
      have Ga28 := Aside0.mk (show Is (put wv27 B3 .i64 c3) B1 40 .i64 a3 from (put_other B1 NN.out.1.2.1).trans Ga27.out)
      have Gb28 := Aside0.mk (show Is (put wv27 B3 .i64 c3) B2 40 .i64 b2 from (put_other B2 NN.out.1.2.2.2.1).trans Gb27.out)
      have Gc28 := Aside0.mk (put_heap (ys := c3) Gc27.out)
      have Gd28 := Aside0.mk (show Is (put wv27 B3 .i64 c3) B4_ 40 .i64 d1 from (put_other B4_ (Ne.symm NN.out.1.2.2.2.2.2)).trans Gd27.out)
      have Gx28 := Aside0.mk (show Is (put wv27 B3 .i64 c3) gx 40 .i64 x from (put_other gx NX.out.2.2.1).trans Gx27.out)
      have Gk28 := Aside0.mk (show Is (put wv27 B3 .i64 c3) gk 40 .i64 kF from (put_other gk NK.out.2.2.1).trans Gk27.out)
      have Ge28 := Aside0.mk (show Is (put wv27 B3 .i64 c3) ge 40 .i64 e2 from (put_other ge NE_.out.2.2.1).trans Ge27.out)
      have Gf28 := Aside0.mk (show Is (put wv27 B3 .i64 c3) gf 40 .i64 f from (put_other gf NF_.out.2.2.1).trans Gf27.out)
      have GB28 := Aside0.mk (below_put (k := .i64) (ys := c3) GB27.out NN.out.2.2.2.1)
      generalize put wv27 B3 .i64 c3 = wv28 at Ga28 Gb28 Gc28 Gd28 Gx28 Gk28 Ge28 Gf28 GB28 ⊢
      clear HLn Ga27 Gb27 Gc27 Gd27 Gx27 Gk27 Ge27 Gf27 GB27
      go_wp2_with (first | (with_reducible refine loadL_is (b := B3) (e := 40) (k := .i64) (xs := c3) 40 2 16 (.tmp 9) rfl rfl rfl Gc28.out Try.underlying40 HI_c3.out ?_) | (with_reducible refine loadL_is (b := gk) (e := 40) (k := .i64) (xs := kF) 40 2 16 (.tmp 12) rfl rfl rfl Gk28.out Try.underlying40 HI_kF.out ?_))
      refine (C15.out wv28).mono ?_
      rintro E_ wv29 ⟨rfl, h_⟩
      have Ga29 := Aside0.mk (Ga28.out.below h_)
      have Gb29 := Aside0.mk (Gb28.out.below h_)
      have Gc29 := Aside0.mk (Gc28.out.below h_)
      have Gd29 := Aside0.mk (Gd28.out.below h_)
      have Gx29 := Aside0.mk (Gx28.out.below h_)
      have Gk29 := Aside0.mk (Gk28.out.below h_)
      have Ge29 := Aside0.mk (Ge28.out.below h_)
      have Gf29 := Aside0.mk (Gf28.out.below h_)
      have GB29 := Aside0.mk (below_step GB28.out h_)
      clear h_ Ga28 Gb28 Gc28 Gd28 Gx28 Gk28 Ge28 Gf28 GB28
      have HLn := Aside0.mk (show a3.length = k3.length by rw [P_a3.out.1, P_k3.out.len])
      go_upto_region 31 with (first | (with_reducible refine storeL_is (b := B1) (e := 40) (k := .i64) (xs := a3) 40 (.tmp 8) (.tmp 114) rfl rfl rfl k3 rfl rfl Ga29.out HLn.out HI_k3.out ?_))
      change Code.wp _ _ _ _ (put wv29 B1 .i64 k3)
      have Ga30 := Aside0.mk (put_heap (ys := k3) Ga29.out)
      have Gb30 := Aside0.mk (show Is (put wv29 B1 .i64 k3) B2 40 .i64 b2 from (put_other B2 (Ne.symm NN.out.1.1)).trans Gb29.out)
      have Gc30 := Aside0.mk (show Is (put wv29 B1 .i64 k3) B3 40 .i64 c3 from (put_other B3 (Ne.symm NN.out.1.2.1)).trans Gc29.out)
      have Gd30 := Aside0.mk (show Is (put wv29 B1 .i64 k3) B4_ 40 .i64 d1 from (put_other B4_ (Ne.symm NN.out.1.2.2.1)).trans Gd29.out)
      have Gx30 := Aside0.mk (show Is (put wv29 B1 .i64 k3) gx 40 .i64 x from (put_other gx NX.out.1).trans Gx29.out)
      have Gk30 := Aside0.mk (show Is (put wv29 B1 .i64 k3) gk 40 .i64 kF from (put_other gk NK.out.1).trans Gk29.out)
      have Ge30 := Aside0.mk (show Is (put wv29 B1 .i64 k3) ge 40 .i64 e2 from (put_other ge NE_.out.1).trans Ge29.out)
      have Gf30 := Aside0.mk (show Is (put wv29 B1 .i64 k3) gf 40 .i64 f from (put_other gf NF_.out.1).trans Gf29.out)
      have GB30 := Aside0.mk (below_put (k := .i64) (ys := k3) GB29.out NN.out.2.1)
      generalize put wv29 B1 .i64 k3 = wv30 at Ga30 Gb30 Gc30 Gd30 Gx30 Gk30 Ge30 Gf30 GB30 ⊢
      clear HLn Ga29 Gb29 Gc29 Gd29 Gx29 Gk29 Ge29 Gf29 GB29
      go_wp2_with (first | (with_reducible refine loadL_is (b := B1) (e := 40) (k := .i64) (xs := k3) 40 2 16 (.tmp 8) rfl rfl rfl Ga30.out Try.underlying40 HI_k3.out ?_) | (with_reducible refine loadL_is (b := B4_) (e := 40) (k := .i64) (xs := d1) 40 2 16 (.tmp 10) rfl rfl rfl Gd30.out Try.underlying40 HI_d1.out ?_))
      refine (C16.out wv30).mono ?_
      rintro E_ wv31 ⟨rfl, h_⟩
      have Ga31 := Aside0.mk (Ga30.out.below h_)
      have Gb31 := Aside0.mk (Gb30.out.below h_)
      have Gc31 := Aside0.mk (Gc30.out.below h_)
      have Gd31 := Aside0.mk (Gd30.out.below h_)
      have Gx31 := Aside0.mk (Gx30.out.below h_)
      have Gk31 := Aside0.mk (Gk30.out.below h_)
      have Ge31 := Aside0.mk (Ge30.out.below h_)
      have Gf31 := Aside0.mk (Gf30.out.below h_)
      have GB31 := Aside0.mk (below_step GB30.out h_)
      clear h_ Ga30 Gb30 Gc30 Gd30 Gx30 Gk30 Ge30 Gf30 GB30
      have HLn := Aside0.mk (show k3.length = a4.length by rw [P_k3.out.len, P_a4.out.1])
      go_upto_region 32 with (first | (with_reducible refine storeL_is (b := B1) (e := 40) (k := .i64) (xs := k3) 40 (.tmp 8) (.tmp 117) rfl rfl rfl a4 rfl rfl Ga31.out HLn.out HI_a4.out ?_))
      change Code.wp _ _ _ _ (put wv31 B1 .i64 a4)
      have Ga32 := Aside0.mk (put_heap (ys := a4) Ga31.out)
      have Gb32 := Aside0.mk (show Is (put wv31 B1 .i64 a4) B2 40 .i64 b2 from (put_other B2 (Ne.symm NN.out.1.1)).trans Gb31.out)
      have Gc32 := Aside0.mk (show Is (put wv31 B1 .i64 a4) B3 40 .i64 c3 from (put_other B3 (Ne.symm NN.out.1.2.1)).trans Gc31.out)
      have Gd32 := Aside0.mk (show Is (put wv31 B1 .i64 a4) B4_ 40 .i64 d1 from (put_other B4_ (Ne.symm NN.out.1.2.2.1)).trans Gd31.out)
      have Gx32 := Aside0.mk (show Is (put wv31 B1 .i64 a4) gx 40 .i64 x from (put_other gx NX.out.1).trans Gx31.out)
      have Gk32 := Aside0.mk (show Is (put wv31 B1 .i64 a4) gk 40 .i64 kF from (put_other gk NK.out.1).trans Gk31.out)
      have Ge32 := Aside0.mk (show Is (put wv31 B1 .i64 a4) ge 40 .i64 e2 from (put_other ge NE_.out.1).trans Ge31.out)
      have Gf32 := Aside0.mk (show Is (put wv31 B1 .i64 a4) gf 40 .i64 f from (put_other gf NF_.out.1).trans Gf31.out)
      have GB32 := Aside0.mk (below_put (k := .i64) (ys := a4) GB31.out NN.out.2.1)
      generalize put wv31 B1 .i64 a4 = wv32 at Ga32 Gb32 Gc32 Gd32 Gx32 Gk32 Ge32 Gf32 GB32 ⊢
      clear HLn Ga31 Gb31 Gc31 Gd31 Gx31 Gk31 Ge31 Gf31 GB31
      go_wp2_with (first | (with_reducible refine loadL_is (b := B3) (e := 40) (k := .i64) (xs := c3) 40 2 16 (.tmp 9) rfl rfl rfl Gc32.out Try.underlying40 HI_c3.out ?_) | (with_reducible refine loadL_is (b := B1) (e := 40) (k := .i64) (xs := a4) 40 2 16 (.tmp 8) rfl rfl rfl Ga32.out Try.underlying40 HI_a4.out ?_))
      refine (C17.out wv32).mono ?_
      rintro E_ wv33 ⟨rfl, h_⟩
      have Ga33 := Aside0.mk (Ga32.out.below h_)
      have Gb33 := Aside0.mk (Gb32.out.below h_)
      have Gc33 := Aside0.mk (Gc32.out.below h_)
      have Gd33 := Aside0.mk (Gd32.out.below h_)
      have Gx33 := Aside0.mk (Gx32.out.below h_)
      have Gk33 := Aside0.mk (Gk32.out.below h_)
      have Ge33 := Aside0.mk (Ge32.out.below h_)
      have Gf33 := Aside0.mk (Gf32.out.below h_)
      have GB33 := Aside0.mk (below_step GB32.out h_)
      clear h_ Ga32 Gb32 Gc32 Gd32 Gx32 Gk32 Ge32 Gf32 GB32
      have HLn := Aside0.mk (show c3.length = c4.length by rw [P_c3.out.1, P_c4.out.len])
      go_upto_region 33 with (first | (with_reducible refine storeL_is (b := B3) (e := 40) (k := .i64) (xs := c3) 40 (.tmp 9) (.tmp 120) rfl rfl rfl c4 rfl rfl Gc33.out HLn.out HI_c4.out ?_))
      change Code.wp _ _ _ _ (put wv33 B3 .i64 c4)
      have Ga34 := Aside0.mk (show Is (put wv33 B3 .i64 c4) B1 40 .i64 a4 from (put_other B1 NN.out.1.2.1).trans Ga33.out)
      have Gb34 := Aside0.mk (show Is (put wv33 B3 .i64 c4) B2 40 .i64 b2 from (put_other B2 NN.out.1.2.2.2.1).trans Gb33.out)
      have Gc34 := Aside0.mk (put_heap (ys := c4) Gc33.out)
      have Gd34 := Aside0.mk (show Is (put wv33 B3 .i64 c4) B4_ 40 .i64 d1 from (put_other B4_ (Ne.symm NN.out.1.2.2.2.2.2)).trans Gd33.out)
      have Gx34 := Aside0.mk (show Is (put wv33 B3 .i64 c4) gx 40 .i64 x from (put_other gx NX.out.2.2.1).trans Gx33.out)
      have Gk34 := Aside0.mk (show Is (put wv33 B3 .i64 c4) gk 40 .i64 kF from (put_other gk NK.out.2.2.1).trans Gk33.out)
      have Ge34 := Aside0.mk (show Is (put wv33 B3 .i64 c4) ge 40 .i64 e2 from (put_other ge NE_.out.2.2.1).trans Ge33.out)
      have Gf34 := Aside0.mk (show Is (put wv33 B3 .i64 c4) gf 40 .i64 f from (put_other gf NF_.out.2.2.1).trans Gf33.out)
      have GB34 := Aside0.mk (below_put (k := .i64) (ys := c4) GB33.out NN.out.2.2.2.1)
      generalize put wv33 B3 .i64 c4 = wv34 at Ga34 Gb34 Gc34 Gd34 Gx34 Gk34 Ge34 Gf34 GB34 ⊢
      clear HLn Ga33 Gb33 Gc33 Gd33 Gx33 Gk33 Ge33 Gf33 GB33
      go_wp2_with (first | (with_reducible refine loadL_is (b := B4_) (e := 40) (k := .i64) (xs := d1) 40 2 16 (.tmp 10) rfl rfl rfl Gd34.out Try.underlying40 HI_d1.out ?_) | (with_reducible refine loadL_is (b := gf) (e := 40) (k := .i64) (xs := f) 40 2 16 (.tmp 16) rfl rfl rfl Gf34.out Try.underlying40 HI_f.out ?_))
      refine (C18.out wv34).mono ?_
      rintro E_ wv35 ⟨rfl, h_⟩
      have Ga35 := Aside0.mk (Ga34.out.below h_)
      have Gb35 := Aside0.mk (Gb34.out.below h_)
      have Gc35 := Aside0.mk (Gc34.out.below h_)
      have Gd35 := Aside0.mk (Gd34.out.below h_)
      have Gx35 := Aside0.mk (Gx34.out.below h_)
      have Gk35 := Aside0.mk (Gk34.out.below h_)
      have Ge35 := Aside0.mk (Ge34.out.below h_)
      have Gf35 := Aside0.mk (Gf34.out.below h_)
      have GB35 := Aside0.mk (below_step GB34.out h_)
      clear h_ Ga34 Gb34 Gc34 Gd34 Gx34 Gk34 Ge34 Gf34 GB34
      have HLn := Aside0.mk (show a4.length = a5.length by rw [P_a4.out.1, P_a5.out.len])
      go_upto_region 34 with (first | (with_reducible refine storeL_is (b := B1) (e := 40) (k := .i64) (xs := a4) 40 (.tmp 8) (.tmp 123) rfl rfl rfl a5 rfl rfl Ga35.out HLn.out HI_a5.out ?_))
      change Code.wp _ _ _ _ (put wv35 B1 .i64 a5)
      have Ga36 := Aside0.mk (put_heap (ys := a5) Ga35.out)
      have Gb36 := Aside0.mk (show Is (put wv35 B1 .i64 a5) B2 40 .i64 b2 from (put_other B2 (Ne.symm NN.out.1.1)).trans Gb35.out)
      have Gc36 := Aside0.mk (show Is (put wv35 B1 .i64 a5) B3 40 .i64 c4 from (put_other B3 (Ne.symm NN.out.1.2.1)).trans Gc35.out)
      have Gd36 := Aside0.mk (show Is (put wv35 B1 .i64 a5) B4_ 40 .i64 d1 from (put_other B4_ (Ne.symm NN.out.1.2.2.1)).trans Gd35.out)
      have Gx36 := Aside0.mk (show Is (put wv35 B1 .i64 a5) gx 40 .i64 x from (put_other gx NX.out.1).trans Gx35.out)
      have Gk36 := Aside0.mk (show Is (put wv35 B1 .i64 a5) gk 40 .i64 kF from (put_other gk NK.out.1).trans Gk35.out)
      have Ge36 := Aside0.mk (show Is (put wv35 B1 .i64 a5) ge 40 .i64 e2 from (put_other ge NE_.out.1).trans Ge35.out)
      have Gf36 := Aside0.mk (show Is (put wv35 B1 .i64 a5) gf 40 .i64 f from (put_other gf NF_.out.1).trans Gf35.out)
      have GB36 := Aside0.mk (below_put (k := .i64) (ys := a5) GB35.out NN.out.2.1)
      generalize put wv35 B1 .i64 a5 = wv36 at Ga36 Gb36 Gc36 Gd36 Gx36 Gk36 Ge36 Gf36 GB36 ⊢
      clear HLn Ga35 Gb35 Gc35 Gd35 Gx35 Gk35 Ge35 Gf35 GB35
      go_wp2_with (first | (with_reducible refine loadL_is (b := B2) (e := 40) (k := .i64) (xs := b2) 40 2 16 (.tmp 11) rfl rfl rfl Gb36.out Try.underlying40 HI_b2.out ?_) | (with_reducible refine loadL_is (b := gx) (e := 40) (k := .i64) (xs := x) 40 2 16 (.tmp 7) rfl rfl rfl Gx36.out Try.underlying40 HI_x.out ?_))
      refine (C19.out wv36).mono ?_
      rintro E_ wv37 ⟨rfl, h_⟩
      have Ga37 := Aside0.mk (Ga36.out.below h_)
      have Gb37 := Aside0.mk (Gb36.out.below h_)
      have Gc37 := Aside0.mk (Gc36.out.below h_)
      have Gd37 := Aside0.mk (Gd36.out.below h_)
      have Gx37 := Aside0.mk (Gx36.out.below h_)
      have Gk37 := Aside0.mk (Gk36.out.below h_)
      have Ge37 := Aside0.mk (Ge36.out.below h_)
      have Gf37 := Aside0.mk (Gf36.out.below h_)
      have GB37 := Aside0.mk (below_step GB36.out h_)
      clear h_ Ga36 Gb36 Gc36 Gd36 Gx36 Gk36 Ge36 Gf36 GB36
      have HLn := Aside0.mk (show d1.length = d2.length by rw [P_d1.out.len, P_d2.out.len])
      go_upto_region 35 with (first | (with_reducible refine storeL_is (b := B4_) (e := 40) (k := .i64) (xs := d1) 40 (.tmp 10) (.tmp 126) rfl rfl rfl d2 rfl rfl Gd37.out HLn.out HI_d2.out ?_))
      change Code.wp _ _ _ _ (put wv37 B4_ .i64 d2)
      have Ga38 := Aside0.mk (show Is (put wv37 B4_ .i64 d2) B1 40 .i64 a5 from (put_other B1 NN.out.1.2.2.1).trans Ga37.out)
      have Gb38 := Aside0.mk (show Is (put wv37 B4_ .i64 d2) B2 40 .i64 b2 from (put_other B2 NN.out.1.2.2.2.2.1).trans Gb37.out)
      have Gc38 := Aside0.mk (show Is (put wv37 B4_ .i64 d2) B3 40 .i64 c4 from (put_other B3 NN.out.1.2.2.2.2.2).trans Gc37.out)
      have Gd38 := Aside0.mk (put_heap (ys := d2) Gd37.out)
      have Gx38 := Aside0.mk (show Is (put wv37 B4_ .i64 d2) gx 40 .i64 x from (put_other gx NX.out.2.2.2).trans Gx37.out)
      have Gk38 := Aside0.mk (show Is (put wv37 B4_ .i64 d2) gk 40 .i64 kF from (put_other gk NK.out.2.2.2.1).trans Gk37.out)
      have Ge38 := Aside0.mk (show Is (put wv37 B4_ .i64 d2) ge 40 .i64 e2 from (put_other ge NE_.out.2.2.2.1).trans Ge37.out)
      have Gf38 := Aside0.mk (show Is (put wv37 B4_ .i64 d2) gf 40 .i64 f from (put_other gf NF_.out.2.2.2.1).trans Gf37.out)
      have GB38 := Aside0.mk (below_put (k := .i64) (ys := d2) GB37.out NN.out.2.2.2.2)
      generalize put wv37 B4_ .i64 d2 = wv38 at Ga38 Gb38 Gc38 Gd38 Gx38 Gk38 Ge38 Gf38 GB38 ⊢
      clear HLn Ga37 Gb37 Gc37 Gd37 Gx37 Gk37 Ge37 Gf37 GB37
      go_wp2_with (first | (with_reducible refine loadL_is (b := ge) (e := 40) (k := .i64) (xs := e2) 40 2 16 (.tmp 15) rfl rfl rfl Ge38.out Try.underlying40 HI_e2.out ?_))
      refine (C20.out wv38).mono ?_
      rintro E_ wv39 ⟨rfl, h_⟩
      have Ga39 := Aside0.mk (Ga38.out.below h_)
      have Gb39 := Aside0.mk (Gb38.out.below h_)
      have Gc39 := Aside0.mk (Gc38.out.below h_)
      have Gd39 := Aside0.mk (Gd38.out.below h_)
      have Gx39 := Aside0.mk (Gx38.out.below h_)
      have Gk39 := Aside0.mk (Gk38.out.below h_)
      have Ge39 := Aside0.mk (Ge38.out.below h_)
      have Gf39 := Aside0.mk (Gf38.out.below h_)
      have GB39 := Aside0.mk (below_step GB38.out h_)
      clear h_ Ga38 Gb38 Gc38 Gd38 Gx38 Gk38 Ge38 Gf38 GB38
      have HLn := Aside0.mk (show b2.length = b3.length by rw [P_b2.out.len, P_b3.out.len])
      go_upto_region 36 with (first | (with_reducible refine storeL_is (b := B2) (e := 40) (k := .i64) (xs := b2) 40 (.tmp 11) (.tmp 129) rfl rfl rfl b3 rfl rfl Gb39.out HLn.out HI_b3.out ?_))
      change Code.wp _ _ _ _ (put wv39 B2 .i64 b3)
      have Ga40 := Aside0.mk (show Is (put wv39 B2 .i64 b3) B1 40 .i64 a5 from (put_other B1 NN.out.1.1).trans Ga39.out)
      have Gb40 := Aside0.mk (put_heap (ys := b3) Gb39.out)
      have Gc40 := Aside0.mk (show Is (put wv39 B2 .i64 b3) B3 40 .i64 c4 from (put_other B3 (Ne.symm NN.out.1.2.2.2.1)).trans Gc39.out)
      have Gd40 := Aside0.mk (show Is (put wv39 B2 .i64 b3) B4_ 40 .i64 d2 from (put_other B4_ (Ne.symm NN.out.1.2.2.2.2.1)).trans Gd39.out)
      have Gx40 := Aside0.mk (show Is (put wv39 B2 .i64 b3) gx 40 .i64 x from (put_other gx NX.out.2.1).trans Gx39.out)
      have Gk40 := Aside0.mk (show Is (put wv39 B2 .i64 b3) gk 40 .i64 kF from (put_other gk NK.out.2.1).trans Gk39.out)
      have Ge40 := Aside0.mk (show Is (put wv39 B2 .i64 b3) ge 40 .i64 e2 from (put_other ge NE_.out.2.1).trans Ge39.out)
      have Gf40 := Aside0.mk (show Is (put wv39 B2 .i64 b3) gf 40 .i64 f from (put_other gf NF_.out.2.1).trans Gf39.out)
      have GB40 := Aside0.mk (below_put (k := .i64) (ys := b3) GB39.out NN.out.2.2.1)
      generalize put wv39 B2 .i64 b3 = wv40 at Ga40 Gb40 Gc40 Gd40 Gx40 Gk40 Ge40 Gf40 GB40 ⊢
      clear HLn Ga39 Gb39 Gc39 Gd39 Gx39 Gk39 Ge39 Gf39 GB39
      obtain ⟨a6, ha6⟩ : ∃ y, y = if so = 1 then b3 else a5 := ⟨_, rfl⟩
      obtain ⟨b6, hb6⟩ : ∃ y, y = if so = 1 then a5 else b3 := ⟨_, rfl⟩
      obtain ⟨c6, hc6⟩ : ∃ y, y = if so = 1 then d2 else c4 := ⟨_, rfl⟩
      obtain ⟨d6, hd6⟩ : ∃ y, y = if so = 1 then c4 else d2 := ⟨_, rfl⟩
      have SW2 := Aside0.mk (show swL so (a5, b3, c4, d2) = (a6, b6, c6, d6) by rw [ha6, hb6, hc6, hd6]; unfold swL; split <;> rfl)
      have SG := Aside0.mk (show Sms (a6, b6, c6, d6) by rw [← SW2.out]; exact sms_sw so SF.out)
      have FIN := Aside0.mk (show ladL x z (n + 1) = (a6, b6, c6, d6) by rw [ladL, ← QS.out, ← SO.out.1, rndL, SW.out, FM.out, SW2.out])
      have C1 := Aside0.mk (fun (W : World) => show Calls Try.prog 18 #[ag a5, ag b3, .int .i64 so] W fun E_ w' => E_ = .returned (.tuple #[ag a6, ag b6]) ∧ Below W.heap.size W w' from by rw [ha6, hb6]; exact rswap_calls a5 b3 so SF.out.a.len SF.out.b.len W)
      have C2 := Aside0.mk (fun (W : World) => show Calls Try.prog 18 #[ag c4, ag d2, .int .i64 so] W fun E_ w' => E_ = .returned (.tuple #[ag c6, ag d6]) ∧ Below W.heap.size W w' from by rw [hc6, hd6]; exact rswap_calls c4 d2 so SF.out.c.len SF.out.d.len W)
      clear ha6 hb6 hc6 hd6
      have HI_a6 := Aside0.mk (show (Try.prog.info? 40).map (·.size) = some a6.length by rw [SG.out.a.len]; exact info_n)
      have HI_b6 := Aside0.mk (show (Try.prog.info? 40).map (·.size) = some b6.length by rw [SG.out.b.len]; exact info_n)
      have HI_c6 := Aside0.mk (show (Try.prog.info? 40).map (·.size) = some c6.length by rw [SG.out.c.len]; exact info_n)
      have HI_d6 := Aside0.mk (show (Try.prog.info? 40).map (·.size) = some d6.length by rw [SG.out.d.len]; exact info_n)
      go_wp2_with (first | (with_reducible refine loadL_is (b := B1) (e := 40) (k := .i64) (xs := a5) 40 2 16 (.tmp 8) rfl rfl rfl Ga40.out Try.underlying40 HI_a5.out ?_) | (with_reducible refine loadL_is (b := B2) (e := 40) (k := .i64) (xs := b3) 40 2 16 (.tmp 11) rfl rfl rfl Gb40.out Try.underlying40 HI_b3.out ?_))
      refine (C1.out wv40).mono ?_
      rintro E_ wv41 ⟨rfl, h_⟩
      have Ga41 := Aside0.mk (Ga40.out.below h_)
      have Gb41 := Aside0.mk (Gb40.out.below h_)
      have Gc41 := Aside0.mk (Gc40.out.below h_)
      have Gd41 := Aside0.mk (Gd40.out.below h_)
      have Gx41 := Aside0.mk (Gx40.out.below h_)
      have Gk41 := Aside0.mk (Gk40.out.below h_)
      have Ge41 := Aside0.mk (Ge40.out.below h_)
      have Gf41 := Aside0.mk (Gf40.out.below h_)
      have GB41 := Aside0.mk (below_step GB40.out h_)
      clear h_ Ga40 Gb40 Gc40 Gd40 Gx40 Gk40 Ge40 Gf40 GB40
      have HLn := Aside0.mk (show a5.length = a6.length by rw [P_a5.out.len, SG.out.a.len])
      have HLm := Aside0.mk (show b3.length = b6.length by rw [P_b3.out.len, SG.out.b.len])
      have GQ := Aside0.mk (show Is (put wv41 B1 .i64 a6) B2 40 .i64 b3 from (put_other B2 (Ne.symm NN.out.1.1)).trans Gb41.out)
      go_upto_region 37 with (first | (with_reducible refine storeL_is (b := B1) (e := 40) (k := .i64) (xs := a5) 40 (.tmp 8) (.tmp 135) rfl rfl rfl a6 rfl rfl Ga41.out HLn.out HI_a6.out ?_) | (with_reducible refine storeL_is (b := B2) (e := 40) (k := .i64) (xs := b3) 40 (.tmp 11) (.tmp 136) rfl rfl rfl b6 rfl rfl GQ.out HLm.out HI_b6.out ?_))
      change Code.wp _ _ _ _ (put (put wv41 B1 .i64 a6) B2 .i64 b6)
      have Ga42 := Aside0.mk (show Is (put (put wv41 B1 .i64 a6) B2 .i64 b6) B1 40 .i64 a6 from (put_other B1 NN.out.1.1).trans (put_heap Ga41.out))
      have Gb42 := Aside0.mk (put_heap (ys := b6) GQ.out)
      have Gc42 := Aside0.mk (show Is (put (put wv41 B1 .i64 a6) B2 .i64 b6) B3 40 .i64 c4 from ((put_other B3 (Ne.symm NN.out.1.2.2.2.1)).trans (put_other B3 (Ne.symm NN.out.1.2.1))).trans Gc41.out)
      have Gd42 := Aside0.mk (show Is (put (put wv41 B1 .i64 a6) B2 .i64 b6) B4_ 40 .i64 d2 from ((put_other B4_ (Ne.symm NN.out.1.2.2.2.2.1)).trans (put_other B4_ (Ne.symm NN.out.1.2.2.1))).trans Gd41.out)
      have Gx42 := Aside0.mk (show Is (put (put wv41 B1 .i64 a6) B2 .i64 b6) gx 40 .i64 x from ((put_other gx NX.out.2.1).trans (put_other gx NX.out.1)).trans Gx41.out)
      have Gk42 := Aside0.mk (show Is (put (put wv41 B1 .i64 a6) B2 .i64 b6) gk 40 .i64 kF from ((put_other gk NK.out.2.1).trans (put_other gk NK.out.1)).trans Gk41.out)
      have Ge42 := Aside0.mk (show Is (put (put wv41 B1 .i64 a6) B2 .i64 b6) ge 40 .i64 e2 from ((put_other ge NE_.out.2.1).trans (put_other ge NE_.out.1)).trans Ge41.out)
      have Gf42 := Aside0.mk (show Is (put (put wv41 B1 .i64 a6) B2 .i64 b6) gf 40 .i64 f from ((put_other gf NF_.out.2.1).trans (put_other gf NF_.out.1)).trans Gf41.out)
      have GB42 := Aside0.mk (below_put (k := .i64) (ys := b6) (below_put (k := .i64) (ys := a6) GB41.out NN.out.2.1) NN.out.2.2.1)
      generalize put (put wv41 B1 .i64 a6) B2 .i64 b6 = wv42 at Ga42 Gb42 Gc42 Gd42 Gx42 Gk42 Ge42 Gf42 GB42 ⊢
      clear HLn HLm GQ Ga41 Gb41 Gc41 Gd41 Gx41 Gk41 Ge41 Gf41 GB41
      go_wp2_with (first | (with_reducible refine loadL_is (b := B3) (e := 40) (k := .i64) (xs := c4) 40 2 16 (.tmp 9) rfl rfl rfl Gc42.out Try.underlying40 HI_c4.out ?_) | (with_reducible refine loadL_is (b := B4_) (e := 40) (k := .i64) (xs := d2) 40 2 16 (.tmp 10) rfl rfl rfl Gd42.out Try.underlying40 HI_d2.out ?_))
      refine (C2.out wv42).mono ?_
      rintro E_ wv43 ⟨rfl, h_⟩
      have Ga43 := Aside0.mk (Ga42.out.below h_)
      have Gb43 := Aside0.mk (Gb42.out.below h_)
      have Gc43 := Aside0.mk (Gc42.out.below h_)
      have Gd43 := Aside0.mk (Gd42.out.below h_)
      have Gx43 := Aside0.mk (Gx42.out.below h_)
      have Gk43 := Aside0.mk (Gk42.out.below h_)
      have Ge43 := Aside0.mk (Ge42.out.below h_)
      have Gf43 := Aside0.mk (Gf42.out.below h_)
      have GB43 := Aside0.mk (below_step GB42.out h_)
      clear h_ Ga42 Gb42 Gc42 Gd42 Gx42 Gk42 Ge42 Gf42 GB42
      have HLn := Aside0.mk (show c4.length = c6.length by rw [P_c4.out.len, SG.out.c.len])
      have HLm := Aside0.mk (show d2.length = d6.length by rw [P_d2.out.len, SG.out.d.len])
      have GQ := Aside0.mk (show Is (put wv43 B3 .i64 c6) B4_ 40 .i64 d2 from (put_other B4_ (Ne.symm NN.out.1.2.2.2.2.2)).trans Gd43.out)
      go_wp2_with (first | (with_reducible refine storeL_is (b := B3) (e := 40) (k := .i64) (xs := c4) 40 (.tmp 9) (.tmp 142) rfl rfl rfl c6 rfl rfl Gc43.out HLn.out HI_c6.out ?_) | (with_reducible refine storeL_is (b := B4_) (e := 40) (k := .i64) (xs := d2) 40 (.tmp 10) (.tmp 143) rfl rfl rfl d6 rfl rfl GQ.out HLm.out HI_d6.out ?_))
      have Ga44 := Aside0.mk (show Is (put (put wv43 B3 .i64 c6) B4_ .i64 d6) B1 40 .i64 a6 from ((put_other B1 NN.out.1.2.2.1).trans (put_other B1 NN.out.1.2.1)).trans Ga43.out)
      have Gb44 := Aside0.mk (show Is (put (put wv43 B3 .i64 c6) B4_ .i64 d6) B2 40 .i64 b6 from ((put_other B2 NN.out.1.2.2.2.2.1).trans (put_other B2 NN.out.1.2.2.2.1)).trans Gb43.out)
      have Gc44 := Aside0.mk (show Is (put (put wv43 B3 .i64 c6) B4_ .i64 d6) B3 40 .i64 c6 from (put_other B3 NN.out.1.2.2.2.2.2).trans (put_heap Gc43.out))
      have Gd44 := Aside0.mk (put_heap (ys := d6) GQ.out)
      have Gx44 := Aside0.mk (show Is (put (put wv43 B3 .i64 c6) B4_ .i64 d6) gx 40 .i64 x from ((put_other gx NX.out.2.2.2).trans (put_other gx NX.out.2.2.1)).trans Gx43.out)
      have Gk44 := Aside0.mk (show Is (put (put wv43 B3 .i64 c6) B4_ .i64 d6) gk 40 .i64 kF from ((put_other gk NK.out.2.2.2.1).trans (put_other gk NK.out.2.2.1)).trans Gk43.out)
      have Ge44 := Aside0.mk (show Is (put (put wv43 B3 .i64 c6) B4_ .i64 d6) ge 40 .i64 e2 from ((put_other ge NE_.out.2.2.2.1).trans (put_other ge NE_.out.2.2.1)).trans Ge43.out)
      have Gf44 := Aside0.mk (show Is (put (put wv43 B3 .i64 c6) B4_ .i64 d6) gf 40 .i64 f from ((put_other gf NF_.out.2.2.2.1).trans (put_other gf NF_.out.2.2.1)).trans Gf43.out)
      have GB44 := Aside0.mk (below_put (k := .i64) (ys := d6) (below_put (k := .i64) (ys := c6) GB43.out NN.out.2.2.2.1) NN.out.2.2.2.2)
      refine ⟨⟨n + 1, by have := KR.out; omega, ?_, ⟨by rw [FIN.out]; exact Ga44.out⟩, ⟨by rw [FIN.out]; exact Gb44.out⟩, ⟨by rw [FIN.out]; exact Gc44.out⟩, ⟨by rw [FIN.out]; exact Gd44.out⟩, Gk44, GB44⟩, ?_⟩
      · have := HK.out
        congr 1
        omega
      · have := HK.out
        simp only [intOf]
        omega
    · obtain rfl : n = 255 := by omega
      obtain rfl : k = -1 := by omega
      have SM := Aside0.mk (sms_lad x z SXX.out 255)
      obtain ⟨X, hX⟩ : ∃ y, y = (ladL x z 255).1 := ⟨_, rfl⟩
      obtain ⟨Z, hZ⟩ : ∃ y, y = (ladL x z 255).2.2.1 := ⟨_, rfl⟩
      rw [← hX] at Ja
      rw [← hZ] at Jc
      have PX := Aside0.mk (show Sm X by rw [hX]; exact SM.out.a)
      have PZ := Aside0.mk (show Sm Z by rw [hZ]; exact SM.out.c)
      obtain ⟨iv, hiv⟩ : ∃ y, y = invS Z 254 := ⟨_, rfl⟩
      have PI := Aside0.mk (show Sm iv by rw [hiv]; exact sm_inv PZ.out 254)
      obtain ⟨m, hm⟩ : ∃ y, y = mulF X iv := ⟨_, rfl⟩
      have PM := Aside0.mk (show Sm m by rw [hm]; exact sm_mul PX.out.len PI.out.len (bd_sm PX.out).wide (bd_sm PI.out).wide)
      have D1 := Aside0.mk (fun (W : World) => show Calls Try.prog 23 #[ag Z] W fun E_ w' => E_ = .returned (ag iv) ∧ Below W.heap.size W w' from by rw [hiv]; exact rinvert_calls Z PZ.out W)
      have D2 := Aside0.mk (fun (W : World) => show Calls Try.prog 21 #[ag X, ag iv] W fun E_ w' => E_ = .returned (ag m) ∧ Below W.heap.size W w' from by rw [hm]; exact rmul_calls X iv PX.out.len PI.out.len (bd_sm PX.out).wide (bd_sm PI.out).wide W)
      have EQ := Aside0.mk (show packF m = curveF s p by rw [hm, hiv, hX, hZ, HX.out, HZ.out]; rfl)
      have BW := Aside0.mk (below_step B6.out JB.out)
      clear hX hZ hiv hm hn h255 hk
      go_upto_region 38 with (fail)
      change Code.wp _ _ _ _ wr
      refine start_ (n := 7) (S := fun w' => Below wr.heap.size wr w') (ds := []) #[false, false, false, false, false, false, false] (by kernel_rfl) rfl rfl (below_drew1 (Below.refl _ _)) (fun hHeld => ?_)
      refine take_ (i := 0) (N := some 144) (v := ?_) (a' := ?_) #[true, false, false, false, false, false, false] rfl rfl (by kernel_rfl) (fun _ _ _ h => h) (Or.inl ⟨by rfl, ?_⟩) hHeld ?_ ?_
      rotate_left
      · intro w' s0
        refine rload_ev (.tmp 8) ?_ B1 X ?_ (Ja.out.below s0) PX.out.len <;> rfl
      rotate_left
      · simp only [Act.put, List.setIfInBounds_toArray, List.set_cons_zero, List.set_cons_succ]
        rfl
      refine take_ (i := 1) (N := some 145) (v := ?_) (a' := ?_) #[true, true, false, false, false, false, false] rfl rfl (by kernel_rfl) (fun _ _ _ h => h) (Or.inl ⟨by rfl, ?_⟩) hHeld ?_ ?_
      rotate_left
      · intro w' s0
        refine rload_ev (.tmp 9) ?_ B3 Z ?_ (Jc.out.below s0) PZ.out.len <;> rfl
      rotate_left
      · simp only [Act.put, List.setIfInBounds_toArray, List.set_cons_zero, List.set_cons_succ]
        rfl
      refine one_ (i := 2) (N := some 146) #[true, true, true, false, false, false, false] rfl rfl (by kernel_rfl) (by decide) (fun K hK => ?_)
      refine goes_ Try.func23 (by kernel_rfl) rfl #[ag Z] (by rfl) rfl rfl (by simp only [List.map_toArray, List.map_cons, List.map_nil]; rfl) ?_
      with_reducible refine (D1.out _).mono ?_
      rintro E_ wa ⟨rfl, hba⟩
      refine ⟨_, rfl, ?_⟩
      have hbb := below_step hHeld hba
      clear hba
      refine hK.out _ _ (hbb) (fun hHeld => ?_)
      clear hK K
      refine norm_ (a' := ?_) ?_ ?_
      rotate_left
      · show Act.put _ (some 146) _ = _
        simp only [Act.put, List.setIfInBounds_toArray, List.set_cons_zero, List.set_cons_succ]
        rfl
      refine one_ (i := 3) (N := some 147) #[true, true, true, true, false, false, false] rfl rfl (by kernel_rfl) (by decide) (fun K hK => ?_)
      refine goes_ Try.func21 (by kernel_rfl) rfl #[ag X, ag iv] (by rfl) rfl rfl (by simp only [List.map_toArray, List.map_cons, List.map_nil]; rfl) ?_
      with_reducible refine (D2.out _).mono ?_
      rintro E_ wb ⟨rfl, hba⟩
      refine ⟨_, rfl, ?_⟩
      have hbb := below_step hHeld hba
      clear hba
      refine hK.out _ _ (hbb) (fun hHeld => ?_)
      clear hK K
      refine norm_ (a' := ?_) ?_ ?_
      rotate_left
      · show Act.put _ (some 147) _ = _
        simp only [Act.put, List.setIfInBounds_toArray, List.set_cons_zero, List.set_cons_succ]
        rfl
      refine one_ (i := 4) (N := some 148) #[true, true, true, true, true, false, false] rfl rfl (by kernel_rfl) (by decide) (fun K hK => ?_)
      refine goes_ Try.func22 (by kernel_rfl) rfl #[ag m] (by rfl) rfl rfl (by simp only [List.map_toArray, List.map_cons, List.map_nil]; rfl) ?_
      with_reducible refine (rwrite_calls m PM.out _).mono ?_
      rintro E_ wc ⟨vc, rfl, hR, hba⟩
      refine ⟨_, rfl, ?_⟩
      have RC := Aside0.mk (Kd.R_lower hR hHeld.size)
      have hbb := below_step hHeld hba
      clear hba hR
      refine hK.out _ _ (hbb) (fun hHeld => ?_)
      clear hK K
      refine norm_ (a' := ?_) ?_ ?_
      rotate_left
      · show Act.put _ (some 148) _ = _
        simp only [Act.put, List.setIfInBounds_toArray, List.set_cons_zero, List.set_cons_succ]
        rfl
      refine pure_ (i := 5) (N := some 4) (v := ?_) (a' := ?_) #[true, true, true, true, true, true, false] rfl rfl (by kernel_rfl) (fun _ _ _ h => h) (Or.inl ⟨by rfl, ?_⟩) ?_ ?_
      rotate_left
      · intro w'
        go_simp
        with_reducible rfl
      rotate_left
      · simp only [Act.put, List.setIfInBounds_toArray, List.set_cons_zero, List.set_cons_succ]
        rfl
      refine pure_ (i := 6) (N := some 5) (v := ?_) (a' := ?_) #[true, true, true, true, true, true, true] rfl rfl (by kernel_rfl) (fun _ _ _ h => h) (Or.inl ⟨by rfl, ?_⟩) ?_ ?_
      rotate_left
      · intro w'
        go_simp
        with_reducible rfl
      rotate_left
      · simp only [Act.put, List.setIfInBounds_toArray, List.set_cons_zero, List.set_cons_succ]
        rfl
      refine done_ (by kernel_rfl) ?_
      have BF := Aside0.mk (below_step BW.out hHeld)
      clear hHeld
      go_wp2_with fail
      go_ret2
      refine ⟨_, rfl, ?_, BF.out⟩
      rw [← EQ.out]
      exact Kd.R_lower RC.out BW.out.size
end Go.Proofs.Ytlpoolcdoecodaa.Cv
