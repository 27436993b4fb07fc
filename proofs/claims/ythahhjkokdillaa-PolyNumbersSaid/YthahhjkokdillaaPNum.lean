/-
  PolyNumbers, walked: for every key of bytes both sums are the same.
-/
import Derived.Test.YthahhjkokdillaaPolyAll
import Derived.Deep.Cut
import Derived.Deep.DeepCutAuto
namespace Go.Proofs.Ythahhjkokdillaa
open Go.RowKit Go.Proofs.YthahhjkokdillaaW.PrintWords Go.Proofs.YthahhjkokdillaaW.PrintLast Go.Proofs.YthahhjkokdillaaW.PrintMore Go.Proofs.Ythahhjkokdillaa.Arr Go.Proofs.Ythahhjkokdillaa.Bits
set_option maxHeartbeats 8000000
set_option maxRecDepth 100000
def pnL : List Int := [0, 1, 2, 4, 5, 255]
theorem pn_rd (n : Nat) (h : n < 6) : 0 ≤ rd pnL (n : Int) ∧ rd pnL (n : Int) ≤ 255 := by
  have : n = 0 ∨ n = 1 ∨ n = 2 ∨ n = 3 ∨ n = 4 ∨ n = 5 := by omega
  rcases this with rfl | rfl | rfl | rfl | rfl | rfl <;> decide
theorem pn_sized (l : List Int) (hl : Bytes l) (n : Nat) : Bytes (sizedF l n) := by
  intro x hx
  unfold sizedF at hx
  simp only [List.mem_map] at hx
  obtain ⟨i, _, rfl⟩ := hx
  split
  · omega
  · exact hl.rd _
theorem pn_sums {key b : List Int} (hk : Bytes key) (hl : key.length = 32) (hb : Bytes b) (hn : b.length ≤ 100) : ∃ x, poly_Sum.f key b = some (x, 0) ∧ strongroomref3_Sum.f key b = some (x, 0) := by
  refine ⟨Pol.tagF key b, ?_, ?_⟩
  · unfold poly_Sum.f Pol.sumAns
    rw [if_pos hl]
  · unfold strongroomref3_Sum.f
    rw [if_pos (by omega), PolR.sum_same key b hk hb]
    unfold Pol.sumAns
    rw [if_pos hl]
theorem wrap1 (n : Nat) (h : n ≤ 100) : wrap64 ((n : Int) + 1) = ((n + 1 : Nat) : Int) := by
  rw [wrap_id (by omega) (by omega)]; omega
theorem pn_key (r : Int) (h : 0 ≤ r ∧ r ≤ 255) : Bytes ((List.replicate 32 (0 : Int)).set 0 r) := by
  intro x hx
  rcases List.mem_or_eq_of_mem_set hx with h1 | h1
  · have := List.eq_of_mem_replicate h1; omega
  · rw [h1]; exact h
theorem pn_pair (a b : Int) (r : Bool) (W : World) (h : poly_Same.f [a] [b] = some r) : Calls Try.prog 38 #[.slice (some ⟨W.heap.size, 0, none⟩) 1 1, .slice (some ⟨W.heap.size + 1, 0, none⟩) 1 1] ((W.alloc (.cells #[.int .u8 a] 5)).alloc (.cells #[.int .u8 b] 5)) fun e w' => e = .returned (.bool r) ∧ Drawn0 ((W.alloc (.cells #[.int .u8 a] 5)).alloc (.cells #[.int .u8 b] 5)) w' := by
  have hh := poly_Same.calls (some ⟨W.heap.size, 0, none⟩) 1 [a] (some ⟨(W.alloc (.cells #[.int .u8 a] 5)).heap.size, 0, none⟩) 1 [b] r ((W.alloc (.cells (nums .u8 [a]).toArray 5)).alloc (.cells (nums .u8 [b]).toArray 5)) (Kd.C_alloc (lit_C W 5 .u8 [a] (0, 0) 1 rfl (by decide)) _) (Nat.le_refl _) (lit_C _ 5 .u8 [b] (0, 0) 1 rfl (by decide)) (Nat.le_refl _) h
  rw [World.size_alloc] at hh
  exact hh
theorem polyNumbers_calls (w : World) :
    Calls Try.prog 10 #[] w fun e w' => e = .returned (.bool true) ∧ Below w.heap.size w w' := by
  obtain ⟨all, hall⟩ : ∃ x, x = sizedF [255] 64 := ⟨_, rfl⟩
  have fa := Aside0.mk (show strongroomkeep_Sized.f [255] 64 = some all by rw [hall]; exact sized_some [255] 64 (by decide) (by simp))
  have hab : Bytes all := by rw [hall]; exact pn_sized _ (by intro x hx; simp at hx; omega) _
  have hal : all.length = 64 := by rw [hall, len_sizedF]
  have f31 := Aside0.mk (show poly_Sum.f (List.replicate (31 : Int).toNat 0) [] = some ([], 1) by unfold poly_Sum.f Pol.sumAns; rw [if_neg (by simp)])
  have f33 := Aside0.mk (show poly_Sum.f (List.replicate (33 : Int).toNat 0) [] = some ([], 1) by unfold poly_Sum.f Pol.sumAns; rw [if_neg (by simp)])
  have HA := Aside0.mk (And.intro hab hal)
  have B0 := Aside0.mk (Below.refl w.heap.size w)
  clear hall hab hal
  go_enter Try.func10, Try.ntmps10
  go_wp2_with (at_make; refine Kd.R_make (Kd.int .u8) w.heap.size 5 rfl (N := 15) rfl 22 _ _ rfl (31 : Int) rfl rfl Try.underlying22 (.int .u8 0) 1 Pol.info_u8 rfl Nat.one_pos Nat.one_pos 0 (ok := fun _ => True) (okp := fun _ => True) rfl (fun _ hk => hk) trivial (by decide) (by decide) B0.out B0.out.size ?_; intro v1 w1 hR hB _ _; obtain ⟨A1, c1, rfl, hc1, hC1⟩ := Kd.R_reads hR; have C1 := Aside0.mk (And.intro hC1 hc1); have B1 := Aside0.mk hB; clear hR hB hC1 hc1)
  refine (poly_Sum.calls A1 c1 (List.replicate (31 : Int).toNat 0) none 0 [] [] 1 w1 C1.out.1 C1.out.2 (Kd.C_nil _ _) (Nat.le_refl _) f31.out).mono ?_
  rintro e w2 ⟨v2, rfl, _, hB⟩
  have B2 := Aside0.mk (below_step B1.out hB)
  clear hB C1
  go_wp2_with (at_make; refine Kd.R_make (Kd.int .u8) w.heap.size 5 rfl (N := 20) rfl 22 _ _ rfl (33 : Int) rfl rfl Try.underlying22 (.int .u8 0) 1 Pol.info_u8 rfl Nat.one_pos Nat.one_pos 0 (ok := fun _ => True) (okp := fun _ => True) rfl (fun _ hk => hk) trivial (by decide) (by decide) B2.out B2.out.size ?_; intro v3 w3 hR hB _ _; obtain ⟨A3, c3, rfl, hc3, hC3⟩ := Kd.R_reads hR; have C3 := Aside0.mk (And.intro hC3 hc3); have B3 := Aside0.mk hB; clear hR hB hC3 hc3)
  refine (poly_Sum.calls A3 c3 (List.replicate (33 : Int).toNat 0) none 0 [] [] 1 w3 C3.out.1 C3.out.2 (Kd.C_nil _ _) (Nat.le_refl _) f33.out).mono ?_
  rintro e w4 ⟨v4, rfl, _, hB⟩
  have B4 := Aside0.mk (below_step B3.out hB)
  clear hB C3
  go_wp2_with fail
  refine (strongroomkeep_Sized.calls (some ⟨w4.heap.size, 0, none⟩) 1 [255] 64 all _ (lit_C w4 5 .u8 [255] (0, 0) 1 rfl (by decide)) (Nat.le_refl _) fa.out).mono ?_
  rintro e w5 ⟨v5, rfl, hR, hB⟩
  obtain ⟨Aa, ca, rfl, hca, hCa⟩ := Kd.R_reads hR
  have B5 := Aside0.mk (below_step (below_alloc B4.out _) hB)
  rw [HA.out.2] at hca hCa ⊢
  have CA5 := Aside0.mk (And.intro hCa hca)
  clear hR hB hca hCa
  go_wp2_with fail
  change Code.wp _ _ _ _ (w5.alloc (.cells (nums .u8 pnL).toArray 5 (0, 0)))
  have CL := Aside0.mk (lit_C w5 5 .u8 pnL (0, 0) 6 rfl (by decide))
  have BL := Aside0.mk (below_alloc B5.out (.cells (nums .u8 pnL).toArray 5 (0, 0)))
  have CA := Aside0.mk (And.intro (Kd.C_alloc CA5.out.1 (.cells (nums .u8 pnL).toArray 5 (0, 0))) CA5.out.2)
  generalize w5.alloc (.cells (nums .u8 pnL).toArray 5 (0, 0)) = wL at CL BL CA ⊢
  obtain ⟨gL, hgL⟩ : ∃ g, g = w5.heap.size := ⟨_, rfl⟩
  rw [← hgL] at CL ⊢
  clear hgL CA5 B0 B1 B2 B3 B4 B5 f31 f33 fa
  go_loopw [28] (fun v w' => ∃ i : Nat, i ≤ 6 ∧ v = .int .i64 i ∧ Aside0 (Below wL.heap.size wL w')) (fun v _ => 6 - (intOf v).toNat)
  case atStart => exact ⟨0, by omega, rfl, ⟨Below.refl _ _⟩⟩
  case round =>
    obtain ⟨i, hi, rfl, HB⟩ := hrel
    by_cases h6 : i < 6
    · have i0 : (i : Int) < 6 := by omega
      obtain ⟨ad, hA, hcell⟩ := Kd.at_int (Kd.C_below CL.out HB.out) (i : Int) (by omega) (by omega)
      cases hA
      rw [Int.toNat_natCast] at hcell
      replace hcell : wr.cell? ⟨gL, i, none⟩ = some (.int .u8 (rd pnL (i : Int))) := by have := hcell; rw [add_plain] at this; exact this
      obtain ⟨r, hr⟩ : ∃ r, r = rd pnL (i : Int) := ⟨_, rfl⟩
      have HR := Aside0.mk (show 0 ≤ r ∧ r ≤ 255 by rw [hr]; exact pn_rd i h6)
      rw [← hr] at hcell
      clear hr
      go_wp2
      go_loopw [8] (fun v w' => ∃ n : Nat, n ≤ 65 ∧ v = .int .i64 n ∧ Aside0 (Below wL.heap.size wL w')) (fun v _ => 65 - (intOf v).toNat)
      case atStart => exact ⟨0, by omega, rfl, HB⟩
      case round =>
        clear hcell HB
        obtain ⟨n, hn, rfl, HB⟩ := hrel
        by_cases h64 : n ≤ 64
        · have n0 : (n : Int) ≤ 64 := by omega
          go_upto_region 11 with (at_make; refine Kd.R_make (Kd.int .u8) wL.heap.size 5 rfl (N := 36) rfl 22 _ _ rfl (32 : Int) rfl rfl Try.underlying22 (.int .u8 0) 1 Pol.info_u8 rfl Nat.one_pos Nat.one_pos 0 (ok := fun _ => True) (okp := fun _ => True) rfl (fun _ hk => hk) trivial (by decide) (by decide) HB.out HB.out.size ?_; intro v6 w6 hR6 hB6 _ _; obtain ⟨g, cg, rfl, hg, hgl, _⟩ := Kd.R_form hR6 (by decide); have R6 := Aside0.mk hR6; have HG := Aside0.mk (And.intro hg hgl); have B6 := Aside0.mk hB6; clear hR6 hB6 hg hgl)
          have hc := Kd.R_celln (0 : Int) R6.out 0 (by decide) (by decide)
          have hp := Kd.R_putg R6.out 0 r
          obtain ⟨x1, x2⟩ := hc
          replace x1 : w6.cell? ⟨g, 0, none⟩ = some (.int .u8 0) := x1
          replace x2 : w6.frozen? ⟨g, 0, none⟩ = false := x2
          have HP := Aside0.mk (show (Kd.int .u8).R 5 (w6.setCell ⟨g, 0, none⟩ (.int .u8 r)) wL.heap.size (fun _ => True) (.slice (some ⟨g, 0, none⟩) 32 cg) ((List.replicate 32 (0 : Int)).set 0 r) from hp.1)
          have B6' := Aside0.mk (show Below wL.heap.size wL (w6.setCell ⟨g, 0, none⟩ (.int .u8 r)) from below_set B6.out HG.out.1)
          clear hp
          go_upto_if 42 with (fail)
          generalize w6.setCell ⟨g, 0, none⟩ (.int .u8 r) = w7 at HP B6' ⊢
          clear x1 x2 R6 HG B6
          go_cut [9] (fun v wx => ∃ (Ak : Option Addr) (ck : Nat) (key : List Int), v = .slice Ak key.length ck ∧ Aside0 ((Kd.int .u8).C wx Ak key.length key ∧ key.length ≤ ck) ∧ Aside0 (key.length = 32 ∧ Bytes key) ∧ Aside0 (Below wL.heap.size wL wx))
          case first =>
            have ht : Int.tmod (n : Int) 3 = (n : Int) % 3 := Int.tmod_eq_emod_of_nonneg (by omega)
            by_cases h3 : n % 3 = 0
            · have d1 : (n : Int) % 3 = 0 := by omega
              have d2 : ((n : Int) % 3 == 0) = true := by rw [d1]; rfl
              have d3 : Int.tmod (n : Int) 3 = 0 := by rw [ht, d1]
              have d4 : (Int.tmod (n : Int) 3 == 0) = true := by rw [d3]; rfl
              have fs := Aside0.mk (show strongroomkeep_Sized.f [r, 255] 32 = some (sizedF [r, 255] 32) from sized_some [r, 255] 32 (by decide) (by simp))
              clear h3 HP
              go_wp2_with fail
              refine (strongroomkeep_Sized.calls (some ⟨w7.heap.size, 0, none⟩) 2 [r, 255] 32 (sizedF [r, 255] 32) _ (lit_C w7 5 .u8 [r, 255] (0, 0) 2 rfl (by decide)) (Nat.le_refl _) fs.out).mono ?_
              rintro e w8 ⟨v8, rfl, hR, hB⟩
              obtain ⟨Ak, ck, rfl, hck, hCk⟩ := Kd.R_reads hR
              have B8 := Aside0.mk (below_step (below_alloc B6'.out _) hB)
              have CK := Aside0.mk (And.intro hCk hck)
              clear hR hB hck hCk
              go_wp2_with fail
              go_meet
              refine ⟨Ak, ck, sizedF [r, 255] 32, rfl, CK, ⟨len_sizedF _ _, pn_sized _ (fun x hx => ?_) _⟩, B8⟩
              have hr := HR.out
              simp only [List.mem_cons, List.not_mem_nil, or_false] at hx
              omega
            · have d1 : ¬ (n : Int) % 3 = 0 := by omega
              have d2 : ((n : Int) % 3 == 0) = false := by simpa using d1
              have d3 : ¬ Int.tmod (n : Int) 3 = 0 := by rw [ht]; exact d1
              have d4 : (Int.tmod (n : Int) 3 == 0) = false := by simpa using d3
              clear h3
              go_wp2_with fail
              go_meet
              obtain ⟨e1, e2, e3⟩ := Kd.R_reads' HP.out
              exact ⟨some ⟨g, 0, none⟩, cg, (List.replicate 32 (0 : Int)).set 0 r, by rw [← e1], ⟨⟨e3, by rw [← e1]; exact e2⟩⟩, ⟨by simp, pn_key r HR.out⟩, B6'⟩
          case rest =>
            obtain ⟨Ak, ck, key, rfl, CK, HKK, BC⟩ := hcut
            clear HP B6'
            obtain ⟨b, hb⟩ : ∃ b, b = all.take n := ⟨_, rfl⟩
            have hbl : b.length = n := by rw [hb, List.length_take, HA.out.2]; omega
            obtain ⟨x, fx1, fx2⟩ := pn_sums HKK.out.2 HKK.out.1 (show Bytes b by rw [hb]; exact HA.out.1.take n) (by omega)
            have hct := Kd.C_take (m := n) (xs := all) (show (Kd.int .u8).C wL Aa all.length all by rw [HA.out.2]; exact CA.out.1) (by rw [HA.out.2]; omega)
            rw [← hb] at hct
            have CT := Aside0.mk hct
            have hca : b.length ≤ ca := by have := CA.out.2; omega
            have HCA := Aside0.mk hca
            obtain ⟨I0, hI0⟩ : ∃ i, Try.prog.info? 5 = some i := ⟨_, rfl⟩
            have hcut := cut_to (P := Try.prog) 22 5 .i64 Try.underlying22 hI0 Aa 64 ca (n : Int) (by omega) (by omega) CA.out.2
            rw [Int.toNat_natCast] at hcut
            have F1 := Aside0.mk (fun (W : World) (h1 : (Kd.int .u8).C W Ak key.length key) (h2 : (Kd.int .u8).C W Aa b.length b) => poly_Sum.calls Ak ck key Aa ca b x 0 W h1 CK.out.2 h2 HCA.out fx1)
            have F2 := Aside0.mk (fun (W : World) (h1 : (Kd.int .u8).C W Ak key.length key) (h2 : (Kd.int .u8).C W Aa b.length b) => strongroomref3_Sum.calls Ak ck key Aa ca b x 0 W h1 CK.out.2 h2 HCA.out fx2)
            rw [hbl] at F1 F2 CT
            clear hI0 fx1 fx2 hct hca hb hbl
            go_wp2_with fail
            refine (F1.out _ CK.out.1 (Kd.C_below CT.out BC.out)).mono ?_
            rintro e w9 ⟨v9, rfl, hR, hB⟩
            obtain ⟨Ax, cx, rfl, hcx, hCx⟩ := Kd.R_reads hR
            have CX := Aside0.mk hCx
            have CK9 := Aside0.mk (Kd.C_below CK.out.1 hB)
            have B9 := Aside0.mk (below_step BC.out hB)
            clear hR hB hcx hCx
            go_wp2_with fail
            refine (F2.out _ CK9.out (Kd.C_below CT.out B9.out)).mono ?_
            rintro e w10 ⟨v10, rfl, hR, hB⟩
            obtain ⟨Ay, cy, rfl, hcy, hCy⟩ := Kd.R_reads hR
            have p1 := Kd.C_string (P := Try.prog) (c := cx) Try.underlying22 Try.underlying5 Try.underlying9 (Kd.C_below CX.out hB)
            have p2 := Kd.C_string (P := Try.prog) (c := cy) Try.underlying22 Try.underlying5 Try.underlying9 hCy
            have B10 := Aside0.mk (below_step B9.out hB)
            have hw := wrap1 n (by omega)
            clear hR hB hcy hCy hcut
            go_wp2_with fail
            exact ⟨⟨n + 1, by omega, by first | rfl | rw [hw], B10⟩, by simp [intOf]; omega⟩
        · obtain rfl : n = 65 := by omega
          rw [show ((65 : Nat) : Int) = 65 from rfl]
          clear h64
          have hw := wrap1 i (by omega)
          go_wp2_with fail
          exact ⟨⟨i + 1, by omega, by first | rfl | rw [hw], HB⟩, by simp [intOf]; omega⟩
    · obtain rfl : i = 6 := by omega
      rw [show ((6 : Nat) : Int) = 6 from rfl]
      clear h6
      have B11 := Aside0.mk (below_step BL.out HB.out)
      have e1 : poly_Same.f ([] : List Int) [] = some true := by decide +kernel
      have e2 : poly_Same.f [1] [1] = some true := by decide +kernel
      have e3 : poly_Same.f [1] [2] = some false := by decide +kernel
      have e4 : poly_Same.f [1] [] = some false := by decide +kernel
      have E := Aside0.mk (And.intro e1 (And.intro e2 (And.intro e3 e4)))
      clear e1 e2 e3 e4
      go_wp2_with fail
      refine (poly_Same.calls none 0 [] none 0 [] true _ (Kd.C_nil _ _) (Nat.le_refl _) (Kd.C_nil _ _) (Nat.le_refl _) E.out.1).mono ?_
      rintro e w12 ⟨rfl, ⟨n12, hw12⟩⟩
      have B12 := Aside0.mk (show Below w.heap.size w w12 by rw [hw12]; exact pw_below_drewN B11.out n12)
      clear hw12
      go_wp2_with fail
      refine (pn_pair 1 1 true w12 E.out.2.1).mono ?_
      rintro e w13 ⟨rfl, ⟨n13, hw13⟩⟩
      have B13 := Aside0.mk (show Below w.heap.size w w13 by rw [hw13]; exact pw_below_drewN (below_alloc (below_alloc B12.out _) _) n13)
      clear hw13
      go_wp2_with fail
      refine (pn_pair 1 2 false w13 E.out.2.2.1).mono ?_
      rintro e w14 ⟨rfl, ⟨n14, hw14⟩⟩
      have B14 := Aside0.mk (show Below w.heap.size w w14 by rw [hw14]; exact pw_below_drewN (below_alloc (below_alloc B13.out _) _) n14)
      clear hw14
      go_wp2_with fail
      refine (poly_Same.calls (some ⟨w14.heap.size, 0, none⟩) 1 [1] none 0 [] false _ (lit_C w14 5 .u8 [1] (0, 0) 1 rfl (by decide)) (Nat.le_refl _) (Kd.C_nil _ _) (Nat.le_refl _) E.out.2.2.2).mono ?_
      rintro e w15 ⟨rfl, ⟨n15, hw15⟩⟩
      have B15 := Aside0.mk (show Below w.heap.size w w15 by rw [hw15]; exact pw_below_drewN (below_alloc B14.out _) n15)
      clear hw15
      go_wp2_with fail
      refine (strongroomlaw3_known.calls true _ rfl).mono ?_
      rintro e w16 ⟨rfl, hB⟩
      have B16 := Aside0.mk (below_step B15.out hB)
      clear hB
      go_wp2_with fail
      go_ret
      exact ⟨rfl, B16.out⟩
end Go.Proofs.Ythahhjkokdillaa
