/-
  carry, walked, in the code and in the reference.
-/
import Derived.Test.YtlpoolcdoecodaaArr2
import Derived.Test.YtlpoolcdoecodaaCvV
import Derived.Test.YtlpoolcdoecodaaWMore
import Derived.Deep.Cut
namespace Go.Proofs.Ytlpoolcdoecodaa.Cv
open Go.RowKit Go.Proofs.YtlpoolcdoecodaaW.PrintWords Go.Proofs.YtlpoolcdoecodaaW.PrintLast Go.Proofs.YtlpoolcdoecodaaW.PrintMore Go.Proofs.Ytlpoolcdoecodaa.Arr
set_option linter.unusedVariables false
set_option maxHeartbeats 8000000
set_option maxRecDepth 100000
/-- What carry's round asks of the numbers. -/
theorem carS_bd (f : List Int) (hl : f.length = 16) (hb : Bd 281474976710656 f) (i : Nat) (hi : i ≤ 15) : ∀ j, -562949953421314 ≤ (carS f i).getD j 0 ∧ (carS f i).getD j 0 ≤ 562949953421314 := fun j => by
  obtain ⟨h1, h2, h3⟩ := carS_facts f hl 281474976710656 (by decide) hb i hi
  by_cases hj : j < i
  · have := h1 j hj; omega
  · by_cases hj2 : j = i
    · subst hj2; omega
    · rw [h3 j (by omega)]; have := hb j; omega
theorem rd_set_eq (x : List Int) (i : Nat) (y : Int) (h : i < x.length) : rd (x.set i y) (i : Int) = y := by rw [rd_nat, getD_set _ _ _ _ h, if_pos rfl]
theorem rd_set_ne (x : List Int) (i j : Nat) (y : Int) (h : i < x.length) (hn : i ≠ j) : rd (x.set i y) (j : Int) = rd x (j : Int) := by rw [rd_nat, rd_nat, getD_set _ _ _ _ h, if_neg hn]
theorem rd_succ (x : List Int) (i : Nat) : rd x ((i : Int) + 1) = x.getD (i + 1) 0 := rd_nat x (i + 1)
theorem set_over (x : List Int) (i j : Nat) (a b c : Int) (h : i ≠ j) : ((x.set i a).set j b).set i c = (x.set j b).set i c := by
  rw [List.set_comm _ _ h, List.set_set]
theorem car_last (a : Int) (h0 : -562949953421314 ≤ a) (h1 : a ≤ 562949953421314) : wrap64 (a + 65536 - wrap64 ((a / 65536 + 1) * 65536)) = a % 65536 := by
  rw [wrap_id (x := (a / 65536 + 1) * 65536) (by omega) (by omega), wrap_id (by omega) (by omega)]
  omega
theorem carry_calls (g : Nat) (f : List Int) (w : World) (hI : Is w g 48 .i64 f) (hl : f.length = 16) (hb : Bd 281474976710656 f) :
    Calls Try.prog 33 #[.pointer (some ⟨g, 0, none⟩)] w fun e w' => e = .returned (.tuple #[]) ∧ To w w' g .i64 (car f) := by
  have HI := Aside0.mk hI
  have HL := Aside0.mk hl
  have HB := Aside0.mk hb
  clear hI hl hb
  go_enter Try.func33, Try.ntmps33
  go_wp2_with fail
  go_loopw [4] (fun v w' => ∃ i : Nat, i ≤ 16 ∧ v = .int .i64 (i : Int) ∧ Aside0 (To w w' g .i64 (carS f i))) (fun v _ => 16 - (intOf v).toNat)
  case atStart => exact ⟨0, by omega, rfl, ⟨To.refl HI.out⟩⟩
  case round =>
    obtain ⟨i, hi, rfl, HT⟩ := hrel
    obtain ⟨x, hx⟩ : ∃ y_, y_ = carS f i := ⟨_, rfl⟩
    rw [← hx] at HT
    have Lx := Aside0.mk (show x.length = 16 by rw [hx, len_carS, HL.out])
    have Q0 := Aside0.mk hx
    by_cases h16 : i < 16
    · have i0 : (i : Int) < 16 := by omega
      have hbx := carS_bd f HL.out HB.out i (by omega)
      rw [← hx] at hbx
      have hbi := hbx i
      rw [← rd_nat] at hbi
      have BX := Aside0.mk hbx
      clear hx hbx
      have ix := HT.out.is HI.out
      have H1 := ix.cell i (by rw [Lx.out]; omega)
      have F1 := ix.free i
      have k1 : wrap64 (rd x (i : Int) + 65536) = rd x (i : Int) + 65536 := wrap_id (by omega) (by omega)
      have BI := Aside0.mk hbi
      clear hbi
      go_wp2
      go_still_tail 8, (by kernel_rfl)
      change wpList _ _ _ _ _ wr.drew
      go_upto_region 4 with (fail)
      rw [k1, put_set ix]
      change Code.wp _ _ _ _ (put wr g .i64 (x.set i (rd x (i : Int) + 65536))).drew
      have t1 := HT.out.put_dr (zs := x.set i (rd x (i : Int) + 65536))
      generalize (put wr g .i64 (x.set i (rd x (i : Int) + 65536))).drew = w1 at t1 ⊢
      clear ix H1 F1 k1
      have i1 := t1.is HI.out
      have H1 := i1.cell i (by rw [List.length_set, Lx.out]; omega)
      have e1 : rd (x.set i (rd x (i : Int) + 65536)) (i : Int) = rd x (i : Int) + 65536 := by rw [rd_nat, getD_set _ _ _ _ (by rw [Lx.out]; omega), if_pos rfl]
      rw [e1] at H1
      have T1 := Aside0.mk t1
      clear e1 t1
      by_cases h15 : i < 15
      · have j0 : (i : Int) < 15 := by omega
        have k2 : wrap64 ((i : Int) + 1) = (i : Int) + 1 := wrap_id (by omega) (by omega)
        have k3 : IntKind.i64.wrap ((i : Int) + 1) = (i : Int) + 1 := by rw [i64_w, k2]
        have p0 : (0 : Int) ≤ (i : Int) + 1 := by omega
        have p1 : ((i : Int) + 1).toNat = i + 1 := by omega
        have p2 : (i : Int) + 1 < 16 := by omega
        have b2 := BX.out (i + 1)
        rw [← rd_succ] at b2
        have bi := BI.out
        have m1 : wrap64 ((rd x (i : Int) + 65536) / 65536 - 1) = rd x (i : Int) / 65536 := by rw [wrap_id (by omega) (by omega)]; omega
        have m2 : wrap64 (rd x ((i : Int) + 1) + rd x (i : Int) / 65536) = rd x ((i : Int) + 1) + rd x (i : Int) / 65536 := wrap_id (by omega) (by omega)
        clear b2 bi
        have H2 := i1.cell (i + 1) (by rw [List.length_set, Lx.out]; omega)
        rw [rd_set_ne x i (i + 1) _ (by rw [Lx.out]; omega) (by omega)] at H2
        replace H2 : w1.cell? ⟨g, i + 1, none⟩ = some (.int .i64 (rd x ((i : Int) + 1))) := H2
        have F2 := i1.free (i + 1)
        go_wp2
        rw [m1]
        go_still_tail 10, (by kernel_rfl)
        change wpList _ _ _ _ _ w1.drew
        go_upto_region 8 with (fail)
        rw [m2, put_set i1]
        change Code.wp _ _ _ _ (put w1 g .i64 ((x.set i (rd x (i : Int) + 65536)).set (i + 1) (rd x ((i : Int) + 1) + rd x (i : Int) / 65536))).drew
        have t2 := T1.out.put_dr (zs := (x.set i (rd x (i : Int) + 65536)).set (i + 1) (rd x ((i : Int) + 1) + rd x (i : Int) / 65536))
        generalize (put w1 g .i64 ((x.set i (rd x (i : Int) + 65536)).set (i + 1) (rd x ((i : Int) + 1) + rd x (i : Int) / 65536))).drew = w2 at t2 ⊢
        clear i1 H1 H2 F2 m1 m2
        have i2 := t2.is HI.out
        have H1 := i2.cell i (by rw [List.length_set, List.length_set, Lx.out]; omega)
        rw [rd_set_ne _ (i + 1) i _ (by rw [List.length_set, Lx.out]; omega) (by omega), rd_set_eq _ _ _ (by rw [Lx.out]; omega)] at H1
        have F1 := i2.free i
        have T2 := Aside0.mk t2
        have bi := BI.out
        have m3 : wrap64 (rd x (i : Int) / 65536 + 1) = rd x (i : Int) / 65536 + 1 := wrap_id (by omega) (by omega)
        clear t2 bi
        go_wp2
        go_still_tail 11, (by kernel_rfl)
        change wpList _ _ _ _ _ w2.drew
        go_wp2_with fail
        rw [car_last _ BI.out.1 BI.out.2, put_set i2, set_over x i (i + 1) _ _ _ (by omega)]
        have e3 : carS f (i + 1) = (x.set (i + 1) (rd x ((i : Int) + 1) + rd x (i : Int) / 65536)).set i (rd x (i : Int) % 65536) := by rw [carS, ← Q0.out, carStep, if_pos h15, rd_succ, rd_nat]
        rw [← e3]
        have t3 := T2.out.put_dr (zs := carS f (i + 1))
        exact ⟨⟨i + 1, by omega, rfl, ⟨t3⟩⟩, by simp only [intOf]; omega⟩
      · obtain rfl : i = 15 := by omega
        rw [show ((15 : Nat) : Int) = 15 from rfl] at *
        have bi := BI.out
        have b2 := BX.out 0
        rw [← rd_nat] at b2
        have H2 := i1.cell 0 (by rw [List.length_set, Lx.out]; omega)
        rw [rd_set_ne x 15 0 _ (by rw [Lx.out]; omega) (by omega), show ((0 : Nat) : Int) = 0 from rfl] at H2
        rw [show ((0 : Nat) : Int) = 0 from rfl] at b2
        have F2 := i1.free 0
        have m1 : wrap64 ((rd x 15 + 65536) / 65536 - 1) = rd x 15 / 65536 := by rw [wrap_id (by omega) (by omega)]; omega
        have m2 : wrap64 (rd x 0 + wrap64 (38 * (rd x 15 / 65536))) = rd x 0 + 38 * (rd x 15 / 65536) := by rw [wrap_id (x := 38 * (rd x 15 / 65536)) (by omega) (by omega), wrap_id (by omega) (by omega)]
        clear b2 bi
        go_wp2
        rw [m1]
        go_still_tail 9, (by kernel_rfl)
        change wpList _ _ _ _ _ w1.drew
        go_upto_region 8 with (fail)
        rw [m2, put_set i1]
        change Code.wp _ _ _ _ (put w1 g .i64 ((x.set 15 (rd x 15 + 65536)).set 0 (rd x 0 + 38 * (rd x 15 / 65536)))).drew
        have t2 := T1.out.put_dr (zs := (x.set 15 (rd x 15 + 65536)).set 0 (rd x 0 + 38 * (rd x 15 / 65536)))
        generalize (put w1 g .i64 ((x.set 15 (rd x 15 + 65536)).set 0 (rd x 0 + 38 * (rd x 15 / 65536)))).drew = w2 at t2 ⊢
        clear i1 H1 H2 F2 m1 m2
        have i2 := t2.is HI.out
        have H1 := i2.cell 15 (by rw [List.length_set, List.length_set, Lx.out]; omega)
        rw [rd_set_ne _ 0 15 _ (by rw [List.length_set, Lx.out]; omega) (by omega), rd_set_eq _ _ _ (by rw [Lx.out]; omega)] at H1
        have F1 := i2.free 15
        have T2 := Aside0.mk t2
        have bi := BI.out
        have m3 : wrap64 (rd x 15 / 65536 + 1) = rd x 15 / 65536 + 1 := wrap_id (by omega) (by omega)
        clear t2 bi
        go_wp2
        go_still_tail 11, (by kernel_rfl)
        change wpList _ _ _ _ _ w2.drew
        go_wp2_with fail
        rw [car_last _ BI.out.1 BI.out.2, put_set i2, set_over x 15 0 _ _ _ (by omega)]
        have e3 : carS f (15 + 1) = (x.set 0 (rd x 0 + 38 * (rd x 15 / 65536))).set 15 (rd x 15 % 65536) := by rw [carS, ← Q0.out, carStep, if_neg (by omega)]; rfl
        rw [← e3]
        have t3 := T2.out.put_dr (zs := carS f (15 + 1))
        exact ⟨⟨15 + 1, by omega, rfl, ⟨t3⟩⟩, by simp only [intOf]; omega⟩
    · obtain rfl : i = 16 := by omega
      rw [show ((16 : Nat) : Int) = 16 from rfl]
      have hq : x = car f := Q0.out
      rw [hq] at HT
      clear h16 hx hq Q0 Lx
      go_wp2
      go_end0
      exact ⟨rfl, HT.out⟩
end Go.Proofs.Ytlpoolcdoecodaa.Cv
