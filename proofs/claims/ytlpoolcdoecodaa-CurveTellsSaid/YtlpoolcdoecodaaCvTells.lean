/-
  CurveTells, walked.
-/
import Derived.Test.YtlpoolcdoecodaaCvRH
import Derived.Test.YtlpoolcdoecodaaCvK
import Derived.Test.YtlpoolcdoecodaaCut
import Derived.Test.YtlpoolcdoecodaaSized
namespace Go.Proofs.Ytlpoolcdoecodaa
open Go.RowKit Go.Proofs.YtlpoolcdoecodaaW.PrintWords Go.Proofs.YtlpoolcdoecodaaW.PrintLast Go.Proofs.YtlpoolcdoecodaaW.PrintMore Go.Proofs.Ytlpoolcdoecodaa.Arr Go.Proofs.Ytlpoolcdoecodaa.Cv
set_option linter.unusedVariables false
set_option maxHeartbeats 8000000
set_option maxRecDepth 100000
theorem sized_bytes (b : List Int) (n : Nat) (h : ∀ x ∈ b, 0 ≤ x ∧ x < 256) : ∀ x ∈ sizedF b n, 0 ≤ x ∧ x < 256 := by
  intro x hx
  unfold sizedF at hx
  obtain ⟨i, _, rfl⟩ := List.mem_map.1 hx
  split
  · exact ⟨by decide, by decide⟩
  · unfold rd
    rw [List.getD_eq_getElem?_getD]
    rcases hj : b[(((i % b.length : Nat) : Int)).toNat]? with _ | y
    · exact ⟨by decide, by decide⟩
    · exact h y (List.mem_of_getElem? hj)
theorem curveTells_calls (A1 : Option Addr) (c1 : Nat) (l1 : List Int) (A2 : Option Addr) (c2 : Nat) (l2 : List Int) (a3 : Bool) (w : World)
    (hr1 : Kd.C (Kd.int .u8) w A1 l1.length l1) (hc1 : l1.length ≤ c1) (hb1 : ∀ x ∈ l1, 0 ≤ x ∧ x < 256) (hr2 : Kd.C (Kd.int .u8) w A2 l2.length l2) (hc2 : l2.length ≤ c2) (hb2 : ∀ x ∈ l2, 0 ≤ x ∧ x < 256) :
    Calls Try.prog 4 #[.slice A1 l1.length c1, .slice A2 l2.length c2, .bool a3] w fun e w' => e = .returned (.bool true) ∧ Below w.heap.size w w' := by
  obtain ⟨s, hs⟩ : ∃ x, x = l1.take 40 := ⟨_, rfl⟩
  obtain ⟨p, hp⟩ : ∃ x, x = l2.take 40 := ⟨_, rfl⟩
  have f1 := Aside0.mk (show strongroomkeep_CutR.f l1 40 = some s by rw [hs]; exact cut_some l1 40)
  have f2 := Aside0.mk (show strongroomkeep_CutR.f l2 40 = some p by rw [hp]; exact cut_some l2 40)
  have K1 := Aside0.mk (And.intro hr1 hc1)
  have K2 := Aside0.mk (And.intro hr2 hc2)
  have D1 := Aside0.mk (And.intro (cutR_C hr1 hc1 f1.out) (cutR_len hc1 f1.out))
  have D2 := Aside0.mk (And.intro (cutR_C hr2 hc2 f2.out) (cutR_len hc2 f2.out))
  have BS := Aside0.mk (show ∀ x ∈ s, 0 ≤ x ∧ x < 256 from fun x hx => hb1 x (List.mem_of_mem_take (hs ▸ hx)))
  have BP := Aside0.mk (show ∀ x ∈ p, 0 ≤ x ∧ x < 256 from fun x hx => hb2 x (List.mem_of_mem_take (hp ▸ hx)))
  have LS := Aside0.mk (show s.length ≤ 40 ∧ p.length ≤ 40 by rw [hs, hp, List.length_take, List.length_take]; omega)
  clear hr1 hc1 hb1 hr2 hc2 hb2 hs hp
  go_enter Try.func4, Try.ntmps4
  go_wp2_with fail
  refine (strongroomkeep_CutR.calls A1 c1 l1 40 s w K1.out.1 K1.out.2 f1.out).mono ?_
  rintro e u1 ⟨rfl, ⟨n1, rfl⟩⟩
  have B1 := Aside0.mk (pw_below_drewN (Below.refl w.heap.size w) n1)
  generalize w.drewN n1 = u1 at B1 ⊢
  go_wp2_with fail
  refine (strongroomkeep_CutR.calls A2 c2 l2 40 p _ (Kd.C_below K2.out.1 B1.out) K2.out.2 f2.out).mono ?_
  rintro e u2 ⟨rfl, ⟨n2, rfl⟩⟩
  have B2 := Aside0.mk (pw_below_drewN B1.out n2)
  generalize u1.drewN n2 = u2 at B2 ⊢
  have E1 := Aside0.mk (And.intro (Kd.C_below D1.out.1 B2.out) D1.out.2)
  have E2 := Aside0.mk (And.intro (Kd.C_below D2.out.1 B2.out) D2.out.2)
  clear K1 K2 D1 D2 f1 f2 B1
  cases a3 with
  | true =>
    have z1 := Aside0.mk (sized_some s 32 (by decide) (by have := LS.out; omega))
    have z2 := Aside0.mk (sized_some p 32 (by decide) (by have := LS.out; omega))
    go_wp2_with fail
    refine (strongroomkeep_Sized.calls A1 c1 s 32 _ u2 E1.out.1 E1.out.2 z1.out).mono ?_
    rintro e u3 ⟨v3, rfl, hR, hB⟩
    obtain ⟨S, hS⟩ : ∃ x, x = sizedF s 32 := ⟨_, rfl⟩
    rw [← hS] at hR
    have BS' := Aside0.mk (show ∀ x ∈ S, 0 ≤ x ∧ x < 256 by rw [hS]; exact sized_bytes s 32 BS.out)
    have E2' := Aside0.mk (And.intro (Kd.C_below E2.out.1 hB) E2.out.2)
    obtain ⟨As, cs, rfl, hcs, hCs⟩ := Kd.R_reads hR
    have B3 := Aside0.mk (below_step B2.out hB)
    have F1 := Aside0.mk (And.intro hCs hcs)
    clear hR hB hCs hcs hS
    go_wp2_with fail
    refine (strongroomkeep_Sized.calls A2 c2 p 32 _ u3 E2'.out.1 E2'.out.2 z2.out).mono ?_
    rintro e u4 ⟨v4, rfl, hR, hB⟩
    obtain ⟨P, hP⟩ : ∃ x, x = sizedF p 32 := ⟨_, rfl⟩
    rw [← hP] at hR
    have BP' := Aside0.mk (show ∀ x ∈ P, 0 ≤ x ∧ x < 256 by rw [hP]; exact sized_bytes p 32 BP.out)
    obtain ⟨Ap, cp, rfl, hcp, hCp⟩ := Kd.R_reads hR
    have B4 := Aside0.mk (below_step B3.out hB)
    have G1 := Aside0.mk (And.intro (Kd.C_below F1.out.1 hB) F1.out.2)
    have G2 := Aside0.mk (And.intro hCp hcp)
    clear hR hB hCp hcp hP E1 E2 E2' F1 z1 z2 B2 B3
    obtain ⟨n, hn⟩ : ∃ n, n = S.length := ⟨_, rfl⟩
    obtain ⟨m, hm⟩ : ∃ n, n = P.length := ⟨_, rfl⟩
    rw [← hn, ← hm]
    obtain ⟨me, hme⟩ : ∃ n, n = mulE S P := ⟨_, rfl⟩
    obtain ⟨mv, hmv⟩ : ∃ n, n = mulV S P := ⟨_, rfl⟩
    obtain ⟨be, hbe⟩ : ∃ n, n = mulE S nineL := ⟨_, rfl⟩
    obtain ⟨bv, hbv⟩ : ∃ n, n = mulV S nineL := ⟨_, rfl⟩
    have M1 := Aside0.mk (fun (W : World) (h : Below u4.heap.size u4 W) => show Calls Try.prog 8 #[.slice As n cs, .slice Ap m cp] W fun e w' => ∃ v, e = .returned (.tuple #[v, .int .i64 me]) ∧ (Kd.int .u8).R 5 w' W.heap.size (fun _ => True) v mv ∧ Below W.heap.size W w' from by rw [hn, hm, hme, hmv]; exact mul_calls As cs S Ap cp P W BS'.out BP'.out (Kd.C_below G1.out.1 h) G1.out.2 (Kd.C_below G2.out.1 h) G2.out.2)
    have M2 := Aside0.mk (fun (W : World) (h : Below u4.heap.size u4 W) => show Calls Try.prog 12 #[.slice As n cs, .slice Ap m cp] W fun e w' => ∃ v, e = .returned (.tuple #[v, .int .i64 me]) ∧ (Kd.int .u8).R 5 w' W.heap.size (fun _ => True) v mv ∧ Below W.heap.size W w' from by rw [hn, hm, hme, hmv]; exact rmul5_calls As cs S Ap cp P W BS'.out BP'.out (Kd.C_below G1.out.1 h) G1.out.2 (Kd.C_below G2.out.1 h) G2.out.2)
    have M3 := Aside0.mk (fun (W : World) (h : Below u4.heap.size u4 W) => show Calls Try.prog 10 #[.slice As n cs] W fun e w' => ∃ v, e = .returned (.tuple #[v, .int .i64 be]) ∧ (Kd.int .u8).R 5 w' W.heap.size (fun _ => True) v bv ∧ Below W.heap.size W w' from by rw [hn, hbe, hbv]; exact base_calls As cs S W BS'.out (Kd.C_below G1.out.1 h) G1.out.2)
    have M4 := Aside0.mk (fun (W : World) (h : Below u4.heap.size u4 W) => show Calls Try.prog 15 #[.slice As n cs] W fun e w' => ∃ v, e = .returned (.tuple #[v, .int .i64 be]) ∧ (Kd.int .u8).R 5 w' W.heap.size (fun _ => True) v bv ∧ Below W.heap.size W w' from by rw [hn, hbe, hbv]; exact rbase_calls As cs S W BS'.out (Kd.C_below G1.out.1 h) G1.out.2)
    clear hn hm hme hmv hbe hbv
    go_wp2_with fail
    refine (M1.out u4 (Below.refl _ _)).mono ?_
    rintro e u5 ⟨v5, rfl, hR, hB⟩
    obtain ⟨X1, k1, rfl, _, hC⟩ := Kd.R_reads hR
    have X1C := Aside0.mk hC
    have L5 := Aside0.mk hB
    clear hR hB hC
    go_wp2_with fail
    refine (M2.out u5 L5.out).mono ?_
    rintro e u6 ⟨v6, rfl, hR, hB⟩
    obtain ⟨X2, k2, rfl, _, hC⟩ := Kd.R_reads hR
    have X2C := Aside0.mk hC
    have X1D := Aside0.mk (Kd.C_below X1C.out hB)
    have L6 := Aside0.mk (below_step L5.out hB)
    clear hR hB hC X1C
    go_wp2_with fail
    refine (M3.out u6 L6.out).mono ?_
    rintro e u7 ⟨v7, rfl, hR, hB⟩
    obtain ⟨X3, k3, rfl, _, hC⟩ := Kd.R_reads hR
    have X3C := Aside0.mk hC
    have X1E := Aside0.mk (Kd.C_below X1D.out hB)
    have X2E := Aside0.mk (Kd.C_below X2C.out hB)
    have L7 := Aside0.mk (below_step L6.out hB)
    clear hR hB hC X1D X2C
    go_wp2_with fail
    refine (M4.out u7 L7.out).mono ?_
    rintro e u8 ⟨v8, rfl, hR, hB⟩
    obtain ⟨X4, k4, rfl, _, hC⟩ := Kd.R_reads hR
    have L8 := Aside0.mk (below_step L7.out hB)
    have q1 := Kd.C_string (P := Try.prog) (c := k1) Try.underlying22 Try.underlying5 Try.underlying9 (Kd.C_below X1E.out hB)
    have q2 := Kd.C_string (P := Try.prog) (c := k2) Try.underlying22 Try.underlying5 Try.underlying9 (Kd.C_below X2E.out hB)
    have q3 := Kd.C_string (P := Try.prog) (c := k3) Try.underlying22 Try.underlying5 Try.underlying9 (Kd.C_below X3C.out hB)
    have q4 := Kd.C_string (P := Try.prog) (c := k4) Try.underlying22 Try.underlying5 Try.underlying9 hC
    clear hR hB hC X1E X2E X3C
    go_wp2_with fail
    refine (known5_calls u8).mono ?_
    rintro e u9 ⟨rfl, hB⟩
    have LZ := Aside0.mk (B4.out.trans ((below_step L8.out hB).mono B4.out.size))
    clear hB
    go_wp2_with fail
    go_ret
    exact ⟨rfl, LZ.out⟩
  | false =>
    obtain ⟨S, hS⟩ : ∃ x, x = s := ⟨_, rfl⟩
    obtain ⟨P, hP⟩ : ∃ x, x = p := ⟨_, rfl⟩
    obtain ⟨As, hAs⟩ : ∃ x, x = A1 := ⟨_, rfl⟩
    obtain ⟨cs, hcs⟩ : ∃ x, x = c1 := ⟨_, rfl⟩
    obtain ⟨Ap, hAp⟩ : ∃ x, x = A2 := ⟨_, rfl⟩
    obtain ⟨cp, hcp⟩ : ∃ x, x = c2 := ⟨_, rfl⟩
    obtain ⟨u4, hu4⟩ : ∃ x, x = u2 := ⟨_, rfl⟩
    subst hS hP hAs hcs hAp hcp hu4
    have BS' := BS
    have BP' := BP
    have G1 := E1
    have G2 := E2
    have B4 := B2
    obtain ⟨n, hn⟩ : ∃ n, n = S.length := ⟨_, rfl⟩
    obtain ⟨m, hm⟩ : ∃ n, n = P.length := ⟨_, rfl⟩
    rw [← hn, ← hm]
    obtain ⟨me, hme⟩ : ∃ n, n = mulE S P := ⟨_, rfl⟩
    obtain ⟨mv, hmv⟩ : ∃ n, n = mulV S P := ⟨_, rfl⟩
    obtain ⟨be, hbe⟩ : ∃ n, n = mulE S nineL := ⟨_, rfl⟩
    obtain ⟨bv, hbv⟩ : ∃ n, n = mulV S nineL := ⟨_, rfl⟩
    have M1 := Aside0.mk (fun (W : World) (h : Below u4.heap.size u4 W) => show Calls Try.prog 8 #[.slice As n cs, .slice Ap m cp] W fun e w' => ∃ v, e = .returned (.tuple #[v, .int .i64 me]) ∧ (Kd.int .u8).R 5 w' W.heap.size (fun _ => True) v mv ∧ Below W.heap.size W w' from by rw [hn, hm, hme, hmv]; exact mul_calls As cs S Ap cp P W BS'.out BP'.out (Kd.C_below G1.out.1 h) G1.out.2 (Kd.C_below G2.out.1 h) G2.out.2)
    have M2 := Aside0.mk (fun (W : World) (h : Below u4.heap.size u4 W) => show Calls Try.prog 12 #[.slice As n cs, .slice Ap m cp] W fun e w' => ∃ v, e = .returned (.tuple #[v, .int .i64 me]) ∧ (Kd.int .u8).R 5 w' W.heap.size (fun _ => True) v mv ∧ Below W.heap.size W w' from by rw [hn, hm, hme, hmv]; exact rmul5_calls As cs S Ap cp P W BS'.out BP'.out (Kd.C_below G1.out.1 h) G1.out.2 (Kd.C_below G2.out.1 h) G2.out.2)
    have M3 := Aside0.mk (fun (W : World) (h : Below u4.heap.size u4 W) => show Calls Try.prog 10 #[.slice As n cs] W fun e w' => ∃ v, e = .returned (.tuple #[v, .int .i64 be]) ∧ (Kd.int .u8).R 5 w' W.heap.size (fun _ => True) v bv ∧ Below W.heap.size W w' from by rw [hn, hbe, hbv]; exact base_calls As cs S W BS'.out (Kd.C_below G1.out.1 h) G1.out.2)
    have M4 := Aside0.mk (fun (W : World) (h : Below u4.heap.size u4 W) => show Calls Try.prog 15 #[.slice As n cs] W fun e w' => ∃ v, e = .returned (.tuple #[v, .int .i64 be]) ∧ (Kd.int .u8).R 5 w' W.heap.size (fun _ => True) v bv ∧ Below W.heap.size W w' from by rw [hn, hbe, hbv]; exact rbase_calls As cs S W BS'.out (Kd.C_below G1.out.1 h) G1.out.2)
    clear hn hm hme hmv hbe hbv
    go_wp2_with fail
    refine (M1.out u4 (Below.refl _ _)).mono ?_
    rintro e u5 ⟨v5, rfl, hR, hB⟩
    obtain ⟨X1, k1, rfl, _, hC⟩ := Kd.R_reads hR
    have X1C := Aside0.mk hC
    have L5 := Aside0.mk hB
    clear hR hB hC
    go_wp2_with fail
    refine (M2.out u5 L5.out).mono ?_
    rintro e u6 ⟨v6, rfl, hR, hB⟩
    obtain ⟨X2, k2, rfl, _, hC⟩ := Kd.R_reads hR
    have X2C := Aside0.mk hC
    have X1D := Aside0.mk (Kd.C_below X1C.out hB)
    have L6 := Aside0.mk (below_step L5.out hB)
    clear hR hB hC X1C
    go_wp2_with fail
    refine (M3.out u6 L6.out).mono ?_
    rintro e u7 ⟨v7, rfl, hR, hB⟩
    obtain ⟨X3, k3, rfl, _, hC⟩ := Kd.R_reads hR
    have X3C := Aside0.mk hC
    have X1E := Aside0.mk (Kd.C_below X1D.out hB)
    have X2E := Aside0.mk (Kd.C_below X2C.out hB)
    have L7 := Aside0.mk (below_step L6.out hB)
    clear hR hB hC X1D X2C
    go_wp2_with fail
    refine (M4.out u7 L7.out).mono ?_
    rintro e u8 ⟨v8, rfl, hR, hB⟩
    obtain ⟨X4, k4, rfl, _, hC⟩ := Kd.R_reads hR
    have L8 := Aside0.mk (below_step L7.out hB)
    have q1 := Kd.C_string (P := Try.prog) (c := k1) Try.underlying22 Try.underlying5 Try.underlying9 (Kd.C_below X1E.out hB)
    have q2 := Kd.C_string (P := Try.prog) (c := k2) Try.underlying22 Try.underlying5 Try.underlying9 (Kd.C_below X2E.out hB)
    have q3 := Kd.C_string (P := Try.prog) (c := k3) Try.underlying22 Try.underlying5 Try.underlying9 (Kd.C_below X3C.out hB)
    have q4 := Kd.C_string (P := Try.prog) (c := k4) Try.underlying22 Try.underlying5 Try.underlying9 hC
    clear hR hB hC X1E X2E X3C
    go_wp2_with fail
    refine (known5_calls u8).mono ?_
    rintro e u9 ⟨rfl, hB⟩
    have LZ := Aside0.mk (B4.out.trans ((below_step L8.out hB).mono B4.out.size))
    clear hB
    go_wp2_with fail
    go_ret
    exact ⟨rfl, LZ.out⟩
end Go.Proofs.Ytlpoolcdoecodaa
