/-
  Mul and Base, walked.
-/
import Derived.Test.YtlpoolcdoecodaaCvI
namespace Go.Proofs.Ytlpoolcdoecodaa.Cv
open Go.RowKit Go.Proofs.YtlpoolcdoecodaaW.PrintWords Go.Proofs.YtlpoolcdoecodaaW.PrintLast Go.Proofs.YtlpoolcdoecodaaW.PrintMore Go.Proofs.Ytlpoolcdoecodaa.Arr
set_option linter.unusedVariables false
set_option maxHeartbeats 8000000
set_option maxRecDepth 100000
def mulV (s p : List Int) : List Int := if s.length = 32 ∧ p.length = 32 then curveF s p else []
def mulE (s p : List Int) : Int := if s.length = 32 ∧ p.length = 32 then 0 else 1
def nineL : List Int := 9 :: List.replicate 31 0
theorem mul_calls (A0 : Option Addr) (c0 : Nat) (s : List Int) (A1 : Option Addr) (c1 : Nat) (p : List Int) (w : World) (hbs : ∀ x ∈ s, 0 ≤ x ∧ x < 256) (hbp : ∀ x ∈ p, 0 ≤ x ∧ x < 256)
    (hC0 : (Kd.int .u8).C w A0 s.length s) (hc0 : s.length ≤ c0) (hC1 : (Kd.int .u8).C w A1 p.length p) (hc1 : p.length ≤ c1) :
    Calls Try.prog 8 #[.slice A0 s.length c0, .slice A1 p.length c1] w fun e w' => ∃ v, e = .returned (.tuple #[v, .int .i64 (mulE s p)]) ∧ (Kd.int .u8).R 5 w' w.heap.size (fun _ => True) v (mulV s p) ∧ Below w.heap.size w w' := by
  unfold mulE mulV
  obtain ⟨n, hn⟩ : ∃ n, n = s.length := ⟨_, rfl⟩
  obtain ⟨m, hm⟩ : ∃ m, m = p.length := ⟨_, rfl⟩
  rw [← hn] at hC0 hc0
  rw [← hm] at hC1 hc1
  rw [← hn, ← hm]
  by_cases h0 : n = 32
  · subst h0
    by_cases h1 : m = 32
    · subst h1
      rw [if_pos ⟨rfl, rfl⟩, if_pos ⟨rfl, rfl⟩]
      have CL := Aside0.mk (ladder_calls A0 c0 s A1 c1 p w hn.symm hm.symm hbs hbp hC0 hc0 hC1 hc1)
      clear hbs hbp hC0 hc0 hC1 hc1 hn hm
      go_enter Try.func8, Try.ntmps8
      go_wp2_with fail
      refine CL.out.mono ?_
      rintro e w1 ⟨v, rfl, hR, hB⟩
      have HR := Aside0.mk hR
      have HB := Aside0.mk hB
      clear hR hB
      go_wp2_with fail
      go_ret2
      exact ⟨_, rfl, HR.out, HB.out⟩
    · rw [if_neg (fun h => h1 h.2), if_neg (fun h => h1 h.2)]
      have d1 : ¬ (m : Int) = 32 := by omega
      have d2 : ((m : Int) == 32) = false := by simp; omega
      clear hbs hbp hC0 hc0 hC1 hc1 hn hm
      go_enter Try.func8, Try.ntmps8
      go_wp2_with fail
      go_ret2
      exact ⟨_, rfl, Kd.R_nil _ _ _ _ _, Below.refl _ _⟩
  · rw [if_neg (fun h => h0 h.1), if_neg (fun h => h0 h.1)]
    have d1 : ¬ (n : Int) = 32 := by omega
    have d2 : ((n : Int) == 32) = false := by simp; omega
    clear hbs hbp hC0 hc0 hC1 hc1 hn hm
    go_enter Try.func8, Try.ntmps8
    go_wp2_with fail
    go_ret2
    exact ⟨_, rfl, Kd.R_nil _ _ _ _ _, Below.refl _ _⟩
theorem C_of_is8 {w : World} {b : Nat} {xs : List Int} (h : Is w b 5 .u8 xs) (hl : xs.length ≤ 9223372036854775807) : (Kd.int .u8).C w (some ⟨b, 0, none⟩) xs.length xs := by
  refine Kd.C_of_reads (enc := Value.int .u8) (d := (0 : Int)) (h1 := fun _ => rfl) ⟨rfl, hl, fun _ => ⟨_, rfl, fun j hj => ?_⟩⟩
  rw [Go.Proofs.YtlpoolcdoecodaaW.PrintWords.add_plain, h.cell j hj, rd_nat]
theorem base_calls (A0 : Option Addr) (c0 : Nat) (s : List Int) (w : World) (hbs : ∀ x ∈ s, 0 ≤ x ∧ x < 256) (hC0 : (Kd.int .u8).C w A0 s.length s) (hc0 : s.length ≤ c0) :
    Calls Try.prog 10 #[.slice A0 s.length c0] w fun e w' => ∃ v, e = .returned (.tuple #[v, .int .i64 (mulE s nineL)]) ∧ (Kd.int .u8).R 5 w' w.heap.size (fun _ => True) v (mulV s nineL) ∧ Below w.heap.size w w' := by
  have H0 := Aside0.mk (And.intro hC0 hc0)
  have HB := Aside0.mk hbs
  obtain ⟨n, hn⟩ : ∃ n, n = s.length := ⟨_, rfl⟩
  rw [← hn]
  have HN := Aside0.mk hn
  clear hbs hC0 hc0 hn
  have e32 : madeCells #[.int .u8 0] 32 = (nums .u8 (List.replicate 32 0)).toArray := by kernel_rfl
  have hmk : ∀ W : World, (Instr.makeSlice 22 (.int .i64 32) (.int .i64 32)).run Try.prog W = .ok (.slice (some ⟨W.heap.size, 0, none⟩) 32 32) (W.alloc (.cells (nums .u8 (List.replicate 32 0)).toArray 5)) := fun W => by
    have h := run_make_row' (P := Try.prog) 22 5 (.int .u8 0) 1 Try.underlying22 info_u8 rfl .i64 .i64 32 (by decide) (by decide) W
    rw [e32] at h
    exact h
  clear e32
  go_enter Try.func10, Try.ntmps10
  go_upto_region 2 with (fail)
  change Code.wp _ _ _ _ (w.alloc (.cells (nums .u8 (List.replicate 32 0)).toArray 5))
  have i1 : Is (w.alloc (.cells (nums .u8 (List.replicate 32 0)).toArray 5)) w.heap.size 5 .u8 (List.replicate 32 0) := new_is w 5 .u8 _
  have b1 : Below w.heap.size w (w.alloc (.cells (nums .u8 (List.replicate 32 0)).toArray 5)) := (Below.refl _ _).alloc (Nat.le_refl _) _
  generalize w.alloc (.cells (nums .u8 (List.replicate 32 0)).toArray 5) = w1 at i1 b1 ⊢
  obtain ⟨g, hg⟩ : ∃ g, g = w.heap.size := ⟨_, rfl⟩
  rw [← hg] at i1 ⊢
  have I1 := Aside0.mk i1
  have B1 := Aside0.mk b1
  have HG := Aside0.mk (show w.heap.size ≤ g by omega)
  clear i1 b1 hg hmk
  have cc := I1.out.cell 0 (by simp)
  have ff := I1.out.free 0
  go_upto_region 3 with (fail)
  rw [put_set I1.out]
  change Code.wp _ _ _ _ (put w1 g .u8 ((List.replicate 32 0).set 0 9))
  rw [show (List.replicate 32 (0 : Int)).set 0 9 = nineL from rfl]
  have P1 := Aside0.mk (put_heap (ys := nineL) I1.out)
  have BP := Aside0.mk (below_put (k := .u8) (ys := nineL) B1.out HG.out)
  generalize put w1 g .u8 nineL = w2 at P1 BP ⊢
  clear cc ff
  have CM := Aside0.mk (show Calls Try.prog 8 #[.slice A0 n c0, .slice (some ⟨g, 0, none⟩) 32 32] w2 _ from by
    rw [HN.out]
    exact mul_calls A0 c0 s (some ⟨g, 0, none⟩) 32 nineL w2 HB.out (by decide) (Kd.C_below H0.out.1 BP.out) H0.out.2 (C_of_is8 P1.out (by decide)) (by decide))
  go_wp2_with fail
  refine CM.out.mono ?_
  rintro e w3 ⟨v, rfl, hR, hB⟩
  have HR := Aside0.mk (Kd.R_lower hR BP.out.size)
  have HBB := Aside0.mk (below_step BP.out hB)
  clear hR hB
  go_wp2_with fail
  go_ret2
  exact ⟨_, rfl, HR.out, HBB.out⟩
end Go.Proofs.Ytlpoolcdoecodaa.Cv
