/-
  payloads of law 8, walked.
-/
import Derived.Test.YtnmnghpdmiffaaaPkH
namespace Go.Proofs.Ytnmnghpdmiffaaa.Pk
open Go.RowKit Go.Proofs.YtnmnghpdmiffaaaW.PrintWords Go.Proofs.YtnmnghpdmiffaaaW.PrintLast Go.Proofs.YtnmnghpdmiffaaaW.PrintMore Go.Proofs.Ytnmnghpdmiffaaa.Arr
set_option linter.unusedVariables false
set_option maxHeartbeats 8000000
set_option maxRecDepth 100000
/-- Slices as values. -/
abbrev Tri := Option Addr × Nat × Nat
def encS (x : Tri) : Value := .slice x.1 x.2.1 x.2.2
abbrev KdS : Kd Tri := Kd.scalar encS (fun _ => rfl)
def noS : Tri := (none, 0, 0)
/-- A slice that holds a list in w. -/
def Holds (w : World) (x : Tri) (l : List Int) : Prop := x.2.1 = l.length ∧ (Kd.int .u8).C w x.1 l.length l ∧ l.length ≤ x.2.2
/-- Slices that hold lists. -/
def HoldsL (w : World) (ts : List Tri) (ls : List (List Int)) : Prop := ts.length = ls.length ∧ ∀ i, i < ls.length → Holds w (ts.getD i noS) (ls.getD i [])
theorem HoldsL.below {w w' : World} {ts : List Tri} {ls : List (List Int)} (h : HoldsL w ts ls) (hb : Below w.heap.size w w') : HoldsL w' ts ls :=
  ⟨h.1, fun i hi => ⟨(h.2 i hi).1, Kd.C_below (h.2 i hi).2.1 hb, (h.2 i hi).2.2⟩⟩
theorem getD_app1 {α : Type} (l r : List α) (d : α) (i : Nat) (h : i < l.length) : (l ++ r).getD i d = l.getD i d := by
  rw [List.getD_eq_getElem?_getD, List.getD_eq_getElem?_getD, List.getElem?_append_left h]
theorem getD_app2 {α : Type} (l : List α) (x d : α) : (l ++ [x]).getD l.length d = x := by
  rw [List.getD_eq_getElem?_getD, List.getElem?_append_right (Nat.le_refl _), Nat.sub_self]
  rfl
theorem HoldsL.snoc {w : World} {ts : List Tri} {ls : List (List Int)} (h : HoldsL w ts ls) {x : Tri} {l : List Int} (hx : Holds w x l) : HoldsL w (ts ++ [x]) (ls ++ [l]) := by
  refine ⟨by simp [h.1], fun i hi => ?_⟩
  rw [List.length_append, List.length_singleton] at hi
  by_cases he : i < ls.length
  · rw [getD_app1 _ _ _ _ (by rw [h.1]; exact he), getD_app1 _ _ _ _ he]
    exact h.2 i he
  · obtain rfl : i = ls.length := by omega
    rw [getD_app2]
    have e : (ts ++ [x]).getD ls.length noS = x := by rw [← h.1, getD_app2]
    rw [e]
    exact hx
/-- An argument that is a list of lists. -/
def ArgL (w : World) (La : Option Addr) (n : Nat) (xs : List (List Int)) : Prop := xs.length = n ∧ ∀ i, i < n → ∃ (a : Addr) (A : Option Addr) (c : Nat), La = some a ∧ w.cell? (a.add i) = some (.slice A (xs.getD i []).length c) ∧ (Kd.int .u8).C w A (xs.getD i []).length (xs.getD i []) ∧ (xs.getD i []).length ≤ c
theorem argL_of {w : World} {La : Option Addr} {n : Nat} (h : ∀ i, i < n → ∃ (a : Addr) (A : Option Addr) (c : Nat) (x : List Int), La = some a ∧ w.cell? (a.add i) = some (.slice A x.length c) ∧ (Kd.int .u8).C w A x.length x ∧ x.length ≤ c ∧ ∀ z ∈ x, 0 ≤ z ∧ z < 256) :
    ∃ xs, ArgL w La n xs ∧ ∀ x ∈ xs, ∀ z ∈ x, 0 ≤ z ∧ z < 256 := by
  have key : ∀ m, m ≤ n → ∃ xs : List (List Int), xs.length = m ∧ (∀ i, i < m → ∃ (a : Addr) (A : Option Addr) (c : Nat), La = some a ∧ w.cell? (a.add i) = some (.slice A (xs.getD i []).length c) ∧ (Kd.int .u8).C w A (xs.getD i []).length (xs.getD i []) ∧ (xs.getD i []).length ≤ c) ∧ ∀ x ∈ xs, ∀ z ∈ x, 0 ≤ z ∧ z < 256 := by
    intro m
    induction m with
    | zero => intro _; exact ⟨[], rfl, fun i hi => by omega, fun x hx => by cases hx⟩
    | succ m ih =>
      intro hm
      obtain ⟨xs, h1, h2, h3⟩ := ih (by omega)
      obtain ⟨a, A, c, x, e1, e2, e3, e4, e5⟩ := h m (by omega)
      refine ⟨xs ++ [x], by simp [h1], fun i hi => ?_, fun y hy => ?_⟩
      · by_cases he : i < m
        · rw [getD_app1 _ _ _ _ (by omega)]
          exact h2 i he
        · obtain rfl : i = m := by omega
          have e : (xs ++ [x]).getD i [] = x := by rw [← h1, getD_app2]
          rw [e]
          exact ⟨a, A, c, e1, e2, e3, e4⟩
      · rcases List.mem_append.1 hy with hy | hy
        · exact h3 y hy
        · rw [List.mem_singleton.1 hy]; exact e5
  obtain ⟨xs, h1, h2, h3⟩ := key n (Nat.le_refl _)
  exact ⟨xs, ⟨h1, h2⟩, h3⟩
/-- What is not empty of the first n, cut. -/
def payS (xs : List (List Int)) : Nat → List (List Int)
  | 0 => []
  | i + 1 => if 0 < (xs.getD i []).length then payS xs i ++ [(xs.getD i []).take 200] else payS xs i
theorem len_payS (xs : List (List Int)) : ∀ i, (payS xs i).length ≤ i
  | 0 => Nat.le_refl _
  | i + 1 => by
    have := len_payS xs i
    rw [payS]
    split
    · simp; omega
    · omega
theorem mem_payS (xs : List (List Int)) (hb : ∀ x ∈ xs, ∀ z ∈ x, 0 ≤ z ∧ z < 256) : ∀ i, ∀ x ∈ payS xs i, 1 ≤ x.length ∧ x.length ≤ 200 ∧ ∀ z ∈ x, 0 ≤ z ∧ z < 256
  | 0, x, hx => by cases hx
  | i + 1, x, hx => by
    rw [payS] at hx
    split at hx
    · rcases List.mem_append.1 hx with hx | hx
      · exact mem_payS xs hb i x hx
      · rw [List.mem_singleton.1 hx]
        refine ⟨by rw [List.length_take]; omega, by rw [List.length_take]; omega, fun z hz => ?_⟩
        have hz' := List.mem_of_mem_take hz
        rw [List.getD_eq_getElem?_getD] at hz'
        rcases hj : xs[i]? with _ | y
        · rw [hj] at hz'; cases hz'
        · rw [hj] at hz'
          exact hb y (List.mem_of_getElem? hj) z hz'
    · exact mem_payS xs hb i x hx
theorem info_sl : (Try.prog.info? 23).map (fun i => (i.zero, i.size, i.bytes)) = some (some (.slice none 0 0), 1, 24) := by kernel_rfl
theorem lit_CS (W : World) (e : TypeId) (x : Tri) (fr : Nat × Nat) : KdS.C (W.alloc (.cells #[encS x] e fr)) (some ⟨W.heap.size, 0, none⟩) 1 [x] := by
  refine Kd.C_of_reads (enc := encS) (d := noS) (h1 := fun _ => rfl) ⟨rfl, by decide, fun _ => ⟨_, rfl, fun j hj => ?_⟩⟩
  obtain rfl : j = 0 := by omega
  rw [Go.Proofs.YtnmnghpdmiffaaaW.PrintWords.add_plain]
  have := heap_alloc_new W (.cells #[encS x] e fr)
  unfold World.cell?
  simp only [this]
  rfl
theorem payloads_calls (La : Option Addr) (n c : Nat) (xs : List (List Int)) (w : World) (hA : ArgL w La n xs) (hn : n ≤ c) :
    Calls Try.prog 25 #[.slice La n c] w fun e w' => ∃ v ts, e = .returned v ∧ KdS.R 23 w' w.heap.size (fun _ => True) v ts ∧ HoldsL w ts (payS xs (min n 12)) ∧ Below w.heap.size w w' := by
  have HA := Aside0.mk hA
  clear hA hn
  go_enter Try.func25, Try.ntmps25
  go_wp2_with fail
  go_loopw [3, 4] (fun v3 v4 w' => ∃ i : Nat, i ≤ n ∧ i ≤ 12 ∧ v4 = .int .i64 (i : Int) ∧ Aside0 (∃ ts, KdS.R 23 w' w.heap.size (fun _ => True) v3 ts ∧ HoldsL w ts (payS xs i)) ∧ Aside0 (Below w.heap.size w w')) (fun _ v _ => 12 - (intOf v).toNat)
  case atStart => exact ⟨0, by omega, by omega, rfl, ⟨[], Kd.R_nil .., ⟨rfl, fun i hi => by cases hi⟩⟩, ⟨Below.refl _ _⟩⟩
  case round =>
    obtain ⟨i, hi, hi2, rfl, HT, HB⟩ := hrel
    by_cases hin : i < n ∧ i < 12
    · obtain ⟨h1, h2⟩ := hin
      obtain ⟨a, A, c1, rfl, hcell, hC, hc1⟩ := HA.out.2 i h1
      have k1 : (i : Int) < (n : Int) := by omega
      have k2 : (i : Int) < 12 := by omega
      have x1 : wr.cell? (a.add i) = some (.slice A (xs.getD i []).length c1) := cell_kept hcell HB.out
      obtain ⟨x, hx⟩ : ∃ x, x = xs.getD i [] := ⟨_, rfl⟩
      rw [← hx] at x1 hC hc1
      obtain ⟨l, hl⟩ : ∃ l, l = x.length := ⟨_, rfl⟩
      rw [← hl] at x1
      have HX := Aside0.mk (And.intro hx (And.intro hl (And.intro hC hc1)))
      have K12 := Aside0.mk (And.intro h1 h2)
      have k3 : wrap64 ((i : Int) + 1) = (i : Int) + 1 := by rw [wrap_id (by omega) (by omega)]
      clear hcell hC hc1 hx hl
      by_cases h0 : 0 < l
      · have h0i : (0 : Int) < (l : Int) := by omega
        have H0 := Aside0.mk h0
        clear h0
        go_wp2_with fail
        have fc := cut_some x 200
        obtain ⟨s, hs⟩ : ∃ s, s = x.take 200 := ⟨_, rfl⟩
        rw [← hs] at fc
        have hcc := strongroomkeep_CutR.calls A c1 x 200 s wr (Kd.C_below HX.out.2.2.1 HB.out) HX.out.2.2.2 fc
        rw [← HX.out.2.1] at hcc
        refine hcc.mono ?_
        rintro e w2 ⟨rfl, ⟨n2, rfl⟩⟩
        have B2 := Aside0.mk (pw_below_drewN HB.out n2)
        have HSx := Aside0.mk (show Holds w (A, s.length, c1) s from ⟨rfl, cutR_C HX.out.2.2.1 HX.out.2.2.2 fc, cutR_len HX.out.2.2.2 fc⟩)
        have HS := Aside0.mk (show payS xs (i + 1) = payS xs i ++ [s] by
          rw [payS, if_pos (by rw [← HX.out.1, ← HX.out.2.1]; exact H0.out), hs, HX.out.1])
        obtain ⟨ts, hR, hH⟩ := HT.out
        have RT := Aside0.mk (Kd.R_drewN hR n2)
        have HH := Aside0.mk hH
        have LT := Aside0.mk (show ts.length ≤ 12 by rw [hH.1]; have := len_payS xs i; have := K12.out; omega)
        generalize wr.drewN n2 = w2 at B2 RT ⊢
        obtain ⟨m, hm⟩ : ∃ m, m = s.length := ⟨_, rfl⟩
        rw [← hm] at HSx ⊢
        clear hs fc hcc hR hH hm HT HB
        have BL := Aside0.mk (show Below w2.heap.size w2 (w2.alloc (.cells #[encS (A, m, c1)] 23)) from (Below.refl _ _).alloc (Nat.le_refl _) _)
        go_wp2_with ((with_reducible refine gate_builtin (b := .append) (xs := #[.tmp 21, .tmp 27]) rfl ?_); at_builtin; (refine Kd.R_append_row (w0 := w) encS noS (h1 := fun _ => rfl) w.heap.size rfl (.tmp 21) (.tmp 27) 22 23 (.slice none 0 0) 24 rfl Try.underlying22 info_sl rfl (by decide) u3 ts [(A, m, c1)] (some ⟨w2.heap.size, 0, none⟩) 1 1 (fun _ => True) rfl rfl (fun _ _ => trivial) ?q1 ?q2 ?q3 ?q4 ?q5 ?_; (case q1 => exact Kd.R_below RT.out BL.out); (case q2 => exact lit_CS w2 _ _ _); (case q3 => exact below_step B2.out BL.out); (case q4 => exact Nat.le_trans B2.out.size BL.out.size); (case q5 => have := LT.out; omega); intro v7 w7 hR hB _ _; have R7 := Aside0.mk hR; have B7 := Aside0.mk hB; clear hR hB))
        refine ⟨⟨i + 1, K12.out.1, K12.out.2, by first | rfl | (rw [wrap_id (by have := K12.out; omega) (by have := K12.out; omega)]; rfl), ⟨_, R7.out, by rw [HS.out]; exact HH.out.snoc HSx.out⟩, B7⟩, ?_⟩
        have := K12.out
        first | (simp only [intOf]; omega) | (rw [wrap_id (by omega) (by omega)]; simp only [intOf]; omega)
      · obtain rfl : l = 0 := by omega
        have HS := Aside0.mk (show payS xs (i + 1) = payS xs i by
          rw [payS, if_neg (by rw [← HX.out.1, ← HX.out.2.1]; omega)])
        clear h0
        go_wp2_with fail
        refine ⟨⟨i + 1, K12.out.1, K12.out.2, by first | rfl | (rw [wrap_id (by have := K12.out; omega) (by have := K12.out; omega)]; rfl), ⟨by rw [HS.out]; exact HT.out⟩, HB⟩, ?_⟩
        have := K12.out
        first | (simp only [intOf]; omega) | (rw [wrap_id (by omega) (by omega)]; simp only [intOf]; omega)
    · have HE := Aside0.mk (show i = min n 12 by omega)
      by_cases h1 : i < n
      · have k1 : (i : Int) < (n : Int) := by omega
        have k2 : ¬ ((i : Int) < 12) := by omega
        clear hin
        go_wp2_with fail
        go_ret
        obtain ⟨ts, hR, hH⟩ := HT.out
        rw [HE.out] at hH
        exact ⟨_, rfl, ts, hR, hH, HB.out⟩
      · have k1 : ¬ ((i : Int) < (n : Int)) := by omega
        clear hin
        go_wp2_with fail
        go_ret
        obtain ⟨ts, hR, hH⟩ := HT.out
        rw [HE.out] at hH
        exact ⟨_, rfl, ts, hR, hH, HB.out⟩
end Go.Proofs.Ytnmnghpdmiffaaa.Pk
