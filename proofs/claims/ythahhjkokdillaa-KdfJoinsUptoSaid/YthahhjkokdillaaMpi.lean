/-
  wire.Writer.Mpint, walked.
-/
import Derived.Test.YthahhjkokdillaaWr
import Derived.Test.YthahhjkokdillaaStrN
namespace Go.Proofs.Ythahhjkokdillaa.Wire
open Go.RowKit Go.Proofs.YthahhjkokdillaaW.PrintWords Go.Proofs.YthahhjkokdillaaW.PrintLast Go.Proofs.YthahhjkokdillaaW.PrintMore Go.Proofs.Ythahhjkokdillaa.Arr Go.Proofs.Ythahhjkokdillaa.Bits
set_option linter.unusedVariables false
/-- A number's bytes without noughts ahead. -/
def bare : List Int → List Int
  | [] => []
  | x :: r => if x = 0 then bare r else x :: r
/-- .. with a nought ahead where the highest bit is set. -/
def mpS (l : List Int) : List Int := match bare l with
  | [] => []
  | x :: r => if 128 ≤ x then 0 :: x :: r else x :: r
/-- A text's bytes behind its length. -/
def textF (y : List Int) : List Int := beB (y.length : Int) 4 ++ y
theorem len_textF (y : List Int) : (textF y).length = y.length + 4 := by rw [textF, List.length_append, len_beB]; omega
theorem len_bare : ∀ l, (bare l).length ≤ l.length
  | [] => Nat.le_refl _
  | x :: r => by
    rw [bare]
    split
    · have := len_bare r
      rw [List.length_cons]; omega
    · exact Nat.le_refl _
theorem len_mpS (l : List Int) : (mpS l).length ≤ l.length + 1 := by
  have h := len_bare l
  unfold mpS
  split
  · simp
  · rename_i x r e
    rw [e] at h
    split <;> simp only [List.length_cons] at h ⊢ <;> omega
theorem bytesOf_str (y : List Int) (h : Bytes y) : bytesOf (strOfNums y) = y := by
  unfold bytesOf
  rw [strOfNums_data, List.map_map]
  refine (List.map_congr_left (fun x hx => ?_)).trans (List.map_id y)
  have b1 := h x hx
  simp only [Function.comp, UInt8.toNat_ofNat', id]
  omega
theorem str_cons0 (y : List Int) : strOfNums (0 :: y) = ⟨#[0]⟩ ++ strOfNums y := by
  apply ByteArray.ext
  simp [strOfNums]
theorem str_head (x : Int) (r : List Int) (hB : Bytes (x :: r)) (h : 0 < (strOfNums (x :: r)).size) : ((((strOfNums (x :: r))[0]'h).toNat : Nat) : Int) = x := by
  have b1 := hB x (List.mem_cons_self ..)
  have e : (strOfNums (x :: r))[0]'h = UInt8.ofNat x.toNat := rfl
  rw [e, UInt8.toNat_ofNat']
  omega
def lenV : Value → Nat
  | .slice _ n _ => n
  | _ => 0
variable {w w' w1 : World} {g base : Nat} {ok : Nat → Prop} {v v1 : Value} {xs ys : List Int}
set_option maxHeartbeats 8000000
set_option maxRecDepth 100000
theorem mpint_calls (A1 : Option Addr) (c1 : Nat) (l1 : List Int) (hr : (Kd.int .u8).C w A1 l1.length l1) (hc : l1.length ≤ c1) (hB : Bytes l1) (hz : l1.length ≤ 100000) (H0 : WS w g base ok v xs) (hl : xs.length ≤ 40000000) :
    Calls Try.prog 22 #[.pointer (some ⟨g, 0, none⟩), .slice A1 l1.length c1] w fun e w' => e = .returned (.tuple #[]) ∧ ∃ v', WS w' g base ok v' (xs ++ textF (mpS l1)) ∧ Fr w w' g base ok := by
  have W0 := Aside0.mk H0
  have HL := Aside0.mk hl
  obtain ⟨bq, hbq⟩ : ∃ q, q = bare l1 := ⟨_, rfl⟩
  have HBQ := Aside0.mk hbq
  have S0 := Aside0.mk (show (Kd.int .u8).C w A1 l1.length l1 ∧ l1.length ≤ c1 ∧ Bytes l1 ∧ l1.length ≤ 100000 ∧ bare l1 = bq ∧ l1.length = l1.length from ⟨hr, hc, hB, hz, hbq.symm, rfl⟩)
  have TX := Aside0.mk (fun (y : List Int) (hy : Bytes y) (hyl : y.length ≤ 200000) => text_calls (strOfNums y) (by rw [strOfNums_size]; omega) H0 (by omega))
  clear H0 hl hr hc hB hz hbq
  go_enter Try.func22, Try.ntmps22
  go_wp2_with fail
  go_loopw [1] (fun v w' => ∃ (A : Option Addr) (n c : Nat) (l : List Int), v = .slice A n c ∧ Aside0 ((Kd.int .u8).C w A l.length l ∧ l.length ≤ c ∧ Bytes l ∧ l.length ≤ 100000 ∧ bare l = bq ∧ l.length = n) ∧ w' = w) (fun v _ => lenV v)
  case atStart => exact ⟨A1, l1.length, c1, l1, rfl, ⟨S0.out.1, S0.out.2.1, S0.out.2.2.1, S0.out.2.2.2.1, S0.out.2.2.2.2.1, rfl⟩, by first | rfl | trivial⟩
  case round =>
    obtain ⟨A, n, c, l, rfl, HS, hw⟩ := hrel
    replace hw := hw.symm
    subst hw
    have q0 : (convert 22 9 (.slice A n c)).run Try.prog w = .ok (.string (strOfNums l)) w := by
      have h := Kd.C_string (P := Try.prog) (c := c) Try.underlying22 Try.underlying5 Try.underlying9 HS.out.1
      rw [HS.out.2.2.2.2.2] at h
      exact h
    have fin : ∀ (y : List Int) (w3 : World), y = mpS l1 → Bytes y → (∃ v', WS w3 g base ok v' (xs ++ beB ((strOfNums y).size : Int) 4 ++ bytesOf (strOfNums y)) ∧ Fr w w3 g base ok) → ∃ v', WS w3 g base ok v' (xs ++ textF (mpS l1)) ∧ Fr w w3 g base ok := by
      rintro y w3 rfl hy ⟨v3, h3, f3⟩
      rw [bytesOf_str _ hy, strOfNums_size] at h3
      exact ⟨v3, by rw [textF, ← List.append_assoc]; exact h3, f3⟩
    rcases l with _ | ⟨x, r⟩
    · obtain rfl : n = 0 := by have := HS.out.2.2.2.2.2; simp at this; exact this.symm
      rw [show strOfNums [] = ⟨#[]⟩ from rfl] at q0
      have hb : [] = mpS l1 := by unfold mpS; rw [← HBQ.out, ← HS.out.2.2.2.2.1]; rfl
      have HT := Aside0.mk (TX.out [] (fun x hx => nomatch hx) (by decide))
      have HF := Aside0.mk (fin [])
      clear fin
      go_wp2_with fail
      refine HT.out.mono ?_
      rintro e w3 ⟨rfl, h3⟩
      go_wp2_with fail
      go_end0
      exact ⟨rfl, HF.out w3 hb (fun x hx => nomatch hx) h3⟩
    · have hn : n = r.length + 1 := by have := HS.out.2.2.2.2.2; rw [List.length_cons] at this; exact this.symm
      have hn0 : 0 < n := by omega
      have hn1 : (0 : Int) < (n : Int) := by omega
      have hn2 : 1 ≤ n := hn0
      obtain ⟨ad, rfl, hcell⟩ := (Kd.reads_of_C (enc := Value.int .u8) (d := (0 : Int)) (h1 := fun _ => rfl) HS.out.1).2.2 (by simp)
      have h0 := hcell 0 (by simp)
      rw [show ad.add 0 = ad by cases ad; simp [Addr.add]] at h0
      have h0' : w.cell? ad = some (.int .u8 x) := h0
      have HN := Aside0.mk hn
      clear hcell h0 hn
      by_cases hx : x = 0
      · subst hx
        have hd := Kd.C_drop (m := 1) HS.out.1 (by simp) HS.out.2.1
        have HD := Aside0.mk (show (Kd.int .u8).C w (if c = 1 then some ad else some (ad.add 1)) r.length r from hd)
        clear hd q0 fin
        go_wp2_with fail
        have hl1 : r.length = n - 1 := by have := HN.out; omega
        refine ⟨⟨_, n - 1, c - 1, r, rfl, ⟨HD.out, by have := HS.out.2.1; rw [List.length_cons] at this; omega, fun z hz => HS.out.2.2.1 z (List.mem_cons_of_mem _ hz), by have := HS.out.2.2.2.1; rw [List.length_cons] at this; omega, ?_, hl1⟩, trivial⟩, ?_⟩
        · have := HS.out.2.2.2.2.1; rw [bare, if_pos rfl] at this; exact this
        · simp only [lenV]; omega
      · have hx1 : (x == 0) = false := by simp [hx]
        have hBy : Bytes (x :: r) := HS.out.2.2.1
        have hlen : (x :: r).length ≤ 100000 := HS.out.2.2.2.1
        have hbq : bare l1 = x :: r := by rw [← HBQ.out, ← HS.out.2.2.2.2.1, bare, if_neg hx]
        have hTX := TX.out (x :: r) hBy (by omega)
        have hTY := TX.out (0 :: x :: r) (fun z hz => by rcases List.mem_cons.1 hz with rfl | hz; (exact ⟨by decide, by decide⟩); exact hBy z hz) (by rw [List.length_cons]; omega)
        obtain ⟨s, hs⟩ : ∃ s, s = strOfNums (x :: r) := ⟨_, rfl⟩
        have hs0 : strOfNums (0 :: x :: r) = ⟨#[0]⟩ ++ s := by rw [hs]; exact str_cons0 (x :: r)
        have hs2 : 0 < s.size := by rw [hs, strOfNums_size]; simp
        have hs1 : ¬ s.toList = [] := by
          intro h
          rw [hs, ByteArray.toList_eq, strOfNums_data] at h
          simp at h
        have hs5 : s.toList.isEmpty = false := by simp [hs1]
        have hs4 : (((s[0]'hs2).toNat : Nat) : Int) = x := by subst hs; exact str_head x r hBy hs2
        have hs6 : ¬ 9223372036854775807 < 1 + s.size := by rw [hs, strOfNums_size]; omega
        rw [← hs] at q0
        have HX := Aside0.mk (And.intro hbq (And.intro hBy (And.intro hs hs0)))
        rw [← hs] at hTX
        rw [hs0] at hTY
        have HTX := Aside0.mk hTX
        have HTY := Aside0.mk hTY
        have HF := Aside0.mk fin
        clear hBy hbq hTX hTY hs hs0 fin hlen hn0 hn1 hn2
        have hn0 : 0 < n := by rw [HN.out]; omega
        have hn1 : (0 : Int) < (n : Int) := by omega
        by_cases h128 : 128 ≤ x
        · have hd : decide (128 ≤ x) = true := decide_eq_true h128
          go_wp2_with fail
          refine HTY.out.mono ?_
          rintro e w3 ⟨rfl, h3⟩
          rw [← HX.out.2.2.2] at h3
          have H3 := Aside0.mk h3
          clear h3
          go_wp2_with fail
          go_end0
          refine ⟨rfl, HF.out (0 :: x :: r) w3 ?_ (fun z hz => by rcases List.mem_cons.1 hz with rfl | hz; (exact ⟨by decide, by decide⟩); exact HX.out.2.1 z hz) H3.out⟩
          unfold mpS
          rw [HX.out.1]
          exact (if_pos h128).symm
        · have hd : decide (128 ≤ x) = false := decide_eq_false h128
          go_wp2_with fail
          refine HTX.out.mono ?_
          rintro e w3 ⟨rfl, h3⟩
          rw [HX.out.2.2.1] at h3
          have H3 := Aside0.mk h3
          clear h3
          go_wp2_with fail
          go_end0
          refine ⟨rfl, HF.out (x :: r) w3 ?_ HX.out.2.1 H3.out⟩
          unfold mpS
          rw [HX.out.1]
          exact (if_neg (by omega)).symm
end Go.Proofs.Ythahhjkokdillaa.Wire
