/-
  Cut (lists of bytes that came in): the same list, no longer than asked; in the form in which the printed texts call a function without results.
-/
import Derived.Test.YtlpoolcdoecodaaArr
namespace Go.Proofs.Ytlpoolcdoecodaa
open Go.RowKit Go.Proofs.YtlpoolcdoecodaaW.PrintWords

def strongroomkeep_CutR.f (l0 : List Int) (a1 : Int) : Option (List Int) := if 0 ≤ a1 then some (l0.take a1.toNat) else none
theorem cutR_eq {l r : List Int} {n : Int} (h : strongroomkeep_CutR.f l n = some r) : 0 ≤ n ∧ r = l.take n.toNat := by
  unfold strongroomkeep_CutR.f at h
  split at h
  · exact ⟨by assumption, (Option.some.inj h).symm⟩
  · cases h
theorem cutR_C {k : IntKind} {w : World} {A : Option Addr} {c : Nat} {l r : List Int} {n : Int} (h : (Kd.int k).C w A l.length l) (_hc : l.length ≤ c) (hf : strongroomkeep_CutR.f l n = some r) : (Kd.int k).C w A r.length r := by
  rw [(cutR_eq hf).2]
  by_cases hn : n.toNat ≤ l.length
  · exact Kd.C_take h hn
  · rw [List.take_of_length_le (by omega)]
    exact h
theorem cutR_len {c : Nat} {l r : List Int} {n : Int} (hc : l.length ≤ c) (hf : strongroomkeep_CutR.f l n = some r) : r.length ≤ c := by
  rw [(cutR_eq hf).2, List.length_take]; omega
theorem strongroomkeep_CutR.calls (A0 : Option Addr) (c0 : Nat) (l0 : List Int) (a1 : Int) (r : List Int) (w : World) (_hr0 : Kd.C (Kd.int .u8) w A0 l0.length l0) (hc0 : l0.length ≤ c0) (h : strongroomkeep_CutR.f l0 a1 = some r) :
    Calls Try.prog 14 #[.slice A0 l0.length c0, .int .i64 a1] w fun e w' => e = .returned (.slice A0 r.length c0) ∧ Drawn0 w w' := by
  obtain ⟨h0, hr⟩ := cutR_eq h
  have hl : r.length = min a1.toNat l0.length := by rw [hr, List.length_take]
  rw [hl]
  clear h hr hl
  obtain ⟨I0, hI0⟩ : ∃ i, Try.prog.info? 5 = some i := ⟨_, rfl⟩
  by_cases hn : a1 < (l0.length : Int)
  · have hcut := cut_to (P := Try.prog) 22 5 .i64 Try.underlying22 hI0 A0 l0.length c0 a1 h0 (by omega) hc0
    have hd : decide (a1 < (l0.length : Int)) = true := decide_eq_true hn
    have he := Aside0.mk (show a1.toNat = min a1.toNat l0.length by omega)
    clear hn
    go_enter Try.func14, Try.ntmps14
    go_wp2
    go_ret
    exact ⟨by rw [← he.out]; rfl, Drawn0.refl _⟩
  · have hd : decide (a1 < (l0.length : Int)) = false := decide_eq_false hn
    have he := Aside0.mk (show l0.length = min a1.toNat l0.length by omega)
    clear hn
    go_enter Try.func14, Try.ntmps14
    go_wp2
    go_ret
    exact ⟨by rw [← he.out]; rfl, Drawn0.refl _⟩
theorem cut_some (l : List Int) (n : Nat) : strongroomkeep_CutR.f l (n : Int) = some (l.take n) := by
  unfold strongroomkeep_CutR.f
  rw [if_pos (by omega), Int.toNat_natCast]
end Go.Proofs.Ytlpoolcdoecodaa
