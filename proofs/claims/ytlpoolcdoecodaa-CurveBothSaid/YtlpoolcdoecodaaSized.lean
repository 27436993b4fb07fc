/-
  Sized (the statements' helper), in the form in which the printed texts call a function, without rounds.
-/
import Derived.Test.YtlpoolcdoecodaaArr
import Derived.Test.YtlpoolcdoecodaaUBookx1
namespace Go.Proofs.Ytlpoolcdoecodaa
open Go.RowKit Go.Proofs.YtlpoolcdoecodaaW.PrintWords Go.Proofs.Ytlpoolcdoecodaa.Arr

/-- So many bytes, as these say, over and over. -/
def sizedF (b : List Int) (n : Nat) : List Int := (List.range n).map fun i => if b.length = 0 then 0 else rd b ((i % b.length : Nat) : Int)
theorem len_sizedF (b : List Int) (n : Nat) : (sizedF b n).length = n := by simp [sizedF]
theorem sized_l0 (b : List Int) (n : Nat) (hn : n ≤ 281474976710656) (hb : b.length ≤ 9223372036854775807) (d : Nat) : ∀ (k j : Nat), j + d = n → d < k →
    UBook.strongroomkeep_Sized.l0 k b n (fillF (fun i => if b.length = 0 then 0 else rd b ((i % b.length : Nat) : Int)) n j) j = some (sizedF b n) := by
  induction d with
  | zero =>
    intro k j hj hk
    obtain ⟨k, rfl⟩ : ∃ m, k = m + 1 := ⟨k - 1, by omega⟩
    obtain rfl : j = n := by omega
    simp only [UBook.strongroomkeep_Sized.l0]
    rw [if_neg (by omega), fillF_full, sizedF]
  | succ d ih =>
    intro k j hj hk
    obtain ⟨k, rfl⟩ : ∃ m, k = m + 1 := ⟨k - 1, by omega⟩
    simp only [UBook.strongroomkeep_Sized.l0]
    rw [if_pos (by omega)]
    by_cases hb0 : b.length = 0
    · rw [if_neg (by omega), fillF]
      simp only [hb0, if_true, sizedF]
      congr 1
      apply List.ext_getElem
      · simp; omega
      · intro i h1 h2
        simp [List.getElem_append]
    · rw [if_pos (by omega), if_neg (by omega)]
      have hm : Int.tmod (j : Int) (b.length : Int) = ((j % b.length : Nat) : Int) := by rw [Int.tmod_eq_emod_of_nonneg (by omega)]; rfl
      have hlt : j % b.length < b.length := Nat.mod_lt _ (by omega)
      rw [hm, if_pos (by omega), if_pos (by omega), if_pos (by omega), if_pos (by rw [len_fillF _ _ _ (by omega)]; omega)]
      rw [wrap_id (by omega) (by omega), show ((j : Int).toNat) = j by omega]
      have hs := fillF_set (fun i => if b.length = 0 then 0 else rd b ((i % b.length : Nat) : Int)) n j (by omega)
      rw [if_neg hb0] at hs
      rw [hs]
      exact ih k (j + 1) (by omega) (by omega)
def strongroomkeep_Sized.f (l0 : List Int) (a1 : Int) : Option (List Int) := if 0 ≤ a1 ∧ a1 ≤ 281474976710656 ∧ l0.length ≤ 9223372036854775807 then some (sizedF l0 a1.toNat) else none
theorem strongroomkeep_Sized.calls (A0 : Option Addr) (c0 : Nat) (l0 : List Int) (a1 : Int) (r : List Int) (w : World) (hr0 : Kd.C (Kd.int .u8) w A0 l0.length l0) (hc0 : l0.length ≤ c0) (h : strongroomkeep_Sized.f l0 a1 = some r) :
    Calls Try.prog 11 #[.slice A0 l0.length c0, .int .i64 a1] w fun e w' => ∃ v0_ : Value, e = .returned (v0_) ∧ Kd.R (Kd.int .u8) 5 w' w.heap.size (fun _ => True) v0_ r ∧ Below w.heap.size w w' := by
  unfold strongroomkeep_Sized.f at h
  split at h
  · rename_i hh
    obtain ⟨h0, h1, h2⟩ := hh
    obtain rfl := Option.some.inj h
    obtain ⟨n, rfl⟩ := Int.eq_ofNat_of_zero_le h0
    refine UBook.strongroomkeep_Sized.calls (n + 1) A0 c0 l0 n _ w hr0 hc0 ?_
    unfold UBook.strongroomkeep_Sized.f
    rw [if_pos h0, if_pos (by omega), show ((n : Int).toNat) = n by omega, ← fillF_zero (fun i => if l0.length = 0 then 0 else rd l0 ((i % l0.length : Nat) : Int)) n]
    exact sized_l0 l0 n (by omega) h2 n (n + 1) 0 (by omega) (by omega)
  · cases h

theorem sized_some (l : List Int) (n : Nat) (hn : n ≤ 281474976710656) (hl : l.length ≤ 9223372036854775807) : strongroomkeep_Sized.f l (n : Int) = some (sizedF l n) := by
  unfold strongroomkeep_Sized.f
  rw [if_pos ⟨by omega, by omega, hl⟩, Int.toNat_natCast]
end Go.Proofs.Ytlpoolcdoecodaa
