/-
  ChachaSame: two texts hidden by one stream differ just where they differ themselves, for any keys, nonces, counters and texts. No condition.
-/
import Derived.Test.YtclabnfngchpfaaMChachaSamex1
import Derived.Test.YtclabnfngchpfaaBits
namespace Go.Proofs.Ytclabnfngchpfaa.Pure
open Go.RowKit Go.Proofs.Ytclabnfngchpfaa.MChachaSame Go.Proofs.YtclabnfngchpfaaW.PrintWords Go.Proofs.YtclabnfngchpfaaW.PrintLast Go.Proofs.Ytclabnfngchpfaa.Arr Go.Proofs.Ytclabnfngchpfaa.Cha Go.Proofs.Ytclabnfngchpfaa.Bits

theorem same_loop (key nonce a b : List Int) (ctr : Int) (n : Nat) (ha : a.length = n) (hb : b.length = n) (hn : n ≤ 1000) (d : Nat) : ∀ (k i : Nat), i + d = n → d < k →
    strongroomlaw2_ChachaSame.l0 k a b (xorF key ctr nonce a) (xorF key ctr nonce b) i = some true := by
  induction d with
  | zero =>
    intro k i hi hk
    obtain ⟨k, rfl⟩ : ∃ m, k = m + 1 := ⟨k - 1, by omega⟩
    simp only [strongroomlaw2_ChachaSame.l0]
    rw [if_neg (by omega)]
    rfl
  | succ d ih =>
    intro k i hi hk
    obtain ⟨k, rfl⟩ : ∃ m, k = m + 1 := ⟨k - 1, by omega⟩
    simp only [strongroomlaw2_ChachaSame.l0]
    rw [if_pos (by omega), if_pos (by omega), if_pos (by rw [len_xorF]; omega), if_pos (by rw [len_xorF]; omega), if_pos (by omega)]
    unfold xorF
    rw [rd_map _ _ _ (by omega), rd_map _ _ _ (by omega)]
    unfold xorAt
    rw [xor8_cancel, if_pos rfl, wrap_id (by omega) (by omega)]
    exact ih k (i + 1) (by omega) (by omega)

theorem ChachaSame : strongroomlaw2_ChachaSame.Pure := by
  intro l0 l1 l2 l3 a4 m0 _ _ m1 _ _ m2 _ _ m3 _ _ _
  unfold maxLen at m0 m1 m2 m3
  refine ⟨301, ?_⟩
  unfold strongroomlaw2_ChachaSame.f strongroomkeep_Sized.f strongroomkeep_CutR.f chacha_Xor.f xorAns
  have hl : (l2.take 300).length ≤ 300 := by rw [List.length_take]; omega
  rw [if_pos ⟨by omega, by omega, by omega⟩, Option.bind_some, if_pos ⟨by omega, by omega, by omega⟩, Option.bind_some, if_pos (by omega), Option.bind_some]
  rw [show ((300 : Int).toNat) = 300 from rfl, show ((32 : Int).toNat) = 32 from rfl, show ((12 : Int).toNat) = 12 from rfl]
  rw [if_pos ⟨by omega, by omega, by omega⟩, Option.bind_some, if_pos (by omega), if_pos ⟨len_sizedF _ _, len_sizedF _ _⟩, Option.bind_some]
  have hs := len_sizedF l3 ((l2.take 300).length : Int).toNat
  rw [if_pos (by omega), if_pos ⟨len_sizedF _ _, len_sizedF _ _⟩, Option.bind_some]
  simp only [if_true]
  have hx := len_xorF (sizedF l0 32) a4 (sizedF l1 12) (l2.take 300)
  have hy := len_xorF (sizedF l0 32) a4 (sizedF l1 12) (sizedF l3 ((l2.take 300).length : Int).toNat)
  rw [hx, if_pos rfl, hy, hs, Int.toNat_natCast, if_pos rfl]
  exact same_loop _ _ _ _ _ (l2.take 300).length rfl (by rw [len_sizedF]) (by omega) (l2.take 300).length 301 0 (by omega) (by omega)
end Go.Proofs.Ytclabnfngchpfaa.Pure
