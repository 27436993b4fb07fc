/-
  ChachaBlocks: noughts xored on are the blocks, one behind the other, from the counter on, around its end, for any keys, nonces, counters and lengths. No condition.
-/
import Derived.Test.YtclabnfngchpfaaMChachaBlocksx1
import Derived.Test.YtclabnfngchpfaaStream
namespace Go.Proofs.Ytclabnfngchpfaa.Pure
open Go.RowKit Go.Proofs.Ytclabnfngchpfaa.MChachaBlocks Go.Proofs.YtclabnfngchpfaaW.PrintWords Go.Proofs.YtclabnfngchpfaaW.PrintLast Go.Proofs.Ytclabnfngchpfaa.Arr Go.Proofs.Ytclabnfngchpfaa.Cha Go.Proofs.Ytclabnfngchpfaa.Bits

theorem blocks_loop (key nonce : List Int) (ctr : Int) (h0 : 0 ≤ ctr) (h1 : ctr ≤ 4294967295) (hk : key.length = 32) (hn : nonce.length = 12) (n : Nat) (hn3 : n ≤ 300) (d : Nat) : ∀ (k m : Nat), n ≤ 64 * (m + d) → m ≤ 5 → d < k →
    strongroomlaw2_ChachaBlocks.l0 k key nonce ctr n (xorF key ctr nonce (List.replicate n 0)) ((64 * m : Nat) : Int) = some true := by
  have hend : ∀ (k m : Nat), n ≤ 64 * m → 0 < k → strongroomlaw2_ChachaBlocks.l0 k key nonce ctr n (xorF key ctr nonce (List.replicate n 0)) ((64 * m : Nat) : Int) = some true := by
    intro k m hm hk'
    obtain ⟨k, rfl⟩ : ∃ z, k = z + 1 := ⟨k - 1, by omega⟩
    simp only [strongroomlaw2_ChachaBlocks.l0]
    rw [if_neg (by omega)]
    rfl
  induction d with
  | zero => intro k m hm h5 hk'; exact hend k m (by omega) hk'
  | succ d ih =>
    intro k m hm h5 hk'
    by_cases hlt : n ≤ 64 * m
    · exact hend k m hlt (by omega)
    · obtain ⟨k, rfl⟩ : ∃ z, k = z + 1 := ⟨k - 1, by omega⟩
      simp only [strongroomlaw2_ChachaBlocks.l0]
      have e1 : Int.tdiv ((64 * m : Nat) : Int) 64 = (m : Int) := by rw [Int.tdiv_eq_ediv_of_nonneg (by omega)]; omega
      have e2 : wrap64 ((m : Nat) : Int) = m := wrap_id (by omega) (by omega)
      have e3 : wrap64 (((64 * m : Nat) : Int) + 64) = ((64 * (m + 1) : Nat) : Int) := by rw [wrap_id (by omega) (by omega)]; omega
      have hb : chacha_Block.f key ((ctr + (m : Int)) % 4294967296) nonce = some (blockF key (ctrN ctr m) nonce, 0) := by rw [ctrN_eq ctr h0 h1]; exact block_some _ _ _ hk hn
      have hx : (xorF key ctr nonce (List.replicate n 0)).length = n := by rw [len_xorF, List.length_replicate]
      have hl := len_blockF key (ctrN ctr m) nonce
      have hnext := ih k (m + 1) (by omega) (by omega) (by omega)
      rw [if_pos (by omega), e1, e2, hb, Option.bind_some, e3]
      by_cases hlast : n < 64 * (m + 1)
      · have e4 : wrap64 ((n : Int) - ((64 * m : Nat) : Int)) = ((n - 64 * m : Nat) : Int) := by rw [wrap_id (by omega) (by omega)]; omega
        have hp := piece_block key ctr nonce n m (n - 64 * m) (by omega) (by omega)
        rw [show 64 * m + (n - 64 * m) = n by omega] at hp
        rw [if_pos (by omega), if_pos rfl, e4]
        simp only [Int.toNat_natCast]
        rw [if_pos (by rw [hl]; rfl), if_pos (by omega), if_pos (by rw [hl]; omega), if_pos (by omega), if_pos (by omega), if_pos (by rw [hx]; omega), if_pos (by rw [hp])]
        exact hnext
      · have e4 : wrap64 (((64 * (m + 1) : Nat) : Int) - ((64 * m : Nat) : Int)) = ((64 : Nat) : Int) := by rw [wrap_id (by omega) (by omega)]; omega
        have hp := piece_block key ctr nonce n m 64 (by omega) (by omega)
        rw [show 64 * m + 64 = 64 * (m + 1) by omega] at hp
        rw [if_neg (by omega), if_pos rfl, e4]
        simp only [Int.toNat_natCast]
        rw [if_pos (by rw [hl]; rfl), if_pos (by omega), if_pos (by rw [hl]; omega), if_pos (by omega), if_pos (by omega), if_pos (by rw [hx]; omega), if_pos (by rw [hp])]
        exact hnext

theorem ChachaBlocks : strongroomlaw2_ChachaBlocks.Pure := by
  intro l0 l1 a2 a3 m0 _ _ m1 _ _ w2 _
  unfold maxLen at m0 m1
  obtain ⟨c0, c1⟩ := u32_of_wf w2
  have hw := withinF_range a3 0 300 (by omega)
  obtain ⟨n, hn⟩ := Int.eq_ofNat_of_zero_le hw.1
  have hwi : strongroombook_Within.f a3 0 300 = some (n : Int) := by rw [within_some a3 0 300 (by omega) (by omega) (by omega), hn]
  have s0 : strongroomkeep_Sized.f l0 32 = some (sizedF l0 32) := sized_some l0 32 (by omega) (by omega)
  have s1 : strongroomkeep_Sized.f l1 12 = some (sizedF l1 12) := sized_some l1 12 (by omega) (by omega)
  have hx := xor_some (sizedF l0 32) (sizedF l1 12) (List.replicate n 0) a2 (len_sizedF _ _) (len_sizedF _ _) (by rw [List.length_replicate]; omega)
  have hl : (xorF (sizedF l0 32) a2 (sizedF l1 12) (List.replicate n 0)).length = n := by rw [len_xorF, List.length_replicate]
  refine ⟨7, ?_⟩
  unfold strongroomlaw2_ChachaBlocks.f
  rw [s0, Option.bind_some, s1, Option.bind_some, hwi, Option.bind_some, if_pos (by omega), if_pos (by omega), Int.toNat_natCast, hx, Option.bind_some, if_pos rfl, if_pos (by rw [hl])]
  exact blocks_loop _ _ a2 c0 c1 (len_sizedF _ _) (len_sizedF _ _) n (by omega) 5 7 0 (by omega) (by omega) (by omega)
end Go.Proofs.Ytclabnfngchpfaa.Pure
