/-
  ChachaBack: a stream xored on twice is nothing; pieces of whole blocks go by themselves; each byte is turned by itself, for any keys, nonces, counters and bytes. No condition.
-/
import Derived.Test.YtclabnfngchpfaaMChachaBackx1
import Derived.Test.YtclabnfngchpfaaStream
namespace Go.Proofs.Ytclabnfngchpfaa.Pure
open Go.RowKit Go.Proofs.Ytclabnfngchpfaa.MChachaBack Go.Proofs.YtclabnfngchpfaaW.PrintWords Go.Proofs.YtclabnfngchpfaaW.PrintLast Go.Proofs.Ytclabnfngchpfaa.Arr Go.Proofs.Ytclabnfngchpfaa.Cha Go.Proofs.Ytclabnfngchpfaa.Bits

theorem strOfNums_append (a b : List Int) : strOfNums a ++ strOfNums b = strOfNums (a ++ b) := by
  apply ByteArray.ext
  rw [ByteArray.data_append]
  simp [strOfNums]

theorem rd_set (l : List Int) (n i : Nat) (v : Int) (hi : i < l.length) : rd (l.set n v) (i : Int) = if n = i then v else rd l (i : Int) := by
  rw [rd_getElem _ _ (by rw [List.length_set]; exact hi), rd_getElem _ _ hi, List.getElem_set]

theorem back_loop (key nonce b : List Int) (ctr turn : Int) (hb : b.length ≤ 400) (n : Nat) (d : Nat) : ∀ (k i : Nat), i + d = b.length → d < k →
    strongroomlaw2_ChachaBack.l0 k b turn (xorF key ctr nonce b) n (xorF key ctr nonce (b.set n (Go.bits .xor .u8 (rd b n) turn))) i = some true := by
  have hl : (xorF key ctr nonce b).length = b.length := len_xorF _ _ _ _
  have hz : (xorF key ctr nonce (b.set n (Go.bits .xor .u8 (rd b n) turn))).length = b.length := by rw [len_xorF, List.length_set]
  induction d with
  | zero =>
    intro k i hi hk
    obtain ⟨k, rfl⟩ : ∃ m, k = m + 1 := ⟨k - 1, by omega⟩
    simp only [strongroomlaw2_ChachaBack.l0]
    rw [if_neg (by omega), if_pos (by omega)]
    rfl
  | succ d ih =>
    intro k i hi hk
    obtain ⟨k, rfl⟩ : ∃ m, k = m + 1 := ⟨k - 1, by omega⟩
    have hx := rd_xorF key ctr nonce b i (by omega)
    have hy := rd_xorF key ctr nonce (b.set n (Go.bits .xor .u8 (rd b n) turn)) i (by rw [List.length_set]; omega)
    unfold xorAt at hx hy
    rw [rd_set _ _ _ _ (by omega)] at hy
    have hnext := ih k (i + 1) (by omega) (by omega)
    simp only [strongroomlaw2_ChachaBack.l0]
    rw [if_pos (by omega), if_pos (by omega), if_pos (by omega)]
    by_cases hn : n = i
    · subst hn
      rw [if_pos rfl] at hy
      rw [if_pos rfl, if_neg (by omega), if_pos (by omega), if_pos (by rw [hx, hy, xor8_swap]), wrap_id (by omega) (by omega)]
      exact hnext
    · rw [if_neg hn] at hy
      rw [if_neg (by omega), if_neg (by omega), if_pos (by omega), if_pos (by rw [hx, hy]), wrap_id (by omega) (by omega)]
      exact hnext

theorem ChachaBack : strongroomlaw2_ChachaBack.Pure := by
  intro l0 l1 l2 a3 a4 a5 a6 m0 _ _ m1 _ _ m2 _ w2 w3 _ _ _
  unfold maxLen at m0 m1 m2
  obtain ⟨h0, h1⟩ := u32_of_wf w3
  have s0 : strongroomkeep_Sized.f l0 32 = some (sizedF l0 32) := sized_some l0 32 (by omega) (by omega)
  have s1 : strongroomkeep_Sized.f l1 12 = some (sizedF l1 12) := sized_some l1 12 (by omega) (by omega)
  have c2 : strongroomkeep_CutR.f l2 400 = some (l2.take 400) := cut_some l2 400
  have hlen : (l2.take 400).length ≤ 400 := by rw [List.length_take]; omega
  have hbytes : Bytes (l2.take 400) := (bytes_of_wf w2).take 400
  obtain ⟨b, hb⟩ : ∃ b, b = l2.take 400 := ⟨_, rfl⟩
  obtain ⟨key, hkey⟩ : ∃ key, key = sizedF l0 32 := ⟨_, rfl⟩
  obtain ⟨nonce, hnonce⟩ : ∃ nonce, nonce = sizedF l1 12 := ⟨_, rfl⟩
  have hk : key.length = 32 := by rw [hkey, len_sizedF]
  have hn : nonce.length = 12 := by rw [hnonce, len_sizedF]
  rw [← hkey] at s0
  rw [← hnonce] at s1
  rw [← hb] at c2 hlen hbytes
  clear hb hkey hnonce m0 m1 m2 w2 w3
  have e1 : wrap64 ((b.length : Int) / 64) = ((b.length / 64 : Nat) : Int) := by rw [wrap_id (by omega) (by omega)]; omega
  have hw := withinF_range a4 0 ((b.length / 64 : Nat) : Int) (by omega)
  obtain ⟨m, hm⟩ := Int.eq_ofNat_of_zero_le hw.1
  have hwi : strongroombook_Within.f a4 0 ((b.length / 64 : Nat) : Int) = some (m : Int) := by rw [within_some _ _ _ (by omega) (by omega) (by omega), hm]
  have hm2 : 64 * m ≤ b.length := by omega
  have e2 : wrap64 (64 * (m : Int)) = ((64 * m : Nat) : Int) := by rw [wrap_id (by omega) (by omega)]; omega
  have hx := xor_some key nonce b a3 hk hn (by omega)
  have hy := xor_some key nonce (xorF key a3 nonce b) a3 hk hn (by rw [len_xorF]; omega)
  rw [xorF_twice _ _ _ _ hbytes] at hy
  have hp := xor_some key nonce (b.take (64 * m)) a3 hk hn (by rw [List.length_take]; omega)
  rw [xorF_take] at hp
  have e3 : (a3 + (m : Int) % 4294967296) % 4294967296 = ctrN a3 m := by rw [ctrN_eq a3 h0 h1]; omega
  have hq := xor_some key nonce (b.drop (64 * m)) (ctrN a3 m) hk hn (by rw [List.length_drop]; omega)
  rw [xorF_drop _ _ _ _ h0 h1] at hq
  have hsz : (strOfNums ((xorF key a3 nonce b).take (64 * m))).size + (strOfNums ((xorF key a3 nonce b).drop (64 * m))).size ≤ 9223372036854775807 := by
    rw [strOfNums_size, strOfNums_size, List.length_take, List.length_drop, len_xorF]; omega
  have hjoin : strOfNums ((xorF key a3 nonce b).take (64 * m)) ++ strOfNums ((xorF key a3 nonce b).drop (64 * m)) = strOfNums (xorF key a3 nonce b) := by rw [strOfNums_append, List.take_append_drop]
  refine ⟨b.length + 1, ?_⟩
  unfold strongroomlaw2_ChachaBack.f
  rw [s0, Option.bind_some, s1, Option.bind_some, c2, Option.bind_some, hx, Option.bind_some]
  simp only []
  rw [hy, Option.bind_some, e1, hwi, Option.bind_some, e2, if_pos (by omega), if_pos (by omega), Int.toNat_natCast, hp, Option.bind_some, e3, hq, Option.bind_some]
  rw [if_pos rfl, if_pos rfl, if_pos rfl, if_pos rfl]
  simp only [if_true]
  rw [if_pos hsz, if_pos (by rw [hjoin])]
  by_cases hz : (b.length : Int) = 0
  · rw [if_pos hz]
    rfl
  · have e4 : wrap64 ((b.length : Int) - 1) = ((b.length - 1 : Nat) : Int) := by rw [wrap_id (by omega) (by omega)]; omega
    have hw' := withinF_range a5 0 ((b.length - 1 : Nat) : Int) (by omega)
    obtain ⟨n, hn'⟩ := Int.eq_ofNat_of_zero_le hw'.1
    have hwi' : strongroombook_Within.f a5 0 ((b.length - 1 : Nat) : Int) = some (n : Int) := by rw [within_some _ _ _ (by omega) (by omega) (by omega), hn']
    have hc := xor_some key nonce (b.set n (Go.bits .xor .u8 (rd b n) a6)) a3 hk hn (by rw [List.length_set]; omega)
    rw [if_neg hz, Option.bind_some, if_pos (by simp; omega), List.nil_append, Option.bind_some, e4, hwi', Option.bind_some, if_pos (by omega), if_pos (by omega), Int.toNat_natCast, hc, Option.bind_some]
    exact back_loop key nonce b a3 a6 hlen n b.length (b.length + 1) 0 (by omega) (by omega)
end Go.Proofs.Ytclabnfngchpfaa.Pure
