/-
  ChachaTells: blocks and streams are those that the reference tells, for any keys, nonces, counters and bytes; what is handed in stays. No condition.
-/
import Derived.Test.YtclabnfngchpfaaMChachaTellsx2
import Derived.Test.YtclabnfngchpfaaBits
namespace Go.Proofs.Ytclabnfngchpfaa.Pure
open Go.RowKit Go.Proofs.Ytclabnfngchpfaa.MChachaTells Go.Proofs.YtclabnfngchpfaaW.PrintWords Go.Proofs.YtclabnfngchpfaaW.PrintLast Go.Proofs.Ytclabnfngchpfaa.Arr Go.Proofs.Ytclabnfngchpfaa.Cha Go.Proofs.Ytclabnfngchpfaa.Bits

theorem tells_tail (key nonce b : List Int) (ctr : Int) (hb : b.length ≤ 400) :
    ((strongroombook_Roomy_byte.f b 165).bind fun t174 => ((chacha_Block.f key ctr nonce).bind fun bt177 => ((strongroomref2_Block.f key ctr nonce).bind fun bt181 => (if 0 ≤ (b.length : Int) then (if (b.length : Int) ≤ (t174.length : Int) then ((chacha_Xor.f key ctr nonce (t174.take ((b.length : Int) : Int).toNat)).bind fun bt189 => ((strongroomref2_Xor.f key ctr nonce b).bind fun bt193 => (if (strOfNums bt177.1).toList = (strOfNums bt181.1).toList then (if bt177.2 = bt181.2 then (if (strOfNums bt189.1).toList = (strOfNums bt193.1).toList then (if bt189.2 = bt193.2 then ((strongroombook_Intact_byte.f t174 b 165).bind fun t197 => (if t197 = true then ((strongroomlaw2_known.f).bind fun t198 => (some t198)) else (some false))) else (some false)) else (some false)) else (some false)) else (some false)))) else (none)) else (none))))) = some true := by
  have e : (roomyF b 165).take b.length = b := by simp [roomyF]
  have hl : (roomyF b 165).length = b.length + 80 := by simp [roomyF]
  unfold strongroombook_Roomy_byte.f chacha_Block.f strongroomref2_Block.f chacha_Xor.f strongroomref2_Xor.f strongroombook_Intact_byte.f
  rw [if_pos (by omega)]
  simp only [Option.bind_some, Int.toNat_natCast, e, hl]
  have e3 : roomyF b 165 = b ++ List.replicate 80 165 ∧ b.length ≤ 140737488351232 := ⟨rfl, by omega⟩
  have e4 : (b.length : Int) ≤ ((b.length + 80 : Nat) : Int) := by omega
  have e5 : b.length ≤ 140737488355328 := by omega
  rw [if_pos (by omega), if_pos e4, if_pos e5]
  simp only [Option.bind_some]
  rw [if_pos trivial, if_pos trivial, if_pos trivial, if_pos trivial, if_pos e3]
  rfl

theorem ChachaTells : strongroomlaw2_ChachaTells.Pure := by
  intro l0 l1 l2 a3 a4 m0 _ _ m1 _ _ m2 _ _ _
  unfold maxLen at m0 m1 m2
  have h2 : (l2.take 400).length ≤ 400 := by rw [List.length_take]; omega
  have h0 : (l0.take 40).length ≤ 40 := by rw [List.length_take]; omega
  have h1 : (l1.take 20).length ≤ 20 := by rw [List.length_take]; omega
  have c0 : strongroomkeep_CutR.f l0 40 = some (l0.take 40) := cut_some l0 40
  have c1 : strongroomkeep_CutR.f l1 20 = some (l1.take 20) := cut_some l1 20
  have c2 : strongroomkeep_CutR.f l2 400 = some (l2.take 400) := cut_some l2 400
  have s0 : strongroomkeep_Sized.f (l0.take 40) 32 = some (sizedF (l0.take 40) 32) := sized_some (l0.take 40) 32 (by omega) (by omega)
  have s1 : strongroomkeep_Sized.f (l1.take 20) 12 = some (sizedF (l1.take 20) 12) := sized_some (l1.take 20) 12 (by omega) (by omega)
  unfold strongroomlaw2_ChachaTells.f
  rw [c0, Option.bind_some, c1, Option.bind_some, c2, Option.bind_some]
  by_cases hw : a4 = true
  · rw [if_pos hw, s0, Option.bind_some, s1, Option.bind_some]
    exact tells_tail _ _ _ _ h2
  · rw [if_neg hw]
    exact tells_tail _ _ _ _ h2
end Go.Proofs.Ytclabnfngchpfaa.Pure
