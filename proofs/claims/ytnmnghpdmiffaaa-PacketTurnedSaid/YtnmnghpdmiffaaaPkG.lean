/-
  Packets that were made are read: the plain law.
-/
import Derived.Test.YtnmnghpdmiffaaaPkAll
namespace Go.Proofs.Ytnmnghpdmiffaaa.Pk
open Go.RowKit Go.Proofs.YtnmnghpdmiffaaaW.PrintWords Go.Proofs.YtnmnghpdmiffaaaW.PrintLast Go.Proofs.YtnmnghpdmiffaaaW.PrintMore Go.Proofs.Ytnmnghpdmiffaaa.Arr
set_option linter.unusedVariables false
set_option maxRecDepth 100000
theorem len_packetF (key : Option (List Int)) (n : Int) (b : List Int) (hk : ∀ k, key = some k → k.length = 32) : (packetF key n b).length = 5 + b.length + padN (headN key) b.length + tagN key := by
  rcases key with _ | k
  · unfold packetF sealF
    rw [List.length_append, len_bodyF]
    show 4 + _ = _ + 0
    omega
  · unfold packetF sealF
    rw [List.length_append]
    show _ + (sealAns k (nonceF n) (be32 (bodyF (some k) b).length) (bodyF (some k) b)).1.length = _
    rw [seal_eq (hk k rfl) (show (nonceF n).length = 12 from rfl)]
    show 4 + (hidF k (nonceF n) (bodyF (some k) b) ++ macF k (nonceF n) (be32 (bodyF (some k) b).length) (hidF k (nonceF n) (bodyF (some k) b))).length = _
    rw [List.length_append, len_hidF, len_macF, len_bodyF]
    show _ = _ + 16
    omega
theorem long4_be (m : Nat) (hm : m < 4294967296) (l : List Int) : long4 (be32 (m : Int) ++ l) = m := by
  unfold long4
  show (m : Int) / 16777216 % 256 * 16777216 + (m : Int) / 65536 % 256 * 65536 + (m : Int) / 256 % 256 * 256 + (m : Int) % 256 = m
  omega
theorem len_be (m : Int) : (be32 m).length = 4 := rfl
theorem bytes_bodyF {key : Option (List Int)} {b : List Int} (hb : ∀ x ∈ b, 0 ≤ x ∧ x < 256) : ∀ x ∈ bodyF key b, 0 ≤ x ∧ x < 256 := by
  intro x hx
  unfold bodyF at hx
  have hp := padN_ge (headN key) b.length
  rcases List.mem_append.1 hx with h | h
  · rcases List.mem_append.1 h with h | h
    · rw [List.mem_singleton.1 h]; omega
    · exact hb x h
  · rw [List.eq_of_mem_replicate h]; omega
theorem bytes_packetF {key : Option (List Int)} {n : Int} {b : List Int} (hk : ∀ k, key = some k → k.length = 32) (hb : ∀ x ∈ b, 0 ≤ x ∧ x < 256) : ∀ x ∈ packetF key n b, 0 ≤ x ∧ x < 256 := by
  intro x hx
  unfold packetF at hx
  rcases List.mem_append.1 hx with h | h
  · unfold be32 at h
    simp only [List.mem_cons, List.not_mem_nil, or_false] at h
    omega
  · rcases key with _ | k
    · exact bytes_bodyF hb x h
    · have e : sealF n (bodyF (some k) b) (some k) = hidF k (nonceF n) (bodyF (some k) b) ++ macF k (nonceF n) (be32 (bodyF (some k) b).length) (hidF k (nonceF n) (bodyF (some k) b)) := by
        show (sealAns k (nonceF n) (be32 (bodyF (some k) b).length) (bodyF (some k) b)).1 = _
        rw [seal_eq (hk k rfl) (show (nonceF n).length = 12 from rfl)]
      rw [e] at h
      rcases List.mem_append.1 h with h | h
      · have := Cha.bytes_xorF k 1 (nonceF n) (bodyF (some k) b) x h
        omega
      · have := bytes_macF _ _ _ _ x h
        omega
theorem C_block {w : World} {g o n : Nat} {xs : List Int} (h : (Kd.int .u8).C w (some ⟨g, o, none⟩) n xs) (h0 : 0 < n) : g < w.heap.size := by
  have h1 := C_head h h0
  unfold World.cell? at h1
  rcases hq : w.heap[g]? with _ | ob
  · simp only [hq] at h1; cases h1
  · exact (Array.getElem?_eq_some_iff.1 hq).1
/-- The payload is in the body. -/
theorem take_body (n : Int) (bs : List Int) (key : Option (List Int)) (b : List Int) (whole : Nat) (h1 : 1 ≤ b.length) : takeF n bs (bodyF key b) whole = ⟨b, true, 0, n + 1, bs.drop whole, 0⟩ := by
  have hp := padN_ge (headN key) b.length
  have hl := len_bodyF key b
  have h0 : (bodyF key b).getD 0 0 = (padN (headN key) b.length : Int) := rfl
  rw [takeF_ok (by rw [h0]; omega) (by rw [h0, hl]; omega), h0, hl, Int.toNat_natCast, show 1 + b.length + padN (headN key) b.length - padN (headN key) b.length = 1 + b.length by omega]
  have e : ((bodyF key b).take (1 + b.length)).drop 1 = b := by
    unfold bodyF
    rw [List.take_append_of_le_length (by simp; omega), List.take_of_length_le (by simp; omega)]
    rfl
  rw [e]
theorem next_whole (key : Option (List Int)) (n : Int) (b rest : List Int) (hk : ∀ k, key = some k → k.length = 32) (hb : ∀ x ∈ b, 0 ≤ x ∧ x < 256) (h1 : 1 ≤ b.length) (h2 : b.length ≤ 34000) :
    nextF key n (packetF key n b ++ rest) 0 = ⟨b, true, 0, n + 1, rest, 0⟩ := by
  have hp := padN_ge (headN key) b.length
  have hpi := padN_is (headN key) b.length
  have hl := len_bodyF key b
  have hlp := len_packetF key n b hk
  obtain ⟨M, hM⟩ : ∃ M, M = (bodyF key b).length := ⟨_, rfl⟩
  have e0 : packetF key n b ++ rest = be32 (M : Int) ++ (sealF n (bodyF key b) key ++ rest) := by unfold packetF; rw [List.append_assoc, hM]
  have hlong : long4 (packetF key n b ++ rest) = M := by rw [e0]; exact long4_be M (by omega) _
  have hn : (long4 (packetF key n b ++ rest)).toNat = M := by rw [hlong, Int.toNat_natCast]
  have c4 : 4 ≤ (packetF key n b ++ rest).length := by rw [List.length_append]; omega
  have c3 : long4 (packetF key n b ++ rest) ≤ 35000 := by rw [hlong]; omega
  have cF : 6 ≤ long4 (packetF key n b ++ rest) ∧ (long4 (packetF key n b ++ rest) + headN key) % 8 = 0 := by rw [hlong]; omega
  have cW : 4 + (long4 (packetF key n b ++ rest)).toNat + tagN key ≤ (packetF key n b ++ rest).length := by rw [hn, List.length_append]; omega
  have hdrop : (packetF key n b ++ rest).drop (4 + M + tagN key) = rest := by
    rw [List.drop_append_of_le_length (by omega), List.drop_of_length_le (by omega)]
    rfl
  have htk : (packetF key n b ++ rest).take (4 + M + tagN key) = packetF key n b := by
    rw [List.take_append_of_le_length (by omega), List.take_of_length_le (by omega)]
  have hd4 : (packetF key n b).drop 4 = sealF n (bodyF key b) key := by
    unfold packetF
    rw [List.drop_append_of_le_length (by rw [len_be]; omega), show (4 : Nat) = (be32 ((bodyF key b).length : Int)).length from rfl, List.drop_length]
    rfl
  rcases key with _ | k
  · rw [nextF_plain c4 c3 cF cW, hn]
    have htk' : (packetF none n b ++ rest).take (4 + M) = packetF none n b := htk
    have hdrop' : (packetF none n b ++ rest).drop (4 + M) = rest := hdrop
    rw [htk', hd4]
    show takeF n _ (bodyF none b) _ = _
    rw [take_body n _ none b _ h1, hdrop']
  · have htk' : (packetF (some k) n b ++ rest).take (4 + M + 16) = packetF (some k) n b := htk
    have hdrop' : (packetF (some k) n b ++ rest).drop (4 + M + 16) = rest := hdrop
    have h12 : (nonceF n).length = 12 := rfl
    have hs : sealF n (bodyF (some k) b) (some k) = hidF k (nonceF n) (bodyF (some k) b) ++ macF k (nonceF n) (be32 M) (hidF k (nonceF n) (bodyF (some k) b)) := by
      show (sealAns k (nonceF n) (be32 (bodyF (some k) b).length) (bodyF (some k) b)).1 = _
      rw [seal_eq (hk k rfl) h12, ← hM]
    have ht4 : (packetF (some k) n b ++ rest).take 4 = be32 M := by
      rw [e0, List.take_append_of_le_length (by rw [len_be]; omega), List.take_of_length_le (by rw [len_be]; omega)]
    have ho : openAns k (nonceF n) ((packetF (some k) n b ++ rest).take 4) (((packetF (some k) n b ++ rest).take (4 + M + 16)).drop 4) = (bodyF (some k) b, 0) := by
      rw [ht4, htk', hd4, hs, open_eq (hk k rfl) h12 _ _ _ (len_macF _ _ _ _), if_pos (same_self _), hid_hid _ _ _ (fun x hx => by have := bytes_bodyF hb x hx; omega)]
    rw [nextF_open c4 c3 cF cW (by rw [hn, ho]), hn, ho]
    show takeF n _ (bodyF (some k) b) _ = _
    rw [take_body n _ (some k) b _ h1, hdrop']
/-- A packet that is not whole. -/
theorem next_part (key : Option (List Int)) (n : Int) (b : List Int) (m : Nat) (hk : ∀ k, key = some k → k.length = 32) (h1 : 1 ≤ b.length) (h2 : b.length ≤ 34000) (hm : m < (packetF key n b).length) :
    nextF key n ((packetF key n b).take m) 0 = waitF n ((packetF key n b).take m) 0 := by
  have hp := padN_ge (headN key) b.length
  have hpi := padN_is (headN key) b.length
  have hl := len_bodyF key b
  have hlp := len_packetF key n b hk
  have hlt : ((packetF key n b).take m).length = m := by rw [List.length_take]; omega
  by_cases h4 : m < 4
  · unfold nextF
    rw [if_neg (by decide), if_pos (by rw [hlt]; exact h4)]
  · obtain ⟨M, hM⟩ : ∃ M, M = (bodyF key b).length := ⟨_, rfl⟩
    have e0 : (packetF key n b).take m = be32 (M : Int) ++ ((sealF n (bodyF key b) key).take (m - 4)) := by
      unfold packetF
      rw [List.take_append, ← hM, len_be, List.take_of_length_le (by rw [len_be]; omega)]
    have hlong : long4 ((packetF key n b).take m) = M := by rw [e0]; exact long4_be M (by omega) _
    have hn : (long4 ((packetF key n b).take m)).toNat = M := by rw [hlong, Int.toNat_natCast]
    exact nextF_wait (by rw [hlt]; omega) (by rw [hlong]; omega) (by rw [hlong]; omega) (by rw [hn, hlt]; omega)
end Go.Proofs.Ytnmnghpdmiffaaa.Pk
