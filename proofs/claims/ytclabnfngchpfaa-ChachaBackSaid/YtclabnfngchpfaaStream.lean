/-
  Plain facts on the stream of chapter 2: its bytes, its counter, its pieces.
-/
import Derived.Test.YtclabnfngchpfaaChachaX
import Derived.Test.YtclabnfngchpfaaBits
namespace Go.Proofs.Ytclabnfngchpfaa.Cha
open Go.RowKit Go.Proofs.YtclabnfngchpfaaW.PrintWords Go.Proofs.Ytclabnfngchpfaa.Arr Go.Proofs.Ytclabnfngchpfaa.Bits

theorem bytes_outB (x s : List Int) : ∀ i, Bytes (outB x s i)
  | 0 => fun _ h => by simp [outB] at h
  | i + 1 => by
    rw [outB]
    refine (bytes_outB x s i).append fun y hy => ?_
    simp only [bytes4, List.mem_cons, List.not_mem_nil, or_false] at hy
    omega
theorem bytes_blockF (key : List Int) (ctr : Int) (nonce : List Int) : Bytes (blockF key ctr nonce) := bytes_outB _ _ _
theorem strm_range (key : List Int) (ctr : Int) (nonce : List Int) (j : Nat) : 0 ≤ strm key ctr nonce j ∧ strm key ctr nonce j ≤ 255 := (bytes_blockF _ _ _).rd _
theorem bytes_xorF (key : List Int) (ctr : Int) (nonce b : List Int) : Bytes (xorF key ctr nonce b) := by
  intro x hx
  simp only [xorF, List.mem_map] at hx
  obtain ⟨j, _, rfl⟩ := hx
  exact xor8_range _ _
theorem ctrN_eq (ctr : Int) (h0 : 0 ≤ ctr) (h1 : ctr ≤ 4294967295) : ∀ m : Nat, ctrN ctr m = (ctr + m) % 4294967296
  | 0 => by simp only [ctrN]; omega
  | m + 1 => by rw [ctrN, ctrN_eq ctr h0 h1 m]; omega
theorem ctrN_range (ctr : Int) (h0 : 0 ≤ ctr) (h1 : ctr ≤ 4294967295) (m : Nat) : 0 ≤ ctrN ctr m ∧ ctrN ctr m ≤ 4294967295 := by rw [ctrN_eq ctr h0 h1]; omega
theorem ctrN_add (ctr : Int) (h0 : 0 ≤ ctr) (h1 : ctr ≤ 4294967295) (m n : Nat) : ctrN (ctrN ctr m) n = ctrN ctr (m + n) := by
  have := ctrN_range ctr h0 h1 m
  rw [ctrN_eq _ this.1 this.2, ctrN_eq ctr h0 h1, ctrN_eq ctr h0 h1]; omega
theorem strm_add (key : List Int) (ctr : Int) (nonce : List Int) (h0 : 0 ≤ ctr) (h1 : ctr ≤ 4294967295) (m j : Nat) : strm key (ctrN ctr m) nonce j = strm key ctr nonce (64 * m + j) := by
  unfold strm
  rw [ctrN_add ctr h0 h1, show (64 * m + j) / 64 = m + j / 64 by omega, show (64 * m + j) % 64 = j % 64 by omega]
theorem get_xorF (key : List Int) (ctr : Int) (nonce b : List Int) (j : Nat) (h : j < (xorF key ctr nonce b).length) : (xorF key ctr nonce b)[j] = xorAt key ctr nonce b j := by
  simp [xorF]
theorem rd_getElem (l : List Int) (j : Nat) (h : j < l.length) : rd l (j : Int) = l[j] := by simp [rd, List.getD_eq_getElem?_getD, h]
theorem rd_xorF (key : List Int) (ctr : Int) (nonce b : List Int) (j : Nat) (h : j < b.length) : rd (xorF key ctr nonce b) (j : Int) = xorAt key ctr nonce b j := by
  rw [rd_getElem _ _ (by rw [len_xorF]; exact h), get_xorF]
/-- Pieces of whole blocks go by themselves. -/
theorem xorF_take (key : List Int) (ctr : Int) (nonce b : List Int) (m : Nat) : xorF key ctr nonce (b.take m) = (xorF key ctr nonce b).take m := by
  apply List.ext_getElem
  · simp [len_xorF]
  · intro j h1 h2
    rw [len_xorF, List.length_take] at h1
    rw [get_xorF, List.getElem_take, get_xorF]
    unfold xorAt
    rw [rd_getElem _ _ (by rw [List.length_take]; omega), rd_getElem _ _ (by omega), List.getElem_take]
theorem xorF_drop (key : List Int) (ctr : Int) (nonce b : List Int) (h0 : 0 ≤ ctr) (h1 : ctr ≤ 4294967295) (m : Nat) : xorF key (ctrN ctr m) nonce (b.drop (64 * m)) = (xorF key ctr nonce b).drop (64 * m) := by
  apply List.ext_getElem
  · simp [len_xorF]
  · intro j h2 h3
    rw [len_xorF, List.length_drop] at h2
    rw [get_xorF, List.getElem_drop, get_xorF]
    unfold xorAt
    rw [rd_getElem _ _ (by rw [List.length_drop]; omega), rd_getElem _ _ (by omega), List.getElem_drop, strm_add key ctr nonce h0 h1]
/-- Noughts xored on are the stream. -/
theorem xorF_zero (key : List Int) (ctr : Int) (nonce : List Int) (n j : Nat) (h : j < n) : xorAt key ctr nonce (List.replicate n 0) j = strm key ctr nonce j := by
  unfold xorAt
  rw [rd_getElem _ _ (by simpa using h), List.getElem_replicate]
  exact zero_xor8 _ (strm_range _ _ _ _).1 (strm_range _ _ _ _).2
/-- A piece of it is a block's beginning. -/
theorem piece_block (key : List Int) (ctr : Int) (nonce : List Int) (n m e : Nat) (he : e ≤ 64) (hn : 64 * m + e ≤ n) :
    ((xorF key ctr nonce (List.replicate n 0)).take (64 * m + e)).drop (64 * m) = (blockF key (ctrN ctr m) nonce).take e := by
  apply List.ext_getElem
  · simp [len_xorF, len_blockF]; omega
  · intro j h1 h2
    rw [List.length_take, len_blockF] at h2
    rw [List.getElem_drop, List.getElem_take, List.getElem_take, get_xorF, xorF_zero _ _ _ _ _ (by omega)]
    unfold strm
    rw [show (64 * m + j) / 64 = m by omega, show (64 * m + j) % 64 = j by omega, rd_getElem _ _ (by rw [len_blockF]; omega)]
/-- Xor of Xor is what it was. -/
theorem xorF_twice (key : List Int) (ctr : Int) (nonce b : List Int) (hb : Bytes b) : xorF key ctr nonce (xorF key ctr nonce b) = b := by
  apply List.ext_getElem
  · simp [len_xorF]
  · intro j h1 h2
    rw [get_xorF]
    unfold xorAt
    rw [rd_xorF _ _ _ _ _ h2]
    unfold xorAt
    have := hb.rd (j : Int)
    rw [xor8_twice _ _ this.1 this.2, rd_getElem _ _ h2]
theorem u32_of_wf {x : Int} (h : (Lit.int .u32 x).wf = true) : 0 ≤ x ∧ x ≤ 4294967295 := by
  simp [Lit.wf] at h
  have e1 : IntKind.u32.min = 0 := rfl
  have e2 : IntKind.u32.max = 4294967295 := rfl
  omega
end Go.Proofs.Ytclabnfngchpfaa.Cha
