/-
  Plain facts on poly's tags: bits of the key that are cleared by rule don't matter.
-/
import Derived.Test.YtgnanhphdodhoaaPolyH
import Derived.Test.YtgnanhphdodhoaaBits
namespace Go.Proofs.Ytgnanhphdodhoaa.Pol
open Go.RowKit Go.Proofs.YtgnanhphdodhoaaW.PrintWords Go.Proofs.Ytgnanhphdodhoaa.Arr Go.Proofs.Ytgnanhphdodhoaa.Bits

theorem rd_set (l : List Int) (i j : Nat) (v : Int) (hi : i < l.length) : rd (l.set i v) (j : Int) = if j = i then v else rd l j := by
  simp only [rd, Int.toNat_natCast, List.getD_eq_getElem?_getD]
  by_cases h : j = i
  · subst h; simp [hi]
  · rw [if_neg h, List.getElem?_set_ne (Ne.symm h)]
theorem ext_rd (l m : List Int) (hl : l.length = m.length) (h : ∀ j : Nat, j < l.length → rd l j = rd m j) : l = m := by
  apply List.ext_getElem hl
  intro j h1 h2
  have := h j h1
  simp only [rd, Int.toNat_natCast, List.getD_eq_getElem?_getD, List.getElem?_eq_getElem h1, List.getElem?_eq_getElem h2, Option.getD_some] at this
  exact this
theorem clampN_rd (l : List Int) (k : Nat) (hk : k ≤ l.length) : ∀ j : Nat, j < l.length → rd (clampN l k) j = if j < k then clampV j (rd l j) else rd l j := by
  induction k with
  | zero => intro j hj; rw [if_neg (by omega)]; rfl
  | succ k ih =>
    intro j hj
    rw [clampN, rd_set _ _ _ _ (by rw [len_clampN]; omega), ih (by omega) j hj, ih (by omega) k (by omega)]
    by_cases h : j = k
    · subst h; rw [if_pos rfl, if_neg (by omega), if_pos (by omega)]
    · rw [if_neg h]
      by_cases h2 : j < k
      · rw [if_pos h2, if_pos (by omega)]
      · rw [if_neg h2, if_neg (by omega)]
theorem clampF_congr (key key' : List Int) (hl : key.length = 32) (hl' : key'.length = 32) (h : ∀ j : Nat, j < 16 → clampV j (rd key' j) = clampV j (rd key j)) : clampF key' = clampF key := by
  have e1 : (key.take 16).length = 16 := by rw [List.length_take]; omega
  have e2 : (key'.take 16).length = 16 := by rw [List.length_take]; omega
  have rt : ∀ (l : List Int) (j : Nat), j < 16 → rd (l.take 16) (j : Int) = rd l j := by
    intro l j hj
    simp only [rd, Int.toNat_natCast, List.getD_eq_getElem?_getD]
    rw [List.getElem?_take, if_pos hj]
  refine congrArg splitF (ext_rd _ _ ?_ ?_)
  · rw [len_clampN, len_clampN, e1, e2]
  · intro j hj
    rw [len_clampN, e2] at hj
    rw [clampN_rd _ 16 (by omega) j (by omega), clampN_rd _ 16 (by omega) j (by omega), if_pos hj, if_pos hj, rt _ _ hj, rt _ _ hj, h j hj]
theorem tagF_congr (key key' b : List Int) (h1 : clampF key' = clampF key) (h2 : key'.drop 16 = key.drop 16) : tagF key' b = tagF key b := by
  have hd : ∀ k, 16 ≤ k → key'.drop k = key.drop k := by
    intro k hk
    obtain ⟨m, rfl⟩ : ∃ m, k = 16 + m := ⟨k - 16, by omega⟩
    rw [← List.drop_drop, h2, List.drop_drop]
  unfold tagF sumLo sumHi wordF
  rw [h1, hd 16 (by omega), hd (16 + 4) (by omega), hd 24 (by omega), hd (24 + 4) (by omega)]
theorem and8_def (x y : Int) : Go.bits .and .u8 x y = ((BitVec.ofInt 8 x &&& BitVec.ofInt 8 y).toNat : Int) := by
  have h := (BitVec.ofInt 8 x &&& BitVec.ofInt 8 y).isLt
  show IntKind.u8.wrap _ = _
  simp only [IntKind.wrap, IntKind.bits, IntKind.signed]
  simp only [Bool.false_and, Bool.false_eq_true, if_false]
  have : (((BitVec.ofInt 8 x &&& BitVec.ofInt 8 y).toNat : Nat) : Int) < 256 := by omega
  show (((BitVec.ofInt 8 x &&& BitVec.ofInt 8 y).toNat : Nat) : Int) % 2 ^ 8 = _
  omega
theorem bv15 : ∀ a : BitVec 8, (a ^^^ 240#8) &&& 15#8 = a &&& 15#8 := by decide +kernel
theorem bv252 : ∀ a : BitVec 8, (a ^^^ 3#8) &&& 252#8 = a &&& 252#8 := by decide +kernel
theorem and15_xor (x : Int) : Go.bits .and .u8 (Go.bits .xor .u8 x 240) 15 = Go.bits .and .u8 x 15 := by
  rw [and8_def, and8_def, ofInt_xor8, show BitVec.ofInt 8 240 = 240#8 from rfl, show BitVec.ofInt 8 15 = 15#8 from rfl, bv15]
theorem and252_xor (x : Int) : Go.bits .and .u8 (Go.bits .xor .u8 x 3) 252 = Go.bits .and .u8 x 252 := by
  rw [and8_def, and8_def, ofInt_xor8, show BitVec.ofInt 8 3 = 3#8 from rfl, show BitVec.ofInt 8 252 = 252#8 from rfl, bv252]
theorem tagF_turn (key b : List Int) (i : Nat) (m : Int) (hl : key.length = 32) (hi : i < 16) (h : clampV i (Go.bits .xor .u8 (rd key i) m) = clampV i (rd key i)) :
    tagF (key.set i (Go.bits .xor .u8 (rd key i) m)) b = tagF key b := by
  refine tagF_congr _ _ _ (clampF_congr _ _ hl (by rw [List.length_set]; exact hl) (fun j _ => ?_)) (List.drop_set_of_lt hi)
  rw [rd_set _ _ _ _ (by omega)]
  by_cases hj : j = i
  · subst hj; rw [if_pos rfl]; exact h
  · rw [if_neg hj]
theorem clampV3 (i : Nat) (x : Int) (h : i % 4 = 3) : clampV i x = Go.bits .and .u8 x 15 := by unfold clampV; rw [if_pos h]
theorem clampV0 (i : Nat) (x : Int) (h : i % 4 = 0) (h0 : 0 < i) : clampV i x = Go.bits .and .u8 x 252 := by unfold clampV; rw [if_neg (by omega), if_pos ⟨h, h0⟩]
theorem tagF_turn3 (key b : List Int) (i : Nat) (hl : key.length = 32) (hi : i < 16) (h3 : i % 4 = 3) : tagF (key.set i (Go.bits .xor .u8 (rd key i) 240)) b = tagF key b :=
  tagF_turn key b i 240 hl hi (by rw [clampV3 _ _ h3, clampV3 _ _ h3, and15_xor])
theorem tagF_turn0 (key b : List Int) (i : Nat) (hl : key.length = 32) (hi : i < 16) (h3 : i % 4 = 0) (h0 : 0 < i) : tagF (key.set i (Go.bits .xor .u8 (rd key i) 3)) b = tagF key b :=
  tagF_turn key b i 3 hl hi (by rw [clampV0 _ _ h3 h0, clampV0 _ _ h3 h0, and252_xor])
/-- A tag's numbers are bytes. -/
theorem byteK_range (n : Int) (k : Nat) : 0 ≤ byteK n k ∧ byteK n k ≤ 255 := by unfold byteK; omega
theorem bytesN_bytes (n : Int) : ∀ k, Bytes (bytesN n k)
  | 0 => fun _ h => by cases h
  | k + 1 => (bytesN_bytes n k).append (fun x hx => by simp at hx; subst hx; exact byteK_range n k)
theorem outW_bytes (l : List Int) : ∀ i, Bytes (outW l i)
  | 0 => fun _ h => by cases h
  | i + 1 => (outW_bytes l i).append (bytesN_bytes _ _)
theorem tagF_bytes (key b : List Int) : Bytes (tagF key b) := outW_bytes _ 2
end Go.Proofs.Ytgnanhphdodhoaa.Pol
