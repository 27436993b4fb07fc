/-
  Plain facts on bytes: '^' of bytes, and what a list of bytes that came in holds.
-/
import Derived.Test.YtlpoolcdoecodaaArr
namespace Go.Proofs.Ytlpoolcdoecodaa.Bits
open Go.RowKit Go.Proofs.YtlpoolcdoecodaaW.PrintWords

theorem xor8_def (x y : Int) : Go.bits .xor .u8 x y = ((BitVec.ofInt 8 x ^^^ BitVec.ofInt 8 y).toNat : Int) := by
  have h := (BitVec.ofInt 8 x ^^^ BitVec.ofInt 8 y).isLt
  show IntKind.u8.wrap _ = _
  simp only [IntKind.wrap, IntKind.bits, IntKind.signed]
  simp only [Bool.false_and, Bool.false_eq_true, if_false]
  have : (((BitVec.ofInt 8 x ^^^ BitVec.ofInt 8 y).toNat : Nat) : Int) < 256 := by omega
  show (((BitVec.ofInt 8 x ^^^ BitVec.ofInt 8 y).toNat : Nat) : Int) % 2 ^ 8 = _
  omega
theorem ofInt_nat8 (v : BitVec 8) : BitVec.ofInt 8 (v.toNat : Int) = v := by simp
theorem ofInt_xor8 (x y : Int) : BitVec.ofInt 8 (Go.bits .xor .u8 x y) = BitVec.ofInt 8 x ^^^ BitVec.ofInt 8 y := by rw [xor8_def, ofInt_nat8]
theorem xor8_range (x y : Int) : 0 ≤ Go.bits .xor .u8 x y ∧ Go.bits .xor .u8 x y ≤ 255 := by
  rw [xor8_def]
  have h := (BitVec.ofInt 8 x ^^^ BitVec.ofInt 8 y).isLt
  omega
theorem toNat_ofInt8 (x : Int) (h0 : 0 ≤ x) (h1 : x ≤ 255) : ((BitVec.ofInt 8 x).toNat : Int) = x := by
  rw [BitVec.toNat_ofInt]
  omega
/-- Twice the same is nothing. -/
theorem xor8_twice (x s : Int) (h0 : 0 ≤ x) (h1 : x ≤ 255) : Go.bits .xor .u8 (Go.bits .xor .u8 x s) s = x := by
  rw [xor8_def, ofInt_xor8, BitVec.xor_assoc, BitVec.xor_self, BitVec.xor_zero, toNat_ofInt8 x h0 h1]
/-- Two texts under one stream. -/
theorem xor8_cancel (a b s : Int) : Go.bits .xor .u8 (Go.bits .xor .u8 a s) (Go.bits .xor .u8 b s) = Go.bits .xor .u8 a b := by
  rw [xor8_def, ofInt_xor8, ofInt_xor8, xor8_def a b, BitVec.xor_comm (BitVec.ofInt 8 b), BitVec.xor_assoc, ← BitVec.xor_assoc (BitVec.ofInt 8 s), BitVec.xor_self, BitVec.zero_xor]
theorem xor8_swap (a t s : Int) : Go.bits .xor .u8 (Go.bits .xor .u8 a t) s = Go.bits .xor .u8 (Go.bits .xor .u8 a s) t := by
  rw [xor8_def, ofInt_xor8, xor8_def (Go.bits .xor .u8 a s), ofInt_xor8, BitVec.xor_assoc, BitVec.xor_assoc, BitVec.xor_comm (BitVec.ofInt 8 t)]
theorem zero_xor8 (s : Int) (h0 : 0 ≤ s) (h1 : s ≤ 255) : Go.bits .xor .u8 0 s = s := by
  rw [xor8_def, show BitVec.ofInt 8 0 = 0#8 from rfl, BitVec.zero_xor, toNat_ofInt8 s h0 h1]

/-- A list of bytes. -/
def Bytes (l : List Int) : Prop := ∀ x ∈ l, 0 ≤ x ∧ x ≤ 255
theorem bytes_of_wf {l : List Int} (h : ∀ x ∈ l, (Lit.int .u8 x).wf = true) : Bytes l := by
  intro x hx
  have := h x hx
  simp [Lit.wf] at this
  have e1 : IntKind.u8.min = 0 := rfl
  have e2 : IntKind.u8.max = 255 := rfl
  omega
theorem Bytes.rd {l : List Int} (h : Bytes l) (i : Int) : 0 ≤ Go.Proofs.YtlpoolcdoecodaaW.PrintWords.rd l i ∧ Go.Proofs.YtlpoolcdoecodaaW.PrintWords.rd l i ≤ 255 := by
  unfold Go.Proofs.YtlpoolcdoecodaaW.PrintWords.rd
  rw [List.getD_eq_getElem?_getD]
  rcases Nat.lt_or_ge i.toNat l.length with hi | hi
  · rw [List.getElem?_eq_getElem hi]
    exact h _ (List.getElem_mem hi)
  · rw [List.getElem?_eq_none hi]
    simp
theorem Bytes.take {l : List Int} (h : Bytes l) (n : Nat) : Bytes (l.take n) := fun x hx => h x (List.mem_of_mem_take hx)
theorem Bytes.drop {l : List Int} (h : Bytes l) (n : Nat) : Bytes (l.drop n) := fun x hx => h x (List.mem_of_mem_drop hx)
theorem Bytes.append {l m : List Int} (h : Bytes l) (h' : Bytes m) : Bytes (l ++ m) := fun x hx => (List.mem_append.1 hx).elim (h x) (h' x)
theorem rd_map (f : Nat → Int) (n i : Nat) (h : i < n) : Go.Proofs.YtlpoolcdoecodaaW.PrintWords.rd ((List.range n).map f) (i : Int) = f i := by
  simp [Go.Proofs.YtlpoolcdoecodaaW.PrintWords.rd, List.getD_eq_getElem?_getD, h]
end Go.Proofs.Ytlpoolcdoecodaa.Bits
