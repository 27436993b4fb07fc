/-
  The reference's Sum (chapter 3), told in plain lists.
-/
import Derived.Test.YtjlokmjbblpmoaaPolyRa
namespace Go.Proofs.Ytjlokmjbblpmoaa.PolR
open Go.RowKit Go.Proofs.YtjlokmjbblpmoaaW.PrintWords Go.Proofs.Ytjlokmjbblpmoaa.Arr

theorem info_u8 : (Try.prog.info? 5).map (fun i => (i.zero, i.size, i.bytes)) = some (some (.int .u8 0), 1, 1) := by kernel_rfl
def z17 : List Int := [0, 0, 0, 0, 0, 0, 0, 0, 0, 0, 0, 0, 0, 0, 0, 0, 0]
def rN (key : List Int) : Nat → List Int
  | 0 => z17
  | j + 1 => (rN key j).set j (rd key j % 4294967296)
theorem len_rN (key : List Int) : ∀ j, (rN key j).length = 17
  | 0 => rfl
  | j + 1 => by rw [rN, List.length_set, len_rN key j]
/-- Bits that are cleared, at these places. -/
def mN (r l : List Int) (m : Int) : Nat → List Int
  | 0 => r
  | i + 1 => (mN r l m i).set (rd l i).toNat (Go.bits .and .u32 (rd (mN r l m i) (rd l i)) m)
theorem len_mN (r l : List Int) (m : Int) : ∀ i, (mN r l m i).length = r.length
  | 0 => rfl
  | i + 1 => by rw [mN, List.length_set, len_mN r l m i]
def clampR (key : List Int) : List Int := mN (mN (rN key 16) [3, 7, 11, 15] 15 4) [4, 8, 12] 252 3
theorem len_clampR (key : List Int) : (clampR key).length = 17 := by rw [clampR, len_mN, len_mN, len_rN]

def cK (b : List Int) (i : Nat) : Nat → List Int
  | 0 => z17
  | k + 1 => (cK b i k).set k (rd b ((i + k : Nat) : Int) % 4294967296)
theorem len_cK (b : List Int) (i : Nat) : ∀ k, (cK b i k).length = 17
  | 0 => rfl
  | k + 1 => by rw [cK, List.length_set, len_cK b i k]
def cF (b : List Int) (i : Nat) : List Int := (cK b i (min (b.length - i) 16)).set (min (b.length - i) 16) 1
theorem len_cF (b : List Int) (i : Nat) : (cF b i).length = 17 := by rw [cF, List.length_set, len_cK]
/-- A place of the product. -/
def xS (h r : List Int) (i : Nat) (x : List Int) (k : Nat) : List Int :=
  if k ≤ i then x.set i ((rd x i + rd h k * rd r ((i - k : Nat) : Int)) % 4294967296) else x.set i ((rd x i + rd h k * 320 % 4294967296 * rd r ((i + 17 - k : Nat) : Int)) % 4294967296)
def xJ (h r : List Int) (i : Nat) (x : List Int) : Nat → List Int
  | 0 => x
  | k + 1 => xS h r i (xJ h r i x k) k
theorem len_xJ (h r : List Int) (i : Nat) (x : List Int) : ∀ k, (xJ h r i x k).length = x.length
  | 0 => rfl
  | k + 1 => by rw [xJ, xS]; split <;> (rw [List.length_set]; exact len_xJ h r i x k)
def xI (h r x : List Int) : Nat → List Int
  | 0 => x
  | i + 1 => xJ h r i ((xI h r x i).set i 0) 17
theorem len_xI (h r x : List Int) : ∀ i, (xI h r x i).length = x.length
  | 0 => rfl
  | i + 1 => by rw [xI, len_xJ, List.length_set]; exact len_xI h r x i
/-- A place of the product, reckoned by itself: after k terms. -/
def accR (h r : List Int) (i : Nat) : Nat → Int
  | 0 => 0
  | k + 1 => if k ≤ i then (accR h r i k + rd h k * rd r ((i - k : Nat) : Int)) % 4294967296 else (accR h r i k + rd h k * 320 % 4294967296 * rd r ((i + 17 - k : Nat) : Int)) % 4294967296
theorem rd_setN (x : List Int) (i : Nat) (v : Int) (hi : i < x.length) : rd (x.set i v) (i : Int) = v := by
  simp [rd, List.getD_eq_getElem?_getD, hi]
theorem xJ_eq (h r : List Int) (i : Nat) (y : List Int) (hi : i < y.length) : ∀ k, xJ h r i (y.set i 0) k = y.set i (accR h r i k)
  | 0 => rfl
  | k + 1 => by
    rw [xJ, xJ_eq h r i y hi k, xS, accR, rd_setN _ _ _ hi]
    split <;> rw [List.set_set]
theorem xI_eq (h r x : List Int) (hx : x.length = 17) : ∀ i, i ≤ 17 → xI h r x i = (List.range i).map (fun i => accR h r i 17) ++ x.drop i
  | 0, _ => by simp [xI]
  | i + 1, hi => by
    rw [xI, xJ_eq h r i _ (by rw [len_xI, hx]; omega), xI_eq h r x hx i (by omega)]
    have hd : x.drop i = x[i]'(by omega) :: x.drop (i + 1) := List.drop_eq_getElem_cons (by omega)
    rw [List.set_append_right _ _ (by simp), List.length_map, List.length_range, Nat.sub_self, hd, List.set_cons_zero, List.range_succ, List.map_append, List.append_assoc]
    rfl
/-- What stood in the product's places before does not matter. -/
theorem xI_any (h r x y : List Int) (hx : x.length = 17) (hy : y.length = 17) : xI h r x 17 = xI h r y 17 := by
  rw [xI_eq h r x hx 17 (by omega), xI_eq h r y hy 17 (by omega), List.drop_eq_nil_of_le (by omega), List.drop_eq_nil_of_le (by omega)]
/-- Places are made bytes, what is above goes on. -/
def pS (s : List Int × Int) (j : Nat) : List Int × Int := (s.1.set j (Go.bits .and .u32 ((s.2 + rd s.1 j) % 4294967296) 255), (s.2 + rd s.1 j) % 4294967296 / 256)
def pN (h : List Int) (u : Int) : Nat → List Int × Int
  | 0 => (h, u)
  | j + 1 => pS (pN h u j) j
theorem len_pN (h : List Int) (u : Int) : ∀ j, (pN h u j).1.length = h.length
  | 0 => rfl
  | j + 1 => by rw [pN, pS]; simp only [List.length_set]; exact len_pN h u j
def topU (h : List Int) : Int := ((pN h 0 16).2 + rd (pN h 0 16).1 16) % 4294967296
def midH (h : List Int) : List Int := (pN h 0 16).1.set 16 (Go.bits .and .u32 (topU h) 3)
def lowU (h : List Int) : Int := 5 * (topU h / 4) % 4294967296
def sqz (h : List Int) : List Int := (pN (midH h) (lowU h) 16).1.set 16 ((rd (pN (midH h) (lowU h) 16).1 16 + (pN (midH h) (lowU h) 16).2) % 4294967296)
theorem len_sqz (h : List Int) : (sqz h).length = h.length := by rw [sqz, List.length_set, len_pN, midH, List.length_set, len_pN]
/-- The number, after so many blocks. -/
def hN (r b : List Int) : Nat → List Int
  | 0 => z17
  | j + 1 => sqz (xI (addF (hN r b j) (cF b (16 * j))) r z17 17)
theorem len_hN (r b : List Int) : ∀ j, (hN r b j).length = 17
  | 0 => rfl
  | j + 1 => by rw [hN, len_sqz, len_xI]; rfl
def minusL : List Int := [5, 0, 0, 0, 0, 0, 0, 0, 0, 0, 0, 0, 0, 0, 0, 0, 252]
def selR (g h : List Int) : List Int := if (Go.bits .and .u32 (rd h 16) 128 != 0) = true then g else h
def sN (key : List Int) : Nat → List Int
  | 0 => z17
  | k + 1 => (sN key k).set k (rd key ((16 + k : Nat) : Int) % 4294967296)
theorem len_sN (key : List Int) : ∀ k, (sN key k).length = 17
  | 0 => rfl
  | k + 1 => by rw [sN, List.length_set, len_sN key k]
def oN (h : List Int) : Nat → List Int
  | 0 => []
  | k + 1 => oN h k ++ [rd h (k : Int) % 256]
theorem len_oN (h : List Int) : ∀ k, (oN h k).length = k
  | 0 => rfl
  | k + 1 => by rw [oN, List.length_append, len_oN h k]; rfl
/-- The reference's answer. -/
@[irreducible] def refTagF (key b : List Int) : List Int :=
  oN (addF (selR (hN (clampR key) b ((b.length + 15) / 16)) (addF (hN (clampR key) b ((b.length + 15) / 16)) minusL)) (sN key 16)) 16
theorem rtag_R {e base : Nat} {w : World} {ok : Nat → Prop} {v : Value} {key b : List Int} (h : (Kd.int .u8).R e w base ok v (oN (addF (selR (hN (clampR key) b ((b.length + 15) / 16)) (addF (hN (clampR key) b ((b.length + 15) / 16)) minusL)) (sN key 16)) 16)) : (Kd.int .u8).R e w base ok v (refTagF key b) := by
  unfold refTagF
  exact h
end Go.Proofs.Ytjlokmjbblpmoaa.PolR
