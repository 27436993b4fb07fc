/-
  chacha.Xor and the reference's Xor: both xor the stream of a key, a counter and a nonce on, or refuse.
-/
import Derived.Test.YtnmnghpdmiffaaaChachaG
import Derived.Test.YtnmnghpdmiffaaaUXorx1
import Derived.Test.YtnmnghpdmiffaaaUXorx2
namespace Go.Proofs.Ytnmnghpdmiffaaa
open Go.RowKit Go.Proofs.YtnmnghpdmiffaaaW.PrintWords Go.Proofs.Ytnmnghpdmiffaaa.Arr
set_option maxRecDepth 100000
namespace Cha

/-- The counter, so many blocks on. -/
def ctrN (ctr : Int) : Nat → Int
  | 0 => ctr
  | j + 1 => (ctrN ctr j + 1) % 4294967296
/-- Byte j of the stream. -/
def strm (key : List Int) (ctr : Int) (nonce : List Int) (j : Nat) : Int := rd (blockF key (ctrN ctr (j / 64)) nonce) ((j % 64 : Nat) : Int)
def xorAt (key : List Int) (ctr : Int) (nonce b : List Int) (j : Nat) : Int := Go.bits .xor .u8 (rd b (j : Int)) (strm key ctr nonce j)
/-- Bytes with the stream xored on. -/
def xorF (key : List Int) (ctr : Int) (nonce b : List Int) : List Int := (List.range b.length).map (xorAt key ctr nonce b)
theorem len_xorF (key : List Int) (ctr : Int) (nonce b : List Int) : (xorF key ctr nonce b).length = b.length := by simp [xorF]

/-- The inner loop: from byte i of block m on. -/
theorem xor_l1 (key nonce b : List Int) (ctr0 : Int) (hb : b.length ≤ 140737488355328) (m : Nat) (hm : 64 * m < b.length) (r : List Int × Int) (k0 : Nat)
    (hnext : ∀ k, k0 ≤ k → UXor.chacha_Xor.l0 k key (ctrN ctr0 (m + 1)) nonce b (fillF (xorAt key ctr0 nonce b) b.length (min (64 * (m + 1)) b.length)) ((64 * (m + 1) : Nat) : Int) = some r) (d : Nat) :
    ∀ (k i : Nat), i + d = 64 → k0 + d < k → 64 * m + i ≤ b.length →
    UXor.chacha_Xor.l1 k key (ctrN ctr0 (m + 1)) nonce b (fillF (xorAt key ctr0 nonce b) b.length (64 * m + i)) ((64 * m : Nat) : Int) (blockF key (ctrN ctr0 m) nonce) i = some r := by
  induction d with
  | zero =>
    intro k i hi hk hle
    obtain ⟨k, rfl⟩ : ∃ z, k = z + 1 := ⟨k - 1, by omega⟩
    simp only [UXor.chacha_Xor.l1]
    rw [if_neg (by rw [len_blockF]; omega), wrap_id (by omega) (by omega)]
    have := hnext k (by omega)
    rw [show min (64 * (m + 1)) b.length = 64 * m + i by omega] at this
    rw [show (((64 * m : Nat) : Int) + 64) = ((64 * (m + 1) : Nat) : Int) by omega]
    exact this
  | succ d ih =>
    intro k i hi hk hle
    obtain ⟨k, rfl⟩ : ∃ z, k = z + 1 := ⟨k - 1, by omega⟩
    simp only [UXor.chacha_Xor.l1]
    have e1 : wrap64 (((64 * m : Nat) : Int) + (i : Int)) = ((64 * m + i : Nat) : Int) := by rw [wrap_id (by omega) (by omega)]; omega
    rw [if_pos (by rw [len_blockF]; omega), e1]
    by_cases hlt : 64 * m + i < b.length
    · rw [if_pos (by omega), if_pos (by omega), if_pos (by omega), if_pos (by rw [len_fillF _ _ _ (by omega)]; omega), Int.toNat_natCast, wrap_id (by omega) (by omega)]
      have hs := fillF_set (xorAt key ctr0 nonce b) b.length (64 * m + i) hlt
      have hx : xorAt key ctr0 nonce b (64 * m + i) = Go.bits .xor .u8 (rd b ((64 * m + i : Nat) : Int)) (rd (blockF key (ctrN ctr0 m) nonce) (i : Int)) := by
        unfold xorAt strm
        rw [show (64 * m + i) / 64 = m by omega, show (64 * m + i) % 64 = i by omega]
      rw [hx] at hs
      rw [hs]
      exact ih k (i + 1) (by omega) (by omega) (by omega)
    · rw [if_neg (by omega), wrap_id (by omega) (by omega)]
      have := hnext k (by omega)
      rw [show min (64 * (m + 1)) b.length = 64 * m + i by omega] at this
      rw [show (((64 * m : Nat) : Int) + 64) = ((64 * (m + 1) : Nat) : Int) by omega]
      exact this

theorem xor_l0 (key nonce b : List Int) (ctr0 : Int) (hk : key.length = 32) (hn : nonce.length = 12) (hb : b.length ≤ 140737488355328) (d : Nat) :
    ∀ (m : Nat), b.length ≤ 64 * (m + d) → ∃ k0, ∀ k, k0 ≤ k → UXor.chacha_Xor.l0 k key (ctrN ctr0 m) nonce b (fillF (xorAt key ctr0 nonce b) b.length (min (64 * m) b.length)) ((64 * m : Nat) : Int) = some (xorF key ctr0 nonce b, 0) := by
  have hend : ∀ m, b.length ≤ 64 * m → ∃ k0, ∀ k, k0 ≤ k → UXor.chacha_Xor.l0 k key (ctrN ctr0 m) nonce b (fillF (xorAt key ctr0 nonce b) b.length (min (64 * m) b.length)) ((64 * m : Nat) : Int) = some (xorF key ctr0 nonce b, 0) := by
    intro m hm
    refine ⟨1, fun k hk1 => ?_⟩
    obtain ⟨k, rfl⟩ : ∃ z, k = z + 1 := ⟨k - 1, by omega⟩
    simp only [UXor.chacha_Xor.l0]
    rw [if_neg (by omega), show min (64 * m) b.length = b.length by omega, fillF_full]
    rfl
  induction d with
  | zero => intro m hm; exact hend m (by simpa using hm)
  | succ d ih =>
    intro m hm
    by_cases hlt : 64 * m < b.length
    · obtain ⟨k0, h0⟩ := ih (m + 1) (by omega)
      refine ⟨k0 + 66, fun k hk1 => ?_⟩
      obtain ⟨k, rfl⟩ : ∃ z, k = z + 1 := ⟨k - 1, by omega⟩
      simp only [UXor.chacha_Xor.l0]
      rw [if_pos (by omega)]
      unfold chacha_block.f
      rw [if_pos ⟨hk, hn⟩, Option.bind_some, show min (64 * m) b.length = 64 * m + 0 by omega]
      exact xor_l1 key nonce b ctr0 hb m hlt _ k0 h0 64 k 0 (by omega) (by omega) (by omega)
    · exact hend m (by omega)

theorem rxor_l0 (key nonce b : List Int) (ctr0 : Int) (hk : key.length = 32) (hn : nonce.length = 12) (hb : b.length ≤ 140737488355328) (d : Nat) :
    ∀ (k i : Nat) (x : List Int), i + d = b.length → d < k → (i % 64 ≠ 0 → x = blockF key (ctrN ctr0 (i / 64)) nonce) →
    UXor.strongroomref2_Xor.l0 k key (ctrN ctr0 ((i + 63) / 64)) nonce b ((List.range i).map (xorAt key ctr0 nonce b)) x i = some (xorF key ctr0 nonce b, 0) := by
  induction d with
  | zero =>
    intro k i x hi hk1 hx
    obtain ⟨k, rfl⟩ : ∃ z, k = z + 1 := ⟨k - 1, by omega⟩
    simp only [UXor.strongroomref2_Xor.l0]
    rw [if_neg (by omega), xorF, show b.length = i by omega]
  | succ d ih =>
    intro k i x hi hk1 hx
    obtain ⟨k, rfl⟩ : ∃ z, k = z + 1 := ⟨k - 1, by omega⟩
    simp only [UXor.strongroomref2_Xor.l0]
    have hm : Int.tmod (i : Int) 64 = ((i % 64 : Nat) : Int) := by rw [Int.tmod_eq_emod_of_nonneg (by omega)]; rfl
    rw [if_pos (by omega), hm]
    have hlast : (List.range i).map (xorAt key ctr0 nonce b) ++ [Go.bits .xor .u8 (rd b (i : Int)) (rd (blockF key (ctrN ctr0 (i / 64)) nonce) ((i % 64 : Nat) : Int))] = (List.range (i + 1)).map (xorAt key ctr0 nonce b) := by
      rw [List.range_succ, List.map_append]
      rfl
    by_cases h0 : i % 64 = 0
    · rw [if_pos (by omega)]
      unfold strongroomref2_Block.f refBlockF
      rw [if_pos ⟨hk, hn⟩, Option.bind_some]
      simp only []
      rw [if_pos (by omega), if_pos (by omega), if_pos (by rw [len_blockF]; omega), if_pos (by simp; omega), wrap_id (by omega) (by omega)]
      have e1 : (i + 63) / 64 = i / 64 := by omega
      rw [e1, hlast]
      have := ih k (i + 1) (blockF key (ctrN ctr0 (i / 64)) nonce) (by omega) (by omega) (fun _ => by rw [show (i + 1) / 64 = i / 64 by omega])
      rw [show (i + 1 + 63) / 64 = i / 64 + 1 by omega] at this
      exact this
    · rw [if_neg (by omega), if_pos (by omega), if_pos (by omega)]
      have hx' := hx h0
      rw [if_pos (by rw [hx', len_blockF]; omega), if_pos (by simp; omega), wrap_id (by omega) (by omega), hx', hlast]
      have := ih k (i + 1) (blockF key (ctrN ctr0 (i / 64)) nonce) (by omega) (by omega) (fun h => by rw [show (i + 1) / 64 = i / 64 by omega])
      rw [show (i + 1 + 63) / 64 = (i + 63) / 64 by omega] at this
      exact this
end Cha

/-- What Xor answers. -/
def Cha.xorAns (key : List Int) (ctr : Int) (nonce b : List Int) : List Int × Int := if key.length = 32 ∧ nonce.length = 12 then (Cha.xorF key ctr nonce b, 0) else ([], 1)
def chacha_Xor.f (l0 : List Int) (a1 : Int) (l2 l3 : List Int) : Option (List Int × Int) := if l3.length ≤ 140737488355328 then some (Cha.xorAns l0 a1 l2 l3) else none
theorem chacha_Xor.calls (A0 : Option Addr) (c0 : Nat) (l0 : List Int) (a1 : Int) (A2 : Option Addr) (c2 : Nat) (l2 : List Int) (A3 : Option Addr) (c3 : Nat) (l3 : List Int) (r1 : List Int) (r2 : Int) (w : World) (hr0 : Kd.C (Kd.int .u8) w A0 l0.length l0) (hc0 : l0.length ≤ c0) (hr2 : Kd.C (Kd.int .u8) w A2 l2.length l2) (hc2 : l2.length ≤ c2) (hr3 : Kd.C (Kd.int .u8) w A3 l3.length l3) (hc3 : l3.length ≤ c3) (h : chacha_Xor.f l0 a1 l2 l3 = some (r1, r2)) :
    Calls Try.prog 46 #[.slice A0 l0.length c0, .int .u32 a1, .slice A2 l2.length c2, .slice A3 l3.length c3] w fun e w' => ∃ v0_ : Value, e = .returned (.tuple #[v0_, .int .i64 r2]) ∧ Kd.R (Kd.int .u8) 5 w' w.heap.size (fun _ => True) v0_ r1 ∧ Below w.heap.size w w' := by
  unfold chacha_Xor.f at h
  split at h
  case isFalse => cases h
  rename_i hl
  have h := Option.some.inj h
  unfold Cha.xorAns at h
  by_cases hk : l0.length = 32 ∧ l2.length = 12
  · rw [if_pos hk] at h
    obtain ⟨k0, h0⟩ := Cha.xor_l0 l0 l2 l3 a1 hk.1 hk.2 hl l3.length 0 (by omega)
    refine UXor.chacha_Xor.calls (k0 + 1) A0 c0 l0 a1 A2 c2 l2 A3 c3 l3 r1 r2 w hr0 hc0 hr2 hc2 hr3 hc3 ?_
    unfold UXor.chacha_Xor.f
    have := h0 k0 (Nat.le_refl _)
    rw [Nat.mul_zero, Nat.zero_min, fillF_zero] at this
    rw [if_pos (by omega), show ((l2.length : Int) != 12) = false by simp; omega]
    simp only [UXor.chacha_Xor.j0]
    rw [if_neg (by simp), if_pos (by omega), if_pos (by omega), Int.toNat_natCast, ← h]
    exact this
  · rw [if_neg hk] at h
    refine UXor.chacha_Xor.calls 1 A0 c0 l0 a1 A2 c2 l2 A3 c3 l3 r1 r2 w hr0 hc0 hr2 hc2 hr3 hc3 ?_
    unfold UXor.chacha_Xor.f
    rw [← h]
    by_cases h1 : (l0.length : Int) = 32
    · rw [if_pos h1, show ((l2.length : Int) != 12) = true by simp; omega]
      simp only [UXor.chacha_Xor.j0]
      rw [if_pos trivial]
    · rw [if_neg h1]
      simp only [UXor.chacha_Xor.j0]
      rw [if_pos trivial]

def strongroomref2_Xor.f (l0 : List Int) (a1 : Int) (l2 l3 : List Int) : Option (List Int × Int) := if l3.length ≤ 140737488355328 then some (Cha.xorAns l0 a1 l2 l3) else none
theorem strongroomref2_Xor.calls (A0 : Option Addr) (c0 : Nat) (l0 : List Int) (a1 : Int) (A2 : Option Addr) (c2 : Nat) (l2 : List Int) (A3 : Option Addr) (c3 : Nat) (l3 : List Int) (r1 : List Int) (r2 : Int) (w : World) (hr0 : Kd.C (Kd.int .u8) w A0 l0.length l0) (hc0 : l0.length ≤ c0) (hr2 : Kd.C (Kd.int .u8) w A2 l2.length l2) (hc2 : l2.length ≤ c2) (hr3 : Kd.C (Kd.int .u8) w A3 l3.length l3) (hc3 : l3.length ≤ c3) (h : strongroomref2_Xor.f l0 a1 l2 l3 = some (r1, r2)) :
    Calls Try.prog 48 #[.slice A0 l0.length c0, .int .u32 a1, .slice A2 l2.length c2, .slice A3 l3.length c3] w fun e w' => ∃ v0_ : Value, e = .returned (.tuple #[v0_, .int .i64 r2]) ∧ Kd.R (Kd.int .u8) 5 w' w.heap.size (fun _ => True) v0_ r1 ∧ Below w.heap.size w w' := by
  unfold strongroomref2_Xor.f at h
  split at h
  case isFalse => cases h
  rename_i hl
  have h := Option.some.inj h
  unfold Cha.xorAns at h
  by_cases hk : l0.length = 32 ∧ l2.length = 12
  · rw [if_pos hk] at h
    have h0 := Cha.rxor_l0 l0 l2 l3 a1 hk.1 hk.2 hl l3.length (l3.length + 1) 0 [] (by omega) (by omega) (fun h => absurd rfl h)
    refine UXor.strongroomref2_Xor.calls (l3.length + 2) A0 c0 l0 a1 A2 c2 l2 A3 c3 l3 r1 r2 w hr0 hc0 hr2 hc2 hr3 hc3 ?_
    unfold UXor.strongroomref2_Xor.f
    rw [if_pos (by omega), show ((l2.length : Int) != 12) = false by simp; omega]
    simp only [UXor.strongroomref2_Xor.j0]
    rw [if_neg (by simp), ← h]
    exact h0
  · rw [if_neg hk] at h
    refine UXor.strongroomref2_Xor.calls 1 A0 c0 l0 a1 A2 c2 l2 A3 c3 l3 r1 r2 w hr0 hc0 hr2 hc2 hr3 hc3 ?_
    unfold UXor.strongroomref2_Xor.f
    rw [← h]
    by_cases h1 : (l0.length : Int) = 32
    · rw [if_pos h1, show ((l2.length : Int) != 12) = true by simp; omega]
      simp only [UXor.strongroomref2_Xor.j0]
      rw [if_pos trivial]
    · rw [if_neg h1]
      simp only [UXor.strongroomref2_Xor.j0]
      rw [if_pos trivial]

/-- What Block answers. -/
def chacha_Block.f (l0 : List Int) (a1 : Int) (l2 : List Int) : Option (List Int × Int) := some (Cha.refBlockF l0 a1 l2)
theorem chacha_Block.calls (A0 : Option Addr) (c0 : Nat) (l0 : List Int) (a1 : Int) (A2 : Option Addr) (c2 : Nat) (l2 : List Int) (r1 : List Int) (r2 : Int) (w : World) (hr0 : Kd.C (Kd.int .u8) w A0 l0.length l0) (hc0 : l0.length ≤ c0) (hr2 : Kd.C (Kd.int .u8) w A2 l2.length l2) (hc2 : l2.length ≤ c2) (h : chacha_Block.f l0 a1 l2 = some (r1, r2)) :
    Calls Try.prog 53 #[.slice A0 l0.length c0, .int .u32 a1, .slice A2 l2.length c2] w fun e w' => ∃ v0_ : Value, e = .returned (.tuple #[v0_, .int .i64 r2]) ∧ Kd.R (Kd.int .u8) 5 w' w.heap.size (fun _ => True) v0_ r1 ∧ Below w.heap.size w w' := by
  refine UXor.chacha_Block.calls A0 c0 l0 a1 A2 c2 l2 r1 r2 w hr0 hc0 hr2 hc2 ?_
  unfold UXor.chacha_Block.f chacha_block.f
  rw [← h]
  unfold chacha_Block.f Cha.refBlockF
  by_cases h1 : l0.length = 32 <;> by_cases h2 : l2.length = 12 <;> simp [h1, h2] <;> omega
theorem xor_some (key nonce b : List Int) (ctr : Int) (hk : key.length = 32) (hn : nonce.length = 12) (hb : b.length ≤ 140737488355328) : chacha_Xor.f key ctr nonce b = some (Cha.xorF key ctr nonce b, 0) := by
  unfold chacha_Xor.f Cha.xorAns
  rw [if_pos hb, if_pos ⟨hk, hn⟩]
theorem block_some (key nonce : List Int) (ctr : Int) (hk : key.length = 32) (hn : nonce.length = 12) : chacha_Block.f key ctr nonce = some (Cha.blockF key ctr nonce, 0) := by
  unfold chacha_Block.f Cha.refBlockF
  rw [if_pos ⟨hk, hn⟩]
end Go.Proofs.Ytnmnghpdmiffaaa
