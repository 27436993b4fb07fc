/-
  SHA-256's round, told in plain lists.
-/
import Derived.Test.YthahhjkokdillaaArr2
import Derived.Test.YthahhjkokdillaaURotx1
import Derived.Test.YthahhjkokdillaaWLast
import Derived.Deep.Cut
import Derived.Deep.DeepCutAuto
import Derived.Test.YthahhjkokdillaaWMore
namespace Go.Proofs.Ythahhjkokdillaa.Sha
open Go.RowKit Go.Proofs.YthahhjkokdillaaW.PrintWords Go.Proofs.YthahhjkokdillaaW.PrintLast Go.Proofs.Ythahhjkokdillaa.Arr
set_option linter.unusedVariables false

theorem info_a64 : (Try.prog.info? 75).map (·.size) = some 64 := by kernel_rfl
theorem info_a8 : (Try.prog.info? 64).map (·.size) = some 8 := by kernel_rfl
/-- Turned to the left. -/
def rotL (x s : Int) : Int := Go.bits .or .u32 (shl .u32 x s) (shr .u32 x (IntKind.u64.wrap (32 - s)))
theorem rot_some (x k s : Int) (hs : Go.bits .and .u64 (IntKind.u64.wrap k) 31 = s) (h0 : 0 ≤ s) (h1 : 0 ≤ IntKind.u64.wrap (32 - s)) : URot.bits_RotateLeft32.f x k = some (rotL x s) := by
  unfold URot.bits_RotateLeft32.f
  rw [hs, if_pos h0, if_pos h1]
  rfl
def z64 : List Int := List.replicate 64 0
/-- A word out of four bytes, the highest first. -/
def beW (b : List Int) (i : Nat) : Int := Go.bits .or .u32 (Go.bits .or .u32 (Go.bits .or .u32 (rd b ((4 * i : Nat) : Int) % 4294967296 * 16777216 % 4294967296) (rd b ((4 * i + 1 : Nat) : Int) % 4294967296 * 65536 % 4294967296)) (rd b ((4 * i + 2 : Nat) : Int) % 4294967296 * 256 % 4294967296)) (rd b ((4 * i + 3 : Nat) : Int) % 4294967296)
def wA (b : List Int) : Nat → List Int
  | 0 => z64
  | i + 1 => (wA b i).set i (beW b i)
theorem len_wA (b : List Int) : ∀ i, (wA b i).length = 64
  | 0 => by rw [wA, z64, List.length_replicate]
  | i + 1 => by rw [wA, List.length_set, len_wA b i]
def sg0 (x : Int) : Int := Go.bits .xor .u32 (Go.bits .xor .u32 (rotL x 25) (rotL x 14)) (x / 8)
def sg1 (y : Int) : Int := Go.bits .xor .u32 (Go.bits .xor .u32 (rotL y 15) (rotL y 13)) (y / 1024)
def wB (b : List Int) : Nat → List Int
  | 0 => wA b 16
  | j + 1 => (wB b j).set (16 + j) ((rd (wB b j) (j : Int) + sg0 (rd (wB b j) ((j + 1 : Nat) : Int)) + rd (wB b j) ((j + 9 : Nat) : Int) + sg1 (rd (wB b j) ((j + 14 : Nat) : Int))) % 4294967296)
theorem len_wB (b : List Int) : ∀ i, (wB b i).length = 64
  | 0 => len_wA b 16
  | i + 1 => by rw [wB, List.length_set, len_wB b i]

def z8 : List Int := [0, 0, 0, 0, 0, 0, 0, 0]
def epE (e : Int) : Int := Go.bits .xor .u32 (Go.bits .xor .u32 (rotL e 26) (rotL e 21)) (rotL e 7)
def epA (a : Int) : Int := Go.bits .xor .u32 (Go.bits .xor .u32 (rotL a 30) (rotL a 19)) (rotL a 10)
def tF (s : List Int) (k w : Int) : Int := IntKind.u32.wrap (IntKind.u32.wrap (IntKind.u32.wrap (IntKind.u32.wrap (rd s 7 + epE (rd s 4)) + Go.bits .xor .u32 (Go.bits .and .u32 (rd s 4) (rd s 5)) (Go.bits .and .u32 (Go.bits .xor .u32 IntKind.u32.max (rd s 4)) (rd s 6))) + k) + w)
def uF (s : List Int) : Int := (epA (rd s 0) + Go.bits .xor .u32 (Go.bits .xor .u32 (Go.bits .and .u32 (rd s 0) (rd s 1)) (Go.bits .and .u32 (rd s 0) (rd s 2))) (Go.bits .and .u32 (rd s 1) (rd s 2))) % 4294967296
/-- One of the sixty-four steps. -/
def stepF (s : List Int) (k w : Int) : List Int := [(tF s k w + uF s) % 4294967296, rd s 0, rd s 1, rd s 2, (rd s 3 + tF s k w) % 4294967296, rd s 4, rd s 5, rd s 6]
def sN (k w h : List Int) : Nat → List Int
  | 0 => h
  | i + 1 => stepF (sN k w h i) (rd k (i : Int)) (rd w (i : Int))
theorem len_sN (k w h : List Int) (hl : h.length = 8) : ∀ i, (sN k w h i).length = 8
  | 0 => hl
  | i + 1 => rfl
/-- The sums, place by place. -/
def aN (h s : List Int) : Nat → List Int
  | 0 => h
  | i + 1 => (aN h s i).set i ((rd (aN h s i) (i : Int) + rd s (i : Int)) % 4294967296)
theorem len_aN (h s : List Int) : ∀ i, (aN h s i).length = h.length
  | 0 => rfl
  | i + 1 => by rw [aN, List.length_set, len_aN h s i]
/-- A block of sixty-four bytes, mixed in. -/
def roundF (h b k : List Int) : List Int := aN h (sN k (wB b 48) h 64) 8
theorem len_roundF (h b k : List Int) : (roundF h b k).length = h.length := len_aN _ _ 8
theorem wB_step (b : List Int) (j m m1 m9 m14 : Nat) (h : m = 16 + j ∧ m1 = j + 1 ∧ m9 = j + 9 ∧ m14 = j + 14) (y : List Int) (hy : y = wB b j) (p1 p2 : Int) (hp : p1 = rd y (m1 : Int) ∧ p2 = rd y (m14 : Int)) :
    wB b (j + 1) = y.set m ((rd y (j : Int) + Go.bits .xor .u32 (Go.bits .xor .u32 (rotL p1 25) (rotL p1 14)) (p1 / 8) + rd y (m9 : Int) + Go.bits .xor .u32 (Go.bits .xor .u32 (rotL p2 15) (rotL p2 13)) (p2 / 1024)) % 4294967296) := by
  obtain ⟨rfl, rfl, rfl, rfl⟩ := h
  obtain ⟨rfl, rfl⟩ := hp
  rw [wB, ← hy]
  rfl

set_option maxHeartbeats 8000000 in
set_option maxRecDepth 100000 in
theorem round_calls (g : Nat) (h : List Int) (A : Option Addr) (cA : Nat) (b : List Int) (K : Option Addr) (cK : Nat) (k : List Int) (w : World) (hh : Is w g 64 .u32 h) (hl : h.length = 8) (hb : (Kd.int .u8).C w A 64 b) (hbl : b.length = 64) (hcA : 64 ≤ cA) (hk : (Kd.int .u32).C w K 64 k) (hkl : k.length = 64) (hcK : 64 ≤ cK) :
    Calls Try.prog 40 #[.pointer (some ⟨g, 0, none⟩), .slice A 64 cA, .slice K 64 cK] w fun e w' => e = .returned (.tuple #[]) ∧ Into w w' g .u32 (roundF h b k) := by
  have HH := Aside0.mk hh
  have HB := Aside0.mk hb
  have HK := Aside0.mk hk
  have LL := Aside0.mk (And.intro hl (And.intro hbl hkl))
  have hg := hh.lt
  clear hh hl hb hbl hk hkl
  go_enter Try.func40, Try.ntmps40
  go_upto_region 1 with (fail)
  change Code.wp _ _ _ _ (w.alloc (.cells (nums .u32 z64).toArray 75))
  have iw := new_is w 75 .u32 z64
  have B1 : Below w.heap.size w (w.alloc (.cells (nums .u32 z64).toArray 75)) := (Below.refl _ _).alloc (Nat.le_refl _) _
  generalize w.alloc (.cells (nums .u32 z64).toArray 75) = w1 at iw B1 ⊢
  obtain ⟨bW, hbW⟩ : ∃ b, b = w.heap.size := ⟨_, rfl⟩
  have BB := Aside0.mk B1
  rw [← hbW] at iw ⊢
  have IW := Aside0.mk iw
  have HBW := Aside0.mk (And.intro hbW hg)
  clear iw B1 hbW hg
  go_wp2
  go_loopw [22] (fun v w' => ∃ i : Nat, i ≤ 16 ∧ v = .int .i64 i ∧ Aside0 (To w1 w' bW .u32 (wA b i))) (fun v _ => 16 - (intOf v).toNat)
  case atStart => exact ⟨0, by omega, rfl, ⟨To.refl IW.out⟩⟩
  case round =>
    obtain ⟨i, hi, rfl, HT⟩ := hrel
    obtain ⟨x, q0⟩ : ∃ y_, y_ = wA b i := ⟨_, rfl⟩
    rw [← q0] at HT
    have Lx := Aside0.mk (show x.length = 64 by rw [q0, len_wA])
    have Q0 := Aside0.mk q0
    clear q0
    have ix := HT.out.is IW.out
    by_cases h16 : i < 16
    · have i0 : (i : Int) < 16 := by omega
      go_upto_region 4 with (fail)
      have hCr := Kd.C_below HB.out (To.below BB.out HT.out (by rw [HBW.out.1]; exact Nat.le_refl _))
      obtain ⟨a0, ha0⟩ : ∃ a : Nat, a = 4 * i := ⟨_, rfl⟩
      obtain ⟨a1, ha1⟩ : ∃ a : Nat, a = 4 * i + 1 := ⟨_, rfl⟩
      obtain ⟨a2, ha2⟩ : ∃ a : Nat, a = 4 * i + 2 := ⟨_, rfl⟩
      obtain ⟨a3, ha3⟩ : ∃ a : Nat, a = 4 * i + 3 := ⟨_, rfl⟩
      obtain ⟨ad, hA, c0⟩ := Kd.at_int hCr (a0 : Int) (by omega) (by omega)
      subst hA
      obtain ⟨ad1, hA1, c1⟩ := Kd.at_int hCr (a1 : Int) (by omega) (by omega)
      cases hA1
      obtain ⟨ad2, hA2, c2⟩ := Kd.at_int hCr (a2 : Int) (by omega) (by omega)
      cases hA2
      obtain ⟨ad3, hA3, c3⟩ := Kd.at_int hCr (a3 : Int) (by omega) (by omega)
      cases hA3
      rw [Int.toNat_natCast] at c0
      rw [Int.toNat_natCast] at c1
      rw [Int.toNat_natCast] at c2
      rw [Int.toNat_natCast] at c3
      have W0 : IntKind.i64.wrap (4 * (i : Int)) = (a0 : Int) := by simp [IntKind.wrap, IntKind.bits, IntKind.signed]; omega
      have W1 : IntKind.i64.wrap ((a0 : Int) + 1) = (a1 : Int) := by simp [IntKind.wrap, IntKind.bits, IntKind.signed]; omega
      have W2 : IntKind.i64.wrap ((a0 : Int) + 2) = (a2 : Int) := by simp [IntKind.wrap, IntKind.bits, IntKind.signed]; omega
      have W3 : IntKind.i64.wrap ((a0 : Int) + 3) = (a3 : Int) := by simp [IntKind.wrap, IntKind.bits, IntKind.signed]; omega
      have V0 : (a0 : Int) < 64 := by omega
      have U0 : a0 < 64 := by omega
      have V1 : (a1 : Int) < 64 := by omega
      have U1 : a1 < 64 := by omega
      have V2 : (a2 : Int) < 64 := by omega
      have U2 : a2 < 64 := by omega
      have V3 : (a3 : Int) < 64 := by omega
      have U3 : a3 < 64 := by omega
      have i64 : (i : Int) < 64 := by omega
      have H1 := ix.cell i (by rw [Lx.out]; omega)
      have F1 := ix.free i
      have HE := Aside0.mk (And.intro ha0 (And.intro ha1 (And.intro ha2 ha3)))
      clear hCr ha0 ha1 ha2 ha3
      go_still_tail 35, (by kernel_rfl)
      change wpList _ _ _ _ _ wr.drew
      go_wp2_with fail
      rw [put_set ix]
      have e0 : beW b i = Go.bits .or .u32 (Go.bits .or .u32 (Go.bits .or .u32 (rd b (a0 : Int) % 4294967296 * 16777216 % 4294967296) (rd b (a1 : Int) % 4294967296 * 65536 % 4294967296)) (rd b (a2 : Int) % 4294967296 * 256 % 4294967296)) (rd b (a3 : Int) % 4294967296) := by
        rw [beW, HE.out.1, HE.out.2.1, HE.out.2.2.1, HE.out.2.2.2]
      rw [← e0]
      have e1 : wA b (i + 1) = x.set i (beW b i) := by rw [wA, ← Q0.out]
      rw [← e1]
      have t1 := HT.out.put_dr (zs := wA b (i + 1))
      exact ⟨⟨i + 1, by omega, by go_num, ⟨t1⟩⟩, by simp [intOf]; omega⟩
    · obtain rfl : i = 16 := by omega
      rw [show ((16 : Nat) : Int) = 16 from rfl]
      clear h16
      have XA := Aside0.mk (show x = wB b 0 by rw [wB]; exact Q0.out)
      have BA := Aside0.mk (To.below BB.out HT.out (by rw [HBW.out.1]; exact Nat.le_refl _))
      have HA := Aside0.mk (HT.out.other (by have := HBW.out; omega) (HH.out.below BB.out))
      have IA := Aside0.mk ix
      clear HT ix Q0 IW BB
      go_wp2
      rw [XA.out] at IA
      obtain ⟨wo, rfl⟩ : ∃ wo : World, wo = wr := ⟨_, rfl⟩
      go_loopw [8] (fun v w' => ∃ j : Nat, j ≤ 48 ∧ v = .int .i64 ((16 + j : Nat) : Int) ∧ Aside0 (To wo w' bW .u32 (wB b j))) (fun v _ => 64 - (intOf v).toNat)
      case atStart => exact ⟨0, by omega, rfl, ⟨To.refl IA.out⟩⟩
      case round =>
        obtain ⟨j, hj, rfl, HT⟩ := hrel
        obtain ⟨y, q0⟩ : ∃ y_, y_ = wB b j := ⟨_, rfl⟩
        rw [← q0] at HT
        have Ly := Aside0.mk (show y.length = 64 by rw [q0, len_wB])
        have Q0 := Aside0.mk q0
        clear q0
        have iy := HT.out.is IA.out
        by_cases h48 : j < 48
        · have j0 : ((16 + j : Nat) : Int) < 64 := by omega
          obtain ⟨m, hm⟩ : ∃ m : Nat, m = 16 + j := ⟨_, rfl⟩
          obtain ⟨m1, hm1⟩ : ∃ m : Nat, m = j + 1 := ⟨_, rfl⟩
          obtain ⟨m9, hm9⟩ : ∃ m : Nat, m = j + 9 := ⟨_, rfl⟩
          obtain ⟨m14, hm14⟩ : ∃ m : Nat, m = j + 14 := ⟨_, rfl⟩
          rw [← hm] at j0 ⊢
          have W15 : IntKind.i64.wrap ((m : Int) - 15) = (m1 : Int) := by simp [IntKind.wrap, IntKind.bits, IntKind.signed]; omega
          have W2 : IntKind.i64.wrap ((m : Int) - 2) = (m14 : Int) := by simp [IntKind.wrap, IntKind.bits, IntKind.signed]; omega
          have W16 : IntKind.i64.wrap ((m : Int) - 16) = (j : Int) := by simp [IntKind.wrap, IntKind.bits, IntKind.signed]; omega
          have W7 : IntKind.i64.wrap ((m : Int) - 7) = (m9 : Int) := by simp [IntKind.wrap, IntKind.bits, IntKind.signed]; omega
          have w15 : wrap64 ((m : Int) - 15) = (m1 : Int) := (i64_w _).symm.trans W15
          have w2 : wrap64 ((m : Int) - 2) = (m14 : Int) := (i64_w _).symm.trans W2
          have V1 : (m1 : Int) < 64 := by omega
          have V14 : (m14 : Int) < 64 := by omega
          have V9 : (m9 : Int) < 64 := by omega
          have Vj : (j : Int) < 64 := by omega
          have H1 := iy.cell m1 (by rw [Ly.out]; omega)
          have H14 := iy.cell m14 (by rw [Ly.out]; omega)
          have H9 := iy.cell m9 (by rw [Ly.out]; omega)
          have Hj := iy.cell j (by rw [Ly.out]; omega)
          have Hm := iy.cell m (by rw [Ly.out]; omega)
          have Fm := iy.free m
          have HM := Aside0.mk (And.intro hm (And.intro hm1 (And.intro hm9 hm14)))
          clear hm hm1 hm9 hm14
          go_wp2_with fail
          have T0 := Aside0.mk (show To wo wr.drew bW .u32 y from HT.out.drewN 1)
          change Code.wp _ _ _ _ wr
          refine start_ (n := 10) (S := fun w' => w'.cell? ⟨bW, m1, none⟩ = some (.int .u32 (rd y (m1 : Int))) ∧ w'.cell? ⟨bW, m14, none⟩ = some (.int .u32 (rd y (m14 : Int)))) (ds := []) #[false, false, false, false, false, false, false, false, false, false] (by kernel_rfl) rfl rfl ⟨H1, H14⟩ (fun hHeld => ?_)
          refine pure_ (i := 0) (N := some 65) (v := ?_) (a' := ?_) #[true, false, false, false, false, false, false, false, false, false] rfl rfl (by kernel_rfl) (fun _ _ _ h => h) (Or.inl ⟨by rfl, ?_⟩) ?_ ?_
          rotate_left
          · intro w'
            go_simp
            with_reducible rfl
          rotate_left
          · simp only [Act.put, List.setIfInBounds_toArray, List.set_cons_zero, List.set_cons_succ]
            rfl
          refine pure_ (i := 1) (N := some 66) (v := ?_) (a' := ?_) #[true, true, false, false, false, false, false, false, false, false] rfl rfl (by kernel_rfl) (fun _ _ _ h => h) (Or.inl ⟨by rfl, ?_⟩) ?_ ?_
          rotate_left
          · intro w'
            go_simp
            with_reducible rfl
          rotate_left
          · simp only [Act.put, List.setIfInBounds_toArray, List.set_cons_zero, List.set_cons_succ]
            rfl
          refine pure_ (i := 2) (N := some 67) (v := ?_) (a' := ?_) #[true, true, true, false, false, false, false, false, false, false] rfl rfl (by kernel_rfl) (fun _ _ _ h => h) (Or.inl ⟨by rfl, ?_⟩) ?_ ?_
          rotate_left
          · intro w'
            go_simp
            with_reducible rfl
          rotate_left
          · simp only [Act.put, List.setIfInBounds_toArray, List.set_cons_zero, List.set_cons_succ]
            rfl
          refine pure_ (i := 4) (N := some 69) (v := ?_) (a' := ?_) #[true, true, true, false, true, false, false, false, false, false] rfl rfl (by kernel_rfl) (fun _ _ _ h => h) (Or.inl ⟨by rfl, ?_⟩) ?_ ?_
          rotate_left
          · intro w'
            go_simp
            with_reducible rfl
          rotate_left
          · simp only [Act.put, List.setIfInBounds_toArray, List.set_cons_zero, List.set_cons_succ]
            rfl
          refine pure_ (i := 5) (N := some 70) (v := ?_) (a' := ?_) #[true, true, true, false, true, true, false, false, false, false] rfl rfl (by kernel_rfl) (fun _ _ _ h => h) (Or.inl ⟨by rfl, ?_⟩) ?_ ?_
          rotate_left
          · intro w'
            go_simp
            with_reducible rfl
          rotate_left
          · simp only [Act.put, List.setIfInBounds_toArray, List.set_cons_zero, List.set_cons_succ]
            rfl
          refine pure_ (i := 6) (N := some 71) (v := ?_) (a' := ?_) #[true, true, true, false, true, true, true, false, false, false] rfl rfl (by kernel_rfl) (fun _ _ _ h => h) (Or.inl ⟨by rfl, ?_⟩) ?_ ?_
          rotate_left
          · intro w'
            go_simp
            with_reducible rfl
          rotate_left
          · simp only [Act.put, List.setIfInBounds_toArray, List.set_cons_zero, List.set_cons_succ]
            rfl
          refine take_ (i := 3) (N := some 68) (v := ?_) (a' := ?_) #[true, true, true, true, true, true, true, false, false, false] rfl rfl (by kernel_rfl) (fun _ _ _ h => h) (Or.inl ⟨by rfl, ?_⟩) hHeld ?_ ?_
          rotate_left
          · rintro w' ⟨s0, s1⟩
            go_simp
            with_reducible rfl
          rotate_left
          · simp only [Act.put, List.setIfInBounds_toArray, List.set_cons_zero, List.set_cons_succ]
            rfl
          refine pure_ (i := 8) (N := some 9) (v := ?_) (a' := ?_) #[true, true, true, true, true, true, true, false, true, false] rfl rfl (by kernel_rfl) (fun _ _ _ h => h) (Or.inl ⟨by rfl, ?_⟩) ?_ ?_
          rotate_left
          · intro w'
            go_simp
            with_reducible rfl
          rotate_left
          · simp only [Act.put, List.setIfInBounds_toArray, List.set_cons_zero, List.set_cons_succ]
            rfl
          refine take_ (i := 7) (N := some 72) (v := ?_) (a' := ?_) #[true, true, true, true, true, true, true, true, true, false] rfl rfl (by kernel_rfl) (fun _ _ _ h => h) (Or.inl ⟨by rfl, ?_⟩) hHeld ?_ ?_
          rotate_left
          · rintro w' ⟨s0, s1⟩
            go_simp
            with_reducible rfl
          rotate_left
          · simp only [Act.put, List.setIfInBounds_toArray, List.set_cons_zero, List.set_cons_succ]
            rfl
          refine pure_ (i := 9) (N := some 10) (v := ?_) (a' := ?_) #[true, true, true, true, true, true, true, true, true, true] rfl rfl (by kernel_rfl) (fun _ _ _ h => h) (Or.inl ⟨by rfl, ?_⟩) ?_ ?_
          rotate_left
          · intro w'
            go_simp
            with_reducible rfl
          rotate_left
          · simp only [Act.put, List.setIfInBounds_toArray, List.set_cons_zero, List.set_cons_succ]
            rfl
          refine done_ (by kernel_rfl) ?_
          obtain ⟨p1, hp1⟩ : ∃ p, p = rd y (m1 : Int) := ⟨_, rfl⟩
          obtain ⟨p2, hp2⟩ : ∃ p, p = rd y (m14 : Int) := ⟨_, rfl⟩
          rw [← hp1, ← hp2]
          have HP := Aside0.mk (And.intro hp1 hp2)
          clear hp1 hp2 H1 H14 H9 Hj Hm Fm
          go_wp2_with fail
          refine (URot.bits_RotateLeft32.calls p1 (-7) (rotL p1 25) _ (rot_some p1 (-7) 25 (by decide) (by decide) (by decide))).mono ?_
          rintro e wz ⟨rfl, ⟨n1, hz⟩⟩
          have T1 := Aside0.mk (show To wo wz bW .u32 y by rw [hz]; exact T0.out.drewN n1)
          clear hz
          go_wp2_with fail
          refine (URot.bits_RotateLeft32.calls p1 (-18) (rotL p1 14) _ (rot_some p1 (-18) 14 (by decide) (by decide) (by decide))).mono ?_
          rintro e wz ⟨rfl, ⟨n2, hz⟩⟩
          have T2 := Aside0.mk (show To wo wz bW .u32 y by rw [hz]; exact T1.out.drewN n2)
          clear hz
          go_wp2_with fail
          refine (URot.bits_RotateLeft32.calls p2 (-17) (rotL p2 15) _ (rot_some p2 (-17) 15 (by decide) (by decide) (by decide))).mono ?_
          rintro e wz ⟨rfl, ⟨n3, hz⟩⟩
          have T3 := Aside0.mk (show To wo wz bW .u32 y by rw [hz]; exact T2.out.drewN n3)
          clear hz
          go_wp2_with fail
          refine (URot.bits_RotateLeft32.calls p2 (-19) (rotL p2 13) _ (rot_some p2 (-19) 13 (by decide) (by decide) (by decide))).mono ?_
          rintro e wz ⟨rfl, ⟨n4, hz⟩⟩
          have T4 := Aside0.mk (show To wo wz bW .u32 y by rw [hz]; exact T3.out.drewN n4)
          clear hz
          go_upto_region 12 with (fail)
          change Code.wp _ _ _ _ wz
          have iz := T4.out.is IA.out
          have H9 := iz.cell m9 (by rw [Ly.out]; have := HM.out; omega)
          have Hj := iz.cell j (by rw [Ly.out]; omega)
          have Hm := iz.cell m (by rw [Ly.out]; have := HM.out; omega)
          have Fm := iz.free m
          go_still_tail 15, (by kernel_rfl)
          change wpList _ _ _ _ _ wz.drew
          go_wp2_with fail
          rw [put_set iz, ← wB_step b j m m1 m9 m14 HM.out y Q0.out p1 p2 HP.out]
          have t1 := T4.out.put_dr (zs := wB b (j + 1))
          exact ⟨⟨j + 1, by omega, by rw [HM.out.1]; go_num, ⟨t1⟩⟩, by simp [intOf]; have := HM.out; omega⟩
        · obtain rfl : j = 48 := by omega
          rw [show (((16 + 48 : Nat) : Nat) : Int) = 64 from rfl]
          clear h48
          have IY := Aside0.mk iy
          have YE := Aside0.mk (show y = wB b 48 from Q0.out)
          have BY := Aside0.mk (To.below BA.out HT.out (by rw [HBW.out.1]; exact Nat.le_refl _))
          have HY := Aside0.mk (HT.out.other (by have := HBW.out; omega) HA.out)
          clear HT iy Q0 IA BA HA
          have HI8 := Aside0.mk (show (Try.prog.info? 64).map (·.size) = some h.length by rw [LL.out.1]; exact info_a8)
          have HLL := Aside0.mk (show z8.length = h.length by rw [LL.out.1]; rfl)
          have N4 := Aside0.mk (show Is (wr.alloc (.cells #[.int .u32 0, .int .u32 0, .int .u32 0, .int .u32 0, .int .u32 0, .int .u32 0, .int .u32 0, .int .u32 0] 64)) wr.heap.size 64 .u32 z8 from new_is wr 64 .u32 z8)
          go_upto_region 14 with (first | (with_reducible refine loadL_is (b := g) (e := 64) (k := .u32) (xs := h) 64 63 8 (.tmp 105) rfl rfl rfl HY.out Try.underlying64 HI8.out ?_) | (with_reducible refine storeL_is (b := wr.heap.size) (e := 64) (k := .u32) (xs := z8) 64 (.tmp 13) (.tmp 106) rfl rfl rfl h rfl rfl N4.out HLL.out HI8.out ?_))
          change Code.wp _ _ _ _ (put (wr.alloc (.cells (nums .u32 z8).toArray 64)) wr.heap.size .u32 h)
          have ig := put_heap (ys := h) N4.out
          have Bg : Below wr.heap.size wr (put (wr.alloc (.cells (nums .u32 z8).toArray 64)) wr.heap.size .u32 h) := below_put ((Below.refl _ _).alloc (Nat.le_refl _) _) (Nat.le_refl _)
          replace ig : Is (put (wr.alloc (.cells (nums .u32 z8).toArray 64)) wr.heap.size .u32 h) wr.heap.size 64 .u32 h := ig
          generalize put (wr.alloc (.cells (nums .u32 z8).toArray 64)) wr.heap.size .u32 h = wg at ig Bg ⊢
          obtain ⟨bS, hbS⟩ : ∃ b, b = wr.heap.size := ⟨_, rfl⟩
          rw [← hbS] at ig ⊢
          have SS := Aside0.mk ig
          have SW := Aside0.mk (IY.out.below Bg)
          have SH := Aside0.mk (HY.out.below Bg)
          have SB := Aside0.mk (below_step BY.out Bg)
          have SN := Aside0.mk (show bW ≠ bS ∧ g ≠ bS ∧ w.heap.size ≤ bS ∧ bW ≠ g by have h1 := IY.out.lt; have h2 := HY.out.lt; have h3 := BY.out.size; have h4 := HBW.out; omega)
          clear ig Bg hbS IY HY BY N4 HLL
          go_wp2
          obtain ⟨wo, rfl⟩ : ∃ wo : World, wo = wg := ⟨_, rfl⟩
          go_loopw [107] (fun v w' => ∃ i : Nat, i ≤ 64 ∧ v = .int .i64 i ∧ Aside0 (To wo w' bS .u32 (sN k y h i))) (fun v _ => 64 - (intOf v).toNat)
          case atStart => exact ⟨0, by omega, rfl, ⟨To.refl SS.out⟩⟩
          case round =>
            obtain ⟨i, hi, rfl, HT⟩ := hrel
            obtain ⟨s, q0⟩ : ∃ y_, y_ = sN k y h i := ⟨_, rfl⟩
            rw [← q0] at HT
            have Ls := Aside0.mk (show s.length = 8 by rw [q0, len_sN _ _ _ LL.out.1])
            have Q0 := Aside0.mk q0
            clear q0
            have is := HT.out.is SS.out
            by_cases h64 : i < 64
            · have i0 : (i : Int) < 64 := by omega
              have H0 := is.cell 0 (by rw [Ls.out]; omega)
              have H4 := is.cell 4 (by rw [Ls.out]; omega)
              go_wp2_with fail
              have T0 := Aside0.mk (show To wo wr.drew bS .u32 s from HT.out.drewN 1)
              change Code.wp _ _ _ _ wr
              refine start_ (n := 6) (S := fun w' => w'.cell? ⟨bS, 0, none⟩ = some (.int .u32 (rd s 0)) ∧ w'.cell? ⟨bS, 4, none⟩ = some (.int .u32 (rd s 4))) (ds := []) #[false, false, false, false, false, false] (by kernel_rfl) rfl rfl ⟨H0, H4⟩ (fun hHeld => ?_)
              refine pure_ (i := 0) (N := some 110) (v := ?_) (a' := ?_) #[true, false, false, false, false, false] rfl rfl (by kernel_rfl) (fun _ _ _ h => h) (Or.inl ⟨by rfl, ?_⟩) ?_ ?_
              rotate_left
              · intro w'
                go_simp
                with_reducible rfl
              rotate_left
              · simp only [Act.put, List.setIfInBounds_toArray, List.set_cons_zero, List.set_cons_succ]
                rfl
              refine pure_ (i := 2) (N := some 112) (v := ?_) (a' := ?_) #[true, false, true, false, false, false] rfl rfl (by kernel_rfl) (fun _ _ _ h => h) (Or.inl ⟨by rfl, ?_⟩) ?_ ?_
              rotate_left
              · intro w'
                go_simp
                with_reducible rfl
              rotate_left
              · simp only [Act.put, List.setIfInBounds_toArray, List.set_cons_zero, List.set_cons_succ]
                rfl
              refine take_ (i := 1) (N := some 111) (v := ?_) (a' := ?_) #[true, true, true, false, false, false] rfl rfl (by kernel_rfl) (fun _ _ _ h => h) (Or.inl ⟨by rfl, ?_⟩) hHeld ?_ ?_
              rotate_left
              · rintro w' ⟨s0, s1⟩
                go_simp
                with_reducible rfl
              rotate_left
              · simp only [Act.put, List.setIfInBounds_toArray, List.set_cons_zero, List.set_cons_succ]
                rfl
              refine pure_ (i := 4) (N := some 15) (v := ?_) (a' := ?_) #[true, true, true, false, true, false] rfl rfl (by kernel_rfl) (fun _ _ _ h => h) (Or.inl ⟨by rfl, ?_⟩) ?_ ?_
              rotate_left
              · intro w'
                go_simp
                with_reducible rfl
              rotate_left
              · simp only [Act.put, List.setIfInBounds_toArray, List.set_cons_zero, List.set_cons_succ]
                rfl
              refine take_ (i := 3) (N := some 113) (v := ?_) (a' := ?_) #[true, true, true, true, true, false] rfl rfl (by kernel_rfl) (fun _ _ _ h => h) (Or.inl ⟨by rfl, ?_⟩) hHeld ?_ ?_
              rotate_left
              · rintro w' ⟨s0, s1⟩
                go_simp
                with_reducible rfl
              rotate_left
              · simp only [Act.put, List.setIfInBounds_toArray, List.set_cons_zero, List.set_cons_succ]
                rfl
              refine pure_ (i := 5) (N := some 16) (v := ?_) (a' := ?_) #[true, true, true, true, true, true] rfl rfl (by kernel_rfl) (fun _ _ _ h => h) (Or.inl ⟨by rfl, ?_⟩) ?_ ?_
              rotate_left
              · intro w'
                go_simp
                with_reducible rfl
              rotate_left
              · simp only [Act.put, List.setIfInBounds_toArray, List.set_cons_zero, List.set_cons_succ]
                rfl
              refine done_ (by kernel_rfl) ?_
              obtain ⟨a, ha⟩ : ∃ p, p = rd s 0 := ⟨_, rfl⟩
              obtain ⟨e, he⟩ : ∃ p, p = rd s 4 := ⟨_, rfl⟩
              rw [← ha, ← he]
              have HAE := Aside0.mk (And.intro ha he)
              clear ha he H0 H4 is
              go_wp2_with fail
              refine (URot.bits_RotateLeft32.calls e (-6) (rotL e 26) _ (rot_some e (-6) 26 (by decide) (by decide) (by decide))).mono ?_
              rintro e wz ⟨rfl, ⟨n1, hz⟩⟩
              have T1 := Aside0.mk (show To wo wz bS .u32 s by rw [hz]; exact T0.out.drewN n1)
              clear hz
              go_wp2_with fail
              refine (URot.bits_RotateLeft32.calls e (-11) (rotL e 21) _ (rot_some e (-11) 21 (by decide) (by decide) (by decide))).mono ?_
              rintro e wz ⟨rfl, ⟨n2, hz⟩⟩
              have T2 := Aside0.mk (show To wo wz bS .u32 s by rw [hz]; exact T1.out.drewN n2)
              clear hz
              go_wp2_with fail
              refine (URot.bits_RotateLeft32.calls e (-25) (rotL e 7) _ (rot_some e (-25) 7 (by decide) (by decide) (by decide))).mono ?_
              rintro e wz ⟨rfl, ⟨n3, hz⟩⟩
              have T3 := Aside0.mk (show To wo wz bS .u32 s by rw [hz]; exact T2.out.drewN n3)
              clear hz
              go_wp2_with fail
              refine (URot.bits_RotateLeft32.calls a (-2) (rotL a 30) _ (rot_some a (-2) 30 (by decide) (by decide) (by decide))).mono ?_
              rintro e wz ⟨rfl, ⟨n4, hz⟩⟩
              have T4 := Aside0.mk (show To wo wz bS .u32 s by rw [hz]; exact T3.out.drewN n4)
              clear hz
              go_wp2_with fail
              refine (URot.bits_RotateLeft32.calls a (-13) (rotL a 19) _ (rot_some a (-13) 19 (by decide) (by decide) (by decide))).mono ?_
              rintro e wz ⟨rfl, ⟨n5, hz⟩⟩
              have T5 := Aside0.mk (show To wo wz bS .u32 s by rw [hz]; exact T4.out.drewN n5)
              clear hz
              go_wp2_with fail
              refine (URot.bits_RotateLeft32.calls a (-22) (rotL a 10) _ (rot_some a (-22) 10 (by decide) (by decide) (by decide))).mono ?_
              rintro e wz ⟨rfl, ⟨n6, hz⟩⟩
              have T6 := Aside0.mk (show To wo wz bS .u32 s by rw [hz]; exact T5.out.drewN n6)
              clear hz
              go_upto_region 20 with (fail)
              change Code.wp _ _ _ _ wz
              have iz := T6.out.is SS.out
              have iw := T6.out.other SN.out.1 SW.out
              have hKr := Kd.C_below HK.out (To.below SB.out T6.out SN.out.2.2.1)
              obtain ⟨adK, hAK, cKK⟩ := Kd.at_int hKr (i : Int) (by omega) (by omega)
              subst hAK
              rw [Int.toNat_natCast] at cKK
              have Z7 := iz.cell 7 (by rw [Ls.out]; omega)
              have Z5 := iz.cell 5 (by rw [Ls.out]; omega)
              have Z6 := iz.cell 6 (by rw [Ls.out]; omega)
              have ZW := iw.cell i (by rw [YE.out, len_wB]; omega)
              have T7 := Aside0.mk (show To wo wz.drew bS .u32 s from T6.out.drewN 1)
              clear iz iw hKr
              refine start_ (n := 25) (S := fun w' => w'.cell? ⟨bS, 7, none⟩ = some (.int .u32 (rd s 7)) ∧ w'.cell? ⟨bS, 5, none⟩ = some (.int .u32 (rd s 5)) ∧ w'.cell? ⟨bS, 6, none⟩ = some (.int .u32 (rd s 6)) ∧ w'.cell? (adK.add i) = some (.int .u32 (rd k (i : Int))) ∧ w'.cell? ⟨bW, i, none⟩ = some (.int .u32 (rd y (i : Int)))) (ds := []) #[false, false, false, false, false, false, false, false, false, false, false, false, false, false, false, false, false, false, false, false, false, false, false, false, false] (by kernel_rfl) rfl rfl ⟨Z7, Z5, Z6, cKK, ZW⟩ (fun hHeld => ?_)
              refine pure_ (i := 0) (N := some 130) (v := ?_) (a' := ?_) #[true, false, false, false, false, false, false, false, false, false, false, false, false, false, false, false, false, false, false, false, false, false, false, false, false] rfl rfl (by kernel_rfl) (fun _ _ _ h => h) (Or.inl ⟨by rfl, ?_⟩) ?_ ?_
              rotate_left
              · intro w'
                go_simp
                with_reducible rfl
              rotate_left
              · simp only [Act.put, List.setIfInBounds_toArray, List.set_cons_zero, List.set_cons_succ]
                rfl
              refine pure_ (i := 2) (N := some 132) (v := ?_) (a' := ?_) #[true, false, true, false, false, false, false, false, false, false, false, false, false, false, false, false, false, false, false, false, false, false, false, false, false] rfl rfl (by kernel_rfl) (fun _ _ _ h => h) (Or.inl ⟨by rfl, ?_⟩) ?_ ?_
              rotate_left
              · intro w'
                go_simp
                with_reducible rfl
              rotate_left
              · simp only [Act.put, List.setIfInBounds_toArray, List.set_cons_zero, List.set_cons_succ]
                rfl
              refine pure_ (i := 4) (N := some 134) (v := ?_) (a' := ?_) #[true, false, true, false, true, false, false, false, false, false, false, false, false, false, false, false, false, false, false, false, false, false, false, false, false] rfl rfl (by kernel_rfl) (fun _ _ _ h => h) (Or.inl ⟨by rfl, ?_⟩) ?_ ?_
              rotate_left
              · intro w'
                go_simp
                with_reducible rfl
              rotate_left
              · simp only [Act.put, List.setIfInBounds_toArray, List.set_cons_zero, List.set_cons_succ]
                rfl
              refine pure_ (i := 5) (N := some 135) (v := ?_) (a' := ?_) #[true, false, true, false, true, true, false, false, false, false, false, false, false, false, false, false, false, false, false, false, false, false, false, false, false] rfl rfl (by kernel_rfl) (fun _ _ _ h => h) (Or.inl ⟨by rfl, ?_⟩) ?_ ?_
              rotate_left
              · intro w'
                go_simp
                with_reducible rfl
              rotate_left
              · simp only [Act.put, List.setIfInBounds_toArray, List.set_cons_zero, List.set_cons_succ]
                rfl
              refine pure_ (i := 8) (N := some 138) (v := ?_) (a' := ?_) #[true, false, true, false, true, true, false, false, true, false, false, false, false, false, false, false, false, false, false, false, false, false, false, false, false] rfl rfl (by kernel_rfl) (fun _ _ _ h => h) (Or.inl ⟨by rfl, ?_⟩) ?_ ?_
              rotate_left
              · intro w'
                go_simp
                with_reducible rfl
              rotate_left
              · simp only [Act.put, List.setIfInBounds_toArray, List.set_cons_zero, List.set_cons_succ]
                rfl
              refine pure_ (i := 9) (N := some 139) (v := ?_) (a' := ?_) #[true, false, true, false, true, true, false, false, true, true, false, false, false, false, false, false, false, false, false, false, false, false, false, false, false] rfl rfl (by kernel_rfl) (fun _ _ _ h => h) (Or.inl ⟨by rfl, ?_⟩) ?_ ?_
              rotate_left
              · intro w'
                go_simp
                with_reducible rfl
              rotate_left
              · simp only [Act.put, List.setIfInBounds_toArray, List.set_cons_zero, List.set_cons_succ]
                rfl
              refine pure_ (i := 10) (N := some 140) (v := ?_) (a' := ?_) #[true, false, true, false, true, true, false, false, true, true, true, false, false, false, false, false, false, false, false, false, false, false, false, false, false] rfl rfl (by kernel_rfl) (fun _ _ _ h => h) (Or.inl ⟨by rfl, ?_⟩) ?_ ?_
              rotate_left
              · intro w'
                go_simp
                with_reducible rfl
              rotate_left
              · simp only [Act.put, List.setIfInBounds_toArray, List.set_cons_zero, List.set_cons_succ]
                rfl
              refine pure_ (i := 15) (N := some 145) (v := ?_) (a' := ?_) #[true, false, true, false, true, true, false, false, true, true, true, false, false, false, false, true, false, false, false, false, false, false, false, false, false] rfl rfl (by kernel_rfl) (fun _ _ _ h => h) (Or.inl ⟨by rfl, ?_⟩) ?_ ?_
              rotate_left
              · intro w'
                go_simp
                with_reducible rfl
              rotate_left
              · simp only [Act.put, List.setIfInBounds_toArray, List.set_cons_zero, List.set_cons_succ]
                rfl
              refine pure_ (i := 16) (N := some 146) (v := ?_) (a' := ?_) #[true, false, true, false, true, true, false, false, true, true, true, false, false, false, false, true, true, false, false, false, false, false, false, false, false] rfl rfl (by kernel_rfl) (fun _ _ _ h => h) (Or.inl ⟨by rfl, ?_⟩) ?_ ?_
              rotate_left
              · intro w'
                go_simp
                with_reducible rfl
              rotate_left
              · simp only [Act.put, List.setIfInBounds_toArray, List.set_cons_zero, List.set_cons_succ]
                rfl
              refine pure_ (i := 17) (N := some 147) (v := ?_) (a' := ?_) #[true, false, true, false, true, true, false, false, true, true, true, false, false, false, false, true, true, true, false, false, false, false, false, false, false] rfl rfl (by kernel_rfl) (fun _ _ _ h => h) (Or.inl ⟨by rfl, ?_⟩) ?_ ?_
              rotate_left
              · intro w'
                go_simp
                with_reducible rfl
              rotate_left
              · simp only [Act.put, List.setIfInBounds_toArray, List.set_cons_zero, List.set_cons_succ]
                rfl
              refine pure_ (i := 20) (N := some 150) (v := ?_) (a' := ?_) #[true, false, true, false, true, true, false, false, true, true, true, false, false, false, false, true, true, true, false, false, true, false, false, false, false] rfl rfl (by kernel_rfl) (fun _ _ _ h => h) (Or.inl ⟨by rfl, ?_⟩) ?_ ?_
              rotate_left
              · intro w'
                go_simp
                with_reducible rfl
              rotate_left
              · simp only [Act.put, List.setIfInBounds_toArray, List.set_cons_zero, List.set_cons_succ]
                rfl
              refine pure_ (i := 21) (N := some 151) (v := ?_) (a' := ?_) #[true, false, true, false, true, true, false, false, true, true, true, false, false, false, false, true, true, true, false, false, true, true, false, false, false] rfl rfl (by kernel_rfl) (fun _ _ _ h => h) (Or.inl ⟨by rfl, ?_⟩) ?_ ?_
              rotate_left
              · intro w'
                go_simp
                with_reducible rfl
              rotate_left
              · simp only [Act.put, List.setIfInBounds_toArray, List.set_cons_zero, List.set_cons_succ]
                rfl
              refine take_ (i := 1) (N := some 131) (v := ?_) (a' := ?_) #[true, true, true, false, true, true, false, false, true, true, true, false, false, false, false, true, true, true, false, false, true, true, false, false, false] rfl rfl (by kernel_rfl) (fun _ _ _ h => h) (Or.inl ⟨by rfl, ?_⟩) hHeld ?_ ?_
              rotate_left
              · rintro w' ⟨s0, s1, s2, s3, s4⟩
                go_simp
                with_reducible rfl
              rotate_left
              · simp only [Act.put, List.setIfInBounds_toArray, List.set_cons_zero, List.set_cons_succ]
                rfl
              refine pure_ (i := 3) (N := some 133) (v := ?_) (a' := ?_) #[true, true, true, true, true, true, false, false, true, true, true, false, false, false, false, true, true, true, false, false, true, true, false, false, false] rfl rfl (by kernel_rfl) (fun _ _ _ h => h) (Or.inl ⟨by rfl, ?_⟩) ?_ ?_
              rotate_left
              · intro w'
                go_simp
                with_reducible rfl
              rotate_left
              · simp only [Act.put, List.setIfInBounds_toArray, List.set_cons_zero, List.set_cons_succ]
                rfl
              refine take_ (i := 6) (N := some 136) (v := ?_) (a' := ?_) #[true, true, true, true, true, true, true, false, true, true, true, false, false, false, false, true, true, true, false, false, true, true, false, false, false] rfl rfl (by kernel_rfl) (fun _ _ _ h => h) (Or.inl ⟨by rfl, ?_⟩) hHeld ?_ ?_
              rotate_left
              · rintro w' ⟨s0, s1, s2, s3, s4⟩
                go_simp
                with_reducible rfl
              rotate_left
              · simp only [Act.put, List.setIfInBounds_toArray, List.set_cons_zero, List.set_cons_succ]
                rfl
              refine pure_ (i := 7) (N := some 137) (v := ?_) (a' := ?_) #[true, true, true, true, true, true, true, true, true, true, true, false, false, false, false, true, true, true, false, false, true, true, false, false, false] rfl rfl (by kernel_rfl) (fun _ _ _ h => h) (Or.inl ⟨by rfl, ?_⟩) ?_ ?_
              rotate_left
              · intro w'
                go_simp
                with_reducible rfl
              rotate_left
              · simp only [Act.put, List.setIfInBounds_toArray, List.set_cons_zero, List.set_cons_succ]
                rfl
              refine take_ (i := 11) (N := some 141) (v := ?_) (a' := ?_) #[true, true, true, true, true, true, true, true, true, true, true, true, false, false, false, true, true, true, false, false, true, true, false, false, false] rfl rfl (by kernel_rfl) (fun _ _ _ h => h) (Or.inl ⟨by rfl, ?_⟩) hHeld ?_ ?_
              rotate_left
              · rintro w' ⟨s0, s1, s2, s3, s4⟩
                go_simp
                with_reducible rfl
              rotate_left
              · simp only [Act.put, List.setIfInBounds_toArray, List.set_cons_zero, List.set_cons_succ]
                rfl
              refine pure_ (i := 12) (N := some 142) (v := ?_) (a' := ?_) #[true, true, true, true, true, true, true, true, true, true, true, true, true, false, false, true, true, true, false, false, true, true, false, false, false] rfl rfl (by kernel_rfl) (fun _ _ _ h => h) (Or.inl ⟨by rfl, ?_⟩) ?_ ?_
              rotate_left
              · intro w'
                go_simp
                with_reducible rfl
              rotate_left
              · simp only [Act.put, List.setIfInBounds_toArray, List.set_cons_zero, List.set_cons_succ]
                rfl
              refine pure_ (i := 13) (N := some 143) (v := ?_) (a' := ?_) #[true, true, true, true, true, true, true, true, true, true, true, true, true, true, false, true, true, true, false, false, true, true, false, false, false] rfl rfl (by kernel_rfl) (fun _ _ _ h => h) (Or.inl ⟨by rfl, ?_⟩) ?_ ?_
              rotate_left
              · intro w'
                go_simp
                with_reducible rfl
              rotate_left
              · simp only [Act.put, List.setIfInBounds_toArray, List.set_cons_zero, List.set_cons_succ]
                rfl
              refine pure_ (i := 14) (N := some 144) (v := ?_) (a' := ?_) #[true, true, true, true, true, true, true, true, true, true, true, true, true, true, true, true, true, true, false, false, true, true, false, false, false] rfl rfl (by kernel_rfl) (fun _ _ _ h => h) (Or.inl ⟨by rfl, ?_⟩) ?_ ?_
              rotate_left
              · intro w'
                go_simp
                with_reducible rfl
              rotate_left
              · simp only [Act.put, List.setIfInBounds_toArray, List.set_cons_zero, List.set_cons_succ]
                rfl
              refine take_ (i := 18) (N := some 148) (v := ?_) (a' := ?_) #[true, true, true, true, true, true, true, true, true, true, true, true, true, true, true, true, true, true, true, false, true, true, false, false, false] rfl rfl (by kernel_rfl) (fun _ _ _ h => h) (Or.inl ⟨by rfl, ?_⟩) hHeld ?_ ?_
              rotate_left
              · rintro w' ⟨s0, s1, s2, s3, s4⟩
                go_simp
                with_reducible rfl
              rotate_left
              · simp only [Act.put, List.setIfInBounds_toArray, List.set_cons_zero, List.set_cons_succ]
                rfl
              refine pure_ (i := 19) (N := some 149) (v := ?_) (a' := ?_) #[true, true, true, true, true, true, true, true, true, true, true, true, true, true, true, true, true, true, true, true, true, true, false, false, false] rfl rfl (by kernel_rfl) (fun _ _ _ h => h) (Or.inl ⟨by rfl, ?_⟩) ?_ ?_
              rotate_left
              · intro w'
                go_simp
                with_reducible rfl
              rotate_left
              · simp only [Act.put, List.setIfInBounds_toArray, List.set_cons_zero, List.set_cons_succ]
                rfl
              refine take_ (i := 22) (N := some 152) (v := ?_) (a' := ?_) #[true, true, true, true, true, true, true, true, true, true, true, true, true, true, true, true, true, true, true, true, true, true, true, false, false] rfl rfl (by kernel_rfl) (fun _ _ _ h => h) (Or.inl ⟨by rfl, ?_⟩) hHeld ?_ ?_
              rotate_left
              · rintro w' ⟨s0, s1, s2, s3, s4⟩
                go_simp
                with_reducible rfl
              rotate_left
              · simp only [Act.put, List.setIfInBounds_toArray, List.set_cons_zero, List.set_cons_succ]
                rfl
              refine pure_ (i := 23) (N := some 153) (v := ?_) (a' := ?_) #[true, true, true, true, true, true, true, true, true, true, true, true, true, true, true, true, true, true, true, true, true, true, true, true, false] rfl rfl (by kernel_rfl) (fun _ _ _ h => h) (Or.inl ⟨by rfl, ?_⟩) ?_ ?_
              rotate_left
              · intro w'
                go_simp
                with_reducible rfl
              rotate_left
              · simp only [Act.put, List.setIfInBounds_toArray, List.set_cons_zero, List.set_cons_succ]
                rfl
              refine pure_ (i := 24) (N := some 19) (v := ?_) (a' := ?_) #[true, true, true, true, true, true, true, true, true, true, true, true, true, true, true, true, true, true, true, true, true, true, true, true, true] rfl rfl (by kernel_rfl) (fun _ _ _ h => h) (Or.inl ⟨by rfl, ?_⟩) ?_ ?_
              rotate_left
              · intro w'
                go_simp
                with_reducible rfl
              rotate_left
              · simp only [Act.put, List.setIfInBounds_toArray, List.set_cons_zero, List.set_cons_succ]
                rfl
              refine done_ (by kernel_rfl) ?_
              clear Z7 Z5 Z6 ZW cKK hHeld
              have iz := T7.out.is SS.out
              have Z1 := iz.cell 1 (by rw [Ls.out]; omega)
              have Z2 := iz.cell 2 (by rw [Ls.out]; omega)
              have Z3 := iz.cell 3 (by rw [Ls.out]; omega)
              have Z5 := iz.cell 5 (by rw [Ls.out]; omega)
              have Z6 := iz.cell 6 (by rw [Ls.out]; omega)
              generalize hT : IntKind.u32.wrap (IntKind.u32.wrap (IntKind.u32.wrap (IntKind.u32.wrap (rd s 7 + Go.bits .xor .u32 (Go.bits .xor .u32 (rotL e 26) (rotL e 21)) (rotL e 7)) + Go.bits .xor .u32 (Go.bits .and .u32 e (rd s 5)) (Go.bits .and .u32 (Go.bits .xor .u32 (if IntKind.u32.signed = true then -1 else IntKind.u32.max) e) (rd s 6))) + rd k (i : Int)) + rd y (i : Int)) = tt
              have HTT := Aside0.mk (show tt = tF s (rd k (i : Int)) (rd y (i : Int)) by rw [tF, epE, ← HAE.out.2]; exact hT.symm)
              clear hT
              go_upto_region 22 with (fail)
              generalize hU : (Go.bits .xor .u32 (Go.bits .xor .u32 (rotL a 30) (rotL a 19)) (rotL a 10) + Go.bits .xor .u32 (Go.bits .xor .u32 (Go.bits .and .u32 a (rd s 1)) (Go.bits .and .u32 a (rd s 2))) (Go.bits .and .u32 (rd s 1) (rd s 2))) % 4294967296 = uu
              have HUU := Aside0.mk (show uu = uF s by rw [uF, epA, ← HAE.out.1]; exact hU.symm)
              clear hU
              have IZ := Aside0.mk iz
              have HLz := Aside0.mk (show s.length = ([(tt + uu) % 4294967296, a, rd s 1, rd s 2, (rd s 3 + tt) % 4294967296, e, rd s 5, rd s 6] : List Int).length by rw [Ls.out]; rfl)
              have HIz := Aside0.mk (show (Try.prog.info? 64).map (·.size) = some ([(tt + uu) % 4294967296, a, rd s 1, rd s 2, (rd s 3 + tt) % 4294967296, e, rd s 5, rd s 6] : List Int).length from info_a8)
              go_wp2_with ((with_reducible refine gate_store (t := 64) (p := 13) rfl ?_); refine storeL_is (b := bS) (e := 64) (k := .u32) (xs := s) 64 (.tmp 13) (.tmp 188) rfl rfl rfl [(tt + uu) % 4294967296, a, rd s 1, rd s 2, (rd s 3 + tt) % 4294967296, e, rd s 5, rd s 6] rfl rfl IZ.out HLz.out HIz.out ?_)
              have e1 : sN k y h (i + 1) = [(tt + uu) % 4294967296, a, rd s 1, rd s 2, (rd s 3 + tt) % 4294967296, e, rd s 5, rd s 6] := by rw [sN, ← Q0.out, stepF, ← HTT.out, ← HUU.out, ← HAE.out.1, ← HAE.out.2]
              rw [← e1]
              have t1 := T7.out.put_d0 (zs := sN k y h (i + 1))
              exact ⟨⟨i + 1, by omega, by go_num, ⟨t1⟩⟩, by simp [intOf]; omega⟩
            · obtain rfl : i = 64 := by omega
              rw [show ((64 : Nat) : Int) = 64 from rfl]
              clear h64
              have ES := Aside0.mk (show s = sN k y h 64 from Q0.out)
              have IS := Aside0.mk is
              have IH := Aside0.mk (HT.out.other SN.out.2.1 SH.out)
              have BI := Aside0.mk (To.below SB.out HT.out SN.out.2.2.1)
              clear HT is Q0 SS SW SH SB
              go_wp2
              obtain ⟨wp, rfl⟩ : ∃ wp : World, wp = wr := ⟨_, rfl⟩
              go_loopw [190] (fun v w' => ∃ i : Nat, i ≤ 8 ∧ v = .int .i64 i ∧ Aside0 (To wp w' g .u32 (aN h s i))) (fun v _ => 8 - (intOf v).toNat)
              case atStart => exact ⟨0, by omega, rfl, ⟨To.refl IH.out⟩⟩
              case round =>
                obtain ⟨i, hi, rfl, HT⟩ := hrel
                obtain ⟨x, q0⟩ : ∃ y_, y_ = aN h s i := ⟨_, rfl⟩
                rw [← q0] at HT
                have Lx := Aside0.mk (show x.length = 8 by rw [q0, len_aN, LL.out.1])
                have Q0 := Aside0.mk q0
                clear q0
                have ix := HT.out.is IH.out
                by_cases h8 : i < 8
                · have i0 : (i : Int) < 8 := by omega
                  have H1 := ix.cell i (by rw [Lx.out]; omega)
                  have F1 := ix.free i
                  have H2 := (HT.out.other (Ne.symm SN.out.2.1) IS.out).cell i (by rw [Ls.out]; omega)
                  go_wp2
                  go_still_tail 11, (by kernel_rfl)
                  change wpList _ _ _ _ _ wr.drew
                  go_wp2_with fail
                  rw [put_set ix]
                  have e1 : aN h s (i + 1) = x.set i ((rd x (i : Int) + rd s (i : Int)) % 4294967296) := by rw [aN, ← Q0.out]
                  rw [← e1]
                  have t1 := HT.out.put_dr (zs := aN h s (i + 1))
                  exact ⟨⟨i + 1, by omega, by go_num, ⟨t1⟩⟩, by simp [intOf]; omega⟩
                · obtain rfl : i = 8 := by omega
                  rw [show ((8 : Nat) : Int) = 8 from rfl]
                  have HTT := Aside0.mk (show To wp wr g .u32 (roundF h b k) by rw [roundF, ← YE.out, ← ES.out, ← Q0.out]; exact HT.out)
                  clear h8 ix HT Q0
                  go_wp2_with fail
                  go_end0
                  exact ⟨rfl, ((Into.refl HH.out).below BI.out).to HTT.out⟩
end Go.Proofs.Ythahhjkokdillaa.Sha
