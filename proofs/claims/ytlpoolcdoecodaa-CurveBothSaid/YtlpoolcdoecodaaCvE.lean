/-
  Bits of 64-bit numbers; swap, walked.
-/
import Derived.Test.YtlpoolcdoecodaaCvD
namespace Go.Proofs.Ytlpoolcdoecodaa.Cv
open Go.RowKit Go.Proofs.YtlpoolcdoecodaaW.PrintWords Go.Proofs.YtlpoolcdoecodaaW.PrintLast Go.Proofs.YtlpoolcdoecodaaW.PrintMore Go.Proofs.Ytlpoolcdoecodaa.Arr
set_option linter.unusedVariables false
set_option maxHeartbeats 8000000
set_option maxRecDepth 100000
theorem wrap_toNat (v : BitVec 64) : IntKind.i64.wrap ((v.toNat : Nat) : Int) = v.toInt := by
  have h := v.isLt
  rw [i64_w, BitVec.toInt_eq_toNat_cond]
  unfold wrap64
  split <;> omega
theorem xor64 (x y : Int) : Go.bits .xor .i64 x y = (BitVec.ofInt 64 x ^^^ BitVec.ofInt 64 y).toInt := wrap_toNat _
theorem and64 (x y : Int) : Go.bits .and .i64 x y = (BitVec.ofInt 64 x &&& BitVec.ofInt 64 y).toInt := wrap_toNat _
theorem or64 (x y : Int) : Go.bits .or .i64 x y = (BitVec.ofInt 64 x ||| BitVec.ofInt 64 y).toInt := wrap_toNat _
theorem toInt_of (x : Int) (h0 : -9223372036854775808 ≤ x) (h1 : x ≤ 9223372036854775807) : (BitVec.ofInt 64 x).toInt = x := by
  rw [BitVec.toInt_ofInt]
  unfold Int.bmod
  simp only [Nat.reducePow, Int.cast_ofNat_Int]
  split <;> omega
theorem sel0 (x : Int) : Go.bits .and .i64 0 x = 0 := by
  rw [and64, show BitVec.ofInt 64 0 = 0#64 from rfl, BitVec.zero_and]
  rfl
theorem sel1 (p q : Int) : Go.bits .and .i64 (-1) (Go.bits .xor .i64 p q) = Go.bits .xor .i64 p q := by
  rw [and64, show BitVec.ofInt 64 (-1) = BitVec.allOnes 64 from by decide, BitVec.allOnes_and, xor64, BitVec.ofInt_toInt]
theorem xor0 (p : Int) (h0 : -9223372036854775808 ≤ p) (h1 : p ≤ 9223372036854775807) : Go.bits .xor .i64 p 0 = p := by
  rw [xor64, show BitVec.ofInt 64 0 = 0#64 from rfl, BitVec.xor_zero, toInt_of p h0 h1]
theorem xor1 (p q : Int) (h0 : -9223372036854775808 ≤ q) (h1 : q ≤ 9223372036854775807) : Go.bits .xor .i64 p (Go.bits .xor .i64 p q) = q := by
  rw [xor64, xor64, BitVec.ofInt_toInt, ← BitVec.xor_assoc, BitVec.xor_self, BitVec.zero_xor, toInt_of q h0 h1]
theorem xor2 (p q : Int) (h0 : -9223372036854775808 ≤ p) (h1 : p ≤ 9223372036854775807) : Go.bits .xor .i64 q (Go.bits .xor .i64 p q) = p := by
  rw [xor64, xor64, BitVec.ofInt_toInt, BitVec.xor_comm (BitVec.ofInt 64 p), ← BitVec.xor_assoc, BitVec.xor_self, BitVec.zero_xor, toInt_of p h0 h1]
theorem and_mask (x : Int) (n : Nat) (hn : n ≤ 62) : Go.bits .and .i64 x (2 ^ n - 1) = x % 2 ^ n := by
  show IntKind.i64.wrap (((BitVec.ofInt 64 x &&& BitVec.ofInt 64 (2 ^ n - 1)).toNat : Nat) : Int) = _
  have hp : (1 : Nat) ≤ 2 ^ n := Nat.one_le_two_pow
  have hle : 2 ^ n ≤ 2 ^ 62 := Nat.pow_le_pow_right (by decide) hn
  have hcast : ((2 : Int) ^ n) = ((2 ^ n : Nat) : Int) := by simp
  have e1 : (BitVec.ofInt 64 (2 ^ n - 1)).toNat = 2 ^ n - 1 := by
    rw [BitVec.toNat_ofInt, hcast]
    omega
  rw [BitVec.toNat_and, e1, Nat.and_two_pow_sub_one_eq_mod, BitVec.toNat_ofInt]
  have hd : (2 ^ n : Nat) ∣ 18446744073709551616 := ⟨2 ^ (64 - n), by rw [← Nat.pow_add, show n + (64 - n) = 64 by omega]⟩
  have h2 : ((((x % ((2 ^ 64 : Nat) : Int)).toNat) % 2 ^ n : Nat) : Int) = x % 2 ^ n := by
    rw [Int.natCast_emod, Int.toNat_of_nonneg (Int.emod_nonneg _ (by decide)), hcast]
    exact Int.emod_emod_of_dvd x (Int.natCast_dvd_natCast.2 hd)
  rw [h2, i64_w, wrap_id]
  · have := Int.emod_nonneg x (b := 2 ^ n) (by rw [hcast]; omega); omega
  · have := Int.emod_lt_of_pos x (b := 2 ^ n) (by rw [hcast]; omega); rw [hcast] at this ⊢; omega
theorem or_byte (x y : Int) (hx : 0 ≤ x ∧ x < 256) (hy : 0 ≤ y ∧ y < 256) : Go.bits .or .i64 x (y * 256) = x + 256 * y := by
  obtain ⟨a, rfl⟩ := Int.eq_ofNat_of_zero_le hx.1
  obtain ⟨b, rfl⟩ := Int.eq_ofNat_of_zero_le hy.1
  show IntKind.i64.wrap (((BitVec.ofInt 64 (a : Int) ||| BitVec.ofInt 64 ((b : Int) * 256)).toNat : Nat) : Int) = _
  have e1 : (BitVec.ofInt 64 (a : Int)).toNat = a := by rw [BitVec.toNat_ofInt]; omega
  have e2 : (BitVec.ofInt 64 ((b : Int) * 256)).toNat = b <<< 8 := by rw [BitVec.toNat_ofInt, Nat.shiftLeft_eq]; omega
  rw [BitVec.toNat_or, e1, e2, Nat.or_comm, ← Nat.shiftLeft_add_eq_or_of_lt (by omega), Nat.shiftLeft_eq, i64_w, wrap_id (by omega) (by omega)]
  omega
/-- Two arrays are written, and nothing else. -/
structure Two (w w' : World) (g1 g2 : Nat) : Prop where
  os : w'.os = w.os
  tape : w'.tape = w.tape
  output : w'.output = w.output
  size : w'.heap.size = w.heap.size
  block : ∀ k, k ≠ g1 → k ≠ g2 → w'.heap[k]? = w.heap[k]?
theorem Two.refl {w : World} {g1 g2 : Nat} : Two w w g1 g2 := ⟨rfl, rfl, rfl, rfl, fun _ _ _ => rfl⟩
theorem Two.one {w w1 w2 : World} {g1 g2 : Nat} {ys : List Int} (h : Two w w1 g1 g2) (t : To w1 w2 g1 .i64 ys) : Two w w2 g1 g2 := by
  obtain ⟨n, rfl⟩ := t.out
  exact ⟨h.os, h.tape, h.output, by rw [World.drewN, put_size]; exact h.size, fun k h1 h2 => (put_other k h1).trans (h.block k h1 h2)⟩
theorem Two.two {w w1 w2 : World} {g1 g2 : Nat} {ys : List Int} (h : Two w w1 g1 g2) (t : To w1 w2 g2 .i64 ys) : Two w w2 g1 g2 := by
  obtain ⟨n, rfl⟩ := t.out
  exact ⟨h.os, h.tape, h.output, by rw [World.drewN, put_size]; exact h.size, fun k h1 h2 => (put_other k h2).trans (h.block k h1 h2)⟩
theorem Two.below {w0 w w' : World} {g1 g2 B : Nat} (h0 : Below B w0 w) (h : Two w w' g1 g2) (h1 : B ≤ g1) (h2 : B ≤ g2) : Below B w0 w' :=
  ⟨h.os.trans h0.os, h.tape.trans h0.tape, h.output.trans h0.output, by rw [h.size]; exact h0.size, fun k hk => (h.block k (by omega) (by omega)).trans (h0.block k hk)⟩
theorem Two.other {w w' : World} {g1 g2 g : Nat} {e : TypeId} {k : IntKind} {xs : List Int} (h : Two w w' g1 g2) (h1 : g ≠ g1) (h2 : g ≠ g2) (hI : Is w g e k xs) : Is w' g e k xs := (h.block g h1 h2).trans hI
/-- The first entries from another list. -/
def mixS (a b : List Int) : Nat → List Int
  | 0 => a
  | i + 1 => (mixS a b i).set i (rd b (i : Int))
theorem len_mixS (a b : List Int) : ∀ i, (mixS a b i).length = a.length
  | 0 => rfl
  | i + 1 => by rw [mixS, List.length_set, len_mixS a b i]
theorem mixS_getD (a b : List Int) (ha : a.length = 16) : ∀ i, i ≤ 16 → ∀ j, (mixS a b i).getD j 0 = if j < i then b.getD j 0 else a.getD j 0
  | 0, _, j => by rw [if_neg (by omega)]; rfl
  | i + 1, h, j => by
    have ih := mixS_getD a b ha i (by omega)
    rw [mixS, getD_set _ _ _ _ (by rw [len_mixS, ha]; omega), rd_nat, ih j]
    by_cases hij : i = j
    · subst hij; rw [if_pos rfl, if_pos (by omega)]
    · rw [if_neg hij]
      by_cases hj : j < i
      · rw [if_pos hj, if_pos (by omega)]
      · rw [if_neg hj, if_neg (by omega)]
theorem mixS_full (a b : List Int) (ha : a.length = 16) (hb : b.length = 16) : mixS a b 16 = b :=
  ext16 (by rw [len_mixS, ha]) hb (fun j hj => by rw [mixS_getD a b ha 16 (Nat.le_refl _), if_pos hj])
theorem swap_calls (gp gq : Nat) (hn : gp ≠ gq) (a b : List Int) (so : Int) (hso : so = 0 ∨ so = 1) (ha : a.length = 16) (hb : b.length = 16) (ba : Bd 65573 a) (bb : Bd 65573 b) (w : World) (hp : Is w gp 48 .i64 a) (hq : Is w gq 48 .i64 b) :
    Calls Try.prog 25 #[.pointer (some ⟨gp, 0, none⟩), .pointer (some ⟨gq, 0, none⟩), .int .i64 so] w fun e w' => e = .returned (.tuple #[]) ∧ Is w' gp 48 .i64 (if so = 1 then b else a) ∧ Is w' gq 48 .i64 (if so = 1 then a else b) ∧ Two w w' gp gq := by
  obtain ⟨pa, hpa⟩ : ∃ x, x = if so = 1 then b else a := ⟨_, rfl⟩
  obtain ⟨qb, hqb⟩ : ∃ x, x = if so = 1 then a else b := ⟨_, rfl⟩
  rw [← hpa, ← hqb]
  have AB := Aside0.mk (show (so = 0 ∧ pa = a ∧ qb = b) ∨ (so = 1 ∧ pa = b ∧ qb = a) by
    rcases hso with rfl | rfl
    · rw [if_neg (by decide)] at hpa hqb; exact .inl ⟨rfl, hpa, hqb⟩
    · rw [if_pos rfl] at hpa hqb; exact .inr ⟨rfl, hpa, hqb⟩)
  have PL := Aside0.mk (show pa.length = 16 ∧ qb.length = 16 by rcases AB.out with ⟨_, h1, h2⟩ | ⟨_, h1, h2⟩ <;> rw [h1, h2] <;> exact ⟨by assumption, by assumption⟩)
  have LL := Aside0.mk (And.intro ha hb)
  have BB := Aside0.mk (And.intro ba bb)
  have HN := Aside0.mk hn
  have HP := Aside0.mk hp
  have HQ := Aside0.mk hq
  clear hpa hqb ha hb ba bb hn hp hq hso
  go_enter Try.func25, Try.ntmps25
  go_wp2_with fail
  go_loopw [8] (fun v w' => ∃ i : Nat, i ≤ 16 ∧ v = .int .i64 (i : Int) ∧ Aside0 (Is w' gp 48 .i64 (mixS a pa i)) ∧ Aside0 (Is w' gq 48 .i64 (mixS b qb i)) ∧ Aside0 (Two w w' gp gq)) (fun v _ => 16 - (intOf v).toNat)
  case atStart => exact ⟨0, by omega, rfl, HP, HQ, ⟨Two.refl⟩⟩
  case round =>
    obtain ⟨i, hi, rfl, H1, H2, HT⟩ := hrel
    obtain ⟨x, hx⟩ : ∃ y_, y_ = mixS a pa i := ⟨_, rfl⟩
    obtain ⟨y, hy⟩ : ∃ y_, y_ = mixS b qb i := ⟨_, rfl⟩
    rw [← hx] at H1
    rw [← hy] at H2
    have LX := Aside0.mk (show x.length = 16 ∧ y.length = 16 by rw [hx, hy, len_mixS, len_mixS]; exact LL.out)
    have QX := Aside0.mk hx
    have QY := Aside0.mk hy
    by_cases h16 : i < 16
    · have i0 : (i : Int) < 16 := by omega
      have ex : rd x (i : Int) = rd a (i : Int) := by rw [hx, rd_nat, mixS_getD _ _ LL.out.1 i (by omega), if_neg (by omega), rd_nat]
      have ey : rd y (i : Int) = rd b (i : Int) := by rw [hy, rd_nat, mixS_getD _ _ LL.out.2 i (by omega), if_neg (by omega), rd_nat]
      have b1 := BB.out.1 i
      have b2 := BB.out.2 i
      rw [← rd_nat] at b1 b2
      obtain ⟨t, ht⟩ : ∃ t, t = Go.bits .and .i64 (wrap64 (-so)) (Go.bits .xor .i64 (rd x (i : Int)) (rd y (i : Int))) := ⟨_, rfl⟩
      have TP := Aside0.mk (show Go.bits .xor .i64 (rd x (i : Int)) t = rd pa (i : Int) ∧ Go.bits .xor .i64 (rd y (i : Int)) t = rd qb (i : Int) by
        rw [ht, ex, ey]
        rcases AB.out with ⟨rfl, h1, h2⟩ | ⟨rfl, h1, h2⟩
        · rw [h1, h2, show wrap64 (-0) = 0 from wrap_id (by decide) (by decide), sel0, xor0 _ (by omega) (by omega), xor0 _ (by omega) (by omega)]
          exact ⟨rfl, rfl⟩
        · rw [h1, h2, show wrap64 (-1) = -1 from wrap_id (by decide) (by decide), sel1, xor1 _ _ (by omega) (by omega), xor2 _ _ (by omega) (by omega)]
          exact ⟨rfl, rfl⟩)
      have HTT := Aside0.mk ht.symm
      clear ex ey b1 b2 hx hy ht
      have cx := H1.out.cell i (by rw [LX.out.1]; omega)
      have cy := H2.out.cell i (by rw [LX.out.2]; omega)
      go_upto_region 4 with (fail)
      go_region
      rw [HTT.out]
      have D1 := Aside0.mk (show Is wr.drew gp 48 .i64 x from H1.out)
      have D2 := Aside0.mk (show Is wr.drew gq 48 .i64 y from H2.out)
      have DT := Aside0.mk (show Two w wr.drew gp gq from ⟨HT.out.os, HT.out.tape, HT.out.output, HT.out.size, HT.out.block⟩)
      generalize wr.drew = w1 at D1 D2 DT ⊢
      clear cx cy H1 H2 HT
      have cx := D1.out.cell i (by rw [LX.out.1]; omega)
      have fx := D1.out.free i
      go_wp2
      go_still_tail 9, (by kernel_rfl)
      change wpList _ _ _ _ _ w1.drew
      go_upto_region 5 with (fail)
      rw [TP.out.1, put_set D1.out]
      change Code.wp _ _ _ _ (put w1 gp .i64 (x.set i (rd pa (i : Int)))).drew
      have e3 : mixS a pa (i + 1) = x.set i (rd pa (i : Int)) := by rw [mixS, ← QX.out]
      rw [← e3]
      have t1 := (To.refl D1.out).put_dr (zs := mixS a pa (i + 1))
      generalize (put w1 gp .i64 (mixS a pa (i + 1))).drew = w2 at t1 ⊢
      have C1 := Aside0.mk (t1.is D1.out)
      have C2 := Aside0.mk (t1.other (Ne.symm HN.out) D2.out)
      have CT := Aside0.mk (DT.out.one t1)
      clear t1 e3 cx fx D1 D2 DT
      have cy := C2.out.cell i (by rw [LX.out.2]; omega)
      have fy := C2.out.free i
      go_wp2
      go_still_tail 9, (by kernel_rfl)
      change wpList _ _ _ _ _ w2.drew
      go_wp2_with fail
      rw [TP.out.2, put_set C2.out]
      have e3 : mixS b qb (i + 1) = y.set i (rd qb (i : Int)) := by rw [mixS, ← QY.out]
      rw [← e3]
      have t1 := (To.refl C2.out).put_dr (zs := mixS b qb (i + 1))
      exact ⟨⟨i + 1, by omega, rfl, ⟨t1.other HN.out C1.out⟩, ⟨t1.is C2.out⟩, ⟨CT.out.two t1⟩⟩, by simp only [intOf]; omega⟩
    · obtain rfl : i = 16 := by omega
      rw [show ((16 : Nat) : Int) = 16 from rfl]
      rw [hx, mixS_full _ _ LL.out.1 PL.out.1] at H1
      rw [hy, mixS_full _ _ LL.out.2 PL.out.2] at H2
      clear h16 hx hy QX QY
      go_wp2
      go_end0
      exact ⟨rfl, H1.out, H2.out, HT.out⟩
end Go.Proofs.Ytlpoolcdoecodaa.Cv
