/-
  Plain facts: poly's tag, as a number.
-/
import Derived.Test.YtgnanhphdodhoaaPolyV3
namespace Go.Proofs.Ytgnanhphdodhoaa.Pol
open Go.RowKit Go.Proofs.YtgnanhphdodhoaaW.PrintWords Go.Proofs.Ytgnanhphdodhoaa.Arr Go.Proofs.Ytgnanhphdodhoaa.Bits

/-- Limbs that are carried. -/
def Good (h : List Int) : Prop := ∃ a b c d e, h = [a, b, c, d, e] ∧ (0 ≤ a ∧ a ≤ 67108868) ∧ (0 ≤ b ∧ b < 67108864) ∧ (0 ≤ c ∧ c < 67108864) ∧ (0 ≤ d ∧ d < 67108864) ∧ (0 ≤ e ∧ e < 67108864)
theorem carry_twice (a b c d e : Int) (ha : 0 ≤ a ∧ a ≤ 1441151880758558720) (hb : 0 ≤ b ∧ b ≤ 1441151880758558720) (hc : 0 ≤ c ∧ c ≤ 1441151880758558720) (hd : 0 ≤ d ∧ d ≤ 1441151880758558720) (he : 0 ≤ e ∧ e ≤ 1441151880758558720) :
    Good (carryF (carryF [a, b, c, d, e])) ∧ ∃ q, V [a, b, c, d, e] = V (carryF (carryF [a, b, c, d, e])) + 1361129467683753853853498429727072845819 * q := by
  obtain ⟨q, a0, b0, c0, d0, e0, h1, q0, ha0, hb0, hc0, hd0, he0, hv⟩ := carry_val a b c d e (by omega) (by omega) (by omega) (by omega) (by omega)
  rw [V_list] at hv
  have hv2 := hv
  rw [V_list] at hv2
  obtain ⟨p, a1, b1, c1, d1, e1, h2, p0, ha1, hb1, hc1, hd1, he1, hw⟩ := carry_val (a0 + 5 * q) b0 c0 d0 e0 (by omega) (by omega) (by omega) (by omega) (by omega)
  rw [V_list, V_list] at hw
  rw [h1, h2]
  refine ⟨⟨_, _, _, _, _, rfl, by omega, hb1, hc1, hd1, he1⟩, q + p, ?_⟩
  rw [V_list, V_list]
  omega
theorem times_val (h r : List Int) (hh : ∃ a b c d e, h = [a, b, c, d, e] ∧ (0 ≤ a ∧ a ≤ 268435456) ∧ (0 ≤ b ∧ b ≤ 268435456) ∧ (0 ≤ c ∧ c ≤ 268435456) ∧ (0 ≤ d ∧ d ≤ 268435456) ∧ (0 ≤ e ∧ e ≤ 268435456))
    (hr : ∃ a b c d e, r = [a, b, c, d, e] ∧ (0 ≤ a ∧ a < 67108864) ∧ (0 ≤ b ∧ b < 67108864) ∧ (0 ≤ c ∧ c < 67108864) ∧ (0 ≤ d ∧ d < 67108864) ∧ (0 ≤ e ∧ e < 67108864)) :
    Good (timesF h r) ∧ ∃ q, V h * V r = V (timesF h r) + 1361129467683753853853498429727072845819 * q := by
  obtain ⟨h0, h1, h2, h3, h4, rfl, a0, a1, a2, a3, a4⟩ := hh
  obtain ⟨r0, r1, r2, r3, r4, rfl, b0, b1, b2, b3, b4⟩ := hr
  obtain ⟨d0, d1, d2, d3, d4, Q, e, c0, c1, c2, c3, c4, hv⟩ := tI_val h0 h1 h2 h3 h4 r0 r1 r2 r3 r4 a0 a1 a2 a3 a4 b0 b1 b2 b3 b4
  obtain ⟨g, q, hq⟩ := carry_twice d0 d1 d2 d3 d4 c0 c1 c2 c3 c4
  unfold timesF
  rw [e]
  refine ⟨g, q + Q, ?_⟩
  rw [hv, hq, Int.mul_add, Int.add_assoc]
theorem add_val (h m : List Int) (hh : Good h) (hm : ∃ a b c d e, m = [a, b, c, d, e] ∧ (0 ≤ a ∧ a < 67108864) ∧ (0 ≤ b ∧ b < 67108864) ∧ (0 ≤ c ∧ c < 67108864) ∧ (0 ≤ d ∧ d < 67108864) ∧ (0 ≤ e ∧ e < 67108864)) :
    (∃ a b c d e, addN h m 5 = [a, b, c, d, e] ∧ (0 ≤ a ∧ a ≤ 268435456) ∧ (0 ≤ b ∧ b ≤ 268435456) ∧ (0 ≤ c ∧ c ≤ 268435456) ∧ (0 ≤ d ∧ d ≤ 268435456) ∧ (0 ≤ e ∧ e ≤ 268435456)) ∧ V (addN h m 5) = V h + V m := by
  obtain ⟨h0, h1, h2, h3, h4, rfl, a0, a1, a2, a3, a4⟩ := hh
  obtain ⟨m0, m1, m2, m3, m4, rfl, b0, b1, b2, b3, b4⟩ := hm
  have e : addN [h0, h1, h2, h3, h4] [m0, m1, m2, m3, m4] 5 = [IntKind.u64.wrap (h0 + m0), IntKind.u64.wrap (h1 + m1), IntKind.u64.wrap (h2 + m2), IntKind.u64.wrap (h3 + m3), IntKind.u64.wrap (h4 + m4)] := rfl
  rw [e, wrap64_id (n := h0 + m0) (by omega) (by omega), wrap64_id (n := h1 + m1) (by omega) (by omega), wrap64_id (n := h2 + m2) (by omega) (by omega), wrap64_id (n := h3 + m3) (by omega) (by omega), wrap64_id (n := h4 + m4) (by omega) (by omega)]
  refine ⟨⟨_, _, _, _, _, rfl, by omega, by omega, by omega, by omega, by omega⟩, ?_⟩
  rw [V_list, V_list, V_list]
  omega
theorem mF_val (l : List Int) (hl : Bytes l) (h1 : rd l 16 ≤ 1) :
    (∃ a b c d e, mF l = [a, b, c, d, e] ∧ (0 ≤ a ∧ a < 67108864) ∧ (0 ≤ b ∧ b < 67108864) ∧ (0 ≤ c ∧ c < 67108864) ∧ (0 ≤ d ∧ d < 67108864) ∧ (0 ≤ e ∧ e < 67108864)) ∧ V (mF l) = bsum l 17 := by
  obtain ⟨a, b, c, d, e, hs, a0, a1, b0, b1, c0, c1, d0, d1, e0, e1, hv⟩ := split_val l hl
  have h16 := hl.rd 16
  have em : mF l = [a, b, c, d, Go.bits .or .u64 e (IntKind.u64.wrap (rd l 16 % 18446744073709551616 * 16777216))] := by
    unfold mF
    rw [hs]
    rfl
  rw [em, bsum, ← hv]
  have hc : rd l ((16 : Nat) : Int) = rd l 16 := rfl
  rw [hc]
  generalize rd l 16 = x at *
  clear hv em hs hl hc
  rw [show x % 18446744073709551616 = x by omega, wrap64_id (by omega) (by omega), or_add e (x * 16777216) 24 e0 (by omega) (by omega) (by omega) (by omega) (by omega)]
  refine ⟨⟨_, _, _, _, _, rfl, ⟨a0, a1⟩, ⟨b0, b1⟩, ⟨c0, c1⟩, ⟨d0, d1⟩, by omega, by omega⟩, ?_⟩
  rw [V_list, V_list]
  omega
/-- A number below 2^130 - 5, in limbs. -/
def Low (h : List Int) : Prop := ∃ a b c d e, h = [a, b, c, d, e] ∧ (0 ≤ a ∧ a < 67108864) ∧ (0 ≤ b ∧ b < 67108864) ∧ (0 ≤ c ∧ c < 67108864) ∧ (0 ≤ d ∧ d < 67108864) ∧ (0 ≤ e ∧ e < 67108864)
theorem twice_val (h : List Int) (hh : Good h) : Low (twice h) ∧ ∃ q, V h = V (twice h) + 1361129467683753853853498429727072845819 * q := by
  obtain ⟨a, b, c, d, e, rfl, ha, hb, hc, hd, he⟩ := hh
  unfold twice
  obtain ⟨q, a0, b0, c0, d0, e0, h1, q0, ha0, hb0, hc0, hd0, he0, hv⟩ := carry_val a b c d e (by omega) (by omega) (by omega) (by omega) (by omega)
  rw [V_list] at hv
  have hv2 := hv
  rw [V_list] at hv2
  obtain ⟨p, a1, b1, c1, d1, e1, h2, p0, ha1, hb1, hc1, hd1, he1, hw⟩ := carry_val (a0 + 5 * q) b0 c0 d0 e0 (by omega) (by omega) (by omega) (by omega) (by omega)
  rw [V_list, V_list] at hw
  rw [h1, h2]
  have hq : q = 0 ∨ q = 1 := by omega
  have hp : p = 0 := by omega
  subst hp
  refine ⟨⟨_, _, _, _, _, rfl, by omega, hb1, hc1, hd1, he1⟩, q, ?_⟩
  rw [V_list, V_list]
  omega
theorem up0 (a b c d e : Int) (ha : 0 ≤ a ∧ a ≤ 134217728) (hb : 0 ≤ b ∧ b < 67108864) : upS [a, b, c, d, e] 0 = [a % 67108864, b + a / 67108864, c, d, e] := by
  show List.set (List.set [a, b, c, d, e] 1 (IntKind.u64.wrap (b + a / 67108864))) 0 (Go.bits .and .u64 a 67108863) = _
  rw [and26 a (by omega) (by omega), wrap64_id (by omega) (by omega)]
  rfl
theorem up1 (a b c d e : Int) (ha : 0 ≤ b ∧ b ≤ 134217728) (hb : 0 ≤ c ∧ c < 67108864) : upS [a, b, c, d, e] 1 = [a, b % 67108864, c + b / 67108864, d, e] := by
  show List.set (List.set [a, b, c, d, e] 2 (IntKind.u64.wrap (c + b / 67108864))) 1 (Go.bits .and .u64 b 67108863) = _
  rw [and26 b (by omega) (by omega), wrap64_id (by omega) (by omega)]
  rfl
theorem up2 (a b c d e : Int) (ha : 0 ≤ c ∧ c ≤ 134217728) (hb : 0 ≤ d ∧ d < 67108864) : upS [a, b, c, d, e] 2 = [a, b, c % 67108864, d + c / 67108864, e] := by
  show List.set (List.set [a, b, c, d, e] 3 (IntKind.u64.wrap (d + c / 67108864))) 2 (Go.bits .and .u64 c 67108863) = _
  rw [and26 c (by omega) (by omega), wrap64_id (by omega) (by omega)]
  rfl
theorem up3 (a b c d e : Int) (ha : 0 ≤ d ∧ d ≤ 134217728) (hb : 0 ≤ e ∧ e < 67108864) : upS [a, b, c, d, e] 3 = [a, b, c, d % 67108864, e + d / 67108864] := by
  show List.set (List.set [a, b, c, d, e] 4 (IntKind.u64.wrap (e + d / 67108864))) 3 (Go.bits .and .u64 d 67108863) = _
  rw [and26 d (by omega) (by omega), wrap64_id (by omega) (by omega)]
  rfl
theorem fin_low (a b c d e : Int) (ha : 0 ≤ a ∧ a < 67108864) (hb : 0 ≤ b ∧ b < 67108864) (hc : 0 ≤ c ∧ c < 67108864) (hd : 0 ≤ d ∧ d < 67108864) (he : 0 ≤ e ∧ e < 67108864) :
    ∃ r, r = upN (addAt [a, b, c, d, e] 0 5) 4 ∧ Low (if rd r 4 / 67108864 > 0 then maskF r 4 else [a, b, c, d, e]) ∧ V (if rd r 4 / 67108864 > 0 then maskF r 4 else [a, b, c, d, e]) = V [a, b, c, d, e] % 1361129467683753853853498429727072845819 := by
  refine ⟨_, rfl, ?_⟩
  have e0 : addAt [a, b, c, d, e] 0 5 = [a + 5, b, c, d, e] := by
    show [IntKind.u64.wrap (a + 5), b, c, d, e] = _
    rw [wrap64_id (by omega) (by omega)]
  have e1 : upN (addAt [a, b, c, d, e] 0 5) 4 = upS (upS (upS (upS [a + 5, b, c, d, e] 0) 1) 2) 3 := by rw [e0]; rfl
  rw [e1, up0 _ _ _ _ _ (by omega) hb]
  obtain ⟨b', hb'⟩ : ∃ x, x = b + (a + 5) / 67108864 := ⟨_, rfl⟩
  have kb : 0 ≤ b' ∧ b' ≤ 67108864 := by omega
  rw [← hb', up1 _ _ _ _ _ (by omega) hc]
  obtain ⟨c', hc'⟩ : ∃ x, x = c + b' / 67108864 := ⟨_, rfl⟩
  have kc : 0 ≤ c' ∧ c' ≤ 67108864 := by omega
  rw [← hc', up2 _ _ _ _ _ (by omega) hd]
  obtain ⟨d', hd'⟩ : ∃ x, x = d + c' / 67108864 := ⟨_, rfl⟩
  have kd : 0 ≤ d' ∧ d' ≤ 67108864 := by omega
  rw [← hd', up3 _ _ _ _ _ (by omega) he]
  obtain ⟨e', he'⟩ : ∃ x, x = e + d' / 67108864 := ⟨_, rfl⟩
  have ke : 0 ≤ e' ∧ e' ≤ 67108864 := by omega
  rw [← he']
  have hr : rd [(a + 5) % 67108864, b' % 67108864, c' % 67108864, d' % 67108864, e'] 4 = e' := rfl
  rw [hr]
  have hv : a + 67108864 * b + 4503599627370496 * c + 302231454903657293676544 * d + 20282409603651670423947251286016 * e + 5 = (a + 5) % 67108864 + 67108864 * (b' % 67108864) + 4503599627370496 * (c' % 67108864) + 302231454903657293676544 * (d' % 67108864) + 20282409603651670423947251286016 * e' := by omega
  by_cases h : e' / 67108864 > 0
  · rw [if_pos h]
    have em : maskF [(a + 5) % 67108864, b' % 67108864, c' % 67108864, d' % 67108864, e'] 4 = [(a + 5) % 67108864, b' % 67108864, c' % 67108864, d' % 67108864, e' % 67108864] := by
      show [(a + 5) % 67108864, b' % 67108864, c' % 67108864, d' % 67108864, Go.bits .and .u64 e' 67108863] = _
      rw [and26 e' (by omega) (by omega)]
    rw [em]
    refine ⟨⟨_, _, _, _, _, rfl, by omega, by omega, by omega, by omega, by omega⟩, ?_⟩
    rw [V_list, V_list]
    have e6 : e' = 67108864 := by omega
    subst e6
    clear he' hd' hc' hb' e0 e1 hr
    omega
  · rw [if_neg h]
    refine ⟨⟨_, _, _, _, _, rfl, ha, hb, hc, hd, he⟩, ?_⟩
    rw [V_list]
    omega
theorem fin_val (h : List Int) (hh : Good h) : Low (finF h) ∧ V (finF h) = V h % 1361129467683753853853498429727072845819 := by
  obtain ⟨⟨a, b, c, d, e, ht, ha, hb, hc, hd, he⟩, q, hq⟩ := twice_val h hh
  obtain ⟨r, hr, h1, h2⟩ := fin_low a b c d e ha hb hc hd he
  have e1 : finF h = if rd r 4 / 67108864 > 0 then maskF r 4 else [a, b, c, d, e] := by
    unfold finF lessF
    rw [ht, ← hr]
  rw [e1]
  refine ⟨h1, ?_⟩
  rw [h2, hq, ht]
  omega
theorem words_val (h : List Int) (hh : Low h) : loF h + 18446744073709551616 * hiF h = V h % 340282366920938463463374607431768211456 := by
  obtain ⟨a, b, c, d, e, rfl, ha, hb, hc, hd, he⟩ := hh
  have el : loF [a, b, c, d, e] = Go.bits .or .u64 (Go.bits .or .u64 a (IntKind.u64.wrap (b * 67108864))) (IntKind.u64.wrap (c * 4503599627370496)) := rfl
  have eh : hiF [a, b, c, d, e] = Go.bits .or .u64 (Go.bits .or .u64 (c / 4096) (IntKind.u64.wrap (d * 16384))) (IntKind.u64.wrap (e * 1099511627776)) := rfl
  rw [el, eh, V_list]
  rw [wrap64_id (n := b * 67108864) (by omega) (by omega), wrap_u64 (c * 4503599627370496), wrap64_id (n := d * 16384) (by omega) (by omega), wrap_u64 (e * 1099511627776)]
  rw [or_add a (b * 67108864) 26 (by omega) (by omega) (by omega) (by omega) (by omega) (by omega)]
  rw [or_add (a + b * 67108864) (c * 4503599627370496 % 18446744073709551616) 52 (by omega) (by omega) (by omega) (by omega) (by omega) (by omega)]
  rw [or_add (c / 4096) (d * 16384) 14 (by omega) (by omega) (by omega) (by omega) (by omega) (by omega)]
  rw [or_add (c / 4096 + d * 16384) (e * 1099511627776 % 18446744073709551616) 40 (by omega) (by omega) (by omega) (by omega) (by omega) (by omega)]
  omega

theorem last_bytes (y : List Int) (hy : Bytes y) : Bytes (lastF y) := by
  unfold lastF
  refine ((hy.take _).append ?_).append ?_
  · intro x hx
    simp at hx
    omega
  · intro x hx
    rw [List.mem_replicate] at hx
    omega
theorem last16 (y : List Int) : rd (lastF y) 16 ≤ 1 := by
  have e : rd (lastF y) 16 = rd (lastF y) ((16 : Nat) : Int) := rfl
  rw [e]
  unfold lastF
  have hl : (y.take (min y.length 16)).length = min y.length 16 := by rw [List.length_take]; omega
  by_cases h : 16 ≤ y.length
  · have := rd_append_right (y.take (min y.length 16)) [1] 0
    rw [hl, show min y.length 16 = 16 by omega] at this
    rw [show min y.length 16 = 16 by omega, show (16 - 16 : Nat) = 0 from rfl, List.replicate_zero, List.append_nil, this]
    decide
  · have h2 : 16 = (y.take (min y.length 16) ++ [1]).length + (15 - y.length) := by rw [List.length_append, hl]; simp; omega
    have := rd_append_right (y.take (min y.length 16) ++ [1]) (List.replicate (16 - min y.length 16) (0 : Int)) (15 - y.length)
    rw [← h2] at this
    rw [this]
    simp only [rd, Int.toNat_natCast, List.getD_eq_getElem?_getD, List.getElem?_replicate]
    split <;> simp
/-- What the blocks come to: each is added, and all is multiplied. -/
def polyN (R : Int) (b : List Int) : Nat → Int
  | 0 => 0
  | j + 1 => (polyN R b j + bsum (lastF (b.drop (16 * j))) 17) * R % 1361129467683753853853498429727072845819
theorem mod_step (A M R P : Int) : (A + M) * R % P = (A % P + M) * R % P := by
  have h := Int.emod_add_mul_ediv A P
  have e : (A + M) * R = (A % P + M) * R + P * (A / P * R) := by grind
  rw [e, Int.add_mul_emod_self_left]
theorem acc_val (r b : List Int) (hb : Bytes b) (hr : Low r) : ∀ j, Good (accN r b j) ∧ V (accN r b j) % 1361129467683753853853498429727072845819 = polyN (V r) b j
  | 0 => by
    refine ⟨⟨0, 0, 0, 0, 0, rfl, by decide, by decide, by decide, by decide, by decide⟩, ?_⟩
    show V [0, 0, 0, 0, 0] % _ = 0
    decide +kernel
  | j + 1 => by
    obtain ⟨g, hv⟩ := acc_val r b hb hr j
    obtain ⟨hm1, hm2⟩ := mF_val (lastF (b.drop (16 * j))) (last_bytes _ (hb.drop _)) (last16 _)
    obtain ⟨h1, h2⟩ := add_val _ _ g hm1
    obtain ⟨g2, q, hq⟩ := times_val _ _ h1 hr
    refine ⟨g2, ?_⟩
    rw [polyN, ← hv, ← hm2]
    have e : V (accN r b (j + 1)) = V (addN (accN r b j) (mF (lastF (b.drop (16 * j)))) 5) * V r - 1361129467683753853853498429727072845819 * q := by
      rw [hq]
      show V (timesF _ _) = _
      omega
    rw [e, h2, Int.sub_mul_emod_self_left]
    exact mod_step _ _ _ _
/-- The tag, ahead of the key's second half. -/
theorem accV_val (r b : List Int) (hb : Bytes b) (hr : Low r) : accV r b = polyN (V r) b ((b.length + 15) / 16) % 340282366920938463463374607431768211456 := by
  obtain ⟨g, h⟩ := acc_val r b hb hr ((b.length + 15) / 16)
  obtain ⟨l, hf⟩ := fin_val _ g
  unfold accV
  rw [words_val _ l, hf, h]
theorem clamp_low (key : List Int) (hk : Bytes key) : Low (clampF key) := by
  have hc : Bytes (clampN (key.take 16) 16) := by
    have : ∀ k, Bytes (clampN (key.take 16) k) := by
      intro k
      induction k with
      | zero => exact hk.take 16
      | succ k ih =>
        rw [clampN]
        intro x hx
        rcases List.mem_or_eq_of_mem_set hx with h | h
        · exact ih x h
        · have hr := ih.rd (k : Int)
          rw [h]
          unfold clampV
          split
          · rw [and8_def]
            have := (BitVec.ofInt 8 (rd (clampN (key.take 16) k) (k : Int)) &&& BitVec.ofInt 8 15).isLt
            omega
          · split
            · rw [and8_def]
              have := (BitVec.ofInt 8 (rd (clampN (key.take 16) k) (k : Int)) &&& BitVec.ofInt 8 252).isLt
              omega
            · exact hr
    exact this 16
  obtain ⟨a, b, c, d, e, hs, a0, a1, b0, b1, c0, c1, d0, d1, e0, e1, _⟩ := split_val _ hc
  exact ⟨a, b, c, d, e, hs, ⟨a0, a1⟩, ⟨b0, b1⟩, ⟨c0, c1⟩, ⟨d0, d1⟩, e0, by omega⟩
theorem clamp_val (key : List Int) (hk : Bytes (clampN (key.take 16) 16)) : V (clampF key) = bsum (clampN (key.take 16) 16) 16 := by
  obtain ⟨a, b, c, d, e, hs, a0, a1, b0, b1, c0, c1, d0, d1, e0, e1, hv⟩ := split_val _ hk
  unfold clampF
  rw [hs, hv]
end Go.Proofs.Ytgnanhphdodhoaa.Pol
