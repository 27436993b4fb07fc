/-
  Plain facts: what poly's calls on limbs do to the numbers that these stand for, modulo 2^130 - 5.
-/
import Derived.Test.YtgnanhphdodhoaaPolyV2
namespace Go.Proofs.Ytgnanhphdodhoaa.Pol
open Go.RowKit Go.Proofs.YtgnanhphdodhoaaW.PrintWords Go.Proofs.Ytgnanhphdodhoaa.Arr Go.Proofs.Ytgnanhphdodhoaa.Bits

theorem V_list (a b c d e : Int) : V [a, b, c, d, e] = a + 67108864 * b + 4503599627370496 * c + 302231454903657293676544 * d + 20282409603651670423947251286016 * e := rfl
theorem carry0 (a b c d e : Int) (ha : 0 ≤ a ∧ a < 4611686018427387904) (hb : 0 ≤ b ∧ b < 4611686018427387904) : carryS [a, b, c, d, e] 0 = [a % 67108864, b + a / 67108864, c, d, e] := by
  show List.set (List.set [a, b, c, d, e] 0 (Go.bits .and .u64 a 67108863)) 1 (IntKind.u64.wrap (b + a / 67108864)) = _
  rw [and26 a (by omega) (by omega), wrap64_id (by omega) (by omega)]
  rfl
theorem carry1 (a b c d e : Int) (ha : 0 ≤ b ∧ b < 9223372036854775808) (hb : 0 ≤ c ∧ c < 4611686018427387904) : carryS [a, b, c, d, e] 1 = [a, b % 67108864, c + b / 67108864, d, e] := by
  show List.set (List.set [a, b, c, d, e] 1 (Go.bits .and .u64 b 67108863)) 2 (IntKind.u64.wrap (c + b / 67108864)) = _
  rw [and26 b (by omega) (by omega), wrap64_id (by omega) (by omega)]
  rfl
theorem carry2 (a b c d e : Int) (ha : 0 ≤ c ∧ c < 9223372036854775808) (hb : 0 ≤ d ∧ d < 4611686018427387904) : carryS [a, b, c, d, e] 2 = [a, b, c % 67108864, d + c / 67108864, e] := by
  show List.set (List.set [a, b, c, d, e] 2 (Go.bits .and .u64 c 67108863)) 3 (IntKind.u64.wrap (d + c / 67108864)) = _
  rw [and26 c (by omega) (by omega), wrap64_id (by omega) (by omega)]
  rfl
theorem carry3 (a b c d e : Int) (ha : 0 ≤ d ∧ d < 9223372036854775808) (hb : 0 ≤ e ∧ e < 4611686018427387904) : carryS [a, b, c, d, e] 3 = [a, b, c, d % 67108864, e + d / 67108864] := by
  show List.set (List.set [a, b, c, d, e] 3 (Go.bits .and .u64 d 67108863)) 4 (IntKind.u64.wrap (e + d / 67108864)) = _
  rw [and26 d (by omega) (by omega), wrap64_id (by omega) (by omega)]
  rfl
theorem carry4 (a b c d e : Int) (ha : 0 ≤ e ∧ e < 9223372036854775808) (hb : 0 ≤ a ∧ a < 4611686018427387904) : carryS [a, b, c, d, e] 4 = [a + 5 * (e / 67108864), b, c, d, e % 67108864] := by
  show List.set (List.set [a, b, c, d, e] 4 (Go.bits .and .u64 e 67108863)) 0 (IntKind.u64.wrap (a + IntKind.u64.wrap (5 * (e / 67108864)))) = _
  rw [and26 e (by omega) (by omega), wrap64_id (n := 5 * (e / 67108864)) (by omega) (by omega), wrap64_id (by omega) (by omega)]
  rfl
theorem carry_val (a b c d e : Int) (ha : 0 ≤ a ∧ a < 4611686018427387904) (hb : 0 ≤ b ∧ b < 4611686018427387904) (hc : 0 ≤ c ∧ c < 4611686018427387904) (hd : 0 ≤ d ∧ d < 4611686018427387904) (he : 0 ≤ e ∧ e < 4611686018427387904) :
    ∃ q a0 b0 c0 d0 e0, carryF [a, b, c, d, e] = [a0 + 5 * q, b0, c0, d0, e0] ∧ 0 ≤ q ∧ (0 ≤ a0 ∧ a0 < 67108864) ∧ (0 ≤ b0 ∧ b0 < 67108864) ∧ (0 ≤ c0 ∧ c0 < 67108864) ∧ (0 ≤ d0 ∧ d0 < 67108864) ∧ (0 ≤ e0 ∧ e0 < 67108864) ∧
      V [a, b, c, d, e] = V [a0, b0, c0, d0, e0] + 1361129467683753853853498429727072845824 * q := by
  have e1 : carryF [a, b, c, d, e] = carryS (carryS (carryS (carryS (carryS [a, b, c, d, e] 0) 1) 2) 3) 4 := rfl
  rw [e1, carry0 _ _ _ _ _ ha hb]
  obtain ⟨b', hb'⟩ : ∃ x, x = b + a / 67108864 := ⟨_, rfl⟩
  rw [← hb', carry1 _ _ _ _ _ (by omega) hc]
  obtain ⟨c', hc'⟩ : ∃ x, x = c + b' / 67108864 := ⟨_, rfl⟩
  rw [← hc', carry2 _ _ _ _ _ (by omega) hd]
  obtain ⟨d', hd'⟩ : ∃ x, x = d + c' / 67108864 := ⟨_, rfl⟩
  rw [← hd', carry3 _ _ _ _ _ (by omega) he]
  obtain ⟨e', he'⟩ : ∃ x, x = e + d' / 67108864 := ⟨_, rfl⟩
  rw [← he', carry4 _ _ _ _ _ (by omega) (by omega)]
  refine ⟨_, _, _, _, _, _, rfl, by omega, by omega, by omega, by omega, by omega, by omega, ?_⟩
  rw [V_list, V_list]
  omega

/-- The product's limbs, ahead of the carries. -/
def dotN (h r : List Int) (i : Nat) : Nat → Int
  | 0 => 0
  | k + 1 => dotN h r i k + rd h k * tL r i k
theorem dot_range (h r : List Int) (i : Nat) (H : ∀ k : Nat, k < 5 → 0 ≤ rd h k * tL r i k ∧ rd h k * tL r i k < 288230376151711744) : ∀ k, k ≤ 5 → 0 ≤ dotN h r i k ∧ dotN h r i k ≤ 288230376151711744 * k
  | 0, _ => by simp [dotN]
  | k + 1, hk => by
    have := dot_range h r i H k (by omega)
    have := H k (by omega)
    rw [dotN]
    omega
theorem tK_val (h r d : List Int) (i : Nat) (hi : i < d.length) (h0 : rd d i = 0) (H : ∀ k : Nat, k < 5 → 0 ≤ rd h k * tL r i k ∧ rd h k * tL r i k < 288230376151711744) : ∀ k, k ≤ 5 → tK h r i d k = d.set i (dotN h r i k)
  | 0, _ => by
    rw [tK, dotN]
    refine (ext_rd _ _ (by rw [List.length_set]) (fun j _ => ?_)).symm
    rw [rd_set _ _ _ _ hi]
    by_cases hj : j = i
    · subst hj; rw [if_pos rfl, h0]
    · rw [if_neg hj]
  | k + 1, hk => by
    have h1 := dot_range h r i H k (by omega)
    have h2 := H k (by omega)
    rw [tK, tK_val h r d i hi h0 H k (by omega), tS, rd_set _ _ _ _ hi, if_pos rfl, wrap64_id (n := rd h k * tL r i k) h2.1 (by omega), wrap64_id (by omega) (by omega), List.set_set, dotN]
theorem tI_rd (h r : List Int) (H : ∀ i k : Nat, i < 5 → k < 5 → 0 ≤ rd h k * tL r i k ∧ rd h k * tL r i k < 288230376151711744) : ∀ n : Nat, n ≤ 5 → ∀ i : Nat, i < 5 → rd (tI h r n) (i : Int) = if i < n then dotN h r i 5 else 0
  | 0, _, i, hi => by
    rw [if_neg (by omega), tI]
    have : i = 0 ∨ i = 1 ∨ i = 2 ∨ i = 3 ∨ i = 4 := by omega
    rcases this with rfl | rfl | rfl | rfl | rfl <;> rfl
  | n + 1, hn, i, hi => by
    have ih := tI_rd h r H n (by omega)
    have hl := len_tI h r n
    have hz : rd (tI h r n) (n : Int) = 0 := by rw [ih n (by omega), if_neg (by omega)]
    rw [tI, tK_val h r _ n (by omega) hz (fun k hk => H n k (by omega) hk) 5 (by omega), rd_set _ _ _ _ (by omega)]
    by_cases hin : i = n
    · subst hin; rw [if_pos rfl, if_pos (by omega)]
    · rw [if_neg hin, ih i hi]
      by_cases h2 : i < n
      · rw [if_pos h2, if_pos (by omega)]
      · rw [if_neg h2, if_neg (by omega)]
theorem list5 (l : List Int) (h : l.length = 5) : l = [rd l (0 : Nat), rd l (1 : Nat), rd l (2 : Nat), rd l (3 : Nat), rd l (4 : Nat)] := by
  match l, h with
  | [a, b, c, d, e], _ => rfl
theorem tL_val (r0 r1 r2 r3 r4 : Int) (h1 : 0 ≤ r1 ∧ r1 < 67108864) (h2 : 0 ≤ r2 ∧ r2 < 67108864) (h3 : 0 ≤ r3 ∧ r3 < 67108864) (h4 : 0 ≤ r4 ∧ r4 < 67108864) :
    tL [r0, r1, r2, r3, r4] 0 0 = r0 ∧ tL [r0, r1, r2, r3, r4] 0 1 = r4 * 5 ∧ tL [r0, r1, r2, r3, r4] 0 2 = r3 * 5 ∧ tL [r0, r1, r2, r3, r4] 0 3 = r2 * 5 ∧ tL [r0, r1, r2, r3, r4] 0 4 = r1 * 5 ∧
    tL [r0, r1, r2, r3, r4] 1 0 = r1 ∧ tL [r0, r1, r2, r3, r4] 1 1 = r0 ∧ tL [r0, r1, r2, r3, r4] 1 2 = r4 * 5 ∧ tL [r0, r1, r2, r3, r4] 1 3 = r3 * 5 ∧ tL [r0, r1, r2, r3, r4] 1 4 = r2 * 5 ∧
    tL [r0, r1, r2, r3, r4] 2 0 = r2 ∧ tL [r0, r1, r2, r3, r4] 2 1 = r1 ∧ tL [r0, r1, r2, r3, r4] 2 2 = r0 ∧ tL [r0, r1, r2, r3, r4] 2 3 = r4 * 5 ∧ tL [r0, r1, r2, r3, r4] 2 4 = r3 * 5 ∧
    tL [r0, r1, r2, r3, r4] 3 0 = r3 ∧ tL [r0, r1, r2, r3, r4] 3 1 = r2 ∧ tL [r0, r1, r2, r3, r4] 3 2 = r1 ∧ tL [r0, r1, r2, r3, r4] 3 3 = r0 ∧ tL [r0, r1, r2, r3, r4] 3 4 = r4 * 5 ∧
    tL [r0, r1, r2, r3, r4] 4 0 = r4 ∧ tL [r0, r1, r2, r3, r4] 4 1 = r3 ∧ tL [r0, r1, r2, r3, r4] 4 2 = r2 ∧ tL [r0, r1, r2, r3, r4] 4 3 = r1 ∧ tL [r0, r1, r2, r3, r4] 4 4 = r0 := by
  have w : ∀ x : Int, 0 ≤ x ∧ x < 67108864 → IntKind.u64.wrap (x * 5) = x * 5 := fun x hx => wrap64_id (by omega) (by omega)
  refine ⟨rfl, w r4 h4, w r3 h3, w r2 h2, w r1 h1, rfl, rfl, w r4 h4, w r3 h3, w r2 h2, rfl, rfl, rfl, w r4 h4, w r3 h3, rfl, rfl, rfl, rfl, w r4 h4, rfl, rfl, rfl, rfl, rfl⟩
theorem mul_range (x y : Int) (hx : 0 ≤ x ∧ x ≤ 268435456) (hy : 0 ≤ y ∧ y < 536870912) : 0 ≤ x * y ∧ x * y < 288230376151711744 := by
  refine ⟨Int.mul_nonneg hx.1 hy.1, ?_⟩
  have h1 : x * y ≤ 268435456 * y := Int.mul_le_mul_of_nonneg_right hx.2 hy.1
  omega
/-- The limbs of a product: none too large; as a number the product, but for so many times 2^130 - 5. -/
theorem tI_val (h0 h1 h2 h3 h4 r0 r1 r2 r3 r4 : Int) (a0 : 0 ≤ h0 ∧ h0 ≤ 268435456) (a1 : 0 ≤ h1 ∧ h1 ≤ 268435456) (a2 : 0 ≤ h2 ∧ h2 ≤ 268435456) (a3 : 0 ≤ h3 ∧ h3 ≤ 268435456) (a4 : 0 ≤ h4 ∧ h4 ≤ 268435456)
    (b0 : 0 ≤ r0 ∧ r0 < 67108864) (b1 : 0 ≤ r1 ∧ r1 < 67108864) (b2 : 0 ≤ r2 ∧ r2 < 67108864) (b3 : 0 ≤ r3 ∧ r3 < 67108864) (b4 : 0 ≤ r4 ∧ r4 < 67108864) :
    ∃ d0 d1 d2 d3 d4 Q, tI [h0, h1, h2, h3, h4] [r0, r1, r2, r3, r4] 5 = [d0, d1, d2, d3, d4] ∧ (0 ≤ d0 ∧ d0 ≤ 1441151880758558720) ∧ (0 ≤ d1 ∧ d1 ≤ 1441151880758558720) ∧ (0 ≤ d2 ∧ d2 ≤ 1441151880758558720) ∧ (0 ≤ d3 ∧ d3 ≤ 1441151880758558720) ∧ (0 ≤ d4 ∧ d4 ≤ 1441151880758558720) ∧
      V [h0, h1, h2, h3, h4] * V [r0, r1, r2, r3, r4] = V [d0, d1, d2, d3, d4] + 1361129467683753853853498429727072845819 * Q := by
  obtain ⟨t00, t01, t02, t03, t04, t10, t11, t12, t13, t14, t20, t21, t22, t23, t24, t30, t31, t32, t33, t34, t40, t41, t42, t43, t44⟩ := tL_val r0 r1 r2 r3 r4 b1 b2 b3 b4
  have H : ∀ i k : Nat, i < 5 → k < 5 → 0 ≤ rd [h0, h1, h2, h3, h4] k * tL [r0, r1, r2, r3, r4] i k ∧ rd [h0, h1, h2, h3, h4] k * tL [r0, r1, r2, r3, r4] i k < 288230376151711744 := by
    intro i k hi hk
    refine mul_range _ _ ?_ ?_
    · have : k = 0 ∨ k = 1 ∨ k = 2 ∨ k = 3 ∨ k = 4 := by omega
      rcases this with rfl | rfl | rfl | rfl | rfl
      · exact a0
      · exact a1
      · exact a2
      · exact a3
      · exact a4
    · have : k = 0 ∨ k = 1 ∨ k = 2 ∨ k = 3 ∨ k = 4 := by omega
      have : i = 0 ∨ i = 1 ∨ i = 2 ∨ i = 3 ∨ i = 4 := by omega
      rcases ‹i = 0 ∨ _› with rfl | rfl | rfl | rfl | rfl <;> rcases ‹k = 0 ∨ _› with rfl | rfl | rfl | rfl | rfl <;> simp only [t00, t01, t02, t03, t04, t10, t11, t12, t13, t14, t20, t21, t22, t23, t24, t30, t31, t32, t33, t34, t40, t41, t42, t43, t44] <;> omega
  have hr := tI_rd [h0, h1, h2, h3, h4] [r0, r1, r2, r3, r4] H 5 (by omega)
  have hdr := fun i (hi : i < 5) => dot_range [h0, h1, h2, h3, h4] [r0, r1, r2, r3, r4] i (fun k hk => H i k hi hk) 5 (by omega)
  have hl := list5 _ (len_tI [h0, h1, h2, h3, h4] [r0, r1, r2, r3, r4] 5)
  rw [hr 0 (by omega), hr 1 (by omega), hr 2 (by omega), hr 3 (by omega), hr 4 (by omega)] at hl
  simp only [show (0 : Nat) < 5 by decide, show (1 : Nat) < 5 by decide, show (2 : Nat) < 5 by decide, show (3 : Nat) < 5 by decide, show (4 : Nat) < 5 by decide, if_true] at hl
  refine ⟨_, _, _, _, _, h1 * r4 + h2 * r3 + h3 * r2 + h4 * r1 + 67108864 * (h2 * r4 + h3 * r3 + h4 * r2) + 4503599627370496 * (h3 * r4 + h4 * r3) + 302231454903657293676544 * (h4 * r4), hl, hdr 0 (by omega), hdr 1 (by omega), hdr 2 (by omega), hdr 3 (by omega), hdr 4 (by omega), ?_⟩
  have g0 : dotN [h0, h1, h2, h3, h4] [r0, r1, r2, r3, r4] 0 5 = 0 + h0 * r0 + h1 * (r4 * 5) + h2 * (r3 * 5) + h3 * (r2 * 5) + h4 * (r1 * 5) := by simp only [dotN, t00, t01, t02, t03, t04]; rfl
  have g1 : dotN [h0, h1, h2, h3, h4] [r0, r1, r2, r3, r4] 1 5 = 0 + h0 * r1 + h1 * r0 + h2 * (r4 * 5) + h3 * (r3 * 5) + h4 * (r2 * 5) := by simp only [dotN, t10, t11, t12, t13, t14]; rfl
  have g2 : dotN [h0, h1, h2, h3, h4] [r0, r1, r2, r3, r4] 2 5 = 0 + h0 * r2 + h1 * r1 + h2 * r0 + h3 * (r4 * 5) + h4 * (r3 * 5) := by simp only [dotN, t20, t21, t22, t23, t24]; rfl
  have g3 : dotN [h0, h1, h2, h3, h4] [r0, r1, r2, r3, r4] 3 5 = 0 + h0 * r3 + h1 * r2 + h2 * r1 + h3 * r0 + h4 * (r4 * 5) := by simp only [dotN, t30, t31, t32, t33, t34]; rfl
  have g4 : dotN [h0, h1, h2, h3, h4] [r0, r1, r2, r3, r4] 4 5 = 0 + h0 * r4 + h1 * r3 + h2 * r2 + h3 * r1 + h4 * r0 := by simp only [dotN, t40, t41, t42, t43, t44]; rfl
  rw [g0, g1, g2, g3, g4, V_list, V_list, V_list]
  clear hr hdr hl H g0 g1 g2 g3 g4 t00 t01 t02 t03 t04 t10 t11 t12 t13 t14 t20 t21 t22 t23 t24 t30 t31 t32 t33 t34 t40 t41 t42 t43 t44 a0 a1 a2 a3 a4 b0 b1 b2 b3 b4
  grind
end Go.Proofs.Ytgnanhphdodhoaa.Pol
