/-
  Sized, Intact and Within (the statements' helpers), in the form in which the printed texts call a function, without rounds.
-/
import Derived.Test.YthahhjkokdillaaArr
import Derived.Test.YthahhjkokdillaaUBookx1
namespace Go.Proofs.Ythahhjkokdillaa
open Go.RowKit Go.Proofs.YthahhjkokdillaaW.PrintWords Go.Proofs.Ythahhjkokdillaa.Arr

/-- So many bytes, as these say, over and over. -/
def sizedF (b : List Int) (n : Nat) : List Int := (List.range n).map fun i => if b.length = 0 then 0 else rd b ((i % b.length : Nat) : Int)
theorem len_sizedF (b : List Int) (n : Nat) : (sizedF b n).length = n := by simp [sizedF]
theorem sized_l0 (b : List Int) (n : Nat) (hn : n ≤ 281474976710656) (hb : b.length ≤ 9223372036854775807) (d : Nat) : ∀ (k j : Nat), j + d = n → d < k →
    UBook.strongroomkeep_Sized.l0 k b n (fillF (fun i => if b.length = 0 then 0 else rd b ((i % b.length : Nat) : Int)) n j) j = some (sizedF b n) := by
  induction d with
  | zero =>
    intro k j hj hk
    obtain ⟨k, rfl⟩ : ∃ m, k = m + 1 := ⟨k - 1, by omega⟩
    obtain rfl : j = n := by omega
    simp only [UBook.strongroomkeep_Sized.l0]
    rw [if_neg (by omega), fillF_full, sizedF]
  | succ d ih =>
    intro k j hj hk
    obtain ⟨k, rfl⟩ : ∃ m, k = m + 1 := ⟨k - 1, by omega⟩
    simp only [UBook.strongroomkeep_Sized.l0]
    rw [if_pos (by omega)]
    by_cases hb0 : b.length = 0
    · rw [if_neg (by omega), fillF]
      simp only [hb0, if_true, sizedF]
      congr 1
      apply List.ext_getElem
      · simp; omega
      · intro i h1 h2
        simp [List.getElem_append]
    · rw [if_pos (by omega), if_neg (by omega)]
      have hm : Int.tmod (j : Int) (b.length : Int) = ((j % b.length : Nat) : Int) := by rw [Int.tmod_eq_emod_of_nonneg (by omega)]; rfl
      have hlt : j % b.length < b.length := Nat.mod_lt _ (by omega)
      rw [hm, if_pos (by omega), if_pos (by omega), if_pos (by omega), if_pos (by rw [len_fillF _ _ _ (by omega)]; omega)]
      rw [wrap_id (by omega) (by omega), show ((j : Int).toNat) = j by omega]
      have hs := fillF_set (fun i => if b.length = 0 then 0 else rd b ((i % b.length : Nat) : Int)) n j (by omega)
      rw [if_neg hb0] at hs
      rw [hs]
      exact ih k (j + 1) (by omega) (by omega)
def strongroomkeep_Sized.f (l0 : List Int) (a1 : Int) : Option (List Int) := if 0 ≤ a1 ∧ a1 ≤ 281474976710656 ∧ l0.length ≤ 9223372036854775807 then some (sizedF l0 a1.toNat) else none
theorem strongroomkeep_Sized.calls (A0 : Option Addr) (c0 : Nat) (l0 : List Int) (a1 : Int) (r : List Int) (w : World) (hr0 : Kd.C (Kd.int .u8) w A0 l0.length l0) (hc0 : l0.length ≤ c0) (h : strongroomkeep_Sized.f l0 a1 = some r) :
    Calls Try.prog 27 #[.slice A0 l0.length c0, .int .i64 a1] w fun e w' => ∃ v0_ : Value, e = .returned (v0_) ∧ Kd.R (Kd.int .u8) 5 w' w.heap.size (fun _ => True) v0_ r ∧ Below w.heap.size w w' := by
  unfold strongroomkeep_Sized.f at h
  split at h
  · rename_i hh
    obtain ⟨h0, h1, h2⟩ := hh
    obtain rfl := Option.some.inj h
    obtain ⟨n, rfl⟩ := Int.eq_ofNat_of_zero_le h0
    refine UBook.strongroomkeep_Sized.calls (n + 1) A0 c0 l0 n _ w hr0 hc0 ?_
    unfold UBook.strongroomkeep_Sized.f
    rw [if_pos h0, if_pos (by omega), show ((n : Int).toNat) = n by omega, ← fillF_zero (fun i => if l0.length = 0 then 0 else rd l0 ((i % l0.length : Nat) : Int)) n]
    exact sized_l0 l0 n (by omega) h2 n (n + 1) 0 (by omega) (by omega)
  · cases h

theorem sized_some (l : List Int) (n : Nat) (hn : n ≤ 281474976710656) (hl : l.length ≤ 9223372036854775807) : strongroomkeep_Sized.f l (n : Int) = some (sizedF l n) := by
  unfold strongroomkeep_Sized.f
  rw [if_pos ⟨by omega, by omega, hl⟩, Int.toNat_natCast]
theorem rd_ext {l l' : List Int} {j : Nat} (h : rd l j = rd l' j) (h1 : j < l.length) (h2 : j < l'.length) : l[j] = l'[j] := by
  simpa [rd, List.getD_eq_getElem?_getD, h1, h2] using h
theorem same_l0 (l l' : List Int) (hl : l.length ≤ 9223372036854775806) (he : l.length = l'.length) (d : Nat) : ∀ (k j : Nat), j + d = l.length → l.take j = l'.take j → d < k → UBook.strongroombook_Same_byte.l0 k l l' j = some (decide (l = l')) := by
  induction d with
  | zero =>
    intro k j hj ht hk
    obtain ⟨k, rfl⟩ : ∃ m, k = m + 1 := ⟨k - 1, by omega⟩
    simp only [UBook.strongroombook_Same_byte.l0]
    rw [List.take_of_length_le (by omega), List.take_of_length_le (by omega)] at ht
    rw [if_neg (by omega), decide_eq_true ht]
  | succ d ih =>
    intro k j hj ht hk
    obtain ⟨k, rfl⟩ : ∃ m, k = m + 1 := ⟨k - 1, by omega⟩
    simp only [UBook.strongroombook_Same_byte.l0]
    rw [if_pos (by omega), if_pos (by omega), if_pos (by omega)]
    by_cases hr : rd l (j : Int) = rd l' (j : Int)
    · rw [if_pos hr, wrap_id (by omega) (by omega)]
      refine ih k (j + 1) (by omega) ?_ (by omega)
      rw [List.take_succ_eq_append_getElem (by omega : j < l.length), List.take_succ_eq_append_getElem (by omega : j < l'.length), ht, rd_ext hr]
    · rw [if_neg hr, decide_eq_false (fun e => hr (by rw [e]))]
def strongroombook_Same_byte.f (l0 l1 : List Int) : Option Bool := if l0.length ≤ 9223372036854775806 then some (decide (l0 = l1)) else none
theorem strongroombook_Same_byte.calls (A0 : Option Addr) (c0 : Nat) (l0 : List Int) (A1 : Option Addr) (c1 : Nat) (l1 : List Int) (r : Bool) (w : World) (hr0 : Kd.C (Kd.int .u8) w A0 l0.length l0) (hc0 : l0.length ≤ c0) (hr1 : Kd.C (Kd.int .u8) w A1 l1.length l1) (hc1 : l1.length ≤ c1) (h : strongroombook_Same_byte.f l0 l1 = some r) :
    Calls Try.prog 49 #[.slice A0 l0.length c0, .slice A1 l1.length c1] w fun e w' => e = .returned (.bool r) ∧ Drawn0 w w' := by
  unfold strongroombook_Same_byte.f at h
  split at h
  · rename_i hl
    obtain rfl := Option.some.inj h
    refine UBook.strongroombook_Same_byte.calls (l0.length + 1) A0 c0 l0 A1 c1 l1 _ w hr0 hc0 hr1 hc1 ?_
    unfold UBook.strongroombook_Same_byte.f
    by_cases he : (l0.length : Int) = l1.length
    · rw [if_pos he]
      exact same_l0 l0 l1 hl (by omega) l0.length (l0.length + 1) 0 (by omega) (by simp) (by omega)
    · rw [if_neg he, decide_eq_false (fun e => he (by rw [e]))]
  · cases h

/-- What Roomy made is as it was. -/
def strongroombook_Intact_byte.f (l0 l1 : List Int) (a2 : Int) : Option Bool := if l0 = l1 ++ List.replicate 80 a2 ∧ l1.length ≤ 140737488351232 then some true else none
set_option maxHeartbeats 1000000 in
theorem strongroombook_Intact_byte.calls (A0 : Option Addr) (c0 : Nat) (l0 : List Int) (A1 : Option Addr) (c1 : Nat) (l1 : List Int) (a2 : Int) (r : Bool) (w : World) (hr0 : Kd.C (Kd.int .u8) w A0 l0.length l0) (hc0 : l0.length ≤ c0) (hr1 : Kd.C (Kd.int .u8) w A1 l1.length l1) (hc1 : l1.length ≤ c1) (h : strongroombook_Intact_byte.f l0 l1 a2 = some r) :
    Calls Try.prog 34 #[.slice A0 l0.length c0, .slice A1 l1.length c1, .int .u8 a2] w fun e w' => e = .returned (.bool r) ∧ Drawn0 w w' := by
  unfold strongroombook_Intact_byte.f at h
  split at h
  case isFalse => cases h
  rename_i hh
  obtain rfl := Option.some.inj h
  obtain ⟨he, hl⟩ := hh
  have hlen : l0.length = l1.length + 80 := by rw [he]; simp
  have HE := Aside0.mk he
  have HL := Aside0.mk hlen
  have HR0 := Aside0.mk hr0
  have HR1 := Aside0.mk hr1
  obtain ⟨y, hy⟩ : ∃ y, y = l0.take l1.length := ⟨_, rfl⟩
  have hy1 : y = l1 := by rw [hy, he]; simp
  obtain ⟨I0, hI0⟩ : ∃ i, Try.prog.info? 5 = some i := ⟨_, rfl⟩
  have hcut := cut_to (P := Try.prog) 22 5 .i64 Try.underlying22 hI0 A0 l0.length c0 (l1.length : Int) (by omega) (by omega) hc0
  rw [Int.toNat_natCast] at hcut
  have hC := Kd.C_take hr0 (m := l1.length) (by omega)
  rw [show l0.take l1.length = l1 by rw [he]; simp] at hC
  have HC := Aside0.mk hC
  have HS := Aside0.mk (show strongroombook_Same_byte.f l1 l1 = some true by unfold strongroombook_Same_byte.f; rw [if_pos (by omega)]; simp)
  have b1 : ((l0.length : Int) != (l1.length : Int) + 80) = false := by simp; omega
  have b2 : (l1.length : Int) ≤ (l0.length : Int) := by omega
  have HC1 := Aside0.mk (show l1.length ≤ c0 by omega)
  clear he hlen hr0 hr1 h hy hy1 hC
  go_enter Try.func34, Try.ntmps34
  go_wp2_with (go_at_call 49; refine (strongroombook_Same_byte.calls A0 c0 l1 A1 c1 l1 true w HC.out HC1.out HR1.out hc1 HS.out).mono ?_; rintro e w' ⟨rfl, ⟨n, rfl⟩⟩)
  go_loopw [7] (fun v w' => ∃ j : Nat, l1.length ≤ j ∧ j ≤ l1.length + 80 ∧ v = .int .i64 j ∧ Drawn0 w w') (fun v _ => l1.length + 80 - (intOf v).toNat)
  case atStart => exact ⟨l1.length, by omega, by omega, rfl, ⟨⟨n, rfl⟩⟩⟩
  case round =>
    obtain ⟨j, hj1, hj2, rfl, hD⟩ := hrel
    by_cases hj : j < l1.length + 80
    · have hrd : rd l0 (j : Int) = a2 := by
        rw [HE.out, rd_nat, List.getD_eq_getElem?_getD, List.getElem?_append_right hj1, List.getElem?_replicate, if_pos (by omega)]
        rfl
      obtain ⟨ad, rfl, hcell⟩ := Kd.at_int (Kd.C_below HR0.out hD.below) (j : Int) (by omega) (by rw [HL.out]; omega)
      rw [hrd, Int.toNat_natCast] at hcell
      have d1 : (j : Int) < (l0.length : Int) := by rw [HL.out]; omega
      have d2 : j < l0.length := by rw [HL.out]; omega
      have HD := Aside0.mk hD
      clear hrd hD hcut b1 b2
      go_wp2
      go_roundw
      case rel => exact ⟨j + 1, by omega, by omega, by go_num, HD.out⟩
      case measure => simp [intOf]; omega
    · obtain rfl : j = l1.length + 80 := by omega
      have d1 : ¬ ((l1.length + 80 : Nat) : Int) < (l0.length : Int) := by rw [HL.out]; omega
      have d2 : ¬ (l1.length + 80 : Nat) < l0.length := by rw [HL.out]; omega
      have HD := Aside0.mk hD
      clear hD hcut b1 b2
      go_wp2
      go_ret
      exact ⟨rfl, HD.out⟩

/-- A number brought into lo .. hi. -/
def withinF (n lo hi : Int) : Int := lo + n % (hi - lo + 1)
theorem withinF_range (n lo hi : Int) (h : lo ≤ hi) : lo ≤ withinF n lo hi ∧ withinF n lo hi ≤ hi := by
  unfold withinF
  have h0 := Int.emod_nonneg n (show hi - lo + 1 ≠ 0 by omega)
  have h1 := Int.emod_lt_of_pos n (show 0 < hi - lo + 1 by omega)
  omega
def strongroombook_Within.f (a0 a1 a2 : Int) : Option Int := if -4611686018427387904 ≤ a1 ∧ a1 ≤ a2 ∧ a2 ≤ 2305843009213693951 then some (withinF a0 a1 a2) else none
theorem strongroombook_Within.calls (a0 a1 a2 r : Int) (w : World) (h : strongroombook_Within.f a0 a1 a2 = some r) :
    Calls Try.prog 18 #[.int .i64 a0, .int .i64 a1, .int .i64 a2] w fun e w' => e = .returned (.int .i64 r) ∧ Drawn0 w w' := by
  unfold strongroombook_Within.f at h
  split at h
  case isFalse => cases h
  rename_i hh
  obtain ⟨h0, h1, h2⟩ := hh
  obtain rfl := Option.some.inj h
  refine UBook.strongroombook_Within.calls a0 a1 a2 _ w ?_
  unfold UBook.strongroombook_Within.f
  have e0 : wrap64 (a2 - a1) = a2 - a1 := wrap_id (by omega) (by omega)
  have e1 : wrap64 (wrap64 (a2 - a1) + 1) = a2 - a1 + 1 := by rw [e0, wrap_id (by omega) (by omega)]
  have hr := withinF_range a0 a1 a2 h1
  have hm : Int.tmod a0 (a2 - a1 + 1) = a0 % (a2 - a1 + 1) ∨ Int.tmod a0 (a2 - a1 + 1) = a0 % (a2 - a1 + 1) - (a2 - a1 + 1) ∧ Int.tmod a0 (a2 - a1 + 1) < 0 := by
    have := Int.tmod_eq_emod (a := a0) (b := a2 - a1 + 1)
    have e2 := Int.emod_nonneg a0 (show a2 - a1 + 1 ≠ 0 by omega)
    have e3 := Int.emod_lt_of_pos a0 (show 0 < a2 - a1 + 1 by omega)
    split at this
    · left; simpa using this
    · right
      constructor
      · rw [this]; omega
      · rw [this]; omega
  have e2 := Int.emod_nonneg a0 (show a2 - a1 + 1 ≠ 0 by omega)
  have e3 := Int.emod_lt_of_pos a0 (show 0 < a2 - a1 + 1 by omega)
  rw [e1, if_neg (by omega)]
  rcases hm with hm | ⟨hm, hn⟩
  · rw [hm, if_neg (by omega), wrap_id (by omega) (by omega)]; rfl
  · rw [if_pos hn, hm]
    congr 1
    rw [wrap_id (x := a0 % (a2 - a1 + 1) - (a2 - a1 + 1) + a2) (by omega) (by omega), wrap_id (x := a0 % (a2 - a1 + 1) - (a2 - a1 + 1) + a2 - a1) (by omega) (by omega), wrap_id (x := a0 % (a2 - a1 + 1) - (a2 - a1 + 1) + a2 - a1 + 1) (by omega) (by omega), wrap_id (by omega) (by omega)]
    unfold withinF
    omega
theorem within_some (n lo hi : Int) (h0 : -4611686018427387904 ≤ lo) (h1 : lo ≤ hi) (h2 : hi ≤ 2305843009213693951) : strongroombook_Within.f n lo hi = some (withinF n lo hi) := by
  unfold strongroombook_Within.f
  rw [if_pos ⟨h0, h1, h2⟩]
end Go.Proofs.Ythahhjkokdillaa
