/-
  PolyBlocks: bits of the key that are cleared by rule don't matter; Same is told both ways, and false of sums of which a byte is turned. No condition.
-/
import Derived.Test.YtgnanhphdodhoaaMPolyBlocksx1
import Derived.Test.YtgnanhphdodhoaaPolyC1
import Derived.Test.YtgnanhphdodhoaaStrN
namespace Go.Proofs.Ytgnanhphdodhoaa.Pure
open Go.RowKit Go.Proofs.Ytgnanhphdodhoaa.MPolyBlocks Go.Proofs.YtgnanhphdodhoaaW.PrintWords Go.Proofs.YtgnanhphdodhoaaW.PrintLast Go.Proofs.Ytgnanhphdodhoaa.Arr Go.Proofs.Ytgnanhphdodhoaa.Pol Go.Proofs.Ytgnanhphdodhoaa.Bits

theorem same_refl (l : List Int) : poly_Same.f l l = some true := by unfold poly_Same.f; simp
theorem same_ne {l m : List Int} (hl : Bytes l) (hm : Bytes m) (h : l ≠ m) : poly_Same.f l m = some false := by
  unfold poly_Same.f
  congr 1
  refine beq_eq_false_iff_ne.2 (fun he => h (str_inj hl hm he))
theorem sum_some (key b : List Int) (hl : key.length = 32) : poly_Sum.f key b = some (tagF key b, 0) := by
  unfold poly_Sum.f Pol.sumAns
  rw [if_pos hl]
theorem xor_zero_iff (x t : Int) (ht0 : 0 ≤ t) (ht : t ≤ 255) (h : Go.bits .xor .u8 x t = x) : t = 0 := by
  have h2 := xor8_twice t x ht0 ht
  have hc : Go.bits .xor .u8 t x = x := by rw [xor8_def, BitVec.xor_comm, ← xor8_def, h]
  rw [hc, xor8_def, BitVec.xor_self] at h2
  simpa using h2.symm
theorem xor_zero8 (x : Int) (hx0 : 0 ≤ x) (hx : x ≤ 255) : Go.bits .xor .u8 x 0 = x := by
  rw [xor8_def, show BitVec.ofInt 8 0 = 0#8 from rfl, BitVec.xor_zero, toNat_ofInt8 x hx0 hx]

theorem blocks_l1 (key b : List Int) (a2 a3 : Int) (x : List Int) (hl : key.length = 32) (hx : tagF key b = x) (h30 : 0 ≤ a3) (h31 : a3 ≤ 255) : strongroomlaw3_PolyBlocks.l1 4 b a2 a3 x key [4, 8, 12] 3 0 = some true := by
  have hlx : x.length = 16 := by rw [← hx, len_tagF]
  have hbx : Bytes x := by rw [← hx]; exact tagF_bytes _ _
  have w0 : wrap64 (0 + 1) = 1 := by unfold wrap64; rfl
  have w1 : wrap64 (1 + 1) = 2 := by unfold wrap64; rfl
  have w2 : wrap64 (2 + 1) = 3 := by unfold wrap64; rfl
  have r0 : rd ([4, 8, 12] : List Int) 0 = 4 := rfl
  have r1 : rd ([4, 8, 12] : List Int) 1 = 8 := rfl
  have r2 : rd ([4, 8, 12] : List Int) 2 = 12 := rfl
  have L3 : (([4, 8, 12] : List Int).length : Int) = 3 := rfl
  simp only [strongroomlaw3_PolyBlocks.l1, r0, r1, r2, L3, w0, w1, w2, List.length_set, hl, Option.bind_some]
  simp only [show (0 : Int) < 3 by decide, show (0 : Int) ≤ 0 by decide, show (0 : Int) ≤ 4 by decide, show (4 : Int) < ((32 : Nat) : Int) by decide, show (1 : Int) < 3 by decide, show (0 : Int) ≤ 1 by decide, show (0 : Int) ≤ 8 by decide, show (8 : Int) < ((32 : Nat) : Int) by decide, show (2 : Int) < 3 by decide, show (0 : Int) ≤ 2 by decide, show (0 : Int) ≤ 12 by decide, show (12 : Int) < ((32 : Nat) : Int) by decide, show ¬ (3 : Int) < 3 by decide, if_true, if_false, show Int.toNat 4 = 4 from rfl, show Int.toNat 8 = 8 from rfl, show Int.toNat 12 = 12 from rfl]
  obtain ⟨k1, e1⟩ : ∃ u, u = key.set 4 (Go.bits .xor .u8 (rd key 4) 3) := ⟨_, rfl⟩
  have l1 : k1.length = 32 := by rw [e1, List.length_set, hl]
  have t1 : tagF k1 b = x := by rw [e1]; exact (tagF_turn0 key b 4 hl (by omega) rfl (by omega)).trans hx
  rw [← e1]
  obtain ⟨k2, e2⟩ : ∃ u, u = k1.set 8 (Go.bits .xor .u8 (rd k1 8) 3) := ⟨_, rfl⟩
  have l2 : k2.length = 32 := by rw [e2, List.length_set, l1]
  have t2 : tagF k2 b = x := by rw [e2]; exact (tagF_turn0 k1 b 8 l1 (by omega) rfl (by omega)).trans t1
  rw [← e2]
  obtain ⟨k3, e3⟩ : ∃ u, u = k2.set 12 (Go.bits .xor .u8 (rd k2 12) 3) := ⟨_, rfl⟩
  have l3 : k3.length = 32 := by rw [e3, List.length_set, l2]
  have t3 : tagF k3 b = x := by rw [e3]; exact (tagF_turn0 k2 b 12 l2 (by omega) rfl (by omega)).trans t2
  rw [← e3, sum_some _ _ l3, t3]
  obtain ⟨n, hn⟩ : ∃ n, n = withinF a2 0 15 := ⟨_, rfl⟩
  have hr := withinF_range a2 0 15 (by decide)
  rw [← hn] at hr
  have hw : strongroombook_Within.f a2 0 15 = some n := by rw [hn]; exact within_some a2 0 15 (by decide) (by decide) (by decide)
  rw [Option.bind_some, if_pos rfl, same_refl, Option.bind_some, if_pos rfl]
  simp only [List.nil_append, List.length_nil, Nat.zero_add, hlx]
  rw [if_pos (by decide), hw, Option.bind_some, if_pos hr.1, if_pos (by omega)]
  obtain ⟨m, rfl⟩ := Int.eq_ofNat_of_zero_le hr.1
  have hm : m < 16 := by omega
  rw [Int.toNat_natCast]
  have hrx := hbx.rd (m : Int)
  by_cases h0 : a3 = 0
  · rw [h0, xor_zero8 _ hrx.1 hrx.2]
    have e : x.set m (rd x (m : Int)) = x := by
      refine ext_rd _ _ (by rw [List.length_set]) (fun j _ => ?_)
      rw [rd_set _ _ _ _ (by omega)]
      by_cases hj : j = m
      · subst hj; rw [if_pos rfl]
      · rw [if_neg hj]
    rw [e, same_refl]
    rfl
  · have hne : x.set m (Go.bits .xor .u8 (rd x (m : Int)) a3) ≠ x := by
      intro he
      have := congrArg (fun l => rd l (m : Int)) he
      simp only [rd_set _ _ _ _ (show m < x.length by omega), if_true] at this
      exact h0 (xor_zero_iff _ _ h30 h31 this)
    have hb2 : Bytes (x.set m (Go.bits .xor .u8 (rd x (m : Int)) a3)) := by
      intro y hy
      rcases List.mem_or_eq_of_mem_set hy with h | h
      · exact hbx y h
      · rw [h]; exact xor8_range _ _
    rw [same_ne hb2 hbx hne, Option.bind_some, show (a3 == 0) = false from beq_eq_false_iff_ne.2 h0]
    rfl

theorem PolyBlocks : strongroomlaw3_PolyBlocks.Pure := by
  intro l0 l1 a2 a3 m0 _ _ m1 _ _ _ h3
  unfold maxLen at m0 m1
  have h31 : 0 ≤ a3 ∧ a3 ≤ 255 := by
    simp [Lit.wf] at h3
    have e1 : IntKind.u8.min = 0 := rfl
    have e2 : IntKind.u8.max = 255 := rfl
    omega
  have s0 : strongroomkeep_Sized.f l0 32 = some (sizedF l0 32) := sized_some l0 32 (by omega) (by omega)
  have c1 : strongroomkeep_CutR.f l1 200 = some (l1.take 200) := cut_some l1 200
  obtain ⟨key, hk⟩ : ∃ u, u = sizedF l0 32 := ⟨_, rfl⟩
  have hl : key.length = 32 := by rw [hk, len_sizedF]
  obtain ⟨b, hb⟩ : ∃ u, u = l1.take 200 := ⟨_, rfl⟩
  have hbl : b.length ≤ 200 := by rw [hb, List.length_take]; omega
  rw [← hk] at s0
  rw [← hb] at c1
  refine ⟨9, ?_⟩
  unfold strongroomlaw3_PolyBlocks.f
  rw [s0, Option.bind_some, c1, Option.bind_some, sum_some _ _ hl]
  simp only [Option.bind_some, List.nil_append, List.length_nil, Nat.zero_add]
  rw [if_pos (by omega), if_pos (by omega), sum_some _ _ hl]
  simp only [Option.bind_some, if_true, same_refl]
  rw [if_pos (by omega)]
  have w0 : wrap64 (0 + 1) = 1 := by unfold wrap64; rfl
  have w1 : wrap64 (1 + 1) = 2 := by unfold wrap64; rfl
  have w2 : wrap64 (2 + 1) = 3 := by unfold wrap64; rfl
  have w3 : wrap64 (3 + 1) = 4 := by unfold wrap64; rfl
  have r0 : rd ([3, 7, 11, 15] : List Int) 0 = 3 := rfl
  have r1 : rd ([3, 7, 11, 15] : List Int) 1 = 7 := rfl
  have r2 : rd ([3, 7, 11, 15] : List Int) 2 = 11 := rfl
  have r3 : rd ([3, 7, 11, 15] : List Int) 3 = 15 := rfl
  have L4 : (([3, 7, 11, 15] : List Int).length : Int) = 4 := rfl
  have L3 : (([4, 8, 12] : List Int).length : Int) = 3 := rfl
  simp only [strongroomlaw3_PolyBlocks.l0, r0, r1, r2, r3, L4, L3, w0, w1, w2, w3, List.length_set, hl, Option.bind_some]
  simp only [show (0 : Int) < 4 by decide, show (0 : Int) ≤ 0 by decide, show (0 : Int) ≤ 3 by decide, show (3 : Int) < ((32 : Nat) : Int) by decide, show (1 : Int) < 4 by decide, show (0 : Int) ≤ 1 by decide, show (0 : Int) ≤ 7 by decide, show (7 : Int) < ((32 : Nat) : Int) by decide, show (2 : Int) < 4 by decide, show (0 : Int) ≤ 2 by decide, show (0 : Int) ≤ 11 by decide, show (11 : Int) < ((32 : Nat) : Int) by decide, show (3 : Int) < 4 by decide, show (0 : Int) ≤ 15 by decide, show (15 : Int) < ((32 : Nat) : Int) by decide, show ¬ (4 : Int) < 4 by decide, if_true, if_false, show Int.toNat 3 = 3 from rfl, show Int.toNat 7 = 7 from rfl, show Int.toNat 11 = 11 from rfl, show Int.toNat 15 = 15 from rfl]
  obtain ⟨k1, e1⟩ : ∃ u, u = key.set 3 (Go.bits .xor .u8 (rd key 3) 240) := ⟨_, rfl⟩
  have l1 : k1.length = 32 := by rw [e1, List.length_set, hl]
  have t1 : tagF k1 b = tagF key b := by rw [e1]; exact tagF_turn3 key b 3 hl (by omega) rfl
  rw [← e1]
  obtain ⟨k2, e2⟩ : ∃ u, u = k1.set 7 (Go.bits .xor .u8 (rd k1 7) 240) := ⟨_, rfl⟩
  have l2 : k2.length = 32 := by rw [e2, List.length_set, l1]
  have t2 : tagF k2 b = tagF key b := by rw [e2]; exact (tagF_turn3 k1 b 7 l1 (by omega) rfl).trans t1
  rw [← e2]
  obtain ⟨k3, e3⟩ : ∃ u, u = k2.set 11 (Go.bits .xor .u8 (rd k2 11) 240) := ⟨_, rfl⟩
  have l3 : k3.length = 32 := by rw [e3, List.length_set, l2]
  have t3 : tagF k3 b = tagF key b := by rw [e3]; exact (tagF_turn3 k2 b 11 l2 (by omega) rfl).trans t2
  rw [← e3]
  obtain ⟨k4, e4⟩ : ∃ u, u = k3.set 15 (Go.bits .xor .u8 (rd k3 15) 240) := ⟨_, rfl⟩
  have l4 : k4.length = 32 := by rw [e4, List.length_set, l3]
  have t4 : tagF k4 b = tagF key b := by rw [e4]; exact (tagF_turn3 k3 b 15 l3 (by omega) rfl).trans t3
  rw [← e4]
  exact blocks_l1 k4 b a2 a3 (tagF key b) l4 t4 h31.1 h31.2
end Go.Proofs.Ytgnanhphdodhoaa.Pure
