/-
  Packets one behind the other, one of them with its sum turned: the plain law; and what a reader that refused does with more bytes.
-/
import Derived.Test.YtnmnghpdmiffaaaPkP
namespace Go.Proofs.Ytnmnghpdmiffaaa.Pk
open Go.RowKit Go.Proofs.YtnmnghpdmiffaaaW.PrintWords Go.Proofs.YtnmnghpdmiffaaaW.PrintLast Go.Proofs.YtnmnghpdmiffaaaW.PrintMore Go.Proofs.Ytnmnghpdmiffaaa.Arr
set_option linter.unusedVariables false
set_option maxHeartbeats 8000000
set_option maxRecDepth 100000
/-- n lists from a on, one behind the other. -/
def catF (f : Nat → List Int) : Nat → Nat → List Int
  | _, 0 => []
  | a, n + 1 => f a ++ catF f (a + 1) n
theorem catF_snoc (f : Nat → List Int) : ∀ (n a : Nat), catF f a (n + 1) = catF f a n ++ f (a + n)
  | 0, a => by simp [catF]
  | n + 1, a => by
    rw [catF, catF_snoc f n (a + 1), catF, List.append_assoc, show a + 1 + n = a + (n + 1) by omega]
theorem len_catF (f : Nat → List Int) (B : Nat) (h : ∀ i, (f i).length ≤ B) : ∀ (n a : Nat), (catF f a n).length ≤ n * B
  | 0, a => by simp [catF]
  | n + 1, a => by
    have h1 := len_catF f B h n (a + 1)
    have h2 := h a
    rw [catF, List.length_append, Nat.add_mul]
    omega
theorem bytes_catF (f : Nat → List Int) (h : ∀ i, ∀ x ∈ f i, 0 ≤ x ∧ x < 256) : ∀ (n a : Nat), ∀ x ∈ catF f a n, 0 ≤ x ∧ x < 256
  | 0, a, x, hx => by cases hx
  | n + 1, a, x, hx => by
    rw [catF] at hx
    rcases List.mem_append.1 hx with hx | hx
    · exact h a x hx
    · exact bytes_catF f h n (a + 1) x hx
/-- A packet's sum is turned. -/
def turnB (P : List Int) (j : Nat) (t : Int) : List Int := P.set (P.length - 16 + j) (bits .xor .u8 (P.getD (P.length - 16 + j) 0) t)
theorem xor_ne {a t : Int} (ha : 0 ≤ a ∧ a < 256) (ht : 0 ≤ t ∧ t < 256) (h0 : t ≠ 0) : bits .xor .u8 a t ≠ a ∧ 0 ≤ bits .xor .u8 a t ∧ bits .xor .u8 a t < 256 := by
  have hr := Go.Proofs.Ytnmnghpdmiffaaa.Bits.xor8_range a t
  have t1 : t ≤ 255 := by omega
  refine ⟨fun he => h0 ?_, hr.1, Int.lt_of_le_of_lt hr.2 (by decide)⟩
  have e1 := Go.Proofs.Ytnmnghpdmiffaaa.Bits.xor8_swap a t a
  have e0 : bits .xor .u8 a a = 0 := by
    rw [Go.Proofs.Ytnmnghpdmiffaaa.Bits.xor8_def, BitVec.xor_self]
    rfl
  rw [he, e0, Go.Proofs.Ytnmnghpdmiffaaa.Bits.zero_xor8 t ht.1 t1] at e1
  exact e1.symm
theorem next_turned (k : List Int) (n : Int) (b rest : List Int) (j : Nat) (t : Int) (hk : k.length = 32) (hb : ∀ x ∈ b, 0 ≤ x ∧ x < 256) (h1 : 1 ≤ b.length) (h2 : b.length ≤ 34000) (hj : j < 16) (ht : 0 ≤ t ∧ t < 256) (h0 : t ≠ 0) :
    nextF (some k) n (turnB (packetF (some k) n b) j t ++ rest) 0 = refuseF n 14 := by
  have hk' : ∀ k', some k = some k' → k'.length = 32 := fun k' h => by cases h; exact hk
  have hp := padN_ge (headN (some k)) b.length
  have hpi := padN_is (headN (some k)) b.length
  have hl := len_bodyF (some k) b
  have hlp := len_packetF (some k) n b hk'
  have htg : tagN (some k) = 16 := rfl
  have h12 : (nonceF n).length = 12 := rfl
  obtain ⟨M, hM⟩ : ∃ M, M = (bodyF (some k) b).length := ⟨_, rfl⟩
  have m1 : (M : Int) ≤ 35000 := by omega
  have m2 : 6 ≤ (M : Int) ∧ ((M : Int) + headN (some k)) % 8 = 0 := by omega
  have m3 : 4 + M + tagN (some k) ≤ 4 + M + 16 + rest.length := by omega
  have m4 : 4 ≤ 4 + M + 16 + rest.length := by omega
  obtain ⟨hid, hhid⟩ : ∃ z, z = hidF k (nonceF n) (bodyF (some k) b) := ⟨_, rfl⟩
  obtain ⟨mac, hmac⟩ : ∃ z, z = macF k (nonceF n) (be32 M) hid := ⟨_, rfl⟩
  have lh : hid.length = M := by rw [hhid, len_hidF, hM]
  have lm : mac.length = 16 := by rw [hmac, len_macF]
  have hP : packetF (some k) n b = be32 (M : Int) ++ (hid ++ mac) := by
    have hs : sealF n (bodyF (some k) b) (some k) = hid ++ mac := by
      show (sealAns k (nonceF n) (be32 (bodyF (some k) b).length) (bodyF (some k) b)).1 = _
      rw [seal_eq hk h12, hmac, hhid, hM]
    unfold packetF
    rw [hs, hM]
  obtain ⟨v, hv⟩ : ∃ v, v = bits .xor .u8 (mac.getD j 0) t := ⟨_, rfl⟩
  have hgj : (packetF (some k) n b).getD ((packetF (some k) n b).length - 16 + j) 0 = mac.getD j 0 := by
    rw [hP, List.getD_eq_getElem?_getD, List.getD_eq_getElem?_getD, List.length_append, List.length_append, len_be, lh, lm, List.getElem?_append_right (by rw [len_be]; omega), List.getElem?_append_right (by rw [len_be, lh]; omega), len_be, lh]
    congr 2
    omega
  have hT0 : turnB (packetF (some k) n b) j t = (packetF (some k) n b).set ((packetF (some k) n b).length - 16 + j) v := by
    unfold turnB
    rw [hgj, hv]
  have hmb : Go.Proofs.Ytnmnghpdmiffaaa.Bits.Bytes mac := by rw [hmac]; exact bytes_macF _ _ _ _
  have hg : 0 ≤ mac.getD j 0 ∧ mac.getD j 0 < 256 := getD_b (fun x hx => ⟨(hmb x hx).1, Int.lt_of_le_of_lt (hmb x hx).2 (by decide)⟩) j
  obtain ⟨x1, x2, x3⟩ := xor_ne hg ht h0
  rw [← hv] at x1 x2 x3
  clear hv hgj
  have hT : turnB (packetF (some k) n b) j t = be32 (M : Int) ++ (hid ++ mac.set j v) := by
    rw [hT0, hP, List.length_append, List.length_append, len_be, lh, lm, List.set_append_right _ _ (by rw [len_be]; omega), List.set_append_right _ _ (by rw [len_be, lh]; omega), len_be, lh]
    congr 3
    omega
  have hne : mac ≠ mac.set j v := by
    intro he
    have h3 : mac.getD j 0 = (mac.set j v).getD j 0 := congrArg (fun l : List Int => l.getD j 0) he
    rw [List.getD_eq_getElem?_getD (l := mac.set j v), List.getElem?_set, if_pos rfl, if_pos (by omega)] at h3
    exact x1 (by simpa using h3.symm)
  have hmb2 : Go.Proofs.Ytnmnghpdmiffaaa.Bits.Bytes (mac.set j v) := by
    intro x hx
    rcases List.mem_or_eq_of_mem_set hx with hx | rfl
    · exact hmb x hx
    · omega
  rw [hT]
  have e0 : be32 (M : Int) ++ (hid ++ mac.set j v) ++ rest = be32 (M : Int) ++ (hid ++ mac.set j v ++ rest) := by rw [List.append_assoc]
  have hlen : (be32 (M : Int) ++ (hid ++ mac.set j v) ++ rest).length = 4 + M + 16 + rest.length := by
    rw [List.length_append, List.length_append, List.length_append, List.length_set, len_be, lh, lm]
    omega
  have hlong : long4 (be32 (M : Int) ++ (hid ++ mac.set j v) ++ rest) = M := by rw [e0]; exact long4_be M (by omega) _
  have hn : (long4 (be32 (M : Int) ++ (hid ++ mac.set j v) ++ rest)).toNat = M := by rw [hlong, Int.toNat_natCast]
  have ht4 : (be32 (M : Int) ++ (hid ++ mac.set j v) ++ rest).take 4 = be32 M := by
    rw [e0, List.take_append_of_le_length (by rw [len_be]; omega), List.take_of_length_le (by rw [len_be]; omega)]
  have hd : ((be32 (M : Int) ++ (hid ++ mac.set j v) ++ rest).take (4 + M + 16)).drop 4 = hid ++ mac.set j v := by
    rw [List.take_append_of_le_length (by rw [List.length_append, List.length_append, List.length_set, len_be, lh, lm]; omega), List.take_of_length_le (by rw [List.length_append, List.length_append, List.length_set, len_be, lh, lm]; omega), List.drop_append_of_le_length (by rw [len_be]; omega), show (4 : Nat) = (be32 (M : Int)).length from rfl, List.drop_length]
    rfl
  refine nextF_mac (by rw [hlen]; exact m4) (by rw [hlong]; exact m1) (by rw [hlong]; exact m2) (by rw [hn, hlen]; exact m3) ?_
  rw [hn, ht4, hd, open_eq hk h12 _ _ _ (by rw [List.length_set]; exact lm), ← hmac, same_ne hmb hmb2 hne, if_neg (by decide)]
  decide
/-- Bytes for a reader that refused. -/
theorem feed_dead (g : Nat) (vk vb : Value) (key : Option (List Int)) (n : Int) (bs : List Int) (why : Int) (v : Value) (w : World) (hS : InS w g vk vb key n bs why) (hw : why ≠ 0) :
    Calls Try.prog 26 #[.pointer (some ⟨g, 0, none⟩), v] w fun e w' => e = .returned (.tuple #[]) ∧ w' = w := by
  have x0 := cell_at (i := 3) hS.ptr rfl
  have h1 : (why == 0) = false := by simp [hw]
  clear hS
  go_enter Try.func26, Try.ntmps26
  go_wp2_with fail
  go_end0
  exact ⟨rfl, rfl⟩
section
variable {u w w0 w1 : World} {g h : Nat} {vo : Value} {ko : Option (List Int)} {no no' : Int} {vk vb : Value} {kn : Option (List Int)} {nn : Int} {bs : List Int} {why : Int}
/-- A cell of a block that is younger than both. -/
theorem Two.set_far (T0 : Two u w0 g h vo ko no vk vb kn nn bs why) (T : Two u w1 g h vo ko no' vk vb kn nn bs why) {gx j : Nat} (hx : w0.heap.size ≤ gx) (v : Value) : Two u (w1.setCell ⟨gx, j, none⟩ v) g h vo ko no' vk vb kn nn bs why := by
  have hG : GB (fun k => k = gx) w1 (w1.setCell ⟨gx, j, none⟩ v) := GB.set (S := fun k => k = gx) (GB.refl _ w1) (show (⟨gx, j, none⟩ : Addr).block = gx from rfl) v
  have h1 := T0.o.lt
  have h2 := T0.i.lt
  have h3 := T0.size
  exact ⟨T.o.keep hG (by intro e; have e' : g = gx := e; omega) (fun b hb e => by have := T0.o.key.lt b hb; have e' : b = gx := e; omega),
    T.i.keep hG (by intro e; have e' : h = gx := e; omega) (fun b hb e => by have := T0.i.key.lt b hb; have e' : b = gx := e; omega) (fun b hb e => by have := T0.i.row.lt b hb; have e' : b = gx := e; omega),
    T.gh, T.ug, T.uh, T.ub, T.below.trans (hG.below T.size (fun k hk => by rw [hk]; omega)), T.oh, T.ob, T.kg, T.bg⟩
theorem two_feed_dead (T : Two u w g h vo ko no vk vb kn nn bs why) (hw : why ≠ 0) (v : Value) :
    Calls Try.prog 26 #[.pointer (some ⟨h, 0, none⟩), v] w fun e w' => e = .returned (.tuple #[]) ∧ w' = w := feed_dead h vk vb kn nn bs why v w T.i hw
end
end Go.Proofs.Ytnmnghpdmiffaaa.Pk
