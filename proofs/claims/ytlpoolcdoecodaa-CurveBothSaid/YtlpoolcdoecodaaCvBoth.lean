/-
  CurveBoth, walked.
-/
import Derived.Test.YtlpoolcdoecodaaCvThree
namespace Go.Proofs.Ytlpoolcdoecodaa
open Go.RowKit Go.Proofs.YtlpoolcdoecodaaW.PrintWords Go.Proofs.YtlpoolcdoecodaaW.PrintLast Go.Proofs.YtlpoolcdoecodaaW.PrintMore Go.Proofs.Ytlpoolcdoecodaa.Arr Go.Proofs.Ytlpoolcdoecodaa.Cv
set_option linter.unusedVariables false
set_option maxHeartbeats 8000000
set_option maxRecDepth 100000
/-- The bits of a byte that rules set, and those that they leave. -/
theorem low_byte (x l : Int) (hx : 0 ≤ x ∧ x < 256) (hl : 0 ≤ l ∧ l < 256) :
    let v := bits .or .u8 (bits .and .u8 x 248) (bits .and .u8 l 7); v - v % 8 = x - x % 8 ∧ 0 ≤ v ∧ v < 256 := by
  have k1 : ∀ a : Fin 256, bits .and .u8 ((a.val : Nat) : Int) 248 = 8 * ((a.val / 8 : Nat) : Int) := by decide +kernel
  have k2 : ∀ a : Fin 256, bits .and .u8 ((a.val : Nat) : Int) 7 = ((a.val % 8 : Nat) : Int) := by decide +kernel
  have k3 : ∀ a : Fin 32, ∀ b : Fin 8, bits .or .u8 (8 * ((a.val : Nat) : Int)) ((b.val : Nat) : Int) = 8 * ((a.val : Nat) : Int) + ((b.val : Nat) : Int) := by decide +kernel
  obtain ⟨m, rfl⟩ := Int.eq_ofNat_of_zero_le hx.1
  obtain ⟨n, rfl⟩ := Int.eq_ofNat_of_zero_le hl.1
  have e1 := k1 ⟨m, by omega⟩
  have e2 := k2 ⟨n, by omega⟩
  have e3 := k3 ⟨m / 8, by omega⟩ ⟨n % 8, by omega⟩
  intro v
  have ev : v = 8 * ((m / 8 : Nat) : Int) + ((n % 8 : Nat) : Int) := by
    show bits .or .u8 (bits .and .u8 (m : Int) 248) (bits .and .u8 (n : Int) 7) = _
    rw [show bits .and .u8 (m : Int) 248 = 8 * ((m / 8 : Nat) : Int) from e1, show bits .and .u8 (n : Int) 7 = ((n % 8 : Nat) : Int) from e2]
    exact e3
  rw [ev]
  omega
theorem high_byte (x l : Int) (hx : 0 ≤ x ∧ x < 256) (hl : 0 ≤ l ∧ l < 256) :
    let v := bits .or .u8 (bits .and .u8 x 63) (bits .and .u8 l 192); v % 64 = x % 64 ∧ 0 ≤ v ∧ v < 256 := by
  have k1 : ∀ a : Fin 256, bits .and .u8 ((a.val : Nat) : Int) 63 = ((a.val % 64 : Nat) : Int) := by decide +kernel
  have k2 : ∀ a : Fin 256, bits .and .u8 ((a.val : Nat) : Int) 192 = 64 * ((a.val / 64 : Nat) : Int) := by decide +kernel
  have k3 : ∀ a : Fin 64, ∀ b : Fin 4, bits .or .u8 ((a.val : Nat) : Int) (64 * ((b.val : Nat) : Int)) = ((a.val : Nat) : Int) + 64 * ((b.val : Nat) : Int) := by decide +kernel
  obtain ⟨m, rfl⟩ := Int.eq_ofNat_of_zero_le hx.1
  obtain ⟨n, rfl⟩ := Int.eq_ofNat_of_zero_le hl.1
  have e1 := k1 ⟨m, by omega⟩
  have e2 := k2 ⟨n, by omega⟩
  have e3 := k3 ⟨m % 64, by omega⟩ ⟨n / 64, by omega⟩
  intro v
  have ev : v = ((m % 64 : Nat) : Int) + 64 * ((n / 64 : Nat) : Int) := by
    show bits .or .u8 (bits .and .u8 (m : Int) 63) (bits .and .u8 (n : Int) 192) = _
    rw [show bits .and .u8 (m : Int) 63 = ((m % 64 : Nat) : Int) from e1, show bits .and .u8 (n : Int) 192 = 64 * ((n / 64 : Nat) : Int) from e2]
    exact e3
  rw [ev]
  omega
theorem top_byte (x : Int) (hx : 0 ≤ x ∧ x < 256) : bits .xor .u8 x 128 % 128 = x % 128 ∧ 0 ≤ bits .xor .u8 x 128 ∧ bits .xor .u8 x 128 < 256 := by
  have k1 : ∀ a : Fin 256, bits .xor .u8 ((a.val : Nat) : Int) 128 % 128 = ((a.val : Nat) : Int) % 128 ∧ 0 ≤ bits .xor .u8 ((a.val : Nat) : Int) 128 ∧ bits .xor .u8 ((a.val : Nat) : Int) 128 < 256 := by decide +kernel
  obtain ⟨m, rfl⟩ := Int.eq_ofNat_of_zero_le hx.1
  exact k1 ⟨m, by omega⟩
theorem getD_bytes {l : List Int} (h : ∀ x ∈ l, 0 ≤ x ∧ x < 256) (i : Nat) : 0 ≤ l.getD i 0 ∧ l.getD i 0 < 256 := by
  rw [List.getD_eq_getElem?_getD]
  rcases hj : l[i]? with _ | y
  · simp
  · simpa using h y (List.mem_of_getElem? hj)
theorem set_bytes {l : List Int} (h : ∀ x ∈ l, 0 ≤ x ∧ x < 256) (i : Nat) (v : Int) (hv : 0 ≤ v ∧ v < 256) : ∀ x ∈ l.set i v, 0 ≤ x ∧ x < 256 := by
  intro x hx
  rcases List.mem_or_eq_of_mem_set hx with hx | rfl
  · exact h x hx
  · exact hv
/-- A scalar of which only such bits are turned that rules set. -/
def turnS (s : List Int) (l h : Int) : List Int := (s.set 0 (bits .or .u8 (bits .and .u8 (s.getD 0 0) 248) (bits .and .u8 l 7))).set 31 (bits .or .u8 (bits .and .u8 (s.getD 31 0) 63) (bits .and .u8 h 192))
theorem turn_clamp (s : List Int) (l h : Int) (hs : s.length = 32) (hb : ∀ x ∈ s, 0 ≤ x ∧ x < 256) (hl : 0 ≤ l ∧ l < 256) (hh : 0 ≤ h ∧ h < 256) : clampF (turnS s l h) = clampF s := by
  obtain ⟨a1, _, _⟩ := low_byte (s.getD 0 0) l (getD_bytes hb 0) hl
  obtain ⟨b1, _, _⟩ := high_byte (s.getD 31 0) h (getD_bytes hb 31) hh
  unfold clampF turnS
  generalize bits .or .u8 (bits .and .u8 (s.getD 0 0) 248) (bits .and .u8 l 7) = v at *
  generalize bits .or .u8 (bits .and .u8 (s.getD 31 0) 63) (bits .and .u8 h 192) = u at *
  have e31 : ((s.set 0 v).set 31 u).getD 31 0 = u := by rw [getD_set _ _ _ _ (by rw [List.length_set, hs]; decide), if_pos rfl]
  have e0 : ((s.set 0 v).set 31 u).getD 0 0 = v := by
    rw [getD_set _ _ _ _ (by rw [List.length_set, hs]; decide), if_neg (by decide), getD_set _ _ _ _ (by rw [hs]; decide), if_pos rfl]
  rw [e31, e0, b1, a1, List.set_set]
  rw [List.set_comm _ _ (by decide : (31 : Nat) ≠ 0), List.set_comm _ _ (by decide : (31 : Nat) ≠ 0), List.set_set]
theorem curve_turnS (s p : List Int) (l h : Int) (hs : s.length = 32) (hb : ∀ x ∈ s, 0 ≤ x ∧ x < 256) (hl : 0 ≤ l ∧ l < 256) (hh : 0 ≤ h ∧ h < 256) : curveF (turnS s l h) p = curveF s p := by
  unfold curveF
  rw [turn_clamp s l h hs hb hl hh]
def turnP (p : List Int) : List Int := p.set 31 (bits .xor .u8 (p.getD 31 0) 128)
theorem unp_turn (p : List Int) (hp : p.length = 32) (hb : ∀ x ∈ p, 0 ≤ x ∧ x < 256) : unpF (turnP p) = unpF p := by
  obtain ⟨a1, _, _⟩ := top_byte (p.getD 31 0) (getD_bytes hb 31)
  have g : ∀ j, (turnP p).getD j 0 = if 31 = j then bits .xor .u8 (p.getD 31 0) 128 else p.getD j 0 := fun j => by
    unfold turnP; rw [getD_set _ _ _ _ (by rw [hp]; decide)]
  have e : ∀ i, i < 15 → unpE (turnP p) i = unpE p i := fun i hi => by
    unfold unpE; rw [g, g, if_neg (by omega), if_neg (by omega)]
  have e15 : unpE (turnP p) 15 % 32768 = unpE p 15 % 32768 := by
    unfold unpE
    rw [g, g, if_neg (by decide), if_pos rfl]
    show (p.getD 30 0 + 256 * bits .xor .u8 (p.getD 31 0) 128) % 32768 = (p.getD 30 0 + 256 * p.getD 31 0) % 32768
    generalize bits .xor .u8 (p.getD 31 0) 128 = v at *
    omega
  unfold unpF
  rw [e15]
  refine List.ext_getElem? fun j => ?_
  rw [List.getElem?_set, List.getElem?_set]
  by_cases h15 : 15 = j
  · rw [if_pos h15, if_pos h15, List.length_map, List.length_map]
  · rw [if_neg h15, if_neg h15, List.getElem?_map, List.getElem?_map]
    by_cases hj : j < 16
    · rw [List.getElem?_range hj, Option.map_some, Option.map_some, e j (by omega)]
    · rw [List.getElem?_eq_none (by simp; omega)]; rfl
theorem curve_turnP (s p : List Int) (hp : p.length = 32) (hb : ∀ x ∈ p, 0 ≤ x ∧ x < 256) : curveF s (turnP p) = curveF s p := by
  unfold curveF
  rw [unp_turn p hp hb]
theorem curveBoth_calls (A1 : Option Addr) (c1 : Nat) (l1 : List Int) (A2 : Option Addr) (c2 : Nat) (l2 : List Int) (lo hi : Int) (w : World)
    (hr1 : Kd.C (Kd.int .u8) w A1 l1.length l1) (hc1 : l1.length ≤ c1) (hm1 : l1.length ≤ 9223372036854775807) (hb1 : ∀ x ∈ l1, 0 ≤ x ∧ x < 256)
    (hr2 : Kd.C (Kd.int .u8) w A2 l2.length l2) (hc2 : l2.length ≤ c2) (hm2 : l2.length ≤ 9223372036854775807) (hb2 : ∀ x ∈ l2, 0 ≤ x ∧ x < 256) (hlo : 0 ≤ lo ∧ lo < 256) (hhi : 0 ≤ hi ∧ hi < 256) :
    Calls Try.prog 5 #[.slice A1 l1.length c1, .slice A2 l2.length c2, .int .u8 lo, .int .u8 hi] w fun e w' => e = .returned (.bool true) ∧ Below w.heap.size w w' := by
  have HLO := Aside0.mk hlo
  have HHI := Aside0.mk hhi
  clear hlo hhi
  have f1 := Aside0.mk (show strongroomkeep_Sized.f l1 32 = some (sizedF l1 32) from sized_some l1 32 (by decide) hm1)
  have K1 := Aside0.mk (And.intro hr1 hc1)
  obtain ⟨s1, hs1⟩ : ∃ x, x = sizedF l1 32 := ⟨_, rfl⟩
  have LS1 := Aside0.mk (show s1.length = 32 by rw [hs1, len_sizedF])
  have BS1 := Aside0.mk (show ∀ x ∈ s1, 0 ≤ x ∧ x < 256 by rw [hs1]; exact sized_bytesT l1 32 hb1)
  have HS1 := Aside0.mk hs1
  clear hr1 hc1 hm1 hb1 hs1
  have f2 := Aside0.mk (show strongroomkeep_Sized.f l2 32 = some (sizedF l2 32) from sized_some l2 32 (by decide) hm2)
  have K2 := Aside0.mk (And.intro hr2 hc2)
  obtain ⟨s2, hs2⟩ : ∃ x, x = sizedF l2 32 := ⟨_, rfl⟩
  have LS2 := Aside0.mk (show s2.length = 32 by rw [hs2, len_sizedF])
  have BS2 := Aside0.mk (show ∀ x ∈ s2, 0 ≤ x ∧ x < 256 by rw [hs2]; exact sized_bytesT l2 32 hb2)
  have HS2 := Aside0.mk hs2
  clear hr2 hc2 hm2 hb2 hs2
  go_enter Try.func5, Try.ntmps5
  have BW := Aside0.mk (Below.refl w.heap.size w)
  go_wp2_with fail
  refine (strongroomkeep_Sized.calls A1 c1 l1 32 _ w K1.out.1 K1.out.2 f1.out).mono ?_
  rintro e w1 ⟨v, rfl, hR, hB⟩
  rw [← HS1.out] at hR
  obtain ⟨a1, d1, rfl, hc, hC⟩ := Kd.R_reads hR
  rw [LS1.out] at hc hC ⊢
  have BW' := Aside0.mk (below_step BW.out hB)
  clear BW
  have BW := BW'
  clear BW'
  have K2' := Aside0.mk (And.intro (Kd.C_below K2.out.1 hB) K2.out.2)
  clear K2
  have K2 := K2'
  clear K2'
  have C1 := Aside0.mk (And.intro hC hc)
  clear hR hB hC hc K1 f1 HS1
  go_wp2_with fail
  refine (strongroomkeep_Sized.calls A2 c2 l2 32 _ w1 K2.out.1 K2.out.2 f2.out).mono ?_
  rintro e w2 ⟨v, rfl, hR, hB⟩
  rw [← HS2.out] at hR
  obtain ⟨a2, d2, rfl, hc, hC⟩ := Kd.R_reads hR
  rw [LS2.out] at hc hC ⊢
  have BW' := Aside0.mk (below_step BW.out hB)
  clear BW
  have BW := BW'
  clear BW'
  have C1' := Aside0.mk (And.intro (Kd.C_below C1.out.1 hB) C1.out.2)
  clear C1
  have C1 := C1'
  clear C1'
  have C2 := Aside0.mk (And.intro hC hc)
  clear hR hB hC hc K2 f2 HS2
  go_wp2_with fail
  refine (baseT a1 d1 s1 w2 LS1.out BS1.out C1.out).mono ?_
  rintro e w3 ⟨ap, dp, rfl, hR, hC, hB⟩
  obtain ⟨sp, hsp⟩ : ∃ x, x = curveF s1 nineZ := ⟨_, rfl⟩
  have LSp := Aside0.mk (show sp.length = 32 by rw [hsp]; exact len_curveF s1 nineZ nine_bytes)
  have BSp := Aside0.mk (show ∀ x ∈ sp, 0 ≤ x ∧ x < 256 by rw [hsp]; exact curve_bytes s1 nineZ nine_bytes)
  rw [← hsp] at hC hR
  have Ep := Aside0.mk hsp
  have BW' := Aside0.mk (below_step BW.out hB)
  clear BW
  have BW := BW'
  clear BW'
  have C1' := Aside0.mk (And.intro (Kd.C_below C1.out.1 hB) C1.out.2)
  clear C1
  have C1 := C1'
  clear C1'
  have C2' := Aside0.mk (And.intro (Kd.C_below C2.out.1 hB) C2.out.2)
  clear C2
  have C2 := C2'
  clear C2'
  have Cp := Aside0.mk hC
  have Rp := Aside0.mk hR
  clear hC hR hB hsp
  have CA := C1
  have BQ := Aside0.mk (Below.refl w3.heap.size w3)
  have BW3 := BW
  go_wp2_with fail
  refine (baseT a2 d2 s2 w3 LS2.out BS2.out C2.out).mono ?_
  rintro e w4 ⟨aq, dq, rfl, hR, hC, hB⟩
  obtain ⟨sq, hsq⟩ : ∃ x, x = curveF s2 nineZ := ⟨_, rfl⟩
  have LSq := Aside0.mk (show sq.length = 32 by rw [hsq]; exact len_curveF s2 nineZ nine_bytes)
  have BSq := Aside0.mk (show ∀ x ∈ sq, 0 ≤ x ∧ x < 256 by rw [hsq]; exact curve_bytes s2 nineZ nine_bytes)
  rw [← hsq] at hC hR
  have Eq := Aside0.mk hsq
  have BW' := Aside0.mk (below_step BW.out hB)
  clear BW
  have BW := BW'
  clear BW'
  have C1' := Aside0.mk (And.intro (Kd.C_below C1.out.1 hB) C1.out.2)
  clear C1
  have C1 := C1'
  clear C1'
  have C2' := Aside0.mk (And.intro (Kd.C_below C2.out.1 hB) C2.out.2)
  clear C2
  have C2 := C2'
  clear C2'
  have Cp' := Aside0.mk (And.intro (Kd.C_below Cp.out.1 hB) Cp.out.2)
  clear Cp
  have Cp := Cp'
  clear Cp'
  have Rp' := Aside0.mk (Kd.R_below Rp.out hB)
  clear Rp
  have Rp := Rp'
  clear Rp'
  have Cq := Aside0.mk hC
  have Rq := Aside0.mk hR
  have HBq := Aside0.mk hB
  clear hC hR hB hsq
  obtain ⟨gq, cq, hq, hgq0, hgq, _⟩ := Kd.R_form Rq.out (by rw [LSq.out]; decide)
  rw [LSq.out] at hq
  have HGQ := Aside0.mk (And.intro hgq0 hgq)
  have HQF := Aside0.mk (show aq = some ⟨gq, 0, none⟩ ∧ dq = cq by cases hq; exact ⟨rfl, rfl⟩)
  clear hq hgq0 hgq
  have BQ' := Aside0.mk (BQ.out.trans ((show Below w3.heap.size w3 w4 from HBq.out).mono BQ.out.size))
  clear BQ HBq
  have BQ := BQ'
  clear BQ'
  go_wp2_with fail
  refine (mulT a1 d1 s1 aq dq sq w4 LS1.out LSq.out BS1.out BSq.out C1.out Cq.out).mono ?_
  rintro e w5 ⟨ax, dx, rfl, hR, hC, hB⟩
  obtain ⟨sx, hsx⟩ : ∃ x, x = curveF s1 sq := ⟨_, rfl⟩
  have LSx := Aside0.mk (show sx.length = 32 by rw [hsx]; exact len_curveF s1 sq BSq.out)
  have BSx := Aside0.mk (show ∀ x ∈ sx, 0 ≤ x ∧ x < 256 by rw [hsx]; exact curve_bytes s1 sq BSq.out)
  rw [← hsx] at hC hR
  have Ex := Aside0.mk hsx
  have BW' := Aside0.mk (below_step BW.out hB)
  clear BW
  have BW := BW'
  clear BW'
  have C1' := Aside0.mk (And.intro (Kd.C_below C1.out.1 hB) C1.out.2)
  clear C1
  have C1 := C1'
  clear C1'
  have C2' := Aside0.mk (And.intro (Kd.C_below C2.out.1 hB) C2.out.2)
  clear C2
  have C2 := C2'
  clear C2'
  have Cp' := Aside0.mk (And.intro (Kd.C_below Cp.out.1 hB) Cp.out.2)
  clear Cp
  have Cp := Cp'
  clear Cp'
  have Cq' := Aside0.mk (And.intro (Kd.C_below Cq.out.1 hB) Cq.out.2)
  clear Cq
  have Cq := Cq'
  clear Cq'
  have Rp' := Aside0.mk (Kd.R_below Rp.out hB)
  clear Rp
  have Rp := Rp'
  clear Rp'
  have Rq' := Aside0.mk (Kd.R_below Rq.out hB)
  clear Rq
  have Rq := Rq'
  clear Rq'
  have Cx := Aside0.mk hC
  have Rx := Aside0.mk hR
  have HBx := Aside0.mk hB
  clear hC hR hB hsx
  obtain ⟨gx, cx, hx, hgx0, _, _⟩ := Kd.R_form Rx.out (by rw [LSx.out]; decide)
  rw [LSx.out] at hx
  have HGX := Aside0.mk (show ∀ ad, ax = some ad → 0 < 32 → ad.block ≠ gq by
    intro ad had _
    cases hx
    cases had
    have := HGQ.out.2
    show gx ≠ gq
    omega)
  clear hx hgx0
  have BQ' := Aside0.mk (BQ.out.trans ((show Below w4.heap.size w4 w5 from HBx.out).mono BQ.out.size))
  clear BQ HBx
  have BQ := BQ'
  clear BQ'
  go_wp2_with fail
  refine (mulT a2 d2 s2 ap dp sp w5 LS2.out LSp.out BS2.out BSp.out C2.out Cp.out).mono ?_
  rintro e w6 ⟨ay, dy, rfl, hR, hC, hB⟩
  obtain ⟨sy, hsy⟩ : ∃ x, x = curveF s2 sp := ⟨_, rfl⟩
  have LSy := Aside0.mk (show sy.length = 32 by rw [hsy]; exact len_curveF s2 sp BSp.out)
  have BSy := Aside0.mk (show ∀ x ∈ sy, 0 ≤ x ∧ x < 256 by rw [hsy]; exact curve_bytes s2 sp BSp.out)
  rw [← hsy] at hC hR
  have Ey := Aside0.mk hsy
  have BW' := Aside0.mk (below_step BW.out hB)
  clear BW
  have BW := BW'
  clear BW'
  have C1' := Aside0.mk (And.intro (Kd.C_below C1.out.1 hB) C1.out.2)
  clear C1
  have C1 := C1'
  clear C1'
  have C2' := Aside0.mk (And.intro (Kd.C_below C2.out.1 hB) C2.out.2)
  clear C2
  have C2 := C2'
  clear C2'
  have Cp' := Aside0.mk (And.intro (Kd.C_below Cp.out.1 hB) Cp.out.2)
  clear Cp
  have Cp := Cp'
  clear Cp'
  have Cq' := Aside0.mk (And.intro (Kd.C_below Cq.out.1 hB) Cq.out.2)
  clear Cq
  have Cq := Cq'
  clear Cq'
  have Cx' := Aside0.mk (And.intro (Kd.C_below Cx.out.1 hB) Cx.out.2)
  clear Cx
  have Cx := Cx'
  clear Cx'
  have Rp' := Aside0.mk (Kd.R_below Rp.out hB)
  clear Rp
  have Rp := Rp'
  clear Rp'
  have Rq' := Aside0.mk (Kd.R_below Rq.out hB)
  clear Rq
  have Rq := Rq'
  clear Rq'
  have Rx' := Aside0.mk (Kd.R_below Rx.out hB)
  clear Rx
  have Rx := Rx'
  clear Rx'
  have Cy := Aside0.mk hC
  have Ry := Aside0.mk hR
  have HBy := Aside0.mk hB
  clear hC hR hB hsy
  have BQ' := Aside0.mk (BQ.out.trans ((show Below w5.heap.size w5 w6 from HBy.out).mono BQ.out.size))
  clear BQ HBy
  have BQ := BQ'
  clear BQ'
  have same : sy = sx := by
    rw [Ex.out, Ey.out, Eq.out, Ep.out]
    exact curve_both s2 s1
  clear Ey Ep
  subst same
  obtain ⟨str, hstr⟩ : ∃ s, s = strOfNums sy := ⟨_, rfl⟩
  have HSTR := Aside0.mk hstr
  have qx : (convert 22 9 (.slice ax 32 dx)).run Try.prog w6 = .ok (.string str) w6 := by
    have h := Kd.C_string (P := Try.prog) (c := dx) Try.underlying22 Try.underlying5 Try.underlying9 (show (Kd.int .u8).C w6 ax sy.length sy by rw [LSy.out]; exact Cx.out.1)
    rw [LSy.out] at h
    rw [hstr]
    exact h
  have qy : (convert 22 9 (.slice ay 32 dy)).run Try.prog w6 = .ok (.string str) w6 := by
    have h := Kd.C_string (P := Try.prog) (c := dy) Try.underlying22 Try.underlying5 Try.underlying9 (show (Kd.int .u8).C w6 ay sy.length sy by rw [LSy.out]; exact Cy.out.1)
    rw [LSy.out] at h
    rw [hstr]
    exact h
  clear hstr
  go_upto_region 9 with (fail)
  clear qx qy
  have i1 : (Kd.int .u8).R 5 (w6.alloc (.cells (nums .u8 []).toArray 5)) w6.heap.size (fun _ => True) (.slice (some ⟨w6.heap.size, 0, none⟩) 0 0) [] := lit_R w6 w6.heap.size w6.heap.size 5 .u8 [] 0 rfl (Nat.le_refl _) rfl (by decide)
  have b1 : Below w6.heap.size w6 (w6.alloc (.cells (nums .u8 []).toArray 5)) := (Below.refl _ _).alloc (Nat.le_refl _) _
  have I1 := Aside0.mk i1
  have B1 := Aside0.mk b1
  have CA6 := Aside0.mk (And.intro (Kd.C_below CA.out.1 BQ.out) CA.out.2)
  clear i1 b1
  go_upto_region 10 with ((with_reducible refine gate_builtin (b := .append) (xs := #[.tmp 74, .tmp 75]) rfl ?_); at_builtin; (refine Kd.R_append_row (w0 := w6) (Value.int .u8) (0 : Int) (h1 := fun _ => rfl) w6.heap.size rfl (.tmp 74) (.tmp 75) 22 5 (.int .u8 0) 1 rfl Try.underlying22 info_u8 rfl Nat.one_pos (.slice (some ⟨w6.heap.size, 0, none⟩) 0 0) [] s1 a1 32 d1 (fun _ => True) rfl rfl (fun _ _ => trivial) ?q1 ?q2 ?q3 ?q4 ?q5 ?_; (case q1 => exact I1.out); (case q2 => exact Kd.C_below CA6.out.1 B1.out); (case q3 => exact B1.out); (case q4 => exact B1.out.size); (case q5 => simp); intro v7 w7 hR hB _ _; have RC := Aside0.mk (show (Kd.int .u8).R 5 w7 w6.heap.size (fun _ => True) v7 s1 from hR); have BC := Aside0.mk hB; clear hR hB))
  obtain ⟨gc, cc, rfl, hgc0, hgc, _⟩ := Kd.R_form RC.out (by rw [LS1.out]; decide)
  rw [LS1.out] at RC ⊢
  have HGC := Aside0.mk (And.intro hgc0 hgc)
  have hc := Kd.R_celln (0 : Int) RC.out (0 : Int) (by decide) (by decide)
  have hp := Kd.R_putg RC.out (0 : Int) (bits .or .u8 (bits .and .u8 (rd s1 0) 248) (bits .and .u8 lo 7))
  rw [show (0 : Int).toNat = 0 from rfl] at hc hp
  obtain ⟨x1, x2⟩ := hc
  replace x1 : w7.cell? ⟨gc, 0, none⟩ = some (.int .u8 (rd s1 0)) := x1
  have HP := Aside0.mk hp.1
  have BS0 := Aside0.mk (show Below w6.heap.size w6 (w7.setCell ⟨gc, 0, none⟩ (.int .u8 (bits .or .u8 (bits .and .u8 (rd s1 0) 248) (bits .and .u8 lo 7)))) from below_set BC.out hgc0)
  clear hp hgc0 hgc
  go_upto_region 11 with (fail)
  obtain ⟨v0, hv0⟩ : ∃ v, v = bits .or .u8 (bits .and .u8 (rd s1 0) 248) (bits .and .u8 lo 7) := ⟨_, rfl⟩
  rw [← hv0] at HP BS0 ⊢
  generalize w7.setCell ⟨gc, 0, none⟩ (.int .u8 v0) = w8 at HP BS0 ⊢
  have HV0 := Aside0.mk hv0
  clear x1 x2 hv0 RC BC I1 B1 CA6
  have hc := Kd.R_celln (0 : Int) HP.out (31 : Int) (by decide) (by decide)
  have hp := Kd.R_putg HP.out (31 : Int) (bits .or .u8 (bits .and .u8 (rd s1 31) 63) (bits .and .u8 hi 192))
  rw [show (31 : Int).toNat = 31 from rfl] at hc hp
  obtain ⟨x1, x2⟩ := hc
  have e31 : rd (s1.set (0 : Int).toNat v0) 31 = rd s1 31 := by
    unfold rd
    rw [getD_set _ _ _ _ (by rw [LS1.out]; decide), if_neg (by decide)]
  replace x1 : w8.cell? ⟨gc, 31, none⟩ = some (.int .u8 (rd s1 31)) := by rw [← e31]; exact x1
  have HP2 := Aside0.mk hp.1
  have BS1' := Aside0.mk (show Below w6.heap.size w6 (w8.setCell ⟨gc, 31, none⟩ (.int .u8 (bits .or .u8 (bits .and .u8 (rd s1 31) 63) (bits .and .u8 hi 192)))) from below_set BS0.out HGC.out.1)
  clear hp e31
  go_upto_region 12 with (fail)
  obtain ⟨v1, hv1⟩ : ∃ v, v = bits .or .u8 (bits .and .u8 (rd s1 31) 63) (bits .and .u8 hi 192) := ⟨_, rfl⟩
  rw [← hv1] at HP2 BS1' ⊢
  generalize w8.setCell ⟨gc, 31, none⟩ (.int .u8 v1) = w9 at HP2 BS1' ⊢
  have ET : (s1.set 0 v0).set 31 v1 = turnS s1 lo hi := by
    rw [HV0.out, hv1]; rfl
  rw [ET] at HP2
  clear x1 x2 hv1 ET HV0 HP BS0
  obtain ⟨t, ht⟩ : ∃ t, t = turnS s1 lo hi := ⟨_, rfl⟩
  have LT := Aside0.mk (show t.length = 32 by rw [ht]; unfold turnS; rw [List.length_set, List.length_set]; exact LS1.out)
  have BT := Aside0.mk (show ∀ x ∈ t, 0 ≤ x ∧ x < 256 by
    rw [ht]
    exact set_bytes (set_bytes BS1.out 0 _ (low_byte _ lo (getD_bytes BS1.out 0) HLO.out).2) 31 _ (high_byte _ hi (getD_bytes BS1.out 31) HHI.out).2)
  have CT : curveF t sq = sy := by rw [ht, curve_turnS s1 sq lo hi LS1.out BS1.out HLO.out HHI.out]; exact Ex.out.symm
  rw [← ht] at HP2
  clear ht HLO HHI
  obtain ⟨hyl, hycs, hCy⟩ := Kd.R_reads' HP2.out
  have CC := Aside0.mk (show (Kd.int .u8).C w9 (some ⟨gc, 0, none⟩) 32 t by rw [← LT.out]; exact hCy)
  have CCc := Aside0.mk (show 32 ≤ cc from hycs)
  clear hyl hycs hCy HP2 HGC
  have Cq9 := Aside0.mk (And.intro (Kd.C_below Cq.out.1 BS1'.out) Cq.out.2)
  go_wp2_with fail
  refine (mulT (some ⟨gc, 0, none⟩) cc t aq dq sq w9 LT.out LSq.out BT.out BSq.out ⟨CC.out, CCc.out⟩ Cq9.out).mono ?_
  rintro e w10 ⟨az, dz, rfl, hR, hC, hB⟩
  rw [CT] at hR hC
  have GQ9 := Aside0.mk (Kd.R_lt (Kd.R_below Rq.out BS1'.out))
  have B610 := Aside0.mk (below_step BS1'.out hB)
  have RZ := Aside0.mk hR
  have CZ := Aside0.mk hC
  clear hR hC hB CT BT LT CC CCc Cq9 BS1'
  have Rq10 := Aside0.mk (Kd.R_below Rq.out B610.out)
  have Cx10 := Aside0.mk (And.intro (Kd.C_below Cx.out.1 B610.out) Cx.out.2)
  have BQ10 := Aside0.mk (BQ.out.trans (B610.out.mono BQ.out.size))
  clear Rq Cq Cx Cy Cp Rx Ry Rp C1 C2 BQ B610
  obtain ⟨rfl, rfl⟩ : aq = some ⟨gq, 0, none⟩ ∧ dq = cq := HQF.out
  have GZ := Aside0.mk (show ∀ ad, az = some ad → 0 < 32 → ad.block ≠ gq by
    obtain ⟨gz, cz, hz, hgz, _, _⟩ := Kd.R_form RZ.out (by rw [LSy.out]; decide)
    have h2 := GQ9.out gq rfl
    rw [LSy.out] at hz
    intro ad had _
    cases hz
    cases had
    show gz ≠ gq
    omega)
  clear RZ GQ9
  have hc := Kd.R_celln (0 : Int) Rq10.out (31 : Int) (by decide) (by decide)
  have hp := Kd.R_putg Rq10.out (31 : Int) (bits .xor .u8 (rd sq 31) 128)
  rw [show (31 : Int).toNat = 31 from rfl] at hc hp
  obtain ⟨x1, x2⟩ := hc
  replace x1 : w10.cell? ⟨gq, 31, none⟩ = some (.int .u8 (rd sq 31)) := x1
  have HP := Aside0.mk hp.1
  have BS := Aside0.mk (show Below w3.heap.size w3 (w10.setCell ⟨gq, 31, none⟩ (.int .u8 (bits .xor .u8 (rd sq 31) 128))) from below_set BQ10.out HGQ.out.1)
  have KX := Aside0.mk (Kd.C_keep (0 : Int) Cx10.out.1 (KeepBut.set_ (KeepBut.refl w10 gq none) 31 (.int .u8 (bits .xor .u8 (rd sq 31) 128))) HGX.out)
  have KZ := Aside0.mk (Kd.C_keep (0 : Int) CZ.out.1 (KeepBut.set_ (KeepBut.refl w10 gq none) 31 (.int .u8 (bits .xor .u8 (rd sq 31) 128))) GZ.out)
  clear hp Cx10 CZ BQ10 Rq10 GZ HGX
  go_upto_region 14 with (fail)
  obtain ⟨v2, hv2⟩ : ∃ v, v = bits .xor .u8 (rd sq 31) 128 := ⟨_, rfl⟩
  rw [← hv2] at HP BS KX KZ ⊢
  generalize w10.setCell ⟨gq, 31, none⟩ (.int .u8 v2) = w11 at HP BS KX KZ ⊢
  have ET : sq.set 31 v2 = turnP sq := by rw [hv2]; rfl
  rw [ET] at HP
  clear x1 x2 hv2 ET
  obtain ⟨t, ht⟩ : ∃ t, t = turnP sq := ⟨_, rfl⟩
  have LT := Aside0.mk (show t.length = 32 by rw [ht]; unfold turnP; rw [List.length_set]; exact LSq.out)
  have BT := Aside0.mk (show ∀ x ∈ t, 0 ≤ x ∧ x < 256 by
    rw [ht]
    exact set_bytes BSq.out 31 _ (top_byte _ (getD_bytes BSq.out 31)).2)
  have CT : curveF s1 t = sy := by rw [ht, curve_turnP s1 sq LSq.out BSq.out]; exact Ex.out.symm
  rw [← ht] at HP
  clear ht
  obtain ⟨hyl, hycs, hCy⟩ := Kd.R_reads' HP.out
  have CC := Aside0.mk (show (Kd.int .u8).C w11 (some ⟨gq, 0, none⟩) 32 t by rw [← LT.out]; exact hCy)
  have CCc := Aside0.mk (show 32 ≤ dq from hycs)
  have CA11 := Aside0.mk (And.intro (Kd.C_below CA.out.1 BS.out) CA.out.2)
  clear hyl hycs hCy HP
  go_wp2_with fail
  refine (mulT a1 d1 s1 (some ⟨gq, 0, none⟩) dq t w11 LS1.out LT.out BS1.out BT.out CA11.out ⟨CC.out, CCc.out⟩).mono ?_
  rintro e w12 ⟨aw, dw, rfl, _, hC, hB⟩
  rw [CT] at hC
  have BZ := Aside0.mk (below_step BW3.out (below_step BS.out hB))
  have qx : (convert 22 9 (.slice ax 32 dx)).run Try.prog w12 = .ok (.string str) w12 := by
    have h := Kd.C_string (P := Try.prog) (c := dx) Try.underlying22 Try.underlying5 Try.underlying9 (show (Kd.int .u8).C w12 ax sy.length sy by rw [LSy.out]; exact Kd.C_below KX.out hB)
    rw [LSy.out] at h
    rw [HSTR.out]
    exact h
  have qz : (convert 22 9 (.slice az 32 dz)).run Try.prog w12 = .ok (.string str) w12 := by
    have h := Kd.C_string (P := Try.prog) (c := dz) Try.underlying22 Try.underlying5 Try.underlying9 (show (Kd.int .u8).C w12 az sy.length sy by rw [LSy.out]; exact Kd.C_below KZ.out hB)
    rw [LSy.out] at h
    rw [HSTR.out]
    exact h
  have qw : (convert 22 9 (.slice aw 32 dw)).run Try.prog w12 = .ok (.string str) w12 := by
    have h := Kd.C_string (P := Try.prog) (c := dw) Try.underlying22 Try.underlying5 Try.underlying9 (show (Kd.int .u8).C w12 aw sy.length sy by rw [LSy.out]; exact hC.1)
    rw [LSy.out] at h
    rw [HSTR.out]
    exact h
  clear hC hB CT KX KZ CC CCc CA11 BS LT BT
  go_wp2_with fail
  refine (known5_calls w12).mono ?_
  rintro e u9 ⟨rfl, hB⟩
  have LZ := Aside0.mk (below_step BZ.out hB)
  clear hB
  go_wp2_with fail
  go_ret
  exact ⟨rfl, LZ.out⟩
end Go.Proofs.Ytlpoolcdoecodaa
