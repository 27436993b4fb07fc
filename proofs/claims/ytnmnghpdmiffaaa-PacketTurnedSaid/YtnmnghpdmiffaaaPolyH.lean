/-
  poly.tag, walked.
-/
import Derived.Test.YtnmnghpdmiffaaaPolyG
import Derived.OpenShut
namespace Go.Proofs.Ytnmnghpdmiffaaa.Pol
open Go.RowKit Go.Proofs.YtnmnghpdmiffaaaW.PrintWords Go.Proofs.YtnmnghpdmiffaaaW.PrintMore Go.Proofs.Ytnmnghpdmiffaaa.Arr
set_option maxRecDepth 100000

/-- A piece of at most sixteen bytes, a one behind it, noughts up to seventeen. -/
def lastF (b : List Int) : List Int := b.take (min b.length 16) ++ [1] ++ List.replicate (16 - min b.length 16) 0
theorem len_lastF (b : List Int) : (lastF b).length = 17 := by unfold lastF; simp; omega
def mF (l : List Int) : List Int := (splitF l).set 4 (Go.bits .or .u64 (rd (splitF l) 4) (IntKind.u64.wrap (rd l 16 % 18446744073709551616 * 16777216)))
theorem len_mF (l : List Int) : (mF l).length = 5 := rfl
def addN (h m : List Int) : Nat → List Int
  | 0 => h
  | i + 1 => (addN h m i).set i (IntKind.u64.wrap (rd (addN h m i) i + rd m i))
theorem len_addN (h m : List Int) : ∀ i, (addN h m i).length = h.length
  | 0 => rfl
  | i + 1 => by rw [addN, List.length_set, len_addN h m i]
def accN (r b : List Int) : Nat → List Int
  | 0 => [0, 0, 0, 0, 0]
  | j + 1 => timesF (addN (accN r b j) (mF (lastF (b.drop (16 * j)))) 5) r
theorem len_accN (r b : List Int) : ∀ j, (accN r b j).length = 5
  | 0 => rfl
  | _ + 1 => len_timesF _ _
/-- Eight bytes as a number. -/
def wordF (key : List Int) (k : Nat) : Int := Go.bits .or .u64 (leQ (key.drop k)) (IntKind.u64.wrap (leQ (key.drop (k + 4)) * 4294967296))
theorem bits64_range (op : BinOp) (x y : Int) : 0 ≤ Go.bits op .u64 x y ∧ Go.bits op .u64 x y < 18446744073709551616 := by
  have h := wf_bits op .u64 x y
  simp [Lit.wf] at h
  have e1 : IntKind.u64.min = 0 := rfl
  have e2 : IntKind.u64.max = 18446744073709551615 := rfl
  omega
/-- The two words of the sum. -/
def sumLo (key a : List Int) : Int := (loF (finF a) + wordF key 16) % 18446744073709551616
def sumHi (key a : List Int) : Int := (hiF (finF a) + wordF key 24 + (loF (finF a) + wordF key 16) / 18446744073709551616) % 18446744073709551616
/-- Words as bytes. -/
def byteK (n : Int) (k : Nat) : Int := n / 2 ^ (8 * k) % 256
def bytesN (n : Int) : Nat → List Int
  | 0 => []
  | k + 1 => bytesN n k ++ [byteK n k]
theorem len_bytesN (n : Int) : ∀ k, (bytesN n k).length = k
  | 0 => rfl
  | k + 1 => by rw [bytesN, List.length_append, len_bytesN n k]; rfl
def outW (l : List Int) : Nat → List Int
  | 0 => []
  | i + 1 => outW l i ++ bytesN (rd l i) 8
theorem len_outW (l : List Int) : ∀ i, (outW l i).length = 8 * i
  | 0 => rfl
  | i + 1 => by rw [outW, List.length_append, len_outW l i, len_bytesN]; omega
/-- The tag of bytes under a key of 32 bytes. -/
def tagF (key l : List Int) : List Int := outW [sumLo key (accN (clampF key) l ((l.length + 15) / 16)), sumHi key (accN (clampF key) l ((l.length + 15) / 16))] 2
theorem len_tagF (key l : List Int) : (tagF key l).length = 16 := len_outW _ 2
/-- The length of a slice. -/
def lenOf : Value → Nat
  | .slice _ n _ => n
  | _ => 0
theorem len_clampF (key : List Int) : (clampF key).length = 5 := rfl

set_option maxHeartbeats 2000000 in
set_option maxRecDepth 100000 in
theorem tag_calls (A B : Option Addr) (cA cB : Nat) (key l : List Int) (w : World) (hk : (Kd.int .u8).C w A key.length key) (hcA : key.length ≤ cA) (hlk : key.length = 32)
    (hn : (Kd.int .u8).C w B l.length l) (hcB : l.length ≤ cB) :
    Calls Try.prog 66 #[.slice A key.length cA, .slice B l.length cB] w fun e w' => ∃ v, e = .returned v ∧ (Kd.int .u8).R 5 w' w.heap.size (fun _ => True) v (tagF key l) ∧ Below w.heap.size w w' := by
  have CL := clamped_calls A cA key w hk hcA (by omega)
  have HCL := Aside0.mk CL
  have HK := Aside0.mk hk
  have HN := Aside0.mk hn
  have LK := Aside0.mk hlk
  have HCA := Aside0.mk hcA
  clear CL hk hn hlk hcA
  obtain ⟨r, hr⟩ : ∃ r, r = clampF key := ⟨_, rfl⟩
  have LR := Aside0.mk (show r.length = 5 by rw [hr]; rfl)
  rw [← hr] at HCL
  have ER := Aside0.mk hr
  clear hr
  go_enter Try.func66, Try.ntmps66
  go_wp2_with fail
  refine HCL.out.mono ?_
  rintro e w1 ⟨rfl, B1⟩
  have HI5 := Aside0.mk (show (Try.prog.info? 99).map (·.size) = some r.length by rw [LR.out]; exact info_a5)
  have HLL := Aside0.mk (show ([0, 0, 0, 0, 0] : List Int).length = r.length by rw [LR.out]; rfl)
  have N4 := Aside0.mk (show Is (w1.alloc (.cells #[.int .u64 0, .int .u64 0, .int .u64 0, .int .u64 0, .int .u64 0] 99)) w1.heap.size 99 .u64 [0, 0, 0, 0, 0] from new_is w1 99 .u64 [0, 0, 0, 0, 0])
  have HB1 := Aside0.mk B1
  clear B1 HCL
  go_upto_region 2 with (with_reducible refine storeL_is (b := w1.heap.size) (e := 99) (k := .u64) (xs := [0, 0, 0, 0, 0]) 99 (.tmp 5) (.tmp 21) rfl rfl rfl r rfl rfl N4.out HLL.out HI5.out ?_)
  have ir0 := put_heap (ys := r) N4.out
  have B2 := below_put (b := w1.heap.size) (k := .u64) (ys := r) (HB1.out.alloc HB1.out.size (.cells (nums .u64 [0, 0, 0, 0, 0]).toArray 99)) HB1.out.size
  have S2 : (put (w1.alloc (.cells (nums .u64 [0, 0, 0, 0, 0]).toArray 99)) w1.heap.size .u64 r).heap.size = w1.heap.size + 1 := by rw [put_size]; simp
  change Code.wp _ _ _ _ (put (w1.alloc (.cells (nums .u64 [0, 0, 0, 0, 0]).toArray 99)) w1.heap.size .u64 r)
  replace ir0 : Is (put (w1.alloc (.cells (nums .u64 [0, 0, 0, 0, 0]).toArray 99)) w1.heap.size .u64 r) w1.heap.size 99 .u64 r := ir0
  generalize put (w1.alloc (.cells (nums .u64 [0, 0, 0, 0, 0]).toArray 99)) w1.heap.size .u64 r = w2 at ir0 B2 S2 ⊢
  obtain ⟨bR, hbR⟩ : ∃ b, b = w1.heap.size := ⟨_, rfl⟩
  rw [← hbR] at ir0 S2 ⊢
  have HBR := Aside0.mk (show w.heap.size ≤ bR by rw [hbR]; exact HB1.out.size)
  have IR := Aside0.mk ir0
  have HB2 := Aside0.mk B2
  clear ir0 B2 HB1 HI5 HLL N4 hbR
  go_wp2_with fail
  change Code.wp _ _ _ _ (w2.alloc (.cells (nums .u64 [0, 0, 0, 0, 0]).toArray 99))
  have ih3 := new_is w2 99 .u64 [0, 0, 0, 0, 0]
  have B3 : Below w2.heap.size w2 (w2.alloc (.cells (nums .u64 [0, 0, 0, 0, 0]).toArray 99)) := (Below.refl _ _).alloc (Nat.le_refl _) _
  generalize w2.alloc (.cells (nums .u64 [0, 0, 0, 0, 0]).toArray 99) = w3 at ih3 B3 ⊢
  obtain ⟨bH, hbH⟩ : ∃ b, b = bR + 1 := ⟨_, rfl⟩
  rw [S2, ← hbH] at ih3
  rw [← hbH]
  have IR3 := Aside0.mk (IR.out.below B3)
  have IH3 := Aside0.mk ih3
  have B30 := Aside0.mk (HB2.out.trans (B3.mono (by rw [S2]; have := HBR.out; omega)))
  have hRH : bR ≠ bH := by omega
  have HBH := Aside0.mk (show w.heap.size ≤ bH by have := HBR.out; omega)
  clear ih3 B3 S2 hbH IR HB2
  obtain ⟨I0', hI0', hsz'⟩ : ∃ i, Try.prog.info? 5 = some i ∧ i.size = 1 := ⟨_, rfl, rfl⟩
  go_loopw [1] (fun v w' => ∃ (j : Nat) (A' : Option Addr) (c' : Nat) (y : List Int), Aside0 (y = l.drop (16 * j)) ∧ v = .slice A' y.length c' ∧ Aside0 (y.length ≤ c') ∧ Aside0 ((Kd.int .u8).C w A' y.length y) ∧ Aside0 (Into w3 w' bH .u64 (accN r l j)) ∧ Aside0 (16 * j < l.length + 16)) (fun v _ => lenOf v)
  case atStart => exact ⟨0, B, cB, l, ⟨by simp⟩, rfl, ⟨hcB⟩, HN, ⟨Into.refl IH3.out⟩, ⟨by omega⟩⟩
  case round =>
    obtain ⟨j, A', c', y, HY, rfl, HCY, HC, HI, HJ⟩ := hrel
    by_cases h0 : 0 < y.length
    · have c0 : (y.length : Int) > 0 := by omega
      obtain ⟨n, hn⟩ : ∃ n, n = min y.length 16 := ⟨_, rfl⟩
      have HNN := Aside0.mk hn
      have hmin : min (y.length : Int) 16 = (n : Int) := by omega
      clear hn
      go_upto_region 5 with (fail)
      rw [show (if (16 : Int) < (y.length : Int) then 16 else (y.length : Int)) = (n : Int) by split <;> omega]
      clear hmin
      obtain ⟨I0, hI0⟩ : ∃ i, Try.prog.info? 5 = some i := ⟨_, rfl⟩
      have hn16 : n ≤ 16 ∧ n ≤ y.length ∧ 0 < n := by have := HNN.out; omega
      have hcut := cut_to (P := Try.prog) 23 5 .i64 Try.underlying23 hI0 A' y.length c' (n : Int) (by omega) (by omega) HCY.out
      rw [Int.toNat_natCast] at hcut
      have hCt := Kd.C_take HC.out hn16.2.1
      obtain ⟨tk, htk⟩ : ∃ tk, tk = y.take n := ⟨_, rfl⟩
      have hlt : tk.length = n := by rw [htk, List.length_take]; omega
      rw [← htk, hlt] at hCt
      have HTK := Aside0.mk htk
      have LTK := Aside0.mk hlt
      have HCT := Aside0.mk hCt
      have HN16 := Aside0.mk hn16
      clear htk hlt hCt hI0 hn16
      have Z1 := Aside0.mk (lit_R wr wr.heap.size wr.heap.size 5 .u8 [] 0 rfl (Nat.le_refl _) rfl (by decide))
      have B1 := Aside0.mk (show Below wr.heap.size wr (wr.alloc (.cells #[] 5)) from (Below.refl _ _).alloc (Nat.le_refl _) _)
      have BW := Aside0.mk (Into.belowB B30.out HI.out HBH.out B30.out.size)
      have HCA := Aside0.mk (Kd.C_below HCT.out BW.out)
      have HL0 := Aside0.mk (show (0 + n) * 1 ≤ 140737488355328 by have := HN16.out; omega)
      go_upto_region 6 with ((with_reducible refine gate_builtin (b := .append) (xs := #[.tmp 28, .tmp 31]) rfl ?_); at_builtin; (refine Kd.R_append_row (w0 := wr) (Value.int .u8) (0 : Int) (h1 := fun _ => rfl) wr.heap.size rfl (.tmp 28) (.tmp 31) 23 5 (.int .u8 0) 1 rfl Try.underlying23 info_u8 rfl Nat.one_pos _ [] tk A' n c' (fun _ => True) rfl rfl (fun _ _ => trivial) ?q1 ?q2 ?q3 ?q4 ?q5 ?_; (case q1 => exact Z1.out); (case q2 => exact Kd.C_below HCA.out B1.out); (case q3 => exact B1.out); (case q4 => exact B1.out.size); (case q5 => exact HL0.out); intro v8 w8 hR hB8 _ _; have HR8 := Aside0.mk (show (Kd.int .u8).R 5 w8 wr.heap.size (fun _ => True) v8 tk from hR); have HB8 := Aside0.mk hB8; clear hR hB8))
      obtain ⟨A8, c8, hv⟩ := Kd.R_slice HR8.out
      subst hv
      rw [LTK.out] at HR8 ⊢
      have HL1 := Aside0.mk (show (tk.length + 1) * 1 ≤ 140737488355328 by have := HN16.out; have := LTK.out; omega)
      have S8 := Aside0.mk HB8.out.size
      go_upto_region 7 with ((with_reducible refine gate_builtin (b := .append) (xs := #[.tmp 33, .tmp 34]) rfl ?_); at_builtin; (refine lit_append wr.heap.size rfl (.tmp 33) (.tmp 34) 23 5 .u8 1 rfl Try.underlying23 info_u8 Nat.one_pos _ tk [1] 1 ?q1 rfl ?q3 ?q4 ?q5 ?q6 ?_; (case q1 => rfl); (case q3 => rfl); (case q4 => exact HR8.out); (case q5 => exact S8.out); (case q6 => exact HL1.out); intro v9 w9 hR hB9; have HR9 := Aside0.mk hR; have HB9 := Aside0.mk (HB8.out.trans hB9); clear hR hB9))
      have LT9 := Aside0.mk (show (tk ++ [1]).length = n + 1 by rw [List.length_append, LTK.out]; rfl)
      obtain ⟨A9, c9, hv⟩ := Kd.R_slice HR9.out
      subst hv
      rw [LT9.out] at HR9 ⊢
      have hz17 : (0 : Int) ≤ 17 - ((n : Int) + 1) := by have := HN16.out; omega
      have HZ := Aside0.mk hz17
      have HL2 := Aside0.mk (show ((tk ++ [1]).length + (17 - ((n : Int) + 1)).toNat) * 1 ≤ 140737488355328 by have := HN16.out; have := LT9.out; omega)
      have S9 := Aside0.mk HB9.out.size
      clear hz17 HR8 HB8 S8
      have hn17 : n + 1 ≤ 17 := by have := HN16.out; omega
      go_upto_region 8 with ((with_reducible refine gate_builtin (b := .append) (xs := #[.tmp 36, .tmp 39]) rfl ?_); at_builtin; (refine Kd.R_append_zeros (k := .i64) (kx := .i64) (Kd.int .u8) (w0 := wr) wr.heap.size rfl (.tmp 36) (.tmp 39) 23 3 5 (.int .u8 0) 1 rfl Try.underlying23 Try.underlying3 info_u8 rfl Nat.one_pos Nat.one_pos _ (tk ++ [1]) (0 : Int) (17 - ((n : Int) + 1)) (fun _ => True) rfl ?q0 ?q1 (fun _ _ => trivial) ?q2 HZ.out ?q4 ?q5 ?q6 ?_; (case q0 => rfl); (case q1 => exact rfl); (case q2 => exact HR9.out); (case q4 => exact HB9.out); (case q5 => exact S9.out); (case q6 => exact HL2.out); intro v10 w10 hR hB _ _; have HR10 := Aside0.mk hR; have HB10 := Aside0.mk hB; clear hR hB))
      have hlast : tk ++ [1] ++ List.replicate (17 - ((n : Int) + 1)).toNat (0 : Int) = lastF y := by
        unfold lastF
        rw [← HNN.out, ← HTK.out]
        congr 2
        have := HN16.out
        omega
      rw [hlast] at HR10
      clear hlast
      have LL := Aside0.mk (len_lastF y)
      obtain ⟨la, hla⟩ : ∃ u, u = lastF y := ⟨_, rfl⟩
      rw [← hla] at HR10 LL
      have HLA := Aside0.mk hla
      clear hla HR9 HB9 S9
      obtain ⟨g, c10, hv, _⟩ := Kd.R_form HR10.out (by rw [LL.out]; decide)
      subst hv
      rw [LL.out] at HR10 ⊢
      have HC10 := Aside0.mk (Kd.R_reads' HR10.out).2.2
      have hc10 := (Kd.R_reads' HR10.out).2.1
      have hcl : w10.cell? ⟨g, 16, none⟩ = some (.int .u8 (rd la 16)) := (Kd.R_celln (0 : Int) HR10.out 16 (by omega) (by omega)).1
      have CS := split_calls (some ⟨g, 0, none⟩) c10 la w10 HC10.out (by rw [LL.out]; exact hc10) (by rw [LL.out]; decide)
      rw [LL.out] at CS
      have HCS := Aside0.mk CS
      have HCL := Aside0.mk hcl
      clear CS hcl
      go_wp2_with fail
      refine HCS.out.mono ?_
      rintro e w11 ⟨rfl, hb11⟩
      have HB11 := Aside0.mk (HB10.out.trans (hb11.mono HB10.out.size))
      have HCL11 := Aside0.mk (show w11.cell? ⟨g, 16, none⟩ = some (.int .u8 (rd la 16)) from (Below.cell hb11 (World.block_lt_of_cell? w10 _ HCL.out)).trans HCL.out)
      clear hb11 HCS HCL HC10 HR10 HB10
      have HI5 := Aside0.mk (show (Try.prog.info? 99).map (·.size) = some (splitF la).length from info_a5)
      have HLL := Aside0.mk (show ([0, 0, 0, 0, 0] : List Int).length = (splitF la).length from rfl)
      have N4 := Aside0.mk (show Is (w11.alloc (.cells #[.int .u64 0, .int .u64 0, .int .u64 0, .int .u64 0, .int .u64 0] 99)) w11.heap.size 99 .u64 [0, 0, 0, 0, 0] from new_is w11 99 .u64 [0, 0, 0, 0, 0])
      go_upto_region 9 with (with_reducible refine storeL_is (b := w11.heap.size) (e := 99) (k := .u64) (xs := [0, 0, 0, 0, 0]) 99 (.tmp 9) (.tmp 42) rfl rfl rfl (splitF la) rfl rfl N4.out HLL.out HI5.out ?_)
      change Code.wp _ _ _ _ (put (w11.alloc (.cells (nums .u64 [0, 0, 0, 0, 0]).toArray 99)) w11.heap.size .u64 (splitF la))
      have im0 := put_heap (ys := splitF la) N4.out
      have B12 := below_put (b := w11.heap.size) (k := .u64) (ys := splitF la) (HB11.out.alloc HB11.out.size (.cells (nums .u64 [0, 0, 0, 0, 0]).toArray 99)) HB11.out.size
      have hcl : (put (w11.alloc (.cells (nums .u64 [0, 0, 0, 0, 0]).toArray 99)) w11.heap.size .u64 (splitF la)).cell? ⟨g, 16, none⟩ = some (.int .u8 (rd la 16)) :=
        (Below.cell (below_put (b := w11.heap.size) (k := .u64) (ys := splitF la) ((Below.refl _ _).alloc (Nat.le_refl _) (.cells (nums .u64 [0, 0, 0, 0, 0]).toArray 99)) (Nat.le_refl _)) (World.block_lt_of_cell? w11 _ HCL11.out)).trans HCL11.out
      replace im0 : Is (put (w11.alloc (.cells (nums .u64 [0, 0, 0, 0, 0]).toArray 99)) w11.heap.size .u64 (splitF la)) w11.heap.size 99 .u64 (splitF la) := im0
      generalize put (w11.alloc (.cells (nums .u64 [0, 0, 0, 0, 0]).toArray 99)) w11.heap.size .u64 (splitF la) = w12 at im0 B12 hcl ⊢
      have hMs : wr.heap.size ≤ w11.heap.size := HB11.out.size
      have hHs := (HI.out.is IH3.out).lt
      have hW3 := HI.out.size
      have hRs := (HI.out.other hRH IR3.out).lt
      obtain ⟨bM, hbM⟩ : ∃ b, b = w11.heap.size := ⟨_, rfl⟩
      rw [← hbM] at im0 hMs ⊢
      have nHM : bH ≠ bM := by omega
      have nRM : bR ≠ bM := by omega
      have I12 := Aside0.mk (HI.out.belowS B12)
      have ih12 := Aside0.mk ((HI.out.is IH3.out).below B12)
      have ir12 := Aside0.mk ((HI.out.other hRH IR3.out).below B12)
      have HM3 := Aside0.mk (show w3.heap.size ≤ bM by omega)
      clear hW3 hbM hMs hHs hRs N4 HB11 HCL11 HI5 HLL B12 HI BW HCA
      have G1 := im0.cell 4 (by rw [len_splitF]; omega)
      have F1 := im0.free 4
      go_still_tail 9, (by kernel_rfl)
      change wpList _ _ _ _ _ w12.drew
      go_upto_region 10 with (fail)
      rw [put_set im0]
      change Code.wp _ _ _ _ (put w12 bM .u64 (mF la)).drew
      have t13 := (To.refl im0).put_dr (zs := mF la)
      generalize (put w12 bM .u64 (mF la)).drew = w13 at t13 ⊢
      have im13 := t13.is im0
      have I13 := Aside0.mk (I12.out.own t13 HM3.out)
      have ih13 := Aside0.mk (t13.other nHM ih12.out)
      have ir13 := Aside0.mk (t13.other nRM ir12.out)
      have IM13 := Aside0.mk im13
      obtain ⟨a0, ha0⟩ : ∃ u, u = accN r l j := ⟨_, rfl⟩
      have LA0 := Aside0.mk (show a0.length = 5 by rw [ha0, len_accN])
      rw [← ha0] at ih13 I13
      have HA0 := Aside0.mk ha0
      obtain ⟨m0, hm0⟩ : ∃ u, u = mF la := ⟨_, rfl⟩
      have LM0 := Aside0.mk (show m0.length = 5 by rw [hm0, len_mF])
      rw [← hm0] at IM13
      have HM0 := Aside0.mk hm0
      clear ha0 hm0 t13 im13 im0 G1 F1 hcl ih12 ir12 I12
      go_wp2
      obtain ⟨wo, rfl⟩ : ∃ wo : World, wo = wr := ⟨_, rfl⟩
      go_loopw [52] (fun v w' => ∃ i : Nat, i ≤ 5 ∧ v = .int .i64 i ∧ Aside0 (To w13 w' bH .u64 (addN a0 m0 i))) (fun v _ => 5 - (intOf v).toNat)
      case atStart => exact ⟨0, by omega, rfl, ⟨To.refl ih13.out⟩⟩
      case round =>
        obtain ⟨i, hi, rfl, T0⟩ := hrel
        obtain ⟨xh0, q0⟩ : ∃ u, u = addN a0 m0 i := ⟨_, rfl⟩
        rw [← q0] at T0
        have Lh0 := Aside0.mk (show xh0.length = 5 by rw [q0, len_addN, LA0.out])
        have Q0 := Aside0.mk q0
        clear q0
        by_cases hi5 : i < 5
        · have hi0 : (i : Int) < 5 := by omega
          have jh := T0.out.is ih13.out
          have jm := T0.out.other nHM.symm IM13.out
          have H1 := jh.cell i (by rw [Lh0.out]; omega)
          have H2 := jm.cell i (by rw [LM0.out]; omega)
          have F1 := jh.free i
          clear jm
          go_wp2
          go_still_tail 8, (by kernel_rfl)
          change wpList _ _ _ _ _ wr.drew
          go_wp2_with fail
          rw [put_set jh]
          have e2 : addN a0 m0 (i + 1) = xh0.set i (IntKind.u64.wrap (rd xh0 i + rd m0 i)) := by rw [addN, ← Q0.out]
          have t1 := T0.out.put_dr (zs := xh0.set i (IntKind.u64.wrap (rd xh0 i + rd m0 i)))
          rw [← e2] at t1
          refine ⟨⟨i + 1, by omega, by go_num, ⟨?_⟩⟩, by simp [intOf]; omega⟩
          rw [e2] at t1 ⊢; exact t1
        · obtain rfl : i = 5 := by omega
          rw [show ((5 : Nat) : Int) = 5 from rfl]
          clear hi5
          have jh := Aside0.mk (T0.out.is ih13.out)
          have jr := Aside0.mk (T0.out.other hRH ir13.out)
          have J13 := Aside0.mk (I13.out.to T0.out)
          have HI5 := Aside0.mk (show (Try.prog.info? 99).map (·.size) = some r.length by rw [LR.out]; exact info_a5)
          clear IM13 ih13 ir13 I13 T0
          go_wp2_with (with_reducible refine loadL_is (b := bR) (e := 99) (k := .u64) (xs := r) 99 28 5 (.tmp 5) rfl rfl rfl jr.out Try.underlying99 HI5.out ?_)
          refine (times_calls 99 xh0 r bH _ jh.out Lh0.out LR.out).mono ?_
          rintro e wt ⟨rfl, it⟩
          have IT := Aside0.mk (J13.out.trans it)
          clear it J13 jr jh
          obtain ⟨A2, y2, c2, hy2, hyc2, hcut2, hyr2⟩ := cut_ex 23 5 .i64 Try.underlying23 hI0' hsz' A' y c' (n : Int) (by omega) (by have := HN16.out; omega) HCY.out
          go_wp2_with fail
          have HJ1 := HJ.out
          have HY1 := HY.out
          have HNN1 := HNN.out
          have hyl : y.length = l.length - 16 * j := by rw [HY1, List.length_drop]
          have y2l : y2.length = y.length - n := by rw [hy2, List.length_drop]; rfl
          rw [← y2l]
          refine ⟨⟨j + 1, A2, c2, y2, ⟨?_⟩, rfl, ⟨hyc2⟩, ⟨hyr2 w .u8 HC.out⟩, ⟨?_⟩, ⟨by omega⟩⟩, ?_⟩
          · rw [hy2, Int.toNat_natCast, HY1, List.drop_drop]
            rcases Nat.lt_or_ge y.length 16 with h | h
            · rw [List.drop_eq_nil_of_le (by omega), List.drop_eq_nil_of_le (by omega)]
            · congr 1; omega
          · rw [show accN r l (j + 1) = timesF xh0 r by rw [accN, Q0.out, HA0.out, HM0.out, HLA.out, HY.out]]
            exact IT.out
          · show y2.length < y.length
            omega
    · have hj : j = (l.length + 15) / 16 := by
        have hyl : y.length = l.length - 16 * j := by rw [HY.out, List.length_drop]
        have := HJ.out
        omega
      have HJJ := Aside0.mk (show accN r l j = accN (clampF key) l ((l.length + 15) / 16) by rw [← hj, ← ER.out])
      have c0 : ¬ (y.length : Int) > 0 := by omega
      obtain ⟨a9, ha9⟩ : ∃ u, u = accN r l j := ⟨_, rfl⟩
      rw [← ha9] at HI HJJ
      have LA9 := Aside0.mk (show a9.length = 5 by rw [ha9, len_accN])
      clear ha9 hj h0
      have HI5 := Aside0.mk (show (Try.prog.info? 99).map (·.size) = some a9.length by rw [LA9.out]; exact info_a5)
      have IH9 := Aside0.mk (HI.out.is IH3.out)
      have B9 := Aside0.mk (Into.belowB B30.out HI.out HBH.out B30.out.size)
      clear IR3 IH3 HI HC HY HJ HCY
      go_wp2_with (with_reducible refine loadL_is (b := bH) (e := 99) (k := .u64) (xs := a9) 99 28 5 (.tmp 6) rfl rfl rfl IH9.out Try.underlying99 HI5.out ?_)
      refine (reduced_calls a9 _ LA9.out).mono ?_
      rintro e w20 ⟨rfl, hb20⟩
      have B20 := Aside0.mk (B9.out.trans (hb20.mono B9.out.size))
      clear hb20 IH9 HI5
      go_wp2_with fail
      obtain ⟨lo, hlo⟩ : ∃ u, u = loF (finF a9) := ⟨_, rfl⟩
      obtain ⟨hi, hhi⟩ : ∃ u, u = hiF (finF a9) := ⟨_, rfl⟩
      rw [← hlo, ← hhi]
      have lo0 := Aside0.mk (show 0 ≤ lo by rw [hlo]; exact (bits64_range _ _ _).1)
      have hi0 := Aside0.mk (show 0 ≤ hi by rw [hhi]; exact (bits64_range _ _ _).1)
      have HLO := Aside0.mk hlo
      have HHI := Aside0.mk hhi
      clear hlo hhi
      obtain ⟨A16, y16, c16, hy16, hyc16, hcut16, hyr16⟩ := cut_ex 23 5 .i64 Try.underlying23 hI0' hsz' A key cA (16 : Int) (by omega) (by rw [LK.out]; decide) HCA.out
      have LY16 := Aside0.mk (show 4 ≤ y16.length by rw [hy16, List.length_drop, LK.out]; decide)
      have HY16 := Aside0.mk (show y16 = key.drop 16 from hy16)
      have HC16 := Aside0.mk (Kd.C_below (hyr16 w .u8 HK.out) B20.out)
      clear hy16 hyc16 hyr16
      obtain ⟨A20, y20, c20, hy20, hyc20, hcut20, hyr20⟩ := cut_ex 23 5 .i64 Try.underlying23 hI0' hsz' A key cA (20 : Int) (by omega) (by rw [LK.out]; decide) HCA.out
      have LY20 := Aside0.mk (show 4 ≤ y20.length by rw [hy20, List.length_drop, LK.out]; decide)
      have HY20 := Aside0.mk (show y20 = key.drop 20 from hy20)
      have HC20 := Aside0.mk (Kd.C_below (hyr20 w .u8 HK.out) B20.out)
      clear hy20 hyc20 hyr20
      obtain ⟨A24, y24, c24, hy24, hyc24, hcut24, hyr24⟩ := cut_ex 23 5 .i64 Try.underlying23 hI0' hsz' A key cA (24 : Int) (by omega) (by rw [LK.out]; decide) HCA.out
      have LY24 := Aside0.mk (show 4 ≤ y24.length by rw [hy24, List.length_drop, LK.out]; decide)
      have HY24 := Aside0.mk (show y24 = key.drop 24 from hy24)
      have HC24 := Aside0.mk (Kd.C_below (hyr24 w .u8 HK.out) B20.out)
      clear hy24 hyc24 hyr24
      obtain ⟨A28, y28, c28, hy28, hyc28, hcut28, hyr28⟩ := cut_ex 23 5 .i64 Try.underlying23 hI0' hsz' A key cA (28 : Int) (by omega) (by rw [LK.out]; decide) HCA.out
      have LY28 := Aside0.mk (show 4 ≤ y28.length by rw [hy28, List.length_drop, LK.out]; decide)
      have HY28 := Aside0.mk (show y28 = key.drop 28 from hy28)
      have HC28 := Aside0.mk (Kd.C_below (hyr28 w .u8 HK.out) B20.out)
      clear hy28 hyc28 hyr28
      go_upto_region 18 with (fail)
      go_quiet ((go_at_call 75; first | (with_reducible exact Calls.quiet_of (le_calls A16 c16 y16 _ (Kd.C_drewN HC16.out _) LY16.out)) | (with_reducible exact Calls.quiet_of (le_calls A20 c20 y20 _ (Kd.C_drewN HC20.out _) LY20.out))))
      rename_i nq
      have B21 := Aside0.mk (pw_below_drewN B20.out nq)
      have HC24' := Aside0.mk (Kd.C_drewN HC24.out nq)
      have HC28' := Aside0.mk (Kd.C_drewN HC28.out nq)
      generalize w20.drewN nq = w21 at B21 HC24' HC28' ⊢
      go_upto_region 19 with (fail)
      go_quiet ((go_at_call 75; first | (with_reducible exact Calls.quiet_of (le_calls A24 c24 y24 _ (Kd.C_drewN HC24'.out _) LY24.out)) | (with_reducible exact Calls.quiet_of (le_calls A28 c28 y28 _ (Kd.C_drewN HC28'.out _) LY28.out))))
      rename_i nq
      have B22 := Aside0.mk (pw_below_drewN B21.out nq)
      generalize w21.drewN nq = w22 at B22 ⊢
      clear B20 B21 HC16 HC20 HC24 HC28 HC24' HC28' hcut16 hcut20 hcut24 hcut28
      obtain ⟨x, hx⟩ : ∃ u, u = wordF key 16 := ⟨_, rfl⟩
      obtain ⟨z, hz⟩ : ∃ u, u = wordF key 24 := ⟨_, rfl⟩
      have HX := Aside0.mk (show Go.bits .or .u64 (leQ y16) (IntKind.u64.wrap (leQ y20 * 4294967296)) = x by rw [hx, wordF, HY16.out, HY20.out])
      have HZ := Aside0.mk (show Go.bits .or .u64 (leQ y24) (IntKind.u64.wrap (leQ y28 * 4294967296)) = z by rw [hz, wordF, HY24.out, HY28.out])
      have x0 := Aside0.mk (show 0 ≤ x by rw [hx]; exact (bits64_range _ _ _).1)
      have z0 := Aside0.mk (show 0 ≤ z by rw [hz]; exact (bits64_range _ _ _).1)
      have XE := Aside0.mk hx
      have ZE := Aside0.mk hz
      clear hx hz
      go_upto_region 20 with (fail)
      rw [HX.out, HZ.out]
      have A1 := add64_run lo x 0 lo0.out x0.out (by decide) (by decide)
      obtain ⟨lo1, hlo1⟩ : ∃ u, u = (lo + x + 0) % 18446744073709551616 := ⟨_, rfl⟩
      obtain ⟨cy, hcy⟩ : ∃ u, u = (lo + x + 0) / 18446744073709551616 := ⟨_, rfl⟩
      have lob := (show lo < 18446744073709551616 by rw [HLO.out]; exact (bits64_range _ _ _).2)
      have xb := (show x < 18446744073709551616 by rw [XE.out]; exact (bits64_range _ _ _).2)
      have cy0 : 0 ≤ cy ∧ cy ≤ 1 := by have := lo0.out; have := x0.out; omega
      have A2 := add64_run hi z cy hi0.out z0.out cy0.1 cy0.2
      obtain ⟨hi1, hhi1⟩ : ∃ u, u = (hi + z + cy) % 18446744073709551616 := ⟨_, rfl⟩
      obtain ⟨cz, hcz⟩ : ∃ u, u = (hi + z + cy) / 18446744073709551616 := ⟨_, rfl⟩
      rw [← hlo1, ← hcy] at A1
      rw [← hhi1, ← hcz] at A2
      have LO1 := Aside0.mk (show lo1 = sumLo key a9 by rw [hlo1, sumLo, HLO.out, XE.out, Int.add_zero])
      have HI1 := Aside0.mk (show hi1 = sumHi key a9 by rw [hhi1, hcy, sumHi, HLO.out, XE.out, HHI.out, ZE.out, Int.add_zero])
      clear hlo1 hcy hhi1 hcz lob xb cy0
      go_upto_region 23 with (fail)
      clear A1 A2
      have HBW := Aside0.mk B22.out.size
      obtain ⟨bW, hbW⟩ : ∃ b, b = w22.heap.size := ⟨_, rfl⟩
      go_wp2_with fail
      change Code.wp _ _ _ _ (w22.alloc (.cells (nums .u64 [lo1, hi1]).toArray 28))
      have iL := new_is w22 28 .u64 [lo1, hi1]
      have BL : Below w22.heap.size w22 (w22.alloc (.cells (nums .u64 [lo1, hi1]).toArray 28)) := (Below.refl _ _).alloc (Nat.le_refl _) _
      have SL : (w22.alloc (.cells (nums .u64 [lo1, hi1]).toArray 28)).heap.size = w22.heap.size + 1 := by simp
      generalize w22.alloc (.cells (nums .u64 [lo1, hi1]).toArray 28) = w23 at iL BL SL ⊢
      rw [← hbW] at iL BL SL ⊢
      have B23 := Aside0.mk (B22.out.trans (BL.mono (by rw [hbW]; exact HBW.out)))
      have IL := Aside0.mk iL
      have HWL := Aside0.mk (show w.heap.size ≤ bW ∧ bW < w23.heap.size by rw [SL, hbW]; exact ⟨HBW.out, by omega⟩)
      have R0 := Aside0.mk (Kd.R_nil (Kd.int .u8) 5 w23 (bW + 1) (fun _ => True))
      clear iL BL SL hbW HBW B22
      go_loopw [107, 16] (fun v u w' => ∃ i : Nat, i ≤ 2 ∧ v = .int .i64 i ∧ Aside0 ((Kd.int .u8).R 5 w' (bW + 1) (fun _ => True) u (outW [lo1, hi1] i)) ∧ Aside0 (Below (bW + 1) w23 w')) (fun v _ _ => 2 - (intOf v).toNat)
      case atStart => exact ⟨0, by omega, rfl, R0, ⟨Below.refl _ _⟩⟩
      case round =>
        clear R0
        obtain ⟨i, hi2, rfl, HR, HB⟩ := hrel
        by_cases h2 : i < 2
        · have hi20 : (i : Int) < 2 := by omega
          have iL := Is.belowB IL.out HB.out (Nat.lt_succ_self _)
          have H1 := iL.cell i (by simp; omega)
          obtain ⟨nn, hnn⟩ : ∃ u, u = rd [lo1, hi1] (i : Int) := ⟨_, rfl⟩
          rw [← hnn] at H1
          have HNw := Aside0.mk hnn
          clear hnn iL
          go_wp2_with fail
          obtain ⟨wo, rfl⟩ : ∃ wo : World, wo = wr := ⟨_, rfl⟩
          go_loopw [111, 16] (fun v u w' => ∃ k : Nat, k ≤ 8 ∧ v = .int .i64 k ∧ Aside0 ((Kd.int .u8).R 5 w' (bW + 1) (fun _ => True) u (outW [lo1, hi1] i ++ bytesN nn k)) ∧ Aside0 (Below (bW + 1) w23 w')) (fun v _ _ => 8 - (intOf v).toNat)
          case atStart => exact ⟨0, by omega, rfl, ⟨by rw [bytesN, List.append_nil]; exact HR.out⟩, HB⟩
          case round =>
            clear HR HB H1
            obtain ⟨k, hk8, rfl, HR, HB⟩ := hrel
            by_cases h8 : k < 8
            · have k0 : (k : Int) < 8 := by omega
              have kk : (0 : Int) ≤ 8 * (k : Int) := by omega
              have LO := Aside0.mk (show ((outW [lo1, hi1] i ++ bytesN nn k).length + 1) * 1 ≤ 140737488355328 by rw [List.length_append, len_outW, len_bytesN]; omega)
              have SB := Aside0.mk (Nat.le_trans (show bW + 1 ≤ w23.heap.size from HWL.out.2) HB.out.size)
              go_upto_region 30 with ((with_reducible refine gate_builtin (b := .append) (xs := #[.tmp 114, .tmp 120]) rfl ?_); at_builtin; refine lit_append (bW + 1) rfl (.tmp 114) (.tmp 120) 23 5 .u8 1 rfl Try.underlying23 info_u8 Nat.one_pos _ (outW [lo1, hi1] i ++ bytesN nn k) [nn / 2 ^ (8 * k) % 256] 1 ?q1 rfl ?q3 ?q4 ?q5 ?q6 ?_; (case q1 => rfl); (case q3 => rfl); (case q4 => exact HR.out); (case q5 => exact SB.out); (case q6 => exact LO.out); intro v1 w1' hR1 hB1)
              have HR1 := Aside0.mk hR1
              have HB1 := Aside0.mk (HB.out.trans hB1)
              clear hR1 hB1 HR HB
              go_wp2_with fail
              refine ⟨⟨k + 1, by omega, by go_num, ⟨?_⟩, HB1⟩, by simp [intOf]; omega⟩
              rw [bytesN, ← List.append_assoc]
              exact HR1.out
            · obtain rfl : k = 8 := by omega
              rw [show ((8 : Nat) : Int) = 8 from rfl]
              clear h8
              go_wp2_with fail
              refine ⟨⟨i + 1, by omega, by go_num, ⟨?_⟩, HB⟩, by simp [intOf]; omega⟩
              rw [outW, ← HNw.out]
              exact HR.out
        · obtain rfl : i = 2 := by omega
          rw [show ((2 : Nat) : Int) = 2 from rfl]
          clear h2
          go_wp2_with fail
          go_ret
          refine ⟨_, rfl, ?_, B23.out.trans (HB.out.mono (Nat.le_succ_of_le HWL.out.1))⟩
          have e : tagF key l = outW [lo1, hi1] 2 := by rw [tagF, ← HJJ.out, ← LO1.out, ← HI1.out]
          rw [e]
          exact Kd.R_lower HR.out (Nat.le_succ_of_le HWL.out.1)
end Go.Proofs.Ytnmnghpdmiffaaa.Pol
