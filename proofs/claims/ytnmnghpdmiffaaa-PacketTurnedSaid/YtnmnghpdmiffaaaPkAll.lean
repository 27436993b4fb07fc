/-
  Several parts of the proof, one behind the other: PkA, PkB, PkC, PkD, PkE, PkF. No statement of the program is proved here.
-/
import Derived.Test.YtnmnghpdmiffaaaAeadAll
import Derived.Test.YtnmnghpdmiffaaaWQPut
import Derived.Test.YtnmnghpdmiffaaaWTab
import Derived.Deep.Cut
import Derived.ScopeJumps
import Derived.Test.YtnmnghpdmiffaaaWZeros
/- Part PkA. -/
/-
  What of a memory is as it was, and what lies in it, where some blocks may change.
-/
namespace Go.Proofs.Ytnmnghpdmiffaaa.Pk
open Go.RowKit Go.Proofs.YtnmnghpdmiffaaaW.PrintWords Go.Proofs.YtnmnghpdmiffaaaW.PrintLast Go.Proofs.YtnmnghpdmiffaaaW.PrintMore Go.Proofs.Ytnmnghpdmiffaaa.Arr
set_option linter.unusedVariables false
set_option maxRecDepth 100000
/-- Blocks outside S are as they were. -/
structure GB (S : Nat → Prop) (w w' : World) : Prop where
  os : w'.os = w.os
  tape : w'.tape = w.tape
  output : w'.output = w.output
  size : w.heap.size ≤ w'.heap.size
  block : ∀ k, k < w.heap.size → ¬ S k → w'.heap[k]? = w.heap[k]?
variable {S S' : Nat → Prop} {w w' w1 : World}
theorem GB.refl (S : Nat → Prop) (w : World) : GB S w w := ⟨rfl, rfl, rfl, Nat.le_refl _, fun _ _ _ => rfl⟩
theorem GB.trans (h : GB S w w1) (h2 : GB S w1 w') : GB S w w' :=
  ⟨h2.os.trans h.os, h2.tape.trans h.tape, h2.output.trans h.output, Nat.le_trans h.size h2.size, fun k hk hs => (h2.block k (Nat.lt_of_lt_of_le hk h.size) hs).trans (h.block k hk hs)⟩
theorem GB.mono (h : GB S w w') (hs : ∀ k, k < w.heap.size → S k → S' k) : GB S' w w' :=
  ⟨h.os, h.tape, h.output, h.size, fun k hk hn => h.block k hk (fun hk' => hn (hs k hk hk'))⟩
theorem GB.of_below (h : Below w.heap.size w w') : GB S w w' := ⟨h.os, h.tape, h.output, h.size, fun k hk _ => h.block k hk⟩
theorem GB.below (h : GB S w w') {n : Nat} (hn : n ≤ w.heap.size) (hs : ∀ k, S k → n ≤ k) : Below n w w' :=
  ⟨h.os, h.tape, h.output, h.size, fun k hk => h.block k (Nat.lt_of_lt_of_le hk hn) (fun h' => by have := hs k h'; omega)⟩
theorem GB.of_grown {row : Option Nat} (h : w.grownBy w' row) (hs : ∀ k, row = some k → S k) : GB S w w' :=
  ⟨h.os, h.tape, h.output, h.size, fun k hk hn => h.block k hk (fun e => hn (hs k e.symm))⟩
theorem heap_set (w : World) (p : Addr) (u : Value) (k : Nat) (hk : k ≠ p.block) : (w.setCell p u).heap[k]? = w.heap[k]? := Below.heap_setCell w p u k hk
theorem GB.set (h : GB S w w1) {p : Addr} (hp : S p.block) (u : Value) : GB S w (w1.setCell p u) :=
  ⟨h.os, h.tape, h.output, by simpa [World.setCell] using h.size, fun k hk hn => (heap_set w1 p u k (fun e => hn (e ▸ hp))).trans (h.block k hk hn)⟩
theorem cell_of {w w' : World} {a : Addr} (h : w'.heap[a.block]? = w.heap[a.block]?) : w'.cell? a = w.cell? a := by
  unfold World.cell?
  rw [h]
/-- What is read, and lies apart. -/
structure CA (S : Nat → Prop) (w : World) (A : Option Addr) (n : Nat) (xs : List Int) : Prop where
  c : (Kd.int .u8).C w A n xs
  far : ∀ ad, A = some ad → 0 < n → ¬ S ad.block
theorem C_gb {A : Option Addr} {n : Nat} {xs : List Int} (h : (Kd.int .u8).C w A n xs) (hb : GB S w w') (hf : ∀ ad, A = some ad → 0 < n → ¬ S ad.block) : (Kd.int .u8).C w' A n xs := by
  obtain ⟨h1, h2, h3⟩ := Kd.reads_of_C (enc := Value.int .u8) (d := (0 : Int)) (h1 := fun _ => rfl) h
  refine Kd.C_of_reads (enc := Value.int .u8) (d := (0 : Int)) (h1 := fun _ => rfl) ⟨h1, h2, fun h0 => ?_⟩
  obtain ⟨ad, e, hc⟩ := h3 h0
  refine ⟨ad, e, fun j hj => ?_⟩
  have hc' := hc j hj
  rw [← hc']
  refine cell_of ?_
  have hlt : (ad.add j).block < w.heap.size := by
    unfold World.cell? at hc'
    rcases hq : w.heap[(ad.add j).block]? with _ | o
    · rw [hq] at hc'; cases hc'
    · exact (Array.getElem?_eq_some_iff.1 hq).1
  have hblk : (ad.add j).block = ad.block := by unfold Addr.add; split <;> rfl
  exact hb.block _ hlt (by rw [hblk]; exact hf ad e h0)
theorem CA.keep {A : Option Addr} {n : Nat} {xs : List Int} (h : CA S w A n xs) (hb : GB S w w') : CA S w' A n xs := ⟨C_gb h.c hb h.far, h.far⟩
theorem made_zero (n : Nat) : madeCells #[.int .u8 0] n = (nums .u8 (List.replicate n 0)).toArray := by
  apply Array.ext
  · simp [madeCells, nums]
  · intro i h1 h2
    simp [madeCells, nums, Nat.mod_one]
theorem C_of_is {w : World} {b : Nat} {xs : List Int} (h : Is w b 5 .u8 xs) (hl : xs.length ≤ 9223372036854775807) : (Kd.int .u8).C w (some ⟨b, 0, none⟩) xs.length xs := by
  refine Kd.C_of_reads (enc := Value.int .u8) (d := (0 : Int)) (h1 := fun _ => rfl) ⟨rfl, hl, fun _ => ⟨_, rfl, fun j hj => ?_⟩⟩
  rw [Go.Proofs.YtnmnghpdmiffaaaW.PrintWords.add_plain, h.cell j hj, rd_nat]
end Go.Proofs.Ytnmnghpdmiffaaa.Pk

/- Part PkB. -/
/-
  The packets' small functions, walked: four bytes of a number, a nonce, what stands beside.
-/
namespace Go.Proofs.Ytnmnghpdmiffaaa.Pk
open Go.RowKit Go.Proofs.YtnmnghpdmiffaaaW.PrintWords Go.Proofs.YtnmnghpdmiffaaaW.PrintLast Go.Proofs.YtnmnghpdmiffaaaW.PrintMore Go.Proofs.Ytnmnghpdmiffaaa.Arr
set_option linter.unusedVariables false
set_option maxHeartbeats 8000000
set_option maxRecDepth 100000
def be32 (n : Int) : List Int := [n / 16777216 % 256, n / 65536 % 256, n / 256 % 256, n % 256]
def nonceF (n : Int) : List Int := [0, 0, 0, 0] ++ be32 (n / 4294967296) ++ be32 (n % 4294967296)
theorem u32_calls (n : Int) (w : World) (hn : 0 ≤ n ∧ n < 4294967296) :
    Calls Try.prog 34 #[.int .u32 n] w fun e w' => ∃ g, e = .returned (.slice (some ⟨g, 0, none⟩) 4 4) ∧ w.heap.size ≤ g ∧ (Kd.int .u8).R 5 w' w.heap.size (fun _ => True) (.slice (some ⟨g, 0, none⟩) 4 4) (be32 n) ∧ Below w.heap.size w w' := by
  have HN := Aside0.mk hn
  clear hn
  go_enter Try.func34, Try.ntmps34
  go_wp2
  go_ret
  exact ⟨w.heap.size, rfl, Nat.le_refl _, lit_R w w.heap.size w.heap.size 5 .u8 (be32 n) 4 rfl (Nat.le_refl _) rfl (by decide), (Below.refl _ _).alloc (Nat.le_refl _) _⟩
theorem nonce_calls (n : Int) (w : World) (hn : 0 ≤ n ∧ n < 18446744073709551616) :
    Calls Try.prog 36 #[.int .u64 n] w fun e w' => ∃ v, e = .returned v ∧ (Kd.int .u8).R 5 w' w.heap.size (fun _ => True) v (nonceF n) ∧ Below w.heap.size w w' := by
  have e4 : madeCells #[.int .u8 0] 4 = (nums .u8 [0, 0, 0, 0]).toArray := by kernel_rfl
  have hmk : ∀ W : World, (Instr.makeSlice 23 (.int .i64 4) (.int .i64 4)).run Try.prog W = .ok (.slice (some ⟨W.heap.size, 0, none⟩) 4 4) (W.alloc (.cells (nums .u8 [0, 0, 0, 0]).toArray 5)) := fun W => by
    have h := run_make_row' (P := Try.prog) 23 5 (.int .u8 0) 1 Try.underlying23 Pol.info_u8 rfl .i64 .i64 4 (by decide) (by decide) W
    rw [e4] at h
    exact h
  have HMK := Aside0.mk hmk
  have hu : IntKind.u32.wrap (n / 4294967296) = n / 4294967296 := by
    have : IntKind.u32.wrap (n / 4294967296) = n / 4294967296 % 4294967296 := by simp [IntKind.wrap, IntKind.bits, IntKind.signed]
    omega
  have hv : IntKind.u32.wrap n = n % 4294967296 := by simp [IntKind.wrap, IntKind.bits, IntKind.signed]
  have U1 := Aside0.mk (fun W : World => u32_calls (n / 4294967296) W (by omega))
  have U2 := Aside0.mk (fun W : World => u32_calls (n % 4294967296) W (by omega))
  have HN := Aside0.mk hn
  clear hmk e4 hn
  go_enter Try.func36, Try.ntmps36
  go_upto_region 1 with (fail)
  refine start_ (n := 11) (S := fun w' => Below w.heap.size w w') (ds := []) #[false, false, false, false, false, false, false, false, false, false, false] (by kernel_rfl) rfl rfl ((below_drew1 (Below.refl _ _))) (fun hHeld => ?_)
  refine pure_ (i := 1) (N := some 4) (v := ?_) (a' := ?_) #[false, true, false, false, false, false, false, false, false, false, false] rfl rfl (by kernel_rfl) (fun _ _ _ h => h) (Or.inl ⟨by rfl, ?_⟩) ?_ ?_
  rotate_left
  · intro w'
    go_simp
    with_reducible rfl
  rotate_left
  · simp only [Act.put, List.setIfInBounds_toArray, List.set_cons_zero, List.set_cons_succ]
    rfl
  refine pure_ (i := 2) (N := some 5) (v := ?_) (a' := ?_) #[false, true, true, false, false, false, false, false, false, false, false] rfl rfl (by kernel_rfl) (fun _ _ _ h => h) (Or.inl ⟨by rfl, ?_⟩) ?_ ?_
  rotate_left
  · intro w'
    go_simp
    with_reducible rfl
  rotate_left
  · simp only [Act.put, List.setIfInBounds_toArray, List.set_cons_zero, List.set_cons_succ]
    rfl
  refine pure_ (i := 3) (N := some 6) (v := ?_) (a' := ?_) #[false, true, true, true, false, false, false, false, false, false, false] rfl rfl (by kernel_rfl) (fun _ _ _ h => h) (Or.inl ⟨by rfl, ?_⟩) ?_ ?_
  rotate_left
  · intro w'
    go_simp
    with_reducible rfl
  rotate_left
  · simp only [Act.put, List.setIfInBounds_toArray, List.set_cons_zero, List.set_cons_succ]
    rfl
  refine pure_ (i := 5) (N := some 8) (v := ?_) (a' := ?_) #[false, true, true, true, false, true, false, false, false, false, false] rfl rfl (by kernel_rfl) (fun _ _ _ h => h) (Or.inl ⟨by rfl, ?_⟩) ?_ ?_
  rotate_left
  · intro w'
    go_simp
    with_reducible rfl
  rotate_left
  · simp only [Act.put, List.setIfInBounds_toArray, List.set_cons_zero, List.set_cons_succ]
    rfl
  refine pure_ (i := 6) (N := some 9) (v := ?_) (a' := ?_) #[false, true, true, true, false, true, true, false, false, false, false] rfl rfl (by kernel_rfl) (fun _ _ _ h => h) (Or.inl ⟨by rfl, ?_⟩) ?_ ?_
  rotate_left
  · intro w'
    go_simp
    with_reducible rfl
  rotate_left
  · simp only [Act.put, List.setIfInBounds_toArray, List.set_cons_zero, List.set_cons_succ]
    rfl
  refine join_ (σ := Nat × Nat × Nat) 3 #[true, true, true, true, true, true, true, true, false, false, false] (fun s_ => [(3, .slice (some ⟨s_.1, 0, none⟩) 4 4), (7, .slice (some ⟨s_.2.1, 0, none⟩) 4 4), (10, .slice (some ⟨s_.2.2, 0, none⟩) 4 4)]) (fun s_ w' => Below w.heap.size w w' ∧ (Kd.int .u8).C w' (some ⟨s_.1, 0, none⟩) 4 [0, 0, 0, 0] ∧ (Kd.int .u8).C w' (some ⟨s_.2.1, 0, none⟩) 4 (be32 (n / 4294967296)) ∧ (Kd.int .u8).C w' (some ⟨s_.2.2, 0, none⟩) 4 (be32 (n % 4294967296))) ?_ ?_
  rotate_left
  · intro hJ0_4_7
    refine join_ (σ := Nat × Nat × Nat) 4 #[true, true, true, true, true, true, true, false, false, false, false] (fun s_ => [(3, .slice (some ⟨s_.1, 0, none⟩) 4 4), (7, .slice (some ⟨s_.2.1, 0, none⟩) 4 4)]) (fun s_ w' => Below w.heap.size w w' ∧ (Kd.int .u8).C w' (some ⟨s_.1, 0, none⟩) 4 [0, 0, 0, 0] ∧ (Kd.int .u8).C w' (some ⟨s_.2.1, 0, none⟩) 4 (be32 (n / 4294967296))) ?_ ?_
    rotate_left
    · intro hJ0_4
      refine join_ (σ := Nat × Nat × Nat) 4 #[false, true, true, true, true, true, true, true, false, false, false] (fun s_ => [(7, .slice (some ⟨s_.2.1, 0, none⟩) 4 4), (10, .slice (some ⟨s_.2.2, 0, none⟩) 4 4)]) (fun s_ w' => Below w.heap.size w w' ∧ (Kd.int .u8).C w' (some ⟨s_.2.1, 0, none⟩) 4 (be32 (n / 4294967296)) ∧ (Kd.int .u8).C w' (some ⟨s_.2.2, 0, none⟩) 4 (be32 (n % 4294967296))) ?_ ?_
      rotate_left
      · intro hJ4_7
        refine join_ (σ := Nat × Nat × Nat) 5 #[true, true, true, true, false, true, true, false, false, false, false] (fun s_ => [(3, .slice (some ⟨s_.1, 0, none⟩) 4 4)]) (fun s_ w' => Below w.heap.size w w' ∧ (Kd.int .u8).C w' (some ⟨s_.1, 0, none⟩) 4 [0, 0, 0, 0]) ?_ ?_
        rotate_left
        · intro hJ0
          refine join_ (σ := Nat × Nat × Nat) 5 #[false, true, true, true, true, true, true, false, false, false, false] (fun s_ => [(7, .slice (some ⟨s_.2.1, 0, none⟩) 4 4)]) (fun s_ w' => Below w.heap.size w w' ∧ (Kd.int .u8).C w' (some ⟨s_.2.1, 0, none⟩) 4 (be32 (n / 4294967296))) ?_ ?_
          rotate_left
          · intro hJ4
            refine two_ (i := 0) (j := 4) (Ni := some 3) (Nj := some 7) #[true, true, true, true, false, true, true, false, false, false, false] #[false, true, true, true, true, true, true, false, false, false, false] rfl rfl rfl rfl (by kernel_rfl) (by decide) (by decide) (fun K hK => ?_) (fun K hK => ?_)
            · skip
              have n_f0 : (Kd.int .u8).C (w.drew.alloc (.cells (nums .u8 [0, 0, 0, 0]).toArray 5)) (some ⟨w.drew.heap.size, 0, none⟩) 4 [0, 0, 0, 0] := C_of_is (new_is w.drew 5 .u8 [0, 0, 0, 0]) (by decide)
              have n_al : Below w.drew.heap.size w.drew (w.drew.alloc (.cells (nums .u8 [0, 0, 0, 0]).toArray 5)) := (Below.refl _ _).alloc (Nat.le_refl _) _
              have hmk_ := HMK.out
              refine value_ (w1 := ?_) (v := ?_) (by rfl) rfl ?_ ?_
              rotate_left 2
              · go_simp
                constructor
                · rfl
                · rfl
              clear hmk_
              refine hK.out _ _ ((below_step hHeld n_al)) (fun hHeld => ?_)
              clear hK K
              refine norm_ (a' := ?_) ?_ ?_
              rotate_left
              · show Act.put _ (some 3) _ = _
                simp only [Act.put, List.setIfInBounds_toArray, List.set_cons_zero, List.set_cons_succ]
                rfl
              exact norm_ (by first | (simp only [putAll, Act.put, List.setIfInBounds_toArray, List.set_cons_zero, List.set_cons_succ]; done) | (simp only [putAll, Act.put, List.setIfInBounds_toArray, List.set_cons_zero, List.set_cons_succ]; rfl)) (hJ0 (w.heap.size, 0, 0) _ ⟨hHeld, n_f0⟩)
            · skip
              refine goes_ Try.func34 (by kernel_rfl) rfl #[.int .u32 (n / 4294967296)] (by rfl) rfl rfl (by simp only [List.map_toArray, List.map_cons, List.map_nil]; rfl) ?_
              with_reducible refine (U1.out _).mono ?_
              rintro e wu ⟨gu, rfl, _, hR, n_al⟩
              refine ⟨_, rfl, ?_⟩
              have n_f4 := (Kd.R_reads' hR).2.2
              refine hK.out _ _ ((below_step hHeld n_al)) (fun hHeld => ?_)
              clear hK K
              refine norm_ (a' := ?_) ?_ ?_
              rotate_left
              · show Act.put _ (some 7) _ = _
                simp only [Act.put, List.setIfInBounds_toArray, List.set_cons_zero, List.set_cons_succ]
                rfl
              exact norm_ (by first | (simp only [putAll, Act.put, List.setIfInBounds_toArray, List.set_cons_zero, List.set_cons_succ]; done) | (simp only [putAll, Act.put, List.setIfInBounds_toArray, List.set_cons_zero, List.set_cons_succ]; rfl)) (hJ4 (0, gu, 0) _ ⟨hHeld, n_f4⟩)
          · skip
            rintro ⟨v0_, v4_, v7_⟩ wz ⟨hHeld, f4⟩
            refine norm_ (a' := ?_) ?_ ?_
            rotate_left
            · simp only [putAll, Act.put, List.setIfInBounds_toArray, List.set_cons_zero, List.set_cons_succ]
              rfl
            refine two_ (i := 0) (j := 7) (Ni := some 3) (Nj := some 10) #[true, true, true, true, true, true, true, false, false, false, false] #[false, true, true, true, true, true, true, true, false, false, false] rfl rfl rfl rfl (by kernel_rfl) (by decide) (by decide) (fun K hK => ?_) (fun K hK => ?_)
            · skip
              have n_f0 : (Kd.int .u8).C (wz.alloc (.cells (nums .u8 [0, 0, 0, 0]).toArray 5)) (some ⟨wz.heap.size, 0, none⟩) 4 [0, 0, 0, 0] := C_of_is (new_is wz 5 .u8 [0, 0, 0, 0]) (by decide)
              have n_al : Below wz.heap.size wz (wz.alloc (.cells (nums .u8 [0, 0, 0, 0]).toArray 5)) := (Below.refl _ _).alloc (Nat.le_refl _) _
              have hmk_ := HMK.out
              refine value_ (w1 := ?_) (v := ?_) (by rfl) rfl ?_ ?_
              rotate_left 2
              · go_simp
                constructor
                · rfl
                · rfl
              clear hmk_
              have n_f4 := Kd.C_below f4 n_al
              refine hK.out _ _ ((below_step hHeld n_al)) (fun hHeld => ?_)
              clear hK K
              refine norm_ (a' := ?_) ?_ ?_
              rotate_left
              · show Act.put _ (some 3) _ = _
                simp only [Act.put, List.setIfInBounds_toArray, List.set_cons_zero, List.set_cons_succ]
                rfl
              exact norm_ (by first | (simp only [putAll, Act.put, List.setIfInBounds_toArray, List.set_cons_zero, List.set_cons_succ]; done) | (simp only [putAll, Act.put, List.setIfInBounds_toArray, List.set_cons_zero, List.set_cons_succ]; rfl)) (hJ0_4 (wz.heap.size, v4_, 0) _ ⟨hHeld, n_f0, n_f4⟩)
            · skip
              refine goes_ Try.func34 (by kernel_rfl) rfl #[.int .u32 (n % 4294967296)] (by rfl) rfl rfl (by simp only [List.map_toArray, List.map_cons, List.map_nil]; rfl) ?_
              with_reducible refine (U2.out _).mono ?_
              rintro e wu ⟨gu, rfl, _, hR, n_al⟩
              refine ⟨_, rfl, ?_⟩
              have n_f7 := (Kd.R_reads' hR).2.2
              have n_f4 := Kd.C_below f4 n_al
              refine hK.out _ _ ((below_step hHeld n_al)) (fun hHeld => ?_)
              clear hK K
              refine norm_ (a' := ?_) ?_ ?_
              rotate_left
              · show Act.put _ (some 10) _ = _
                simp only [Act.put, List.setIfInBounds_toArray, List.set_cons_zero, List.set_cons_succ]
                rfl
              exact norm_ (by first | (simp only [putAll, Act.put, List.setIfInBounds_toArray, List.set_cons_zero, List.set_cons_succ]; done) | (simp only [putAll, Act.put, List.setIfInBounds_toArray, List.set_cons_zero, List.set_cons_succ]; rfl)) (hJ4_7 (0, v4_, gu) _ ⟨hHeld, n_f4, n_f7⟩)
        · skip
          rintro ⟨v0_, v4_, v7_⟩ wz ⟨hHeld, f0⟩
          refine norm_ (a' := ?_) ?_ ?_
          rotate_left
          · simp only [putAll, Act.put, List.setIfInBounds_toArray, List.set_cons_zero, List.set_cons_succ]
            rfl
          refine one_ (i := 4) (N := some 7) #[true, true, true, true, true, true, true, false, false, false, false] rfl rfl (by kernel_rfl) (by decide) (fun K hK => ?_)
          refine goes_ Try.func34 (by kernel_rfl) rfl #[.int .u32 (n / 4294967296)] (by rfl) rfl rfl (by simp only [List.map_toArray, List.map_cons, List.map_nil]; rfl) ?_
          with_reducible refine (U1.out _).mono ?_
          rintro e wu ⟨gu, rfl, _, hR, n_al⟩
          refine ⟨_, rfl, ?_⟩
          have n_f4 := (Kd.R_reads' hR).2.2
          have n_f0 := Kd.C_below f0 n_al
          refine hK.out _ _ ((below_step hHeld n_al)) (fun hHeld => ?_)
          clear hK K
          refine norm_ (a' := ?_) ?_ ?_
          rotate_left
          · show Act.put _ (some 7) _ = _
            simp only [Act.put, List.setIfInBounds_toArray, List.set_cons_zero, List.set_cons_succ]
            rfl
          exact norm_ (by first | (simp only [putAll, Act.put, List.setIfInBounds_toArray, List.set_cons_zero, List.set_cons_succ]; done) | (simp only [putAll, Act.put, List.setIfInBounds_toArray, List.set_cons_zero, List.set_cons_succ]; rfl)) (hJ0_4 (v0_, gu, 0) _ ⟨hHeld, n_f0, n_f4⟩)
      · skip
        rintro ⟨v0_, v4_, v7_⟩ wz ⟨hHeld, f4, f7⟩
        refine norm_ (a' := ?_) ?_ ?_
        rotate_left
        · simp only [putAll, Act.put, List.setIfInBounds_toArray, List.set_cons_zero, List.set_cons_succ]
          rfl
        refine one_ (i := 0) (N := some 3) #[true, true, true, true, true, true, true, true, false, false, false] rfl rfl (by kernel_rfl) (by decide) (fun K hK => ?_)
        have n_f0 : (Kd.int .u8).C (wz.alloc (.cells (nums .u8 [0, 0, 0, 0]).toArray 5)) (some ⟨wz.heap.size, 0, none⟩) 4 [0, 0, 0, 0] := C_of_is (new_is wz 5 .u8 [0, 0, 0, 0]) (by decide)
        have n_al : Below wz.heap.size wz (wz.alloc (.cells (nums .u8 [0, 0, 0, 0]).toArray 5)) := (Below.refl _ _).alloc (Nat.le_refl _) _
        have hmk_ := HMK.out
        refine value_ (w1 := ?_) (v := ?_) (by rfl) rfl ?_ ?_
        rotate_left 2
        · go_simp
          constructor
          · rfl
          · rfl
        clear hmk_
        have n_f4 := Kd.C_below f4 n_al
        have n_f7 := Kd.C_below f7 n_al
        refine hK.out _ _ ((below_step hHeld n_al)) (fun hHeld => ?_)
        clear hK K
        refine norm_ (a' := ?_) ?_ ?_
        rotate_left
        · show Act.put _ (some 3) _ = _
          simp only [Act.put, List.setIfInBounds_toArray, List.set_cons_zero, List.set_cons_succ]
          rfl
        exact norm_ (by first | (simp only [putAll, Act.put, List.setIfInBounds_toArray, List.set_cons_zero, List.set_cons_succ]; done) | (simp only [putAll, Act.put, List.setIfInBounds_toArray, List.set_cons_zero, List.set_cons_succ]; rfl)) (hJ0_4_7 (wz.heap.size, v4_, v7_) _ ⟨hHeld, n_f0, n_f4, n_f7⟩)
    · skip
      rintro ⟨v0_, v4_, v7_⟩ wz ⟨hHeld, f0, f4⟩
      refine norm_ (a' := ?_) ?_ ?_
      rotate_left
      · simp only [putAll, Act.put, List.setIfInBounds_toArray, List.set_cons_zero, List.set_cons_succ]
        rfl
      refine one_ (i := 7) (N := some 10) #[true, true, true, true, true, true, true, true, false, false, false] rfl rfl (by kernel_rfl) (by decide) (fun K hK => ?_)
      refine goes_ Try.func34 (by kernel_rfl) rfl #[.int .u32 (n % 4294967296)] (by rfl) rfl rfl (by simp only [List.map_toArray, List.map_cons, List.map_nil]; rfl) ?_
      with_reducible refine (U2.out _).mono ?_
      rintro e wu ⟨gu, rfl, _, hR, n_al⟩
      refine ⟨_, rfl, ?_⟩
      have n_f7 := (Kd.R_reads' hR).2.2
      have n_f0 := Kd.C_below f0 n_al
      have n_f4 := Kd.C_below f4 n_al
      refine hK.out _ _ ((below_step hHeld n_al)) (fun hHeld => ?_)
      clear hK K
      refine norm_ (a' := ?_) ?_ ?_
      rotate_left
      · show Act.put _ (some 10) _ = _
        simp only [Act.put, List.setIfInBounds_toArray, List.set_cons_zero, List.set_cons_succ]
        rfl
      exact norm_ (by first | (simp only [putAll, Act.put, List.setIfInBounds_toArray, List.set_cons_zero, List.set_cons_succ]; done) | (simp only [putAll, Act.put, List.setIfInBounds_toArray, List.set_cons_zero, List.set_cons_succ]; rfl)) (hJ0_4_7 (v0_, v4_, gu) _ ⟨hHeld, n_f0, n_f4, n_f7⟩)
  rintro ⟨v0_, v4_, v7_⟩ wz ⟨hHeld, f0, f4, f7⟩
  refine norm_ (a' := ?_) ?_ ?_
  rotate_left
  · simp only [putAll, Act.put, List.setIfInBounds_toArray, List.set_cons_zero, List.set_cons_succ]
    rfl
  refine one_ (i := 8) (N := some 11) #[true, true, true, true, true, true, true, true, true, false, false] rfl rfl (by kernel_rfl) (by decide) (fun K hK => ?_)
  have F0 := Aside0.mk f0
  have F4 := Aside0.mk f4
  have F7 := Aside0.mk f7
  clear f0 f4 f7
  refine value_ (w1 := ?_) (v := ?_) (by rfl) rfl ?_ ?_
  rotate_left 2
  · go_simp
    constructor
    · rfl
    · rfl
  refine hK.out _ _ ((below_alloc hHeld _)) (fun hHeld => ?_)
  clear hK K
  refine norm_ (a' := ?_) ?_ ?_
  rotate_left
  · show Act.put _ (some 11) _ = _
    simp only [Act.put, List.setIfInBounds_toArray, List.set_cons_zero, List.set_cons_succ]
    rfl
  refine one_ (i := 9) (N := some 12) #[true, true, true, true, true, true, true, true, true, true, false] rfl rfl (by kernel_rfl) (by decide) (fun K hK => ?_)
  refine goes_ Try.func33 (by kernel_rfl) rfl #[.slice (some ⟨wz.heap.size, 0, none⟩) 3 3] (by rfl) rfl rfl (by simp only [List.map_toArray, List.map_cons, List.map_nil]; rfl) ?_
  with_reducible refine (concat3 wz.heap.size (some ⟨v0_, 0, none⟩) (some ⟨v4_, 0, none⟩) (some ⟨v7_, 0, none⟩) 4 4 4 [0, 0, 0, 0] (be32 (n / 4294967296)) (be32 (n % 4294967296)) _ (by rw [World.cell?_alloc_new]; simp) (by rw [World.cell?_alloc_new]; simp [be32]) (by rw [World.cell?_alloc_new]; simp [be32]) (Kd.C_alloc F0.out _) (Kd.C_alloc F4.out _) (Kd.C_alloc F7.out _) (by simp [be32])).mono ?_
  rintro e w9 ⟨v9, rfl, hR9, hB9⟩
  refine ⟨_, rfl, ?_⟩
  have R9 := Aside0.mk (Kd.R_lower hR9 hHeld.size)
  have n_b := below_step hHeld hB9
  have B9 := Aside0.mk n_b
  clear hR9 hB9
  refine hK.out _ _ (n_b) (fun hHeld => ?_)
  clear hK K
  refine norm_ (a' := ?_) ?_ ?_
  rotate_left
  · show Act.put _ (some 12) _ = _
    simp only [Act.put, List.setIfInBounds_toArray, List.set_cons_zero, List.set_cons_succ]
    rfl
  refine pure_ (i := 10) (N := some 2) (v := ?_) (a' := ?_) #[true, true, true, true, true, true, true, true, true, true, true] rfl rfl (by kernel_rfl) (fun _ _ _ h => h) (Or.inl ⟨by rfl, ?_⟩) ?_ ?_
  rotate_left
  · intro w'
    go_simp
    with_reducible rfl
  rotate_left
  · simp only [Act.put, List.setIfInBounds_toArray, List.set_cons_zero, List.set_cons_succ]
    rfl
  refine done_ (by kernel_rfl) ?_
  go_wp2_with fail
  go_ret
  exact ⟨_, rfl, R9.out, B9.out⟩
theorem beside_calls (A : Option Addr) (n c : Nat) (w : World) :
    Calls Try.prog 32 #[.slice A n c] w fun e w' => e = .returned (.int .i64 (if A.isNone then 4 else 0)) ∧ w' = w := by
  rcases A with _ | ad
  · have hq := fun w n c => bin_nil (P := Try.prog) Try.underlying23 none w n c
    go_enter Try.func32, Try.ntmps32
    go_wp2
    go_ret
    exact ⟨rfl, rfl⟩
  · have hq := fun w n c => bin_nil (P := Try.prog) Try.underlying23 (some ad) w n c
    go_enter Try.func32, Try.ntmps32
    go_wp2
    go_ret
    exact ⟨rfl, rfl⟩
end Go.Proofs.Ytnmnghpdmiffaaa.Pk

/- Part PkC. -/
/-
  packet.Out, walked: what it holds, Keys and Packet.
-/
namespace Go.Proofs.Ytnmnghpdmiffaaa.Pk
open Go.RowKit Go.Proofs.YtnmnghpdmiffaaaW.PrintWords Go.Proofs.YtnmnghpdmiffaaaW.PrintLast Go.Proofs.YtnmnghpdmiffaaaW.PrintMore Go.Proofs.Ytnmnghpdmiffaaa.Arr
set_option linter.unusedVariables false
set_option maxHeartbeats 8000000
set_option maxRecDepth 100000
theorem GB.then_below {S : Nat → Prop} {w w1 w' : World} {n : Nat} (h : GB S w w1) (h2 : Below n w1 w') (hn : w.heap.size ≤ n) : GB S w w' :=
  ⟨h2.os.trans h.os, h2.tape.trans h.tape, h2.output.trans h.output, Nat.le_trans h.size h2.size, fun k hk hs => (h2.block k (Nat.lt_of_lt_of_le hk hn)).trans (h.block k hk hs)⟩
theorem R_set_far {e base g i : Nat} {w : World} {v : Value} {xs : List Int} (h : (Kd.int .u8).R e w base (fun _ => True) v xs) (hg : g < base) (u : Value) : (Kd.int .u8).R e (w.setCell ⟨g, i, none⟩ u) base (fun _ => True) v xs :=
  Kd.R_mono (Kd.R_far (Kd.R_bound h) (fun k hk e => by have h1 := hk.2.1; have h2 : k = g := e; omega) u) (fun _ _ => trivial)
/-- The slice that holds a key, or none. -/
def KeyV (w : World) (v : Value) : Option (List Int) → Prop
  | none => v = .slice none 0 0
  | some k => ∃ g c, v = .slice (some ⟨g, 0, none⟩) 32 c ∧ 32 ≤ c ∧ k.length = 32 ∧ (Kd.int .u8).C w (some ⟨g, 0, none⟩) 32 k
theorem KeyV.keep {S : Nat → Prop} {w w' : World} {v : Value} {key : Option (List Int)} (h : KeyV w v key) (hb : GB S w w') (hs : ∀ b, v.ownBlock = some b → ¬ S b) : KeyV w' v key := by
  rcases key with _ | k
  · exact h
  · obtain ⟨g, c, rfl, h1, h2, h3⟩ := h
    refine ⟨g, c, rfl, h1, h2, C_gb h3 hb ?_⟩
    intro ad e _
    cases e
    exact hs g rfl
/-- What an Out holds. -/
structure OutS (w : World) (g : Nat) (v : Value) (key : Option (List Int)) (n : Int) : Prop where
  ptr : w.heap[g]? = some (.cells #[v, .int .u64 n] 63 (0, 0))
  key : KeyV w v key
  own : ∀ b, v.ownBlock = some b → b ≠ g
theorem OutS.lt {w : World} {g : Nat} {v : Value} {key : Option (List Int)} {n : Int} (h : OutS w g v key n) : g < w.heap.size := (Array.getElem?_eq_some_iff.1 h.ptr).1
theorem OutS.keep {S : Nat → Prop} {w w' : World} {g : Nat} {v : Value} {key : Option (List Int)} {n : Int} (h : OutS w g v key n) (hb : GB S w w') (hg : ¬ S g) (hs : ∀ b, v.ownBlock = some b → ¬ S b) : OutS w' g v key n :=
  ⟨(hb.block g h.lt hg).trans h.ptr, h.key.keep hb hs, h.own⟩
theorem OutS.below {w w' : World} {g : Nat} {v : Value} {key : Option (List Int)} {n : Int} (h : OutS w g v key n) (hb : Below w.heap.size w w') : OutS w' g v key n :=
  h.keep (S := fun _ => False) (GB.of_below hb) (fun h => h) (fun _ _ h => h)
theorem cell_at {w : World} {g i : Nat} {vs : Array Value} {t : TypeId} {v : Value} (h : w.heap[g]? = some (.cells vs t (0, 0))) (hv : vs[i]? = some v) : w.cell? ⟨g, i, none⟩ = some v := by
  unfold World.cell?
  simp only [h]
  exact hv
theorem frozen_at {w : World} {g i : Nat} {vs : Array Value} {t : TypeId} (h : w.heap[g]? = some (.cells vs t (0, 0))) : w.frozen? ⟨g, i, none⟩ = false := by
  unfold World.frozen?
  simp only [h]
  simp
/-- The noughts of a packet. -/
def padN (h l : Nat) : Nat := 4 + (8 - (h + 1 + l + 4) % 8) % 8
theorem padN_ge (h l : Nat) : 4 ≤ padN h l ∧ padN h l ≤ 11 := by unfold padN; omega
theorem padN_is (h l : Nat) : (h + 1 + l + padN h l) % 8 = 0 := by unfold padN; omega
theorem padN_not (h l q : Nat) (h4 : 4 ≤ q) (hq : q < padN h l) : (h + 1 + l + q) % 8 ≠ 0 := by unfold padN at hq; omega
def headN : Option (List Int) → Nat
  | none => 4
  | some _ => 0
def bodyF (key : Option (List Int)) (b : List Int) : List Int := [(padN (headN key) b.length : Int)] ++ b ++ List.replicate (padN (headN key) b.length) 0
def sealF (n : Int) (l : List Int) : Option (List Int) → List Int
  | none => l
  | some k => (sealAns k (nonceF n) (be32 l.length) l).1
def packetF (key : Option (List Int)) (n : Int) (b : List Int) : List Int := be32 (bodyF key b).length ++ sealF n (bodyF key b) key
theorem len_bodyF (key : Option (List Int)) (b : List Int) : (bodyF key b).length = 1 + b.length + padN (headN key) b.length := by simp [bodyF]; omega
theorem newOut_calls (w : World) :
    Calls Try.prog 12 #[] w fun e w' => ∃ g, e = .returned (.pointer (some ⟨g, 0, none⟩)) ∧ w.heap.size ≤ g ∧ OutS w' g (.slice none 0 0) none 0 ∧ Below w.heap.size w w' := by
  go_enter Try.func12, Try.ntmps12
  go_wp2
  go_ret
  exact ⟨w.heap.size, rfl, Nat.le_refl _, ⟨heap_alloc_new w _, rfl, fun b hb => by cases hb⟩, (Below.refl _ _).alloc (Nat.le_refl _) _⟩
theorem outKeys_calls (g : Nat) (v : Value) (key : Option (List Int)) (n : Int) (A : Option Addr) (c : Nat) (k : List Int) (w : World) (hS : OutS w g v key n) (hC : (Kd.int .u8).C w A 32 k) (hc : 32 ≤ c) :
    Calls Try.prog 14 #[.pointer (some ⟨g, 0, none⟩), .slice A 32 c] w fun e w' => e = .returned (.int .i64 0) ∧ ∃ v', OutS w' g v' (some k) n ∧ (∀ b, v'.ownBlock = some b → w.heap.size ≤ b) ∧ GB (fun k => k = g) w w' := by
  have HS := Aside0.mk hS
  have HC := Aside0.mk hC
  have HK := Aside0.mk (Kd.C_len hC)
  have HCl := Aside0.mk hc
  clear hS hC hc
  go_enter Try.func14, Try.ntmps14
  go_wp2_with fail
  have hcl := slices_Clone.calls A c k w (by rw [HK.out]; exact HC.out) (by rw [HK.out]; exact HCl.out) (by rw [HK.out]; decide)
  rw [HK.out] at hcl
  refine hcl.mono ?_
  rintro e w1 ⟨v1, rfl, hR, hB⟩
  obtain ⟨g1, c1, e1, hg1, hg1l, _⟩ := Kd.R_form hR (by rw [HK.out]; decide)
  rw [HK.out] at e1
  subst e1
  obtain ⟨hl0, hc1, hC1⟩ := Kd.R_reads' hR
  clear hl0
  have hp1 := (hB.block g HS.out.lt).trans HS.out.ptr
  have HP1 := Aside0.mk hp1
  have x1 := cell_at (i := 0) hp1 rfl
  have x2 := frozen_at (i := 0) hp1
  have HX := Aside0.mk (And.intro hc1 (And.intro hC1 (And.intro hg1 hB)))
  clear hcl hR hg1 hg1l hp1 hc1 hC1 hB
  go_wp2_with fail
  go_ret
  obtain ⟨hc1, hC1, hg1, hB⟩ := HX.out
  rw [HK.out] at hC1
  have hne : g1 ≠ g := by have := HS.out.lt; omega
  have hgb : GB (fun k => k = g) w (w1.setCell ⟨g, 0, none⟩ (.slice (some ⟨g1, 0, none⟩) 32 c1)) := GB.set (S := fun k => k = g) (GB.of_below hB) (show (⟨g, 0, none⟩ : Addr).block = g from rfl) _
  refine ⟨rfl, .slice (some ⟨g1, 0, none⟩) 32 c1, ⟨?_, ⟨g1, c1, rfl, hc1, HK.out, ?_⟩, fun b hb => ?_⟩, fun b hb => ?_, hgb⟩
  · have := blk_set HP1.out 0 (.slice (some ⟨g1, 0, none⟩) 32 c1)
    simpa using this
  · refine C_gb hC1 (S := fun k => k = g) (GB.set (S := fun k => k = g) (GB.refl _ w1) (show (⟨g, 0, none⟩ : Addr).block = g from rfl) _) ?_
    intro ad e _ h
    cases e
    exact hne h
  · cases hb; exact hne
  · cases hb; exact hg1
theorem bin_nil_ne {P : Program} {t el : TypeId} (ht : P.underlying t = some (.slice el)) (A : Option Addr) (w : World) (n c : Nat) : (binOp .neq t (.slice A n c) (.slice none 0 0)).run P w = .ok (.bool A.isSome) w := by
  have hb : binOp .neq t (.slice A n c) (.slice none 0 0) = (do pure (.bool (!(← Op.equal t (.slice A n c) (.slice none 0 0))))) := rfl
  have he : (Op.equal t (.slice A n c) (.slice none 0 0)).run P w = .ok A.isNone w := by
    show (Op.equalIn (9999 + 1) t _ _).run P w = _
    unfold Op.equalIn
    cases A <;> simp [run_underlying ht]
  rw [hb]
  cases A <;> simp [he]
theorem sealAns_len' (k n a l : List Int) : (sealAns k n a l).1.length ≤ l.length + 16 := by
  unfold sealAns
  split
  · have h1 := xorAns_len k n l 1
    have h2 := tagAns_len k n a (Cha.xorAns k 1 n l).1
    simp only [List.length_append]
    omega
  · simp
theorem packet_calls (g : Nat) (v : Value) (key : Option (List Int)) (n : Int) (A : Option Addr) (c : Nat) (b : List Int) (w : World) (hS : OutS w g v key n) (hn : 0 ≤ n ∧ n < 18446744073709551615) (hC : (Kd.int .u8).C w A b.length b) (hc : b.length ≤ c) (h1 : 1 ≤ b.length) (h2 : b.length ≤ 34000) :
    Calls Try.prog 18 #[.pointer (some ⟨g, 0, none⟩), .slice A b.length c] w fun e w' => ∃ v', e = .returned (.tuple #[v', .int .i64 0]) ∧ (Kd.int .u8).R 5 w' w.heap.size (fun _ => True) v' (packetF key n b) ∧ OutS w' g v key (n + 1) ∧ GB (fun k => k = g) w w' := by
  have HS := Aside0.mk hS
  have HN := Aside0.mk hn
  have HC := Aside0.mk (And.intro hC hc)
  obtain ⟨L, hL⟩ : ∃ L, L = b.length := ⟨_, rfl⟩
  obtain ⟨H, hH⟩ : ∃ H, H = headN key := ⟨_, rfl⟩
  obtain ⟨p, hp⟩ : ∃ p, p = padN H L := ⟨_, rfl⟩
  rw [← hL] at h1 h2 ⊢
  have q1 : ¬ ((L : Int) = 0) := by omega
  have q2 : ¬ ((L : Int) > 34000) := by omega
  have HL := Aside0.mk (And.intro hL (And.intro hH (And.intro hp (And.intro h1 h2))))
  clear hS hn hC hc hL hH hp h1 h2
  go_enter Try.func18, Try.ntmps18
  go_wp2_with fail
  clear q1 q2
  go_loopw [6] (fun v' w' => ∃ q : Nat, 4 ≤ q ∧ q ≤ p ∧ v' = .int .i64 (q : Int) ∧ Aside0 (Below w.heap.size w w')) (fun v' _ => p - (intOf v').toNat)
  case atStart => exact ⟨4, Nat.le_refl _, by rw [HL.out.2.2.1]; exact (padN_ge _ _).1, rfl, ⟨Below.refl _ _⟩⟩
  case round =>
    obtain ⟨q, hq4, hqp, rfl, HB⟩ := hrel
    have hp1 := (HB.out.block g HS.out.lt).trans HS.out.ptr
    have x1 := cell_at (i := 0) hp1 rfl
    have HP1 := Aside0.mk hp1
    clear hp1
    obtain ⟨Ak, nk, ck, ev, eH⟩ : ∃ Ak nk ck, v = .slice Ak nk ck ∧ (if Ak.isNone then 4 else 0) = (H : Int) := by
      have hk := HS.out.key
      have hh := HL.out.2.1
      rcases key with _ | k
      · exact ⟨none, 0, 0, hk, by rw [hh]; rfl⟩
      · obtain ⟨gk, ck, rfl, _⟩ := hk
        exact ⟨_, _, _, rfl, by rw [hh]; rfl⟩
    subst ev
    go_wp2_with fail
    refine (beside_calls Ak nk ck wr).mono ?_
    rintro e w1 ⟨rfl, rfl⟩
    rw [eH]
    obtain ⟨hH4, hL4, hq11, hr1, hr2⟩ : H ≤ 4 ∧ L ≤ 34000 ∧ q ≤ 11 ∧ (q = p → (H + 1 + L + q) % 8 = 0) ∧ (q < p → (H + 1 + L + q) % 8 ≠ 0) := by
      obtain ⟨_, e2, e3, _, e5⟩ := HL.out
      refine ⟨?_, e5, ?_, ?_, ?_⟩
      · rw [e2]
        rcases key with _ | k
        · decide
        · exact Nat.zero_le _
      · have := (padN_ge H L).2
        omega
      · rintro rfl; rw [e3]; exact padN_is H L
      · intro h; exact padN_not H L q hq4 (by omega)
    have k1 : IntKind.i64.wrap ((H : Int) + 1) = (H : Int) + 1 := by rw [i64_w, wrap_id (by omega) (by omega)]
    have k1b : wrap64 ((H : Int) + 1 + L) = (H : Int) + 1 + L := by rw [wrap_id (by omega) (by omega)]
    obtain ⟨r, hr⟩ : ∃ r, r = (H + 1 + L + q) % 8 := ⟨_, rfl⟩
    have k2 : (wrap64 ((H : Int) + 1 + L + q)).tmod 8 = (r : Int) := by
      rw [wrap_id (by omega) (by omega), Int.tmod_eq_emod_of_nonneg (by omega)]
      omega
    have k3 : wrap64 ((q : Int) + 1) = (q : Int) + 1 := by rw [wrap_id (by omega) (by omega)]
    rw [← hr] at hr1 hr2
    have Q1 := Aside0.mk (And.intro hq4 hqp)
    have HR := Aside0.mk (And.intro hr1 hr2)
    have HH := Aside0.mk eH
    clear hr hr1 hr2 hH4 hL4 hq11 hq4 hqp eH
    have K3 := Aside0.mk k3
    go_upto_if 29 with fail
    clear k1 k1b k2 k3
    by_cases hlt : q < p
    · have hne : ((r : Int) != 0) = true := by have := HR.out.2 hlt; simp; omega
      have HLT := Aside0.mk hlt
      clear hlt
      go_wp2_with fail
      refine ⟨⟨q + 1, by have := Q1.out.1; omega, HLT.out, by rw [K3.out]; rfl, HB⟩, ?_⟩
      rw [K3.out]
      simp only [intOf]
      have := HLT.out
      omega
    · obtain rfl : q = p := by have := Q1.out.2; omega
      obtain rfl : r = 0 := HR.out.1 rfl
      have hq11 : q ≤ 11 := by rw [HL.out.2.2.1]; exact (padN_ge H L).2
      have k5 : IntKind.u8.wrap (q : Int) = (q : Int) := by
        have : IntKind.u8.wrap (q : Int) = (q : Int) % 256 := by simp [IntKind.wrap, IntKind.bits, IntKind.signed]
        omega
      have hmk : ∀ W : World, (Instr.makeSlice 23 (.int .i64 (q : Int)) (.int .i64 (q : Int))).run Try.prog W = .ok (.slice (some ⟨W.heap.size, 0, none⟩) q q) (W.alloc (.cells (nums .u8 (List.replicate q 0)).toArray 5)) := fun W => by
        have h := run_make_row' (P := Try.prog) 23 5 (.int .u8 0) 1 Try.underlying23 Pol.info_u8 rfl .i64 .i64 q (by omega) (by omega) W
        rw [made_zero] at h
        exact h
      have HQ := Aside0.mk hq11
      clear hlt hq11 HR
      go_wp2_with fail
      have hsz : ((w1.alloc (.cells #[.int .u8 (q : Int)] 5)).alloc (.cells (nums .u8 (List.replicate q 0)).toArray 5)).heap.size = w1.heap.size + 1 + 1 := by rw [World.size_alloc, World.size_alloc]
      have j1 : (Kd.int .u8).C (w1.alloc (.cells #[.int .u8 (q : Int)] 5)) (some ⟨w1.heap.size, 0, none⟩) 1 [(q : Int)] := lit_C w1 5 .u8 [(q : Int)] (0, 0) 1 rfl (by decide)
      have j2 : (Kd.int .u8).C ((w1.alloc (.cells #[.int .u8 (q : Int)] 5)).alloc (.cells (nums .u8 (List.replicate q 0)).toArray 5)) (some ⟨w1.heap.size + 1, 0, none⟩) (List.replicate q (0 : Int)).length (List.replicate q 0) := by
        have h := C_of_is (new_is (w1.alloc (.cells #[.int .u8 (q : Int)] 5)) 5 .u8 (List.replicate q 0)) (by rw [List.length_replicate]; have := HQ.out; omega)
        rw [World.size_alloc] at h
        exact h
      have j3 : Below w.heap.size w ((w1.alloc (.cells #[.int .u8 (q : Int)] 5)).alloc (.cells (nums .u8 (List.replicate q 0)).toArray 5)) := (HB.out.alloc HB.out.size _).alloc (by rw [World.size_alloc]; have := HB.out.size; omega) _
      rw [← hsz]
      have J2 := Aside0.mk j2
      have J1 := Aside0.mk (Kd.C_alloc j1 (.cells (nums .u8 (List.replicate q 0)).toArray 5))
      have J3 := Aside0.mk j3
      clear j1 j2 j3 hsz hmk k5
      generalize (w1.alloc (.cells #[.int .u8 (q : Int)] 5)).alloc (.cells (nums .u8 (List.replicate q 0)).toArray 5) = w4 at J1 J2 J3 ⊢
      refine (concat3 w4.heap.size (some ⟨w1.heap.size, 0, none⟩) A (some ⟨w1.heap.size + 1, 0, none⟩) 1 c q [(q : Int)] b (List.replicate q 0) _ (by rw [World.cell?_alloc_new]; rfl) (by rw [World.cell?_alloc_new, ← HL.out.1]; rfl) (by rw [World.cell?_alloc_new, List.length_replicate]; rfl) (Kd.C_alloc J1.out _) (Kd.C_alloc (Kd.C_below HC.out.1 J3.out) _) (Kd.C_alloc J2.out _) (by rw [List.length_replicate]; have h1 := HQ.out; have h2 := HL.out; simp only [List.length_cons, List.length_nil]; omega)).mono ?_
      rintro e w5 ⟨v5, rfl, hR, hB⟩
      have EB : [(q : Int)] ++ b ++ List.replicate q 0 = bodyF key b := by
        obtain ⟨e1, e2, e3, _⟩ := HL.out
        unfold bodyF
        rw [← e1, ← e2, ← e3]
      rw [EB] at hR
      obtain ⟨M, hM⟩ : ∃ M, M = bodyF key b := ⟨_, rfl⟩
      rw [← hM] at hR
      have B5 := Aside0.mk (below_step (J3.out.alloc J3.out.size _) hB)
      have LM := Aside0.mk (show 1 ≤ M.length ∧ M.length ≤ 34012 by
        obtain ⟨e1, e2, e3, _, e5⟩ := HL.out
        rw [hM, len_bodyF, ← e1, ← e2, ← e3]
        have := HQ.out
        omega)
      obtain ⟨A5, c5, rfl, hc5, hC5⟩ := Kd.R_reads hR
      obtain ⟨m, hm⟩ : ∃ m, m = M.length := ⟨_, rfl⟩
      rw [← hm] at hc5 hC5 LM ⊢
      have hk6 : IntKind.u32.wrap (m : Int) = (m : Int) := by
        have : IntKind.u32.wrap (m : Int) = (m : Int) % 4294967296 := by simp [IntKind.wrap, IntKind.bits, IntKind.signed]
        have := LM.out.2
        omega
      have C5 := Aside0.mk (And.intro hC5 hc5)
      have RB5 := Aside0.mk (Kd.R_lower hR (show w.heap.size ≤ (w4.alloc (.cells #[.slice (some ⟨w1.heap.size, 0, none⟩) 1 1, .slice A L c, .slice (some ⟨w1.heap.size + 1, 0, none⟩) q q] 23)).heap.size by rw [World.size_alloc]; have := J3.out.size; omega))
      rw [← hm] at RB5
      have HM := Aside0.mk (And.intro hM hm)
      clear hR hB EB hc5 hC5 hM hm J1 J2 J3 HB HC
      go_wp2_with fail
      refine (u32_calls (m : Int) w5 (by have := LM.out.2; omega)).mono ?_
      rintro e w6 ⟨g6, rfl, hg6, hR, hB⟩
      have R6 := Aside0.mk (Kd.R_lower hR B5.out.size)
      have B6 := Aside0.mk (below_step B5.out hB)
      have C6 := Aside0.mk (And.intro (Kd.C_below C5.out.1 hB) C5.out.2)
      have RB6 := Aside0.mk (Kd.R_below RB5.out hB)
      have HS6 := Aside0.mk (HS.out.below B6.out)
      have hp6 := HS6.out.ptr
      have x1 := cell_at (i := 0) hp6 rfl
      have hq := fun w n c => bin_nil_ne (P := Try.prog) Try.underlying23 Ak w n c
      clear hR hB hk6 hg6 C5 B5
      go_upto_if 48 with fail
      clear hq
      rcases key with _ | k
      · have hk := HS.out.key
        change Value.slice Ak nk ck = .slice none 0 0 at hk
        obtain ⟨rfl, rfl, rfl⟩ := Value.slice.inj hk
        rw [show (none : Option Addr).isSome = false from rfl]
        clear hk
        have HM6 := Aside0.mk (show m = M.length from HM.out.2)
        have LM6 := Aside0.mk (show m ≤ 34100 by have := LM.out.2; omega)
        have hp := HS6.out.ptr
        have y1 := cell_at (i := 1) hp rfl
        have y2 := frozen_at (i := 1) hp
        have k64 : IntKind.u64.wrap (n + 1) = n + 1 := by
          have : IntKind.u64.wrap (n + 1) = (n + 1) % 18446744073709551616 := by simp [IntKind.wrap, IntKind.bits, IntKind.signed]
          have := HN.out
          omega
        have HP := Aside0.mk hp
        clear hp
        go_upto_region 13 with fail
        have HG := Aside0.mk (show GB (fun k => k = g) w (w6.setCell ⟨g, 1, none⟩ (.int .u64 (n + 1))) from GB.set (S := fun k => k = g) (GB.of_below B6.out) (show (⟨g, 1, none⟩ : Addr).block = g from rfl) _)
        have RH := Aside0.mk (R_set_far (i := 1) R6.out HS.out.lt (.int .u64 (n + 1)))
        have RX := Aside0.mk (R_set_far (i := 1) RB6.out HS.out.lt (.int .u64 (n + 1)))
        have hpt := blk_set HP.out 1 (.int .u64 (n + 1))
        simp only [List.setIfInBounds_toArray, List.set_cons_zero, List.set_cons_succ] at hpt
        have PT := Aside0.mk hpt
        clear y1 y2 k64 HP hpt
        generalize w6.setCell ⟨g, 1, none⟩ (.int .u64 (n + 1)) = wy at HG RH RX PT ⊢
        go_wp2_with ((with_reducible refine gate_builtin (b := .append) (xs := #[.tmp 71, .tmp 72]) rfl ?_); at_builtin; (refine Kd.R_append_row (w0 := wy) (Value.int .u8) (0 : Int) (h1 := fun _ => rfl) w.heap.size rfl (.tmp 71) (.tmp 72) 23 5 (.int .u8 0) 1 rfl Try.underlying23 Pol.info_u8 rfl Nat.one_pos (.slice (some ⟨g6, 0, none⟩) 4 4) (be32 m) M A5 m c5 (fun _ => True) rfl rfl (fun _ _ => trivial) ?q1 ?q2 ?q3 ?q4 ?q5 ?_; (case q1 => exact RH.out); (case q2 => have h := (Kd.R_reads' RX.out).2.2; rw [← HM6.out] at h; exact h); (case q3 => exact Below.refl _ _); (case q4 => exact HG.out.size); (case q5 => have h1 := LM6.out; simp only [be32, List.length_cons, List.length_nil]; omega); intro vf wf hR hB _ _; have RF := Aside0.mk hR; have BF := Aside0.mk hB; clear hR hB))
        go_ret2
        have hgf := HG.out.then_below BF.out (Nat.le_refl _)
        exact ⟨vf, rfl, by
          have h := RF.out
          have e : be32 (m : Int) ++ M = packetF none n b := by
            unfold packetF
            rw [← HM.out.1, ← HM.out.2]
            rfl
          rw [e] at h
          exact h, ⟨(BF.out.block g HS.out.lt).trans PT.out, HS.out.key.keep hgf (fun b hb => HS.out.own b hb), HS.out.own⟩, hgf⟩
      · obtain ⟨gk, ck', hk, hck, hkl, hkC⟩ := HS.out.key
        obtain ⟨rfl, rfl, rfl⟩ := Value.slice.inj hk
        clear hk
        have CK := Aside0.mk (And.intro hkC hck)
        have KL := Aside0.mk hkl
        rw [show (some (⟨gk, 0, none⟩ : Addr)).isSome = true from rfl]
        clear hck hkl hkC x1
        go_upto_region 11 with fail
        change Code.wp _ _ _ _ w6
        have X0 := Aside0.mk (fun (w' : World) (h : Below w6.heap.size w6 w') => And.intro (cell_at (i := 0) (HS6.out.below h).ptr rfl) (cell_at (i := 1) (HS6.out.below h).ptr rfl))
        have RH6 := Aside0.mk ((Kd.R_reads' R6.out).2.2)
        obtain ⟨z, hz⟩ : ∃ z, z = (sealAns k (nonceF n) (be32 m) M).1 := ⟨_, rfl⟩
        obtain ⟨ez, hez⟩ : ∃ z, z = (sealAns k (nonceF n) (be32 m) M).2 := ⟨_, rfl⟩
        have HZ := Aside0.mk hz
        have FS := Aside0.mk (fun (A9 : Option Addr) (c9 : Nat) (W : World) (h1 : (Kd.int .u8).C W (some ⟨gk, 0, none⟩) 32 k) (h2 : (Kd.int .u8).C W A9 12 (nonceF n) ∧ 12 ≤ c9) (h3 : (Kd.int .u8).C W (some ⟨g6, 0, none⟩) (be32 (m : Int)).length (be32 m)) (h4 : (Kd.int .u8).C W A5 m M) => show Calls Try.prog 35 #[.slice (some ⟨gk, 0, none⟩) 32 ck, .slice A9 12 c9, .slice (some ⟨g6, 0, none⟩) 4 4, .slice A5 m c5] W fun e w' => ∃ v0_ : Value, e = .returned (.tuple #[v0_, .int .i64 ez]) ∧ Kd.R (Kd.int .u8) 5 w' W.heap.size (fun _ => True) v0_ z ∧ Below W.heap.size W w' from by
          have hh := aead_Seal.calls (some ⟨gk, 0, none⟩) ck k A9 c9 (nonceF n) (some ⟨g6, 0, none⟩) 4 (be32 m) A5 c5 M z ez W (by rw [KL.out]; exact h1) (by rw [KL.out]; exact CK.out.2) h2.1 h2.2 h3 (Nat.le_refl _) (by rw [← HM.out.2]; exact h4) (by rw [← HM.out.2]; exact C6.out.2) (by unfold aead_Seal.f; rw [if_pos ⟨by simp [be32], by rw [← HM.out.2]; have := LM.out.2; omega⟩, hz, hez])
          rw [KL.out, ← HM.out.2] at hh
          exact hh)
        clear hz hez
        refine start_ (n := 16) (S := fun w' => Below w6.heap.size w6 w') (ds := []) #[false, false, false, false, false, false, false, false, false, false, false, false, false, false, false, false] (by kernel_rfl) rfl rfl ((below_drew1 (Below.refl _ _))) (fun hHeld => ?_)
        refine pure_ (i := 0) (N := some 50) (v := ?_) (a' := ?_) #[true, false, false, false, false, false, false, false, false, false, false, false, false, false, false, false] rfl rfl (by kernel_rfl) (fun _ _ _ h => h) (Or.inl ⟨by rfl, ?_⟩) ?_ ?_
        rotate_left
        · intro w'
          go_simp
          with_reducible rfl
        rotate_left
        · simp only [Act.put, List.setIfInBounds_toArray, List.set_cons_zero, List.set_cons_succ]
          rfl
        refine pure_ (i := 1) (N := some 51) (v := ?_) (a' := ?_) #[true, true, false, false, false, false, false, false, false, false, false, false, false, false, false, false] rfl rfl (by kernel_rfl) (fun _ _ _ h => h) (Or.inl ⟨by rfl, ?_⟩) ?_ ?_
        rotate_left
        · intro w'
          go_simp
          with_reducible rfl
        rotate_left
        · simp only [Act.put, List.setIfInBounds_toArray, List.set_cons_zero, List.set_cons_succ]
          rfl
        refine pure_ (i := 2) (N := some 52) (v := ?_) (a' := ?_) #[true, true, true, false, false, false, false, false, false, false, false, false, false, false, false, false] rfl rfl (by kernel_rfl) (fun _ _ _ h => h) (Or.inl ⟨by rfl, ?_⟩) ?_ ?_
        rotate_left
        · intro w'
          go_simp
          with_reducible rfl
        rotate_left
        · simp only [Act.put, List.setIfInBounds_toArray, List.set_cons_zero, List.set_cons_succ]
          rfl
        refine pure_ (i := 4) (N := some 54) (v := ?_) (a' := ?_) #[true, true, true, false, true, false, false, false, false, false, false, false, false, false, false, false] rfl rfl (by kernel_rfl) (fun _ _ _ h => h) (Or.inl ⟨by rfl, ?_⟩) ?_ ?_
        rotate_left
        · intro w'
          go_simp
          with_reducible rfl
        rotate_left
        · simp only [Act.put, List.setIfInBounds_toArray, List.set_cons_zero, List.set_cons_succ]
          rfl
        refine pure_ (i := 5) (N := some 55) (v := ?_) (a' := ?_) #[true, true, true, false, true, true, false, false, false, false, false, false, false, false, false, false] rfl rfl (by kernel_rfl) (fun _ _ _ h => h) (Or.inl ⟨by rfl, ?_⟩) ?_ ?_
        rotate_left
        · intro w'
          go_simp
          with_reducible rfl
        rotate_left
        · simp only [Act.put, List.setIfInBounds_toArray, List.set_cons_zero, List.set_cons_succ]
          rfl
        refine pure_ (i := 6) (N := some 56) (v := ?_) (a' := ?_) #[true, true, true, false, true, true, true, false, false, false, false, false, false, false, false, false] rfl rfl (by kernel_rfl) (fun _ _ _ h => h) (Or.inl ⟨by rfl, ?_⟩) ?_ ?_
        rotate_left
        · intro w'
          go_simp
          with_reducible rfl
        rotate_left
        · simp only [Act.put, List.setIfInBounds_toArray, List.set_cons_zero, List.set_cons_succ]
          rfl
        refine pure_ (i := 9) (N := some 59) (v := ?_) (a' := ?_) #[true, true, true, false, true, true, true, false, false, true, false, false, false, false, false, false] rfl rfl (by kernel_rfl) (fun _ _ _ h => h) (Or.inl ⟨by rfl, ?_⟩) ?_ ?_
        rotate_left
        · intro w'
          go_simp
          with_reducible rfl
        rotate_left
        · simp only [Act.put, List.setIfInBounds_toArray, List.set_cons_zero, List.set_cons_succ]
          rfl
        refine pure_ (i := 10) (N := some 60) (v := ?_) (a' := ?_) #[true, true, true, false, true, true, true, false, false, true, true, false, false, false, false, false] rfl rfl (by kernel_rfl) (fun _ _ _ h => h) (Or.inl ⟨by rfl, ?_⟩) ?_ ?_
        rotate_left
        · intro w'
          go_simp
          with_reducible rfl
        rotate_left
        · simp only [Act.put, List.setIfInBounds_toArray, List.set_cons_zero, List.set_cons_succ]
          rfl
        refine take_ (i := 3) (N := some 53) (v := ?_) (a' := ?_) #[true, true, true, true, true, true, true, false, false, true, true, false, false, false, false, false] rfl rfl (by kernel_rfl) (fun _ _ _ h => h) (Or.inl ⟨by rfl, ?_⟩) hHeld ?_ ?_
        rotate_left
        · intro w' s0
          obtain ⟨c0_, c1_⟩ := X0.out w' s0
          go_simp
          with_reducible rfl
        rotate_left
        · simp only [Act.put, List.setIfInBounds_toArray, List.set_cons_zero, List.set_cons_succ]
          rfl
        refine take_ (i := 7) (N := some 57) (v := ?_) (a' := ?_) #[true, true, true, true, true, true, true, true, false, true, true, false, false, false, false, false] rfl rfl (by kernel_rfl) (fun _ _ _ h => h) (Or.inl ⟨by rfl, ?_⟩) hHeld ?_ ?_
        rotate_left
        · intro w' s0
          obtain ⟨c0_, c1_⟩ := X0.out w' s0
          go_simp
          with_reducible rfl
        rotate_left
        · simp only [Act.put, List.setIfInBounds_toArray, List.set_cons_zero, List.set_cons_succ]
          rfl
        refine one_ (i := 8) (N := some 58) #[true, true, true, true, true, true, true, true, true, true, true, false, false, false, false, false] rfl rfl (by kernel_rfl) (by decide) (fun K hK => ?_)
        refine goes_ Try.func36 (by kernel_rfl) rfl #[.int .u64 n] (by rfl) rfl rfl (by simp only [List.map_toArray, List.map_cons, List.map_nil]; rfl) ?_
        with_reducible refine (nonce_calls n _ (by have := HN.out; omega)).mono ?_
        rintro e w7 ⟨v7, rfl, hR7, hB7⟩
        refine ⟨_, rfl, ?_⟩
        have n7 := below_step hHeld hB7
        obtain ⟨A7, c7, rfl, hc7, hC7⟩ := Kd.R_reads hR7
        rw [show (nonceF n).length = 12 from rfl] at hc7 hC7 ⊢
        have C7 := Aside0.mk (And.intro hC7 hc7)
        clear hR7 hB7 hc7 hC7
        refine hK.out _ _ (n7) (fun hHeld => ?_)
        clear hK K
        refine norm_ (a' := ?_) ?_ ?_
        rotate_left
        · show Act.put _ (some 58) _ = _
          simp only [Act.put, List.setIfInBounds_toArray, List.set_cons_zero, List.set_cons_succ]
          rfl
        refine one_ (i := 11) (N := some 61) #[true, true, true, true, true, true, true, true, true, true, true, true, false, false, false, false] rfl rfl (by kernel_rfl) (by decide) (fun K hK => ?_)
        refine goes_ Try.func35 (by kernel_rfl) rfl #[.slice (some ⟨gk, 0, none⟩) 32 ck, .slice A7 12 c7, .slice (some ⟨g6, 0, none⟩) 4 4, .slice A5 m c5] (by rfl) rfl rfl (by simp only [List.map_toArray, List.map_cons, List.map_nil]; rfl) ?_
        with_reducible refine (FS.out A7 c7 _ (Kd.C_below CK.out.1 (below_step B6.out hHeld)) C7.out (Kd.C_below RH6.out hHeld) (Kd.C_below C6.out.1 hHeld)).mono ?_
        rintro e w8 ⟨v8, rfl, hR8, hB8⟩
        refine ⟨_, rfl, ?_⟩
        have n8 := below_step hHeld hB8
        have Z8 := Aside0.mk (Kd.R_lower hR8 (Nat.le_trans B6.out.size hHeld.size))
        clear hR8 hB8 C7
        refine hK.out _ _ (n8) (fun hHeld => ?_)
        clear hK K
        refine norm_ (a' := ?_) ?_ ?_
        rotate_left
        · show Act.put _ (some 61) _ = _
          simp only [Act.put, List.setIfInBounds_toArray, List.set_cons_zero, List.set_cons_succ]
          rfl
        refine pure_ (i := 12) (N := some 49) (v := ?_) (a' := ?_) #[true, true, true, true, true, true, true, true, true, true, true, true, true, false, false, false] rfl rfl (by kernel_rfl) (fun _ _ _ h => h) (Or.inl ⟨by rfl, ?_⟩) ?_ ?_
        rotate_left
        · intro w'
          go_simp
          with_reducible rfl
        rotate_left
        · simp only [Act.put, List.setIfInBounds_toArray, List.set_cons_zero, List.set_cons_succ]
          rfl
        refine pure_ (i := 13) (N := some 62) (v := ?_) (a' := ?_) #[true, true, true, true, true, true, true, true, true, true, true, true, true, true, false, false] rfl rfl (by kernel_rfl) (fun _ _ _ h => h) (Or.inl ⟨by rfl, ?_⟩) ?_ ?_
        rotate_left
        · intro w'
          go_simp
          with_reducible rfl
        rotate_left
        · simp only [Act.put, List.setIfInBounds_toArray, List.set_cons_zero, List.set_cons_succ]
          rfl
        refine pure_ (i := 14) (N := some 63) (v := ?_) (a' := ?_) #[true, true, true, true, true, true, true, true, true, true, true, true, true, true, true, false] rfl rfl (by kernel_rfl) (fun _ _ _ h => h) (Or.inl ⟨by rfl, ?_⟩) ?_ ?_
        rotate_left
        · intro w'
          go_simp
          with_reducible rfl
        rotate_left
        · simp only [Act.put, List.setIfInBounds_toArray, List.set_cons_zero, List.set_cons_succ]
          rfl
        refine pure_ (i := 15) (N := some 7) (v := ?_) (a' := ?_) #[true, true, true, true, true, true, true, true, true, true, true, true, true, true, true, true] rfl rfl (by kernel_rfl) (fun _ _ _ h => h) (Or.inl ⟨by rfl, ?_⟩) ?_ ?_
        rotate_left
        · intro w'
          go_simp
          with_reducible rfl
        rotate_left
        · simp only [Act.put, List.setIfInBounds_toArray, List.set_cons_zero, List.set_cons_succ]
          rfl
        refine done_ (by kernel_rfl) ?_
        obtain ⟨AZ, cZ, rfl, hcZ, hCZ⟩ := Kd.R_reads Z8.out
        obtain ⟨mz, hmz⟩ : ∃ m, m = z.length := ⟨_, rfl⟩
        rw [← hmz] at hcZ hCZ ⊢
        have HMZ := Aside0.mk hmz
        have RB8 := Z8
        have H8 := Aside0.mk hHeld
        rw [← hmz] at RB8
        clear hcZ hCZ hmz hHeld
        have B8 := Aside0.mk (below_step B6.out H8.out)
        have HS8 := Aside0.mk (HS6.out.below H8.out)
        have R8 := Aside0.mk (Kd.R_below R6.out H8.out)
        have LM8 := Aside0.mk (show mz ≤ 34100 by
          rw [HMZ.out, HZ.out]
          have h1 := sealAns_len' k (nonceF n) (be32 m) M
          have h2 := LM.out.2
          have h3 := HM.out.2
          omega)
        have HM8 := Aside0.mk (show mz = z.length from HMZ.out)
        have hp := HS8.out.ptr
        have y1 := cell_at (i := 1) hp rfl
        have y2 := frozen_at (i := 1) hp
        have k64 : IntKind.u64.wrap (n + 1) = n + 1 := by
          have : IntKind.u64.wrap (n + 1) = (n + 1) % 18446744073709551616 := by simp [IntKind.wrap, IntKind.bits, IntKind.signed]
          have := HN.out
          omega
        have HP := Aside0.mk hp
        clear hp
        go_upto_region 13 with fail
        have HG := Aside0.mk (show GB (fun k => k = g) w (w8.setCell ⟨g, 1, none⟩ (.int .u64 (n + 1))) from GB.set (S := fun k => k = g) (GB.of_below B8.out) (show (⟨g, 1, none⟩ : Addr).block = g from rfl) _)
        have RH := Aside0.mk (R_set_far (i := 1) R8.out HS.out.lt (.int .u64 (n + 1)))
        have RX := Aside0.mk (R_set_far (i := 1) RB8.out HS.out.lt (.int .u64 (n + 1)))
        have hpt := blk_set HP.out 1 (.int .u64 (n + 1))
        simp only [List.setIfInBounds_toArray, List.set_cons_zero, List.set_cons_succ] at hpt
        have PT := Aside0.mk hpt
        clear y1 y2 k64 HP hpt
        generalize w8.setCell ⟨g, 1, none⟩ (.int .u64 (n + 1)) = wy at HG RH RX PT ⊢
        go_wp2_with ((with_reducible refine gate_builtin (b := .append) (xs := #[.tmp 71, .tmp 72]) rfl ?_); at_builtin; (refine Kd.R_append_row (w0 := wy) (Value.int .u8) (0 : Int) (h1 := fun _ => rfl) w.heap.size rfl (.tmp 71) (.tmp 72) 23 5 (.int .u8 0) 1 rfl Try.underlying23 Pol.info_u8 rfl Nat.one_pos (.slice (some ⟨g6, 0, none⟩) 4 4) (be32 m) z AZ mz cZ (fun _ => True) rfl rfl (fun _ _ => trivial) ?q1 ?q2 ?q3 ?q4 ?q5 ?_; (case q1 => exact RH.out); (case q2 => have h := (Kd.R_reads' RX.out).2.2; rw [← HM8.out] at h; exact h); (case q3 => exact Below.refl _ _); (case q4 => exact HG.out.size); (case q5 => have h1 := LM8.out; simp only [be32, List.length_cons, List.length_nil]; omega); intro vf wf hR hB _ _; have RF := Aside0.mk hR; have BF := Aside0.mk hB; clear hR hB))
        go_ret2
        have hgf := HG.out.then_below BF.out (Nat.le_refl _)
        exact ⟨vf, rfl, by
          have h := RF.out
          have e : be32 (m : Int) ++ z = packetF (some k) n b := by
            unfold packetF
            rw [← HM.out.1, ← HM.out.2]
            show _ = be32 m ++ (sealAns k (nonceF n) (be32 M.length) M).1
            rw [← HM.out.2, HZ.out]
          rw [e] at h
          exact h, ⟨(BF.out.block g HS.out.lt).trans PT.out, HS.out.key.keep hgf (fun b hb => HS.out.own b hb), HS.out.own⟩, hgf⟩
end Go.Proofs.Ytnmnghpdmiffaaa.Pk

/- Part PkD. -/
/-
  packet.In, walked: what it holds, NewIn, Keys, Feed, Held and refuse.
-/
namespace Go.Proofs.Ytnmnghpdmiffaaa.Pk
open Go.RowKit Go.Proofs.YtnmnghpdmiffaaaW.PrintWords Go.Proofs.YtnmnghpdmiffaaaW.PrintLast Go.Proofs.YtnmnghpdmiffaaaW.PrintMore Go.Proofs.Ytnmnghpdmiffaaa.Arr
set_option linter.unusedVariables false
set_option maxHeartbeats 8000000
set_option maxRecDepth 100000
/-- A queue of bytes: a slice that owns its block, wherever in it it begins. -/
def Qu (w : World) (v : Value) (xs : List Int) : Prop := QRow w 0 5 1 v xs.length (encs (Value.int .u8) xs)
theorem Qu.nil (w : World) : Qu w (.slice none 0 0) [] := ⟨rfl, .inl ⟨rfl, none, rfl, fun a ha => by cases ha⟩⟩
theorem Qu.lt {w : World} {v : Value} {xs : List Int} (h : Qu w v xs) : ∀ b, v.ownBlock = some b → b < w.heap.size := fun b hb => q_lt h b hb
theorem Qu.keep {S : Nat → Prop} {w w' : World} {v : Value} {xs : List Int} (h : Qu w v xs) (hb : GB S w w') (hs : ∀ b, v.ownBlock = some b → ¬ S b) : Qu w' v xs :=
  q_move h (fun k hk => hb.block k (h.lt k hk) (hs k hk))
theorem Qu.reads {w : World} {v : Value} {xs : List Int} (h : Qu w v xs) : ∃ A c, v = .slice A xs.length c ∧ xs.length ≤ c ∧ (Kd.int .u8).C w A xs.length xs := by
  obtain ⟨A, c, rfl, hc⟩ := q_slice h
  refine ⟨A, c, rfl, hc, Kd.C_of_reads (enc := Value.int .u8) (d := (0 : Int)) (h1 := fun _ => rfl) ⟨rfl, q_max h, fun h0 => ?_⟩⟩
  obtain ⟨ad, e, hr⟩ := q_cells h h0
  exact ⟨ad, e, fun j hj => hr j _ (encs_get (d := (0 : Int)) xs j hj)⟩
theorem Qu.drop {w : World} {A : Option Addr} {c : Nat} {xs : List Int} (h : Qu w (.slice A xs.length c) xs) (k : Nat) (hk : k ≤ xs.length) : Qu w (.slice (if c = k then A else A.map (·.add (k * 1))) (xs.length - k) (c - k)) (xs.drop k) := by
  have h1 := q_drop h hk
  unfold Qu
  rw [List.length_drop, show encs (Value.int .u8) (xs.drop k) = (encs (Value.int .u8) xs).drop (k * 1) by simp [encs, List.map_drop]]
  exact h1
section
variable {P : Program} {ops : Array Oper} {rest : List Oper} {o : Oper} {a : Act} {Q' : Exit → Act → World → Prop}
theorem Qu.append {W : World} (hgd : o.guard = none) (s x : Operand) (t e : TypeId)
    (ho : o.op = .call { callee := .builtin .append, args := #[s, x], argTypes := #[t, t] })
    (he : e = 5) (ht : P.underlying t = some (.slice e)) (hinfo : (P.info? e).map (fun i => (i.zero, i.size, i.bytes)) = some (some (.int .u8 0), 1, 1))
    (v : Value) (xs ys : List Int) (A : Option Addr) (m c : Nat) (hs : a.eval s = v) (hx : a.eval x = .slice A m c)
    (HO : Qu W v xs) (HR : (Kd.int .u8).C W A m ys) (hl : xs.length + m ≤ 140737488355328)
    (h : ∀ v1 w1, Qu w1 v1 (xs ++ ys) → W.grownBy w1 v.ownBlock → (v1.ownBlock = v.ownBlock ∨ ∃ b, v1.ownBlock = some b ∧ W.heap.size ≤ b) → wpList P ops Q' rest (a.put o.dst v1) w1) :
    wpList P ops Q' (o :: rest) a W := by
  subst he
  obtain ⟨i0, hi, hzz⟩ := Option.map_eq_some_iff.1 hinfo
  simp only [Prod.mk.injEq] at hzz
  obtain ⟨hz0, hz1, hz2⟩ := hzz
  obtain ⟨hr1, hr2, hr3⟩ := Kd.reads_of_C (enc := Value.int .u8) (d := (0 : Int)) (h1 := fun _ => rfl) HR
  have hrun : ∃ v1 w1, (Builtin.append_ #[t, t] o.type #[v, .slice A m c]).run P W = .ok v1 w1 ∧ Qu w1 v1 (xs ++ ys) ∧ W.grownBy w1 v.ownBlock ∧ (v1.ownBlock = v.ownBlock ∨ ∃ b, v1.ownBlock = some b ∧ W.heap.size ≤ b) := by
    rcases Nat.eq_zero_or_pos m with h0 | h0
    · subst h0
      obtain rfl : ys = [] := List.eq_nil_of_length_eq_zero hr1
      refine ⟨v, W, ?_, by simpa using HO, World.grownBy.refl W _, .inl rfl⟩
      obtain ⟨A', c', rfl, hc⟩ := q_slice HO
      rcases A with _ | ad <;> rcases A' with _ | ad' <;> simp [Builtin.append_, run_underlying ht, sizeOf, typeInfo, hi, Builtin.lenOf, Builtin.firstCells, hc, storeCells, loadCells, loadCellsFrom]
    · obtain ⟨ad, rfl, hcell⟩ := hr3 h0
      obtain ⟨v1, w1, hr, h2, h3, h5⟩ := q_append (P := P) W 0 t o.type 5 i0 (.int .u8 0) 1 1 ht hi hz0 hz1 hz2 rfl (by decide) v xs.length (encs (Value.int .u8) xs) HO ad m c (encs (Value.int .u8) ys) (by simp [encs, hr1])
        (by
          intro j u hu
          have hj : j < ys.length := by
            rcases Nat.lt_or_ge j ys.length with h | h
            · exact h
            · simp [encs, List.getElem?_eq_none h] at hu
          rw [encs_get (d := (0 : Int)) ys j hj] at hu
          rw [← hu]
          exact hcell j (by omega))
        (by intro u hu; simp only [encs, List.mem_map] at hu; obtain ⟨q, _, rfl⟩ := hu; rfl) h0 (by simp only [maxLen]; omega) (by omega) (Nat.zero_le _)
      refine ⟨v1, w1, hr, ?_, h3, h5⟩
      unfold Qu
      rw [List.length_append, hr1, show encs (Value.int .u8) (xs ++ ys) = encs (Value.int .u8) xs ++ encs (Value.int .u8) ys by simp [encs]]
      exact h2
  obtain ⟨v1, w1, hr, hq, hg, hat⟩ := hrun
  refine wpList_plain hgd fun K hK => ?_
  unfold Oper.wp execOp
  simp only [ho, resolve, invoke, builtin, Sem.run_bind, Sem.run_pure, Result.andThen_ok, List.map_toArray, List.map_cons, List.map_nil, hs, hx, hr]
  exact hK _ _ (h v1 w1 hq hg hat)
end
theorem KeyV.lt {w : World} {v : Value} {key : Option (List Int)} (h : KeyV w v key) (b : Nat) (hb : v.ownBlock = some b) : b < w.heap.size := by
  rcases key with _ | k
  · have h' : v = .slice none 0 0 := h
    subst h'
    cases hb
  · obtain ⟨g, c, rfl, _, _, hC⟩ := h
    cases hb
    obtain ⟨_, _, h3⟩ := Kd.reads_of_C (enc := Value.int .u8) (d := (0 : Int)) (h1 := fun _ => rfl) hC
    obtain ⟨ad, e, hc⟩ := h3 (by decide)
    cases e
    have h0 := hc 0 (by decide)
    rw [show (⟨g, 0, none⟩ : Addr).add 0 = ⟨g, 0, none⟩ from rfl] at h0
    unfold World.cell? at h0
    rcases hq : w.heap[g]? with _ | o
    · rw [hq] at h0; cases h0
    · exact (Array.getElem?_eq_some_iff.1 hq).1
/-- What an In holds. -/
structure InS (w : World) (g : Nat) (vk vb : Value) (key : Option (List Int)) (n : Int) (bs : List Int) (why : Int) : Prop where
  ptr : w.heap[g]? = some (.cells #[vk, .int .u64 n, vb, .int .i64 why] 74 (0, 0))
  key : KeyV w vk key
  row : Qu w vb bs
  okg : ∀ b, vk.ownBlock = some b → b ≠ g
  obg : ∀ b, vb.ownBlock = some b → b ≠ g
  okb : ∀ b, vk.ownBlock = some b → vb.ownBlock ≠ some b
section
variable {w w' : World} {g : Nat} {vk vb : Value} {key : Option (List Int)} {n : Int} {bs : List Int} {why : Int}
theorem InS.lt (h : InS w g vk vb key n bs why) : g < w.heap.size := (Array.getElem?_eq_some_iff.1 h.ptr).1
theorem InS.keep {S : Nat → Prop} (h : InS w g vk vb key n bs why) (hb : GB S w w') (hg : ¬ S g) (hk : ∀ b, vk.ownBlock = some b → ¬ S b) (hv : ∀ b, vb.ownBlock = some b → ¬ S b) : InS w' g vk vb key n bs why :=
  ⟨(hb.block g h.lt hg).trans h.ptr, h.key.keep hb hk, h.row.keep hb hv, h.okg, h.obg, h.okb⟩
theorem InS.below (h : InS w g vk vb key n bs why) (hb : Below w.heap.size w w') : InS w' g vk vb key n bs why :=
  h.keep (S := fun _ => False) (GB.of_below hb) (fun h => h) (fun _ _ h => h) (fun _ _ h => h)
end
theorem newIn_calls (w : World) :
    Calls Try.prog 22 #[] w fun e w' => ∃ g, e = .returned (.pointer (some ⟨g, 0, none⟩)) ∧ w.heap.size ≤ g ∧ InS w' g (.slice none 0 0) (.slice none 0 0) none 0 [] 0 ∧ Below w.heap.size w w' := by
  go_enter Try.func22, Try.ntmps22
  go_wp2
  go_ret
  exact ⟨w.heap.size, rfl, Nat.le_refl _, ⟨heap_alloc_new w _, rfl, Qu.nil _, (fun b hb => by cases hb), (fun b hb => by cases hb), (fun b hb => by cases hb)⟩, (Below.refl _ _).alloc (Nat.le_refl _) _⟩
theorem held_calls (g : Nat) (vk vb : Value) (key : Option (List Int)) (n : Int) (bs : List Int) (why : Int) (w : World) (hS : InS w g vk vb key n bs why) :
    Calls Try.prog 30 #[.pointer (some ⟨g, 0, none⟩)] w fun e w' => e = .returned (.int .i64 (bs.length : Int)) ∧ w' = w := by
  obtain ⟨A, c, rfl, _⟩ := hS.row.reads
  have x1 := cell_at (i := 2) hS.ptr rfl
  clear hS
  go_enter Try.func30, Try.ntmps30
  go_wp2
  go_ret
  exact ⟨rfl, rfl⟩
/-- Two cells of a block of cells, set. -/
theorem blk_sets {w : World} {g i : Nat} {vs vs' : Array Value} {t : TypeId} (h : w.heap[g]? = some (.cells vs t (0, 0))) (u : Value) (e : vs.setIfInBounds i u = vs') : (w.setCell ⟨g, i, none⟩ u).heap[g]? = some (.cells vs' t (0, 0)) := e ▸ blk_set h i u
theorem refuse_calls (g : Nat) (vk vb : Value) (key : Option (List Int)) (n : Int) (bs : List Int) (why y : Int) (w : World) (hS : InS w g vk vb key n bs why) :
    Calls Try.prog 43 #[.pointer (some ⟨g, 0, none⟩), .int .i64 y] w fun e w' => e = .returned (.tuple #[.slice none 0 0, .bool false, .int .i64 y]) ∧ InS w' g vk (.slice none 0 0) key n [] y ∧ GB (fun k => k = g) w w' := by
  obtain ⟨A, c, rfl, _⟩ := hS.row.reads
  have HS := Aside0.mk hS
  have x1 := frozen_at (i := 3) hS.ptr
  have y1 := cell_at (i := 3) hS.ptr rfl
  have x3 := blk_sets (i := 3) hS.ptr (.int .i64 y) rfl
  have x2 := frozen_at (i := 2) x3
  have y2 := cell_at (i := 2) x3 rfl
  have HX := Aside0.mk x3
  clear hS x3
  go_enter Try.func43, Try.ntmps43
  go_wp2
  go_ret3
  have hb : GB (fun k => k = g) w ((w.setCell ⟨g, 3, none⟩ (.int .i64 y)).setCell ⟨g, 2, none⟩ (.slice none 0 0)) := GB.set (S := fun k => k = g) (GB.set (S := fun k => k = g) (GB.refl _ w) (show (⟨g, 3, none⟩ : Addr).block = g from rfl) _) (show (⟨g, 2, none⟩ : Addr).block = g from rfl) _
  exact ⟨rfl, ⟨blk_sets (i := 2) HX.out (.slice none 0 0) rfl, HS.out.key.keep hb (fun b hb => HS.out.okg b hb), Qu.nil _, HS.out.okg, (fun b hb => by cases hb), (fun b _ h => by cases h)⟩, hb⟩
theorem inKeys_calls (g : Nat) (vk vb : Value) (key : Option (List Int)) (n : Int) (bs : List Int) (A : Option Addr) (c : Nat) (k : List Int) (w : World) (hS : InS w g vk vb key n bs 0) (hC : (Kd.int .u8).C w A 32 k) (hc : 32 ≤ c) :
    Calls Try.prog 23 #[.pointer (some ⟨g, 0, none⟩), .slice A 32 c] w fun e w' => e = .returned (.int .i64 0) ∧ ∃ v', InS w' g v' vb (some k) n bs 0 ∧ (∀ b, v'.ownBlock = some b → w.heap.size ≤ b) ∧ GB (fun k => k = g) w w' := by
  have HS := Aside0.mk hS
  have HC := Aside0.mk hC
  have HK := Aside0.mk (Kd.C_len hC)
  have HCl := Aside0.mk hc
  have x0 := cell_at (i := 3) hS.ptr rfl
  clear hS hC hc
  go_enter Try.func23, Try.ntmps23
  go_wp2_with fail
  have hcl := slices_Clone.calls A c k w (by rw [HK.out]; exact HC.out) (by rw [HK.out]; exact HCl.out) (by rw [HK.out]; decide)
  rw [HK.out] at hcl
  refine hcl.mono ?_
  rintro e w1 ⟨v1, rfl, hR, hB⟩
  obtain ⟨g1, c1, e1, hg1, hg1l, _⟩ := Kd.R_form hR (by rw [HK.out]; decide)
  rw [HK.out] at e1
  subst e1
  obtain ⟨hl0, hc1, hC1⟩ := Kd.R_reads' hR
  clear hl0
  have hp1 := (hB.block g HS.out.lt).trans HS.out.ptr
  have HP1 := Aside0.mk hp1
  have x1 := cell_at (i := 0) hp1 rfl
  have x2 := frozen_at (i := 0) hp1
  have HX := Aside0.mk (And.intro hc1 (And.intro hC1 (And.intro hg1 hB)))
  clear hcl hR hg1 hg1l hp1 hc1 hC1 hB x0
  go_wp2_with fail
  go_ret
  obtain ⟨hc1, hC1, hg1, hB⟩ := HX.out
  rw [HK.out] at hC1
  have hne : g1 ≠ g := by have := HS.out.lt; omega
  have hgb : GB (fun k => k = g) w (w1.setCell ⟨g, 0, none⟩ (.slice (some ⟨g1, 0, none⟩) 32 c1)) := GB.set (S := fun k => k = g) (GB.of_below hB) (show (⟨g, 0, none⟩ : Addr).block = g from rfl) _
  refine ⟨rfl, .slice (some ⟨g1, 0, none⟩) 32 c1, ⟨blk_sets (i := 0) HP1.out _ rfl, ⟨g1, c1, rfl, hc1, HK.out, ?_⟩, HS.out.row.keep hgb HS.out.obg, fun b hb => ?_, HS.out.obg, fun b hb h => ?_⟩, fun b hb => ?_, hgb⟩
  · refine C_gb hC1 (S := fun k => k = g) (GB.set (S := fun k => k = g) (GB.refl _ w1) (show (⟨g, 0, none⟩ : Addr).block = g from rfl) _) ?_
    intro ad e _ h
    cases e
    exact hne h
  · cases hb; exact hne
  · cases hb
    have h2 : g1 < w.heap.size := HS.out.row.lt _ h
    exact absurd hg1 (by omega)
  · cases hb; exact hg1
theorem feed_calls (g : Nat) (vk vb : Value) (key : Option (List Int)) (n : Int) (bs : List Int) (A : Option Addr) (m c : Nat) (xs : List Int) (w : World) (hS : InS w g vk vb key n bs 0) (hC : (Kd.int .u8).C w A m xs) (hl : bs.length + m ≤ 140737488355328) :
    Calls Try.prog 26 #[.pointer (some ⟨g, 0, none⟩), .slice A m c] w fun e w' => e = .returned (.tuple #[]) ∧ ∃ v', InS w' g vk v' key n (bs ++ xs) 0 ∧ (v'.ownBlock = vb.ownBlock ∨ ∃ b, v'.ownBlock = some b ∧ w.heap.size ≤ b) ∧ GB (fun k => k = g ∨ vb.ownBlock = some k) w w' := by
  obtain ⟨A0, c0, rfl, _⟩ := hS.row.reads
  have HS := Aside0.mk hS
  have HC := Aside0.mk (And.intro hC hl)
  have x0 := cell_at (i := 3) hS.ptr rfl
  have x1 := cell_at (i := 2) hS.ptr rfl
  clear hS hC hl
  go_enter Try.func26, Try.ntmps26
  go_wp2_with ((with_reducible refine gate_builtin (b := .append) (xs := #[.tmp 13, .tmp 14]) rfl ?_); at_builtin; (refine Qu.append rfl (.tmp 13) (.tmp 14) 23 5 rfl rfl Try.underlying23 Pol.info_u8 (.slice A0 bs.length c0) bs xs A m c rfl rfl HS.out.row HC.out.1 HC.out.2 ?_); intro v1 w1 hq hg hat; obtain ⟨A1, c1, rfl, _⟩ := hq.reads; have hp1 := (hg.block g HS.out.lt (fun e => HS.out.obg g e.symm rfl)).trans HS.out.ptr; have z1 := cell_at (i := 2) hp1 rfl; have z2 := frozen_at (i := 2) hp1; have HQ := Aside0.mk (And.intro hp1 (And.intro hq (And.intro hg hat))); clear hq hg hat hp1 x0 x1)
  go_end0
  obtain ⟨hp1, hq, hg, hat⟩ := HQ.out
  have hb1 : GB (fun k => k = g ∨ (Value.slice A0 bs.length c0).ownBlock = some k) w w1 := GB.of_grown hg (fun k hk => .inr hk)
  have hb := GB.set (S := fun k => k = g ∨ (Value.slice A0 bs.length c0).ownBlock = some k) hb1 (p := ⟨g, 2, none⟩) (.inl rfl) (.slice A1 (bs ++ xs).length c1)
  have hob : ∀ b, (Value.slice A1 (bs ++ xs).length c1).ownBlock = some b → b ≠ g := by
    intro b hb he
    rcases hat with h | ⟨b', h, hle⟩
    · exact HS.out.obg b (by rw [← h]; exact hb) he
    · rw [h] at hb
      cases hb
      have := HS.out.lt
      omega
  rw [List.length_append, Kd.C_len HC.out.1] at *
  refine ⟨rfl, _, ⟨blk_sets (i := 2) hp1 _ rfl, HS.out.key.keep hb (fun b hkb => ?_), hq.keep (S := fun k => k = g) (GB.set (S := fun k => k = g) (GB.refl _ w1) (show (⟨g, 2, none⟩ : Addr).block = g from rfl) _) hob, HS.out.okg, hob, fun b hk h => ?_⟩, hat, hb⟩
  · rintro (h | h)
    · exact HS.out.okg b hkb h
    · exact HS.out.okb b hkb h
  · rcases hat with h2 | ⟨b', h2, hle⟩
    · exact HS.out.okb b hk (by rw [← h2]; exact h)
    · rw [h2] at h
      cases h
      have := HS.out.key.lt _ hk
      omega
end Go.Proofs.Ytnmnghpdmiffaaa.Pk

/- Part PkE. -/
/-
  packet.In.Next, walked.
-/
namespace Go.Proofs.Ytnmnghpdmiffaaa.Pk
open Go.RowKit Go.Proofs.YtnmnghpdmiffaaaW.PrintWords Go.Proofs.YtnmnghpdmiffaaaW.PrintLast Go.Proofs.YtnmnghpdmiffaaaW.PrintMore Go.Proofs.Ytnmnghpdmiffaaa.Arr
set_option linter.unusedVariables false
set_option maxHeartbeats 8000000
set_option maxRecDepth 100000
/-- A scope that is left forwards alone: what stands behind the label is walked at each jump. -/
theorem wp_scope_fwd {P : Program} {a : Act} {w : World} {Q : Exit → Act → World → Prop} {c rest : Code} (l : Nat) (hf : findLabel c l = some rest)
    (first : c.wp P (Exit.jump l (fun a w => rest.wp P (Exit.jump l (fun _ _ => False) Q) a w) Q) a w) : (Code.scope c).wp P Q a w := by
  refine wp_scope_jumps l (fun a w => rest.wp P (Exit.jump l (fun _ _ => False) Q) a w) (fun _ _ => 0) hf first (fun a w h => ?_)
  refine Code.wp_mono (fun e a' w' he => ?_) h
  cases e <;> first | exact he | exact he.2.elim
/-- What Next answers, and what is left behind it. -/
structure NextR where
  p : List Int
  ok : Bool
  e : Int
  n : Int
  b : List Int
  why : Int
def long4 (bs : List Int) : Int := bs.getD 0 0 * 16777216 + bs.getD 1 0 * 65536 + bs.getD 2 0 * 256 + bs.getD 3 0
def tagN : Option (List Int) → Nat
  | none => 0
  | some _ => 16
def refuseF (n y : Int) : NextR := ⟨[], false, y, n, [], y⟩
def waitF (n : Int) (bs : List Int) (why : Int) : NextR := ⟨[], false, why, n, bs, why⟩
def takeF (n : Int) (bs body : List Int) (whole : Nat) : NextR :=
  if body.getD 0 0 < 4 ∨ body.getD 0 0 + 1 ≥ body.length then refuseF n 12 else ⟨(body.take (body.length - (body.getD 0 0).toNat)).drop 1, true, 0, n + 1, bs.drop whole, 0⟩
def nextF (key : Option (List Int)) (n : Int) (bs : List Int) (why : Int) : NextR :=
  if why ≠ 0 then waitF n bs why else
  if bs.length < 4 then waitF n bs 0 else
  if long4 bs > 35000 then refuseF n 3 else
  if long4 bs < 6 ∨ (long4 bs + headN key) % 8 ≠ 0 then refuseF n 12 else
  if bs.length < 4 + (long4 bs).toNat + tagN key then waitF n bs 0 else
  match key with
  | none => takeF n bs ((bs.take (4 + (long4 bs).toNat)).drop 4) (4 + (long4 bs).toNat)
  | some k => if (openAns k (nonceF n) (bs.take 4) ((bs.take (4 + (long4 bs).toNat + 16)).drop 4)).2 ≠ 0 then refuseF n 14 else takeF n bs (openAns k (nonceF n) (bs.take 4) ((bs.take (4 + (long4 bs).toNat + 16)).drop 4)).1 (4 + (long4 bs).toNat + 16)
theorem nextF_long {key : Option (List Int)} {n : Int} {bs : List Int} (h4 : 4 ≤ bs.length) (h : long4 bs > 35000) : nextF key n bs 0 = refuseF n 3 := by
  unfold nextF
  rw [if_neg (by decide), if_neg (Nat.not_lt.2 h4), if_pos h]
theorem nextF_form {key : Option (List Int)} {n : Int} {bs : List Int} (h4 : 4 ≤ bs.length) (h : long4 bs ≤ 35000) (h2 : long4 bs < 6 ∨ (long4 bs + headN key) % 8 ≠ 0) : nextF key n bs 0 = refuseF n 12 := by
  unfold nextF
  rw [if_neg (by decide), if_neg (Nat.not_lt.2 h4), if_neg (Int.not_lt.2 h), if_pos h2]
theorem nextF_wait {key : Option (List Int)} {n : Int} {bs : List Int} (h4 : 4 ≤ bs.length) (h : long4 bs ≤ 35000) (h2 : 6 ≤ long4 bs ∧ (long4 bs + headN key) % 8 = 0) (h3 : bs.length < 4 + (long4 bs).toNat + tagN key) : nextF key n bs 0 = waitF n bs 0 := by
  unfold nextF
  rw [if_neg (by decide), if_neg (Nat.not_lt.2 h4), if_neg (Int.not_lt.2 h), if_neg (by omega), if_pos h3]
theorem nextF_plain {n : Int} {bs : List Int} (h4 : 4 ≤ bs.length) (h : long4 bs ≤ 35000) (h2 : 6 ≤ long4 bs ∧ (long4 bs + headN none) % 8 = 0) (h3 : 4 + (long4 bs).toNat + tagN none ≤ bs.length) : nextF none n bs 0 = takeF n bs ((bs.take (4 + (long4 bs).toNat)).drop 4) (4 + (long4 bs).toNat) := by
  unfold nextF
  rw [if_neg (by decide), if_neg (Nat.not_lt.2 h4), if_neg (Int.not_lt.2 h), if_neg (by omega), if_neg (Nat.not_lt.2 h3)]
theorem nextF_mac {k : List Int} {n : Int} {bs : List Int} (h4 : 4 ≤ bs.length) (h : long4 bs ≤ 35000) (h2 : 6 ≤ long4 bs ∧ (long4 bs + headN (some k)) % 8 = 0) (h3 : 4 + (long4 bs).toNat + tagN (some k) ≤ bs.length) (he : (openAns k (nonceF n) (bs.take 4) ((bs.take (4 + (long4 bs).toNat + 16)).drop 4)).2 ≠ 0) : nextF (some k) n bs 0 = refuseF n 14 := by
  unfold nextF
  rw [if_neg (by decide), if_neg (Nat.not_lt.2 h4), if_neg (Int.not_lt.2 h), if_neg (by omega), if_neg (Nat.not_lt.2 h3)]
  show (if _ then _ else _) = _
  rw [if_pos he]
theorem nextF_open {k : List Int} {n : Int} {bs : List Int} (h4 : 4 ≤ bs.length) (h : long4 bs ≤ 35000) (h2 : 6 ≤ long4 bs ∧ (long4 bs + headN (some k)) % 8 = 0) (h3 : 4 + (long4 bs).toNat + tagN (some k) ≤ bs.length) (he : (openAns k (nonceF n) (bs.take 4) ((bs.take (4 + (long4 bs).toNat + 16)).drop 4)).2 = 0) : nextF (some k) n bs 0 = takeF n bs (openAns k (nonceF n) (bs.take 4) ((bs.take (4 + (long4 bs).toNat + 16)).drop 4)).1 (4 + (long4 bs).toNat + 16) := by
  unfold nextF
  rw [if_neg (by decide), if_neg (Nat.not_lt.2 h4), if_neg (Int.not_lt.2 h), if_neg (by omega), if_neg (Nat.not_lt.2 h3)]
  show (if _ then _ else _) = _
  rw [if_neg (fun h => h he)]
theorem open_len {k a l : List Int} {n : Int} (hk : k.length = 32) (hl : 16 ≤ l.length) (h : (openAns k (nonceF n) a l).2 = 0) : (openAns k (nonceF n) a l).1.length = l.length - 16 ∧ ∀ x ∈ (openAns k (nonceF n) a l).1, 0 ≤ x ∧ x < 256 := by
  have e := open_eq hk (show (nonceF n).length = 12 from rfl) a (l.take (l.length - 16)) (l.drop (l.length - 16)) (by rw [List.length_drop]; omega)
  rw [List.take_append_drop] at e
  rw [e] at h ⊢
  split at h
  · rw [if_pos (by assumption)]
    refine ⟨by rw [len_hidF, List.length_take]; omega, fun x hx => ?_⟩
    have := Cha.bytes_xorF k 1 (nonceF n) (l.take (l.length - 16)) x hx
    omega
  · exact absurd h (by decide)
theorem takeF_bad {n : Int} {bs body : List Int} {whole : Nat} (h : body.getD 0 0 < 4 ∨ body.getD 0 0 + 1 ≥ body.length) : takeF n bs body whole = refuseF n 12 := by
  unfold takeF
  rw [if_pos h]
theorem takeF_ok {n : Int} {bs body : List Int} {whole : Nat} (h1 : 4 ≤ body.getD 0 0) (h2 : body.getD 0 0 + 1 < body.length) : takeF n bs body whole = ⟨(body.take (body.length - (body.getD 0 0).toNat)).drop 1, true, 0, n + 1, bs.drop whole, 0⟩ := by
  unfold takeF
  rw [if_neg (by omega)]
theorem C_head {w : World} {ga oa n : Nat} {xs : List Int} (h : (Kd.int .u8).C w (some ⟨ga, oa, none⟩) n xs) (h0 : 0 < n) : w.cell? ⟨ga, oa, none⟩ = some (.int .u8 (xs.getD 0 0)) := by
  obtain ⟨_, _, h3⟩ := Kd.reads_of_C (enc := Value.int .u8) (d := (0 : Int)) (h1 := fun _ => rfl) h
  obtain ⟨ad, e, hc⟩ := h3 h0
  cases e
  exact hc 0 h0
theorem cutM {P : Program} {t e : TypeId} {I : TypeInfo} (ht : P.underlying t = some (.slice e)) (hi : P.info? e = some I) (hsz : I.size = 1) (ga oa n c lo hi' L : Nat) (h1 : lo ≤ hi') (h2 : hi' ≤ n) (hc : n ≤ c) (hlo : lo < c) (hL : L + lo = hi') (W : World) :
    (Instr.slice t (.slice (some ⟨ga, oa, none⟩) n c) (some (.int .i64 (lo : Int))) (some (.int .i64 (hi' : Int))) none).run P W = .ok (.slice (some ⟨ga, oa + lo, none⟩) L (c - lo)) W := by
  have h := cut_mid (P := P) t e .i64 .i64 ht hi 1 hsz (some ⟨ga, oa, none⟩) n c (lo : Int) (hi' : Int) (by omega) (by omega) (by omega) hc W
  rw [Int.toNat_natCast, Int.toNat_natCast, if_neg (by omega), show hi' - lo = L by omega, Option.map_some, add_at, Nat.mul_one] at h
  exact h
theorem C_cut {w : World} {ga oa n c lo hi L : Nat} {xs : List Int} (h : (Kd.int .u8).C w (some ⟨ga, oa, none⟩) n xs) (hc : n ≤ c) (h1 : lo ≤ hi) (h2 : hi ≤ n) (hlo : lo < c) (hL : L + lo = hi) : (Kd.int .u8).C w (some ⟨ga, oa + lo, none⟩) L ((xs.take hi).drop lo) ∧ ((xs.take hi).drop lo).length = L := by
  have hn : xs.length = n := Kd.C_len h
  have hl : ((xs.take hi).drop lo).length = L := by rw [List.length_drop, List.length_take]; omega
  have h3 := Kd.C_mid (lo := lo) (hi := hi) (c := c) (by rw [hn]; exact h) h1 (by omega) (by omega)
  rw [if_neg (by omega), hl, Option.map_some, add_at, show (Kd.int .u8).sz = 1 from rfl, Nat.mul_one] at h3
  exact ⟨h3, hl⟩
theorem bytes_cut {xs : List Int} (h : ∀ x ∈ xs, 0 ≤ x ∧ x < 256) (lo hi : Nat) : ∀ x ∈ (xs.take hi).drop lo, 0 ≤ x ∧ x < 256 :=
  fun x hx => h x (List.mem_of_mem_take (List.mem_of_mem_drop hx))
def NextPost (w : World) (g : Nat) (vk vb : Value) (key : Option (List Int)) (r : NextR) (e : Ending) (w' : World) : Prop :=
  ∃ v' vb', e = .returned (.tuple #[v', .bool r.ok, .int .i64 r.e]) ∧ (Kd.int .u8).R 5 w' w.heap.size (fun _ => True) v' r.p ∧ InS w' g vk vb' key r.n r.b r.why ∧ (∀ b, vb'.ownBlock = some b → vb.ownBlock = some b) ∧ GB (fun k => k = g) w w'
section
variable {w w' : World} {g : Nat} {vk vb : Value} {key : Option (List Int)} {n : Int} {bs : List Int} {why : Int}
theorem next_wait (hS : InS w g vk vb key n bs why) : NextPost w g vk vb key (waitF n bs why) (.returned (.tuple #[.slice none 0 0, .bool false, .int .i64 why])) w.drew :=
  ⟨_, vb, rfl, Kd.R_nil .., hS.below (below_drew1 (Below.refl _ _)), fun b h => h, GB.of_below (below_drew1 (Below.refl _ _))⟩
theorem next_wait2 {u : World} (hS : InS u g vk vb key n bs why) (hB : Below w.heap.size w u) : NextPost w g vk vb key (waitF n bs why) (.returned (.tuple #[.slice none 0 0, .bool false, .int .i64 why])) u.drew :=
  ⟨_, vb, rfl, Kd.R_nil .., hS.below (below_drew1 (Below.refl _ _)), fun b h => h, GB.of_below (below_drew1 hB)⟩
theorem next_refuse {y : Int} (hS : InS w' g vk (.slice none 0 0) key n [] y) (hG : GB (fun k => k = g) w w') : NextPost w g vk vb key (refuseF n y) (.returned (.tuple #[.slice none 0 0, .bool false, .int .i64 y])) w' :=
  ⟨_, .slice none 0 0, rfl, Kd.R_nil .., hS, (fun b h => by cases h), hG⟩
theorem getD_b {l : List Int} (h : ∀ x ∈ l, 0 ≤ x ∧ x < 256) (i : Nat) : 0 ≤ l.getD i 0 ∧ l.getD i 0 < 256 := by
  rw [List.getD_eq_getElem?_getD]
  rcases hj : l[i]? with _ | y
  · simp
  · simpa using h y (List.mem_of_getElem? hj)
theorem Qu.form {w : World} {A : Option Addr} {n c : Nat} {xs : List Int} (h : Qu w (.slice A n c) xs) (h0 : 0 < xs.length) : ∃ gb o, A = some ⟨gb, o, none⟩ ∧ ∀ j, j < xs.length → w.cell? ⟨gb, o + j, none⟩ = some (.int .u8 (xs.getD j 0)) := by
  rcases h.2 with ⟨e, _⟩ | ⟨gb, off, cap, cur, he, r⟩
  · omega
  · obtain ⟨A', c', e1, hc', hC⟩ := h.reads
    rw [he] at e1
    cases e1
    obtain ⟨_, _, h3⟩ := Kd.reads_of_C (enc := Value.int .u8) (d := (0 : Int)) (h1 := fun _ => rfl) hC
    obtain ⟨ad, e, hc⟩ := h3 h0
    cases e
    obtain ⟨rfl, _, _⟩ := Value.slice.inj he
    refine ⟨gb, off * 1, rfl, fun j hj => ?_⟩
    have := hc j hj
    rw [add_at] at this
    exact this
end
theorem or64 (i : Nat) (x y : Int) (hx : 0 ≤ x) (hx0 : x % 2 ^ i = 0) (hx1 : x < 2 ^ 40) (hy : 0 ≤ y) (hy0 : y < 2 ^ i) (hy1 : y < 2 ^ 40) : bits .or .i64 x y = x + y :=
  bits_join .i64 40 (by decide) (fun n h0 h1 => by rw [i64_w, wrap_id (by omega) (by omega)]) i x y hx hx0 hx1 hy hy0 hy1
theorem next_calls (g : Nat) (vk vb : Value) (key : Option (List Int)) (n : Int) (bs : List Int) (why : Int) (w : World) (hS : InS w g vk vb key n bs why) (hn : 0 ≤ n ∧ n < 18446744073709551615) (hb : ∀ x ∈ bs, 0 ≤ x ∧ x < 256) (hl : bs.length ≤ 1000000000) :
    Calls Try.prog 29 #[.pointer (some ⟨g, 0, none⟩)] w (NextPost w g vk vb key (nextF key n bs why)) := by
  have HS := Aside0.mk hS
  have HN := Aside0.mk hn
  have HB := Aside0.mk hb
  have HL := Aside0.mk hl
  obtain ⟨r, hr⟩ : ∃ r, r = nextF key n bs why := ⟨_, rfl⟩
  rw [← hr]
  have HR := Aside0.mk hr
  clear hn hb hl hr
  obtain ⟨Ab, cb, rfl, hcb, hCb⟩ := hS.row.reads
  have CB := Aside0.mk (And.intro hCb hcb)
  have x0 := cell_at (i := 0) hS.ptr rfl
  have x1 := cell_at (i := 1) hS.ptr rfl
  have x2 := cell_at (i := 2) hS.ptr rfl
  have x3 := cell_at (i := 3) hS.ptr rfl
  clear hS hcb hCb
  go_enter Try.func29, Try.ntmps29
  go_wp2
  refine wp_scope_fwd 0 (by rfl) ?_
  by_cases hw : why = 0
  · subst hw
    by_cases h4 : bs.length < 4
    · have h4i : (bs.length : Int) < 4 := by omega
      have H4 := Aside0.mk h4
      clear h4
      go_wp2_with fail
      refine wp_goto ⟨rfl, ?_⟩
      go_wp2_with fail
      refine start_ (n := 7) (S := fun w' => w'.cell? ⟨g, 3, none⟩ = some (.int .i64 0)) (ds := []) #[false, false, false, false, false, false, false] (by kernel_rfl) rfl rfl (x3) (fun hHeld => ?_)
      refine pure_ (i := 0) (N := some 175) (v := ?_) (a' := ?_) #[true, false, false, false, false, false, false] rfl rfl (by kernel_rfl) (fun _ _ _ h => h) (Or.inl ⟨by rfl, ?_⟩) ?_ ?_
      rotate_left
      · intro w'
        go_simp
        with_reducible rfl
      rotate_left
      · simp only [Act.put, List.setIfInBounds_toArray, List.set_cons_zero, List.set_cons_succ]
        rfl
      refine pure_ (i := 1) (N := some 176) (v := ?_) (a' := ?_) #[true, true, false, false, false, false, false] rfl rfl (by kernel_rfl) (fun _ _ _ h => h) (Or.inl ⟨by rfl, ?_⟩) ?_ ?_
      rotate_left
      · intro w'
        go_simp
        with_reducible rfl
      rotate_left
      · simp only [Act.put, List.setIfInBounds_toArray, List.set_cons_zero, List.set_cons_succ]
        rfl
      refine pure_ (i := 2) (N := some 177) (v := ?_) (a' := ?_) #[true, true, true, false, false, false, false] rfl rfl (by kernel_rfl) (fun _ _ _ h => h) (Or.inl ⟨by rfl, ?_⟩) ?_ ?_
      rotate_left
      · intro w'
        go_simp
        with_reducible rfl
      rotate_left
      · simp only [Act.put, List.setIfInBounds_toArray, List.set_cons_zero, List.set_cons_succ]
        rfl
      refine pure_ (i := 4) (N := some 2) (v := ?_) (a' := ?_) #[true, true, true, false, true, false, false] rfl rfl (by kernel_rfl) (fun _ _ _ h => h) (Or.inl ⟨by rfl, ?_⟩) ?_ ?_
      rotate_left
      · intro w'
        go_simp
        with_reducible rfl
      rotate_left
      · simp only [Act.put, List.setIfInBounds_toArray, List.set_cons_zero, List.set_cons_succ]
        rfl
      refine pure_ (i := 5) (N := some 3) (v := ?_) (a' := ?_) #[true, true, true, false, true, true, false] rfl rfl (by kernel_rfl) (fun _ _ _ h => h) (Or.inl ⟨by rfl, ?_⟩) ?_ ?_
      rotate_left
      · intro w'
        go_simp
        with_reducible rfl
      rotate_left
      · simp only [Act.put, List.setIfInBounds_toArray, List.set_cons_zero, List.set_cons_succ]
        rfl
      refine take_ (i := 3) (N := some 178) (v := ?_) (a' := ?_) #[true, true, true, true, true, true, false] rfl rfl (by kernel_rfl) (fun _ _ _ h => h) (Or.inl ⟨by rfl, ?_⟩) hHeld ?_ ?_
      rotate_left
      · intro w' s0
        go_simp
        with_reducible rfl
      rotate_left
      · simp only [Act.put, List.setIfInBounds_toArray, List.set_cons_zero, List.set_cons_succ]
        rfl
      refine pure_ (i := 6) (N := some 4) (v := ?_) (a' := ?_) #[true, true, true, true, true, true, true] rfl rfl (by kernel_rfl) (fun _ _ _ h => h) (Or.inl ⟨by rfl, ?_⟩) ?_ ?_
      rotate_left
      · intro w'
        go_simp
        with_reducible rfl
      rotate_left
      · simp only [Act.put, List.setIfInBounds_toArray, List.set_cons_zero, List.set_cons_succ]
        rfl
      refine done_ (by kernel_rfl) ?_
      go_wp2_with fail
      simp only [Exit.jump]
      go_ret3
      have e : nextF key n bs 0 = waitF n bs 0 := by unfold nextF; rw [if_neg (by decide), if_pos H4.out]
      rw [HR.out, e]
      exact next_wait HS.out
    · have h4i : ¬ ((bs.length : Int) < 4) := by omega
      obtain ⟨gb, o, rfl, hcell⟩ := HS.out.row.form (by omega)
      have H4 := Aside0.mk (show 4 ≤ bs.length by omega)
      have b0 := hcell 0 (by omega)
      have b1 := hcell 1 (by omega)
      have b2 := hcell 2 (by omega)
      have b3 := hcell 3 (by omega)
      have HC := Aside0.mk hcell
      have q0 : (0 : Int) < (bs.length : Int) := by omega
      have q1 : (1 : Int) < (bs.length : Int) := by omega
      have q2 : (2 : Int) < (bs.length : Int) := by omega
      have q3 : (3 : Int) < (bs.length : Int) := by omega
      have q0n : 0 < bs.length := by omega
      obtain ⟨v0, hv0⟩ : ∃ v, v = bs.getD 0 0 := ⟨_, rfl⟩
      obtain ⟨v1, hv1⟩ : ∃ v, v = bs.getD 1 0 := ⟨_, rfl⟩
      obtain ⟨v2, hv2⟩ : ∃ v, v = bs.getD 2 0 := ⟨_, rfl⟩
      obtain ⟨v3, hv3⟩ : ∃ v, v = bs.getD 3 0 := ⟨_, rfl⟩
      rw [← hv0] at b0
      rw [← hv1] at b1
      rw [← hv2] at b2
      rw [← hv3] at b3
      have HV := Aside0.mk (And.intro hv0 (And.intro hv1 (And.intro hv2 hv3)))
      have gd := fun i => getD_b HB.out i
      obtain ⟨g0a, g0b⟩ : 0 ≤ v0 ∧ v0 < 256 := hv0 ▸ gd 0
      obtain ⟨g1a, g1b⟩ : 0 ≤ v1 ∧ v1 < 256 := hv1 ▸ gd 1
      obtain ⟨g2a, g2b⟩ : 0 ≤ v2 ∧ v2 < 256 := hv2 ▸ gd 2
      obtain ⟨g3a, g3b⟩ : 0 ≤ v3 ∧ v3 < 256 := hv3 ▸ gd 3
      have e0 : IntKind.i64.wrap v0 = v0 := by rw [i64_w, wrap_id (by omega) (by omega)]
      have e1 : IntKind.i64.wrap v1 = v1 := by rw [i64_w, wrap_id (by omega) (by omega)]
      have e2 : IntKind.i64.wrap v2 = v2 := by rw [i64_w, wrap_id (by omega) (by omega)]
      have e3 : IntKind.i64.wrap v3 = v3 := by rw [i64_w, wrap_id (by omega) (by omega)]
      have f0 : IntKind.i64.wrap (v0 * 16777216) = v0 * 16777216 := by rw [i64_w, wrap_id (by omega) (by omega)]
      have f1 : IntKind.i64.wrap (v1 * 65536) = v1 * 65536 := by rw [i64_w, wrap_id (by omega) (by omega)]
      have f2 : IntKind.i64.wrap (v2 * 256) = v2 * 256 := by rw [i64_w, wrap_id (by omega) (by omega)]
      have o1 : bits .or .i64 (v0 * 16777216) (v1 * 65536) = v0 * 16777216 + v1 * 65536 := or64 24 _ _ (by omega) (by omega) (by omega) (by omega) (by omega) (by omega)
      have o2 : bits .or .i64 (v0 * 16777216 + v1 * 65536) (v2 * 256) = v0 * 16777216 + v1 * 65536 + v2 * 256 := or64 16 _ _ (by omega) (by omega) (by omega) (by omega) (by omega) (by omega)
      have o3 : bits .or .i64 (v0 * 16777216 + v1 * 65536 + v2 * 256) v3 = v0 * 16777216 + v1 * 65536 + v2 * 256 + v3 := or64 8 _ _ (by omega) (by omega) (by omega) (by omega) (by omega) (by omega)
      have GV := Aside0.mk (And.intro (And.intro g0a g0b) (And.intro (And.intro g1a g1b) (And.intro (And.intro g2a g2b) (And.intro g3a g3b))))
      clear h4 hcell gd hv0 hv1 hv2 hv3 g0a g0b g1a g1b g2a g2b g3a g3b
      go_upto_region 5 with fail
      refine start_ (n := 35) (S := fun w' => w'.cell? ⟨g, 2, none⟩ = some (.slice (some ⟨gb, o, none⟩) bs.length cb) ∧ w'.cell? ⟨gb, o, none⟩ = some (.int .u8 v0) ∧ w'.cell? ⟨gb, o + 1, none⟩ = some (.int .u8 v1) ∧ w'.cell? ⟨gb, o + 2, none⟩ = some (.int .u8 v2) ∧ w'.cell? ⟨gb, o + 3, none⟩ = some (.int .u8 v3)) (ds := []) #[false, false, false, false, false, false, false, false, false, false, false, false, false, false, false, false, false, false, false, false, false, false, false, false, false, false, false, false, false, false, false, false, false, false, false] (by kernel_rfl) rfl rfl ⟨x2, b0, b1, b2, b3⟩ (fun hHeld => ?_)
      refine pure_ (i := 0) (N := some 21) (v := ?_) (a' := ?_) #[true, false, false, false, false, false, false, false, false, false, false, false, false, false, false, false, false, false, false, false, false, false, false, false, false, false, false, false, false, false, false, false, false, false, false] rfl rfl (by kernel_rfl) (fun _ _ _ h => h) (Or.inl ⟨by rfl, ?_⟩) ?_ ?_
      rotate_left
      · intro w'
        go_simp
        with_reducible rfl
      rotate_left
      · simp only [Act.put, List.setIfInBounds_toArray, List.set_cons_zero, List.set_cons_succ]
        rfl
      refine pure_ (i := 1) (N := some 22) (v := ?_) (a' := ?_) #[true, true, false, false, false, false, false, false, false, false, false, false, false, false, false, false, false, false, false, false, false, false, false, false, false, false, false, false, false, false, false, false, false, false, false] rfl rfl (by kernel_rfl) (fun _ _ _ h => h) (Or.inl ⟨by rfl, ?_⟩) ?_ ?_
      rotate_left
      · intro w'
        go_simp
        with_reducible rfl
      rotate_left
      · simp only [Act.put, List.setIfInBounds_toArray, List.set_cons_zero, List.set_cons_succ]
        rfl
      refine pure_ (i := 2) (N := some 23) (v := ?_) (a' := ?_) #[true, true, true, false, false, false, false, false, false, false, false, false, false, false, false, false, false, false, false, false, false, false, false, false, false, false, false, false, false, false, false, false, false, false, false] rfl rfl (by kernel_rfl) (fun _ _ _ h => h) (Or.inl ⟨by rfl, ?_⟩) ?_ ?_
      rotate_left
      · intro w'
        go_simp
        with_reducible rfl
      rotate_left
      · simp only [Act.put, List.setIfInBounds_toArray, List.set_cons_zero, List.set_cons_succ]
        rfl
      refine pure_ (i := 8) (N := some 29) (v := ?_) (a' := ?_) #[true, true, true, false, false, false, false, false, true, false, false, false, false, false, false, false, false, false, false, false, false, false, false, false, false, false, false, false, false, false, false, false, false, false, false] rfl rfl (by kernel_rfl) (fun _ _ _ h => h) (Or.inl ⟨by rfl, ?_⟩) ?_ ?_
      rotate_left
      · intro w'
        go_simp
        with_reducible rfl
      rotate_left
      · simp only [Act.put, List.setIfInBounds_toArray, List.set_cons_zero, List.set_cons_succ]
        rfl
      refine pure_ (i := 9) (N := some 30) (v := ?_) (a' := ?_) #[true, true, true, false, false, false, false, false, true, true, false, false, false, false, false, false, false, false, false, false, false, false, false, false, false, false, false, false, false, false, false, false, false, false, false] rfl rfl (by kernel_rfl) (fun _ _ _ h => h) (Or.inl ⟨by rfl, ?_⟩) ?_ ?_
      rotate_left
      · intro w'
        go_simp
        with_reducible rfl
      rotate_left
      · simp only [Act.put, List.setIfInBounds_toArray, List.set_cons_zero, List.set_cons_succ]
        rfl
      refine pure_ (i := 10) (N := some 31) (v := ?_) (a' := ?_) #[true, true, true, false, false, false, false, false, true, true, true, false, false, false, false, false, false, false, false, false, false, false, false, false, false, false, false, false, false, false, false, false, false, false, false] rfl rfl (by kernel_rfl) (fun _ _ _ h => h) (Or.inl ⟨by rfl, ?_⟩) ?_ ?_
      rotate_left
      · intro w'
        go_simp
        with_reducible rfl
      rotate_left
      · simp only [Act.put, List.setIfInBounds_toArray, List.set_cons_zero, List.set_cons_succ]
        rfl
      refine pure_ (i := 17) (N := some 38) (v := ?_) (a' := ?_) #[true, true, true, false, false, false, false, false, true, true, true, false, false, false, false, false, false, true, false, false, false, false, false, false, false, false, false, false, false, false, false, false, false, false, false] rfl rfl (by kernel_rfl) (fun _ _ _ h => h) (Or.inl ⟨by rfl, ?_⟩) ?_ ?_
      rotate_left
      · intro w'
        go_simp
        with_reducible rfl
      rotate_left
      · simp only [Act.put, List.setIfInBounds_toArray, List.set_cons_zero, List.set_cons_succ]
        rfl
      refine pure_ (i := 18) (N := some 39) (v := ?_) (a' := ?_) #[true, true, true, false, false, false, false, false, true, true, true, false, false, false, false, false, false, true, true, false, false, false, false, false, false, false, false, false, false, false, false, false, false, false, false] rfl rfl (by kernel_rfl) (fun _ _ _ h => h) (Or.inl ⟨by rfl, ?_⟩) ?_ ?_
      rotate_left
      · intro w'
        go_simp
        with_reducible rfl
      rotate_left
      · simp only [Act.put, List.setIfInBounds_toArray, List.set_cons_zero, List.set_cons_succ]
        rfl
      refine pure_ (i := 19) (N := some 40) (v := ?_) (a' := ?_) #[true, true, true, false, false, false, false, false, true, true, true, false, false, false, false, false, false, true, true, true, false, false, false, false, false, false, false, false, false, false, false, false, false, false, false] rfl rfl (by kernel_rfl) (fun _ _ _ h => h) (Or.inl ⟨by rfl, ?_⟩) ?_ ?_
      rotate_left
      · intro w'
        go_simp
        with_reducible rfl
      rotate_left
      · simp only [Act.put, List.setIfInBounds_toArray, List.set_cons_zero, List.set_cons_succ]
        rfl
      refine pure_ (i := 26) (N := some 47) (v := ?_) (a' := ?_) #[true, true, true, false, false, false, false, false, true, true, true, false, false, false, false, false, false, true, true, true, false, false, false, false, false, false, true, false, false, false, false, false, false, false, false] rfl rfl (by kernel_rfl) (fun _ _ _ h => h) (Or.inl ⟨by rfl, ?_⟩) ?_ ?_
      rotate_left
      · intro w'
        go_simp
        with_reducible rfl
      rotate_left
      · simp only [Act.put, List.setIfInBounds_toArray, List.set_cons_zero, List.set_cons_succ]
        rfl
      refine pure_ (i := 27) (N := some 48) (v := ?_) (a' := ?_) #[true, true, true, false, false, false, false, false, true, true, true, false, false, false, false, false, false, true, true, true, false, false, false, false, false, false, true, true, false, false, false, false, false, false, false] rfl rfl (by kernel_rfl) (fun _ _ _ h => h) (Or.inl ⟨by rfl, ?_⟩) ?_ ?_
      rotate_left
      · intro w'
        go_simp
        with_reducible rfl
      rotate_left
      · simp only [Act.put, List.setIfInBounds_toArray, List.set_cons_zero, List.set_cons_succ]
        rfl
      refine pure_ (i := 28) (N := some 49) (v := ?_) (a' := ?_) #[true, true, true, false, false, false, false, false, true, true, true, false, false, false, false, false, false, true, true, true, false, false, false, false, false, false, true, true, true, false, false, false, false, false, false] rfl rfl (by kernel_rfl) (fun _ _ _ h => h) (Or.inl ⟨by rfl, ?_⟩) ?_ ?_
      rotate_left
      · intro w'
        go_simp
        with_reducible rfl
      rotate_left
      · simp only [Act.put, List.setIfInBounds_toArray, List.set_cons_zero, List.set_cons_succ]
        rfl
      refine take_ (i := 3) (N := some 24) (v := ?_) (a' := ?_) #[true, true, true, true, false, false, false, false, true, true, true, false, false, false, false, false, false, true, true, true, false, false, false, false, false, false, true, true, true, false, false, false, false, false, false] rfl rfl (by kernel_rfl) (fun _ _ _ h => h) (Or.inl ⟨by rfl, ?_⟩) hHeld ?_ ?_
      rotate_left
      · rintro w' ⟨s0, s1, s2, s3, s4⟩
        go_simp
        with_reducible rfl
      rotate_left
      · simp only [Act.put, List.setIfInBounds_toArray, List.set_cons_zero, List.set_cons_succ]
        rfl
      refine pure_ (i := 4) (N := some 25) (v := ?_) (a' := ?_) #[true, true, true, true, true, false, false, false, true, true, true, false, false, false, false, false, false, true, true, true, false, false, false, false, false, false, true, true, true, false, false, false, false, false, false] rfl rfl (by kernel_rfl) (fun _ _ _ h => h) (Or.inl ⟨by rfl, ?_⟩) ?_ ?_
      rotate_left
      · intro w'
        go_simp
        with_reducible rfl
      rotate_left
      · simp only [Act.put, List.setIfInBounds_toArray, List.set_cons_zero, List.set_cons_succ]
        rfl
      refine take_ (i := 5) (N := some 26) (v := ?_) (a' := ?_) #[true, true, true, true, true, true, false, false, true, true, true, false, false, false, false, false, false, true, true, true, false, false, false, false, false, false, true, true, true, false, false, false, false, false, false] rfl rfl (by kernel_rfl) (fun _ _ _ h => h) (Or.inl ⟨by rfl, ?_⟩) hHeld ?_ ?_
      rotate_left
      · rintro w' ⟨s0, s1, s2, s3, s4⟩
        go_simp
        with_reducible rfl
      rotate_left
      · simp only [Act.put, List.setIfInBounds_toArray, List.set_cons_zero, List.set_cons_succ]
        rfl
      refine pure_ (i := 6) (N := some 27) (v := ?_) (a' := ?_) #[true, true, true, true, true, true, true, false, true, true, true, false, false, false, false, false, false, true, true, true, false, false, false, false, false, false, true, true, true, false, false, false, false, false, false] rfl rfl (by kernel_rfl) (fun _ _ _ h => h) (Or.inl ⟨by rfl, ?_⟩) ?_ ?_
      rotate_left
      · intro w'
        go_simp
        with_reducible rfl
      rotate_left
      · simp only [Act.put, List.setIfInBounds_toArray, List.set_cons_zero, List.set_cons_succ]
        rfl
      refine pure_ (i := 7) (N := some 28) (v := ?_) (a' := ?_) #[true, true, true, true, true, true, true, true, true, true, true, false, false, false, false, false, false, true, true, true, false, false, false, false, false, false, true, true, true, false, false, false, false, false, false] rfl rfl (by kernel_rfl) (fun _ _ _ h => h) (Or.inl ⟨by rfl, ?_⟩) ?_ ?_
      rotate_left
      · intro w'
        go_simp
        with_reducible rfl
      rotate_left
      · simp only [Act.put, List.setIfInBounds_toArray, List.set_cons_zero, List.set_cons_succ]
        rfl
      refine take_ (i := 11) (N := some 32) (v := ?_) (a' := ?_) #[true, true, true, true, true, true, true, true, true, true, true, true, false, false, false, false, false, true, true, true, false, false, false, false, false, false, true, true, true, false, false, false, false, false, false] rfl rfl (by kernel_rfl) (fun _ _ _ h => h) (Or.inl ⟨by rfl, ?_⟩) hHeld ?_ ?_
      rotate_left
      · rintro w' ⟨s0, s1, s2, s3, s4⟩
        go_simp
        with_reducible rfl
      rotate_left
      · simp only [Act.put, List.setIfInBounds_toArray, List.set_cons_zero, List.set_cons_succ]
        rfl
      refine pure_ (i := 12) (N := some 33) (v := ?_) (a' := ?_) #[true, true, true, true, true, true, true, true, true, true, true, true, true, false, false, false, false, true, true, true, false, false, false, false, false, false, true, true, true, false, false, false, false, false, false] rfl rfl (by kernel_rfl) (fun _ _ _ h => h) (Or.inl ⟨by rfl, ?_⟩) ?_ ?_
      rotate_left
      · intro w'
        go_simp
        with_reducible rfl
      rotate_left
      · simp only [Act.put, List.setIfInBounds_toArray, List.set_cons_zero, List.set_cons_succ]
        rfl
      refine take_ (i := 13) (N := some 34) (v := ?_) (a' := ?_) #[true, true, true, true, true, true, true, true, true, true, true, true, true, true, false, false, false, true, true, true, false, false, false, false, false, false, true, true, true, false, false, false, false, false, false] rfl rfl (by kernel_rfl) (fun _ _ _ h => h) (Or.inl ⟨by rfl, ?_⟩) hHeld ?_ ?_
      rotate_left
      · rintro w' ⟨s0, s1, s2, s3, s4⟩
        go_simp
        with_reducible rfl
      rotate_left
      · simp only [Act.put, List.setIfInBounds_toArray, List.set_cons_zero, List.set_cons_succ]
        rfl
      refine pure_ (i := 14) (N := some 35) (v := ?_) (a' := ?_) #[true, true, true, true, true, true, true, true, true, true, true, true, true, true, true, false, false, true, true, true, false, false, false, false, false, false, true, true, true, false, false, false, false, false, false] rfl rfl (by kernel_rfl) (fun _ _ _ h => h) (Or.inl ⟨by rfl, ?_⟩) ?_ ?_
      rotate_left
      · intro w'
        go_simp
        with_reducible rfl
      rotate_left
      · simp only [Act.put, List.setIfInBounds_toArray, List.set_cons_zero, List.set_cons_succ]
        rfl
      refine pure_ (i := 15) (N := some 36) (v := ?_) (a' := ?_) #[true, true, true, true, true, true, true, true, true, true, true, true, true, true, true, true, false, true, true, true, false, false, false, false, false, false, true, true, true, false, false, false, false, false, false] rfl rfl (by kernel_rfl) (fun _ _ _ h => h) (Or.inl ⟨by rfl, ?_⟩) ?_ ?_
      rotate_left
      · intro w'
        go_simp
        with_reducible rfl
      rotate_left
      · simp only [Act.put, List.setIfInBounds_toArray, List.set_cons_zero, List.set_cons_succ]
        rfl
      refine pure_ (i := 16) (N := some 37) (v := ?_) (a' := ?_) #[true, true, true, true, true, true, true, true, true, true, true, true, true, true, true, true, true, true, true, true, false, false, false, false, false, false, true, true, true, false, false, false, false, false, false] rfl rfl (by kernel_rfl) (fun _ _ _ h => h) (Or.inl ⟨by rfl, ?_⟩) ?_ ?_
      rotate_left
      · intro w'
        go_simp
        with_reducible rfl
      rotate_left
      · simp only [Act.put, List.setIfInBounds_toArray, List.set_cons_zero, List.set_cons_succ]
        rfl
      refine take_ (i := 20) (N := some 41) (v := ?_) (a' := ?_) #[true, true, true, true, true, true, true, true, true, true, true, true, true, true, true, true, true, true, true, true, true, false, false, false, false, false, true, true, true, false, false, false, false, false, false] rfl rfl (by kernel_rfl) (fun _ _ _ h => h) (Or.inl ⟨by rfl, ?_⟩) hHeld ?_ ?_
      rotate_left
      · rintro w' ⟨s0, s1, s2, s3, s4⟩
        go_simp
        with_reducible rfl
      rotate_left
      · simp only [Act.put, List.setIfInBounds_toArray, List.set_cons_zero, List.set_cons_succ]
        rfl
      refine pure_ (i := 21) (N := some 42) (v := ?_) (a' := ?_) #[true, true, true, true, true, true, true, true, true, true, true, true, true, true, true, true, true, true, true, true, true, true, false, false, false, false, true, true, true, false, false, false, false, false, false] rfl rfl (by kernel_rfl) (fun _ _ _ h => h) (Or.inl ⟨by rfl, ?_⟩) ?_ ?_
      rotate_left
      · intro w'
        go_simp
        with_reducible rfl
      rotate_left
      · simp only [Act.put, List.setIfInBounds_toArray, List.set_cons_zero, List.set_cons_succ]
        rfl
      refine take_ (i := 22) (N := some 43) (v := ?_) (a' := ?_) #[true, true, true, true, true, true, true, true, true, true, true, true, true, true, true, true, true, true, true, true, true, true, true, false, false, false, true, true, true, false, false, false, false, false, false] rfl rfl (by kernel_rfl) (fun _ _ _ h => h) (Or.inl ⟨by rfl, ?_⟩) hHeld ?_ ?_
      rotate_left
      · rintro w' ⟨s0, s1, s2, s3, s4⟩
        go_simp
        with_reducible rfl
      rotate_left
      · simp only [Act.put, List.setIfInBounds_toArray, List.set_cons_zero, List.set_cons_succ]
        rfl
      refine pure_ (i := 23) (N := some 44) (v := ?_) (a' := ?_) #[true, true, true, true, true, true, true, true, true, true, true, true, true, true, true, true, true, true, true, true, true, true, true, true, false, false, true, true, true, false, false, false, false, false, false] rfl rfl (by kernel_rfl) (fun _ _ _ h => h) (Or.inl ⟨by rfl, ?_⟩) ?_ ?_
      rotate_left
      · intro w'
        go_simp
        with_reducible rfl
      rotate_left
      · simp only [Act.put, List.setIfInBounds_toArray, List.set_cons_zero, List.set_cons_succ]
        rfl
      refine pure_ (i := 24) (N := some 45) (v := ?_) (a' := ?_) #[true, true, true, true, true, true, true, true, true, true, true, true, true, true, true, true, true, true, true, true, true, true, true, true, true, false, true, true, true, false, false, false, false, false, false] rfl rfl (by kernel_rfl) (fun _ _ _ h => h) (Or.inl ⟨by rfl, ?_⟩) ?_ ?_
      rotate_left
      · intro w'
        go_simp
        with_reducible rfl
      rotate_left
      · simp only [Act.put, List.setIfInBounds_toArray, List.set_cons_zero, List.set_cons_succ]
        rfl
      refine pure_ (i := 25) (N := some 46) (v := ?_) (a' := ?_) #[true, true, true, true, true, true, true, true, true, true, true, true, true, true, true, true, true, true, true, true, true, true, true, true, true, true, true, true, true, false, false, false, false, false, false] rfl rfl (by kernel_rfl) (fun _ _ _ h => h) (Or.inl ⟨by rfl, ?_⟩) ?_ ?_
      rotate_left
      · intro w'
        go_simp
        with_reducible rfl
      rotate_left
      · simp only [Act.put, List.setIfInBounds_toArray, List.set_cons_zero, List.set_cons_succ]
        rfl
      refine take_ (i := 29) (N := some 50) (v := ?_) (a' := ?_) #[true, true, true, true, true, true, true, true, true, true, true, true, true, true, true, true, true, true, true, true, true, true, true, true, true, true, true, true, true, true, false, false, false, false, false] rfl rfl (by kernel_rfl) (fun _ _ _ h => h) (Or.inl ⟨by rfl, ?_⟩) hHeld ?_ ?_
      rotate_left
      · rintro w' ⟨s0, s1, s2, s3, s4⟩
        go_simp
        with_reducible rfl
      rotate_left
      · simp only [Act.put, List.setIfInBounds_toArray, List.set_cons_zero, List.set_cons_succ]
        rfl
      refine pure_ (i := 30) (N := some 51) (v := ?_) (a' := ?_) #[true, true, true, true, true, true, true, true, true, true, true, true, true, true, true, true, true, true, true, true, true, true, true, true, true, true, true, true, true, true, true, false, false, false, false] rfl rfl (by kernel_rfl) (fun _ _ _ h => h) (Or.inl ⟨by rfl, ?_⟩) ?_ ?_
      rotate_left
      · intro w'
        go_simp
        with_reducible rfl
      rotate_left
      · simp only [Act.put, List.setIfInBounds_toArray, List.set_cons_zero, List.set_cons_succ]
        rfl
      refine take_ (i := 31) (N := some 52) (v := ?_) (a' := ?_) #[true, true, true, true, true, true, true, true, true, true, true, true, true, true, true, true, true, true, true, true, true, true, true, true, true, true, true, true, true, true, true, true, false, false, false] rfl rfl (by kernel_rfl) (fun _ _ _ h => h) (Or.inl ⟨by rfl, ?_⟩) hHeld ?_ ?_
      rotate_left
      · rintro w' ⟨s0, s1, s2, s3, s4⟩
        go_simp
        with_reducible rfl
      rotate_left
      · simp only [Act.put, List.setIfInBounds_toArray, List.set_cons_zero, List.set_cons_succ]
        rfl
      refine pure_ (i := 32) (N := some 53) (v := ?_) (a' := ?_) #[true, true, true, true, true, true, true, true, true, true, true, true, true, true, true, true, true, true, true, true, true, true, true, true, true, true, true, true, true, true, true, true, true, false, false] rfl rfl (by kernel_rfl) (fun _ _ _ h => h) (Or.inl ⟨by rfl, ?_⟩) ?_ ?_
      rotate_left
      · intro w'
        go_simp
        with_reducible rfl
      rotate_left
      · simp only [Act.put, List.setIfInBounds_toArray, List.set_cons_zero, List.set_cons_succ]
        rfl
      refine pure_ (i := 33) (N := some 54) (v := ?_) (a' := ?_) #[true, true, true, true, true, true, true, true, true, true, true, true, true, true, true, true, true, true, true, true, true, true, true, true, true, true, true, true, true, true, true, true, true, true, false] rfl rfl (by kernel_rfl) (fun _ _ _ h => h) (Or.inl ⟨by rfl, ?_⟩) ?_ ?_
      rotate_left
      · intro w'
        go_simp
        with_reducible rfl
      rotate_left
      · simp only [Act.put, List.setIfInBounds_toArray, List.set_cons_zero, List.set_cons_succ]
        rfl
      refine pure_ (i := 34) (N := some 7) (v := ?_) (a' := ?_) #[true, true, true, true, true, true, true, true, true, true, true, true, true, true, true, true, true, true, true, true, true, true, true, true, true, true, true, true, true, true, true, true, true, true, true] rfl rfl (by kernel_rfl) (fun _ _ _ h => h) (Or.inl ⟨by rfl, ?_⟩) ?_ ?_
      rotate_left
      · intro w'
        go_simp
        with_reducible rfl
      rotate_left
      · simp only [Act.put, List.setIfInBounds_toArray, List.set_cons_zero, List.set_cons_succ]
        rfl
      refine done_ (by kernel_rfl) ?_
      obtain ⟨D, hD⟩ : ∃ D, D = v0 * 16777216 + v1 * 65536 + v2 * 256 + v3 := ⟨_, rfl⟩
      rw [← hD]
      have HD := Aside0.mk (show D = long4 bs ∧ 0 ≤ D ∧ D < 4294967296 by
        obtain ⟨a0, a1, a2, a3⟩ := HV.out
        have hg := GV.out
        refine ⟨?_, by omega, by omega⟩
        rw [hD, a0, a1, a2, a3]
        rfl)
      have BU := Aside0.mk (show Below w.heap.size w w.drew from below_drew1 (Below.refl _ _))
      have HU := Aside0.mk (HS.out.below BU.out)
      clear hD x0 x1 x2 x3 b0 b1 b2 b3 e0 e1 e2 e3 f0 f1 f2 o1 o2 o3 h4i q0 q1 q2 q3 q0n
      generalize w.drew = u at BU HU ⊢
      have GU := Aside0.mk (show GB (fun k => k = g) w u from GB.of_below BU.out)
      have x0 := cell_at (i := 0) HU.out.ptr rfl
      have x1 := cell_at (i := 1) HU.out.ptr rfl
      have x2 := cell_at (i := 2) HU.out.ptr rfl
      have x3 := cell_at (i := 3) HU.out.ptr rfl
      by_cases c3 : D > 35000
      · have C3 := Aside0.mk c3
        go_wp2_with fail
        refine (refuse_calls g vk (.slice (some ⟨gb, o, none⟩) bs.length cb) key n bs 0 3 u HU.out).mono ?_
        rintro e wq ⟨rfl, hS, hG⟩
        have HQ := Aside0.mk (And.intro hS hG)
        clear hS hG
        go_wp2_with fail
        simp only [Exit.jump]
        go_ret3
        rw [HR.out, nextF_long H4.out (by rw [← HD.out.1]; exact C3.out)]
        exact next_refuse HQ.out.1 (GU.out.trans HQ.out.2)
      · have C3 := Aside0.mk (show long4 bs ≤ 35000 by rw [← HD.out.1]; omega)
        by_cases c6 : D < 6
        · have C6 := Aside0.mk (show long4 bs < 6 by rw [← HD.out.1]; exact c6)
          go_wp2_with fail
          refine (refuse_calls g vk (.slice (some ⟨gb, o, none⟩) bs.length cb) key n bs 0 12 u HU.out).mono ?_
          rintro e wq ⟨rfl, hS, hG⟩
          have HQ := Aside0.mk (And.intro hS hG)
          clear hS hG
          go_wp2_with fail
          simp only [Exit.jump]
          go_ret3
          rw [HR.out, nextF_form H4.out C3.out (.inl C6.out)]
          exact next_refuse HQ.out.1 (GU.out.trans HQ.out.2)
        · have C6 := Aside0.mk (And.intro (show 6 ≤ long4 bs by rw [← HD.out.1]; omega) (show 6 ≤ D ∧ D ≤ 35000 by omega))
          rcases key with _ | k
          · obtain rfl : vk = .slice none 0 0 := HU.out.key
            have hq := fun w n c => bin_nil_ne (P := Try.prog) Try.underlying23 none w n c
            obtain ⟨m, hm⟩ : ∃ m, m = (D + 4) % 8 := ⟨_, rfl⟩
            have k8a : wrap64 (D + 4) = D + 4 := by
              have := C6.out.2
              rw [wrap_id (by omega) (by omega)]
            have k8b : IntKind.i64.wrap (D + 4) = D + 4 := by rw [i64_w, k8a]
            have k8 : ((D + 4)).tmod 8 = m := by
              have := C6.out.2
              rw [Int.tmod_eq_emod_of_nonneg (by omega), hm]
              skip
            have HMm := Aside0.mk hm
            clear hm
            go_wp2_with fail
            refine (beside_calls none 0 0 u).mono ?_
            rintro e u1 ⟨rfl, rfl⟩
            rw [show (if (none : Option Addr).isNone = true then (4 : Int) else 0) = 4 from rfl]
            by_cases c8 : m = 0
            · have HF := Aside0.mk (show 6 ≤ long4 bs ∧ (long4 bs + headN none) % 8 = 0 from ⟨C6.out.1, by rw [← HD.out.1]; show (D + 4) % 8 = 0; rw [← HMm.out]; exact c8⟩)
              subst c8
              obtain ⟨W, hW⟩ : ∃ W : Nat, W = 4 + (long4 bs).toNat + tagN none := ⟨_, rfl⟩
              have HWD := Aside0.mk (show (W : Int) = 4 + D + 0 ∧ 10 ≤ W ∧ W ≤ 36000 by
                have h1 := C6.out
                have h2 := HD.out.1
                have h3 : tagN none = 0 := rfl
                omega)
              skip
              have HWW := Aside0.mk hW
              clear hW
              by_cases c13 : bs.length < W
              · have HW3 := Aside0.mk (show bs.length < 4 + (long4 bs).toNat + tagN none by rw [← HWW.out]; exact c13)
                have c13i : (bs.length : Int) < (4 + D) := by have := HWD.out; omega
                go_wp2_with fail
                refine wp_goto ⟨rfl, ?_⟩
                go_wp2_with fail
                refine start_ (n := 7) (S := fun w' => w'.cell? ⟨g, 3, none⟩ = some (.int .i64 0)) (ds := []) #[false, false, false, false, false, false, false] (by kernel_rfl) rfl rfl (x3) (fun hHeld => ?_)
                refine pure_ (i := 0) (N := some 175) (v := ?_) (a' := ?_) #[true, false, false, false, false, false, false] rfl rfl (by kernel_rfl) (fun _ _ _ h => h) (Or.inl ⟨by rfl, ?_⟩) ?_ ?_
                rotate_left
                · intro w'
                  go_simp
                  with_reducible rfl
                rotate_left
                · simp only [Act.put, List.setIfInBounds_toArray, List.set_cons_zero, List.set_cons_succ]
                  rfl
                refine pure_ (i := 1) (N := some 176) (v := ?_) (a' := ?_) #[true, true, false, false, false, false, false] rfl rfl (by kernel_rfl) (fun _ _ _ h => h) (Or.inl ⟨by rfl, ?_⟩) ?_ ?_
                rotate_left
                · intro w'
                  go_simp
                  with_reducible rfl
                rotate_left
                · simp only [Act.put, List.setIfInBounds_toArray, List.set_cons_zero, List.set_cons_succ]
                  rfl
                refine pure_ (i := 2) (N := some 177) (v := ?_) (a' := ?_) #[true, true, true, false, false, false, false] rfl rfl (by kernel_rfl) (fun _ _ _ h => h) (Or.inl ⟨by rfl, ?_⟩) ?_ ?_
                rotate_left
                · intro w'
                  go_simp
                  with_reducible rfl
                rotate_left
                · simp only [Act.put, List.setIfInBounds_toArray, List.set_cons_zero, List.set_cons_succ]
                  rfl
                refine pure_ (i := 4) (N := some 2) (v := ?_) (a' := ?_) #[true, true, true, false, true, false, false] rfl rfl (by kernel_rfl) (fun _ _ _ h => h) (Or.inl ⟨by rfl, ?_⟩) ?_ ?_
                rotate_left
                · intro w'
                  go_simp
                  with_reducible rfl
                rotate_left
                · simp only [Act.put, List.setIfInBounds_toArray, List.set_cons_zero, List.set_cons_succ]
                  rfl
                refine pure_ (i := 5) (N := some 3) (v := ?_) (a' := ?_) #[true, true, true, false, true, true, false] rfl rfl (by kernel_rfl) (fun _ _ _ h => h) (Or.inl ⟨by rfl, ?_⟩) ?_ ?_
                rotate_left
                · intro w'
                  go_simp
                  with_reducible rfl
                rotate_left
                · simp only [Act.put, List.setIfInBounds_toArray, List.set_cons_zero, List.set_cons_succ]
                  rfl
                refine take_ (i := 3) (N := some 178) (v := ?_) (a' := ?_) #[true, true, true, true, true, true, false] rfl rfl (by kernel_rfl) (fun _ _ _ h => h) (Or.inl ⟨by rfl, ?_⟩) hHeld ?_ ?_
                rotate_left
                · intro w' s0
                  go_simp
                  with_reducible rfl
                rotate_left
                · simp only [Act.put, List.setIfInBounds_toArray, List.set_cons_zero, List.set_cons_succ]
                  rfl
                refine pure_ (i := 6) (N := some 4) (v := ?_) (a' := ?_) #[true, true, true, true, true, true, true] rfl rfl (by kernel_rfl) (fun _ _ _ h => h) (Or.inl ⟨by rfl, ?_⟩) ?_ ?_
                rotate_left
                · intro w'
                  go_simp
                  with_reducible rfl
                rotate_left
                · simp only [Act.put, List.setIfInBounds_toArray, List.set_cons_zero, List.set_cons_succ]
                  rfl
                refine done_ (by kernel_rfl) ?_
                go_wp2_with fail
                simp only [Exit.jump]
                go_ret3
                rw [HR.out, nextF_wait H4.out C3.out HF.out HW3.out]
                exact next_wait2 HU.out BU.out
              · have HW3 := Aside0.mk (show 4 + (long4 bs).toNat + tagN none ≤ bs.length by rw [← HWW.out]; omega)
                have c13i : ¬ ((bs.length : Int) < (4 + D)) := by have := HWD.out; omega
                obtain ⟨I0, hI0, hsz⟩ : ∃ i, Try.prog.info? 5 = some i ∧ i.size = 1 := ⟨_, rfl, rfl⟩
                obtain ⟨L, hL⟩ : ∃ L, L + 4 = W := ⟨W - 4, by have := HWD.out; omega⟩
                have hcut := cutM (P := Try.prog) Try.underlying23 hI0 hsz gb o bs.length cb 4 W L (by omega) (by omega) CB.out.2 (by have := CB.out.2; have := HWD.out; omega) hL
                rw [show ((4 : Nat) : Int) = 4 from rfl, show (W : Int) = (4 + D) by have := HWD.out; omega] at hcut
                have HCB := Aside0.mk (C_cut (Kd.C_below CB.out.1 BU.out) CB.out.2 (show 4 ≤ W by omega) (show W ≤ bs.length by omega) (by have := CB.out.2; have := HWD.out; omega) hL)
                obtain ⟨B, hB⟩ : ∃ B, B = (bs.take W).drop 4 := ⟨_, rfl⟩
                have HBB := Aside0.mk hB
                have HLW := Aside0.mk (And.intro hL (And.intro (show W ≤ bs.length by omega) (And.intro hI0 hsz)))
                have HBY := Aside0.mk (show ∀ x ∈ B, 0 ≤ x ∧ x < 256 by rw [hB]; exact bytes_cut HB.out 4 W)
                rw [← hB] at HCB
                clear c13 hL hB hI0 hsz
                go_upto_region 20 with fail
                have HBC := Aside0.mk (And.intro HCB.out.1 (show L ≤ cb - 4 by have := CB.out.2; have := HLW.out; omega))
                have HLx := Aside0.mk (show 1 ≤ L ∧ L ≤ 40000 by have := HWD.out; have := HLW.out; omega)
                have GA := Aside0.mk (show gb ≠ g from HS.out.obg gb rfl)
                have HEQ := Aside0.mk (show nextF none n bs 0 = takeF n bs B W by rw [HBB.out, HWW.out]; exact nextF_plain H4.out C3.out HF.out HW3.out)
                clear hq hcut c13i
                have p0 := C_head HBC.out.1 (by have := HLx.out; omega)
                obtain ⟨pv, hpv⟩ : ∃ p, p = B.getD 0 0 := ⟨_, rfl⟩
                rw [← hpv] at p0
                have hpb : 0 ≤ pv ∧ pv < 256 := by rw [hpv]; exact getD_b HBY.out 0
                have hLn : B.length = L := Kd.C_len HBC.out.1
                have kp : IntKind.i64.wrap pv = pv := by rw [i64_w, wrap_id (by omega) (by omega)]
                have kp1 : IntKind.i64.wrap (pv + 1) = pv + 1 := by rw [i64_w, wrap_id (by omega) (by omega)]
                have kp2 : wrap64 (pv + 1) = pv + 1 := by rw [wrap_id (by omega) (by omega)]
                have r0 : (0 : Int) < (L : Int) := by have := HLx.out; omega
                have r0n : 0 < L := by have := HLx.out; omega
                have HPV := Aside0.mk (And.intro hpv (And.intro hpb hLn))
                clear hpv hLn
                by_cases cp : pv < 4
                · have CPA := Aside0.mk cp
                  go_wp2_with fail
                  refine (refuse_calls g (.slice none 0 0) (.slice (some ⟨gb, o, none⟩) bs.length cb) none n bs 0 12 u1 HU.out).mono ?_
                  rintro e wq ⟨rfl, hS, hG⟩
                  have HQ := Aside0.mk (And.intro hS hG)
                  clear hS hG
                  go_wp2_with fail
                  simp only [Exit.jump]
                  go_ret3
                  rw [HR.out, HEQ.out, takeF_bad (by rw [← HPV.out.1]; exact .inl CPA.out)]
                  exact next_refuse HQ.out.1 (GU.out.trans HQ.out.2)
                · by_cases cq : pv + 1 ≥ (L : Int)
                  · have CQ := Aside0.mk cq
                    go_wp2_with fail
                    refine (refuse_calls g (.slice none 0 0) (.slice (some ⟨gb, o, none⟩) bs.length cb) none n bs 0 12 u1 HU.out).mono ?_
                    rintro e wq ⟨rfl, hS, hG⟩
                    have HQ := Aside0.mk (And.intro hS hG)
                    clear hS hG
                    go_wp2_with fail
                    simp only [Exit.jump]
                    go_ret3
                    rw [HR.out, HEQ.out, takeF_bad (by rw [← HPV.out.1, HPV.out.2.2]; exact .inr CQ.out)]
                    exact next_refuse HQ.out.1 (GU.out.trans HQ.out.2)
                  · have CPQ := Aside0.mk (show 4 ≤ pv ∧ pv + 1 < (L : Int) by omega)
                    have y1 := cell_at (i := 1) HU.out.ptr rfl
                    have y2 := frozen_at (i := 1) HU.out.ptr
                    have k64 : IntKind.u64.wrap (n + 1) = n + 1 := by
                      have : IntKind.u64.wrap (n + 1) = (n + 1) % 18446744073709551616 := by simp [IntKind.wrap, IntKind.bits, IntKind.signed]
                      have := HN.out
                      omega
                    go_upto_region 24 with fail
                    have PT := Aside0.mk (blk_sets (i := 1) HU.out.ptr (.int .u64 (n + 1)) rfl)
                    have SG := Aside0.mk (show GB (fun k => k = g) u1 (u1.setCell ⟨g, 1, none⟩ (.int .u64 (n + 1))) from GB.set (S := fun k => k = g) (GB.refl _ _) (show (⟨g, 1, none⟩ : Addr).block = g from rfl) _)
                    clear y1 y2 k64 p0 x0 x1 x2 x3 kp kp1 kp2 r0 r0n cp cq hpb
                    generalize u1.setCell ⟨g, 1, none⟩ (.int .u64 (n + 1)) = z1 at PT SG ⊢
                    have x2 := cell_at (i := 2) PT.out rfl
                    obtain ⟨H, hH⟩ : ∃ H : Nat, H = L - pv.toNat := ⟨_, rfl⟩
                    have kH : wrap64 ((L : Int) - pv) = (L : Int) - pv := by
                      have h1 := HPV.out.2.1
                      have h2 := CPQ.out
                      have h3 := HLx.out
                      rw [wrap_id (by omega) (by omega)]
                    obtain ⟨M, hM⟩ : ∃ M, M + 1 = H := ⟨H - 1, by have h2 := CPQ.out; have h1 := HPV.out.2.1; omega⟩
                    have hHL : H ≤ L := by omega
                    have hcut2 := cutM (P := Try.prog) Try.underlying23 HLW.out.2.2.1 HLW.out.2.2.2 gb (o + 4) L (cb - 4) 1 H M (by omega) hHL HBC.out.2 (by have := HBC.out.2; have := HLx.out; have := CPQ.out; omega) hM
                    rw [show ((1 : Nat) : Int) = 1 from rfl, show (H : Int) = (L : Int) - pv by have h1 := HPV.out.2.1; have h2 := CPQ.out; omega] at hcut2
                    have k24 : (1 : Int) ≤ (L : Int) - pv := by have h2 := CPQ.out; omega
                    have k25 : (L : Int) - pv ≤ (L : Int) := by have h2 := CPQ.out; omega
                    have hC1 := C_cut (C_gb HBC.out.1 SG.out (by intro ad e _ h; cases e; exact GA.out h)) HBC.out.2 (show 1 ≤ H by omega) hHL (by have := HBC.out.2; have := HLx.out; have := CPQ.out; omega) hM
                    skip
                    have HC1 := Aside0.mk hC1
                    have HHM := Aside0.mk (And.intro hH hM)
                    clear hH hM hHL hC1
                    go_wp2_with fail
                    obtain ⟨pl, hpl⟩ : ∃ p, p = (B.take H).drop 1 := ⟨_, rfl⟩
                    rw [← hpl] at HC1
                    have HPL := Aside0.mk hpl
                    clear hpl
                    have hcl := slices_Clone.calls (some ⟨gb, (o + 4) + 1, none⟩) ((cb - 4) - 1) pl z1 (by rw [HC1.out.2]; exact HC1.out.1) (by rw [HC1.out.2]; have := HBC.out.2; have := HHM.out; omega) (by rw [HC1.out.2]; have := HLx.out; have := HHM.out; omega)
                    rw [HC1.out.2] at hcl
                    refine hcl.mono ?_
                    rintro e z2 ⟨v2, rfl, hR, hB2⟩
                    obtain ⟨Av, cv, rfl, _⟩ := Kd.R_reads hR
                    have RV := Aside0.mk (Kd.R_lower hR (show w.heap.size ≤ z1.heap.size from Nat.le_trans GU.out.size SG.out.size))
                    have hglt : g < z1.heap.size := (Array.getElem?_eq_some_iff.1 PT.out).1
                    have PT2 := Aside0.mk ((hB2.block g hglt).trans PT.out)
                    have G2 := Aside0.mk ((GU.out.trans SG.out).trans (GB.of_below hB2))
                    have y1 := cell_at (i := 2) PT2.out rfl
                    have y2 := frozen_at (i := 2) PT2.out
                    have hcut3 := cut_from (P := Try.prog) 23 5 .i64 Try.underlying23 HLW.out.2.2.1 1 HLW.out.2.2.2 (some ⟨gb, o, none⟩) bs.length cb (W : Int) (by omega) (by have := HLW.out.2.1; omega)
                    rw [Int.toNat_natCast, show (W : Int) = (4 + D) by have := HWD.out; omega] at hcut3
                    obtain ⟨A3, hA3⟩ : ∃ A3, A3 = (if cb = W then (some ⟨gb, o, none⟩ : Option Addr) else (some (⟨gb, o, none⟩ : Addr)).map (·.add (W * 1))) := ⟨_, rfl⟩
                    rw [← hA3] at hcut3
                    have HA3 := Aside0.mk hA3
                    have c3a : (4 + D) ≤ (bs.length : Int) := by have := HLW.out.2.1; have := HWD.out; omega
                    clear hcl hR hB2 hglt kH hcut2 hA3 x2
                    go_wp2_with fail
                    simp only [Exit.jump]
                    go_ret3
                    have hgb := GB.set (S := fun k => k = g) G2.out (show (⟨g, 2, none⟩ : Addr).block = g from rfl) (.slice A3 (bs.length - W) (cb - W))
                    have hown : ∀ b, (Value.slice A3 (bs.length - W) (cb - W)).ownBlock = some b → b = gb := by
                      intro b hb
                      rw [HA3.out] at hb
                      split at hb
                      · cases hb; rfl
                      · rw [Option.map_some, add_at] at hb
                        cases hb; rfl
                    rw [HR.out, HEQ.out, takeF_ok (by rw [← HPV.out.1]; exact CPQ.out.1) (by rw [← HPV.out.1, HPV.out.2.2]; exact CPQ.out.2)]
                    refine ⟨_, .slice A3 (bs.length - W) (cb - W), rfl, ?_, ⟨blk_sets (i := 2) PT2.out _ rfl, HS.out.key.keep hgb HS.out.okg, ?_, HS.out.okg, ?_, ?_⟩, ?_, hgb⟩
                    · have h := R_set_far (i := 2) RV.out HS.out.lt (.slice A3 (bs.length - W) (cb - W))
                      rw [← HPV.out.1, HPV.out.2.2]
                      show (Kd.int .u8).R _ _ _ _ _ ((B.take (L - pv.toNat)).drop 1)
                      rw [← HHM.out.1, ← HPL.out]
                      exact h
                    · have h := HS.out.row.drop W HLW.out.2.1
                      rw [← HA3.out] at h
                      exact h.keep hgb (fun b hb he => by rw [hown b hb] at he; exact HS.out.obg gb rfl he)
                    · intro b hb he
                      rw [hown b hb] at he
                      exact HS.out.obg gb rfl he
                    · intro b hb he
                      rw [hown b he] at hb
                      exact HS.out.okb gb hb rfl
                    · intro b hb
                      rw [hown b hb]
                      rfl
            · have c8b : (m != 0) = true := by simp [c8]
              have C8 := Aside0.mk (show (long4 bs + headN none) % 8 ≠ 0 by rw [← HD.out.1]; show (D + 4) % 8 ≠ 0; rw [← HMm.out]; exact c8)
              clear c8
              go_wp2_with fail
              refine (refuse_calls g (.slice none 0 0) (.slice (some ⟨gb, o, none⟩) bs.length cb) none n bs 0 12 u1 HU.out).mono ?_
              rintro e wq ⟨rfl, hS, hG⟩
              have HQ := Aside0.mk (And.intro hS hG)
              clear hS hG
              go_wp2_with fail
              simp only [Exit.jump]
              go_ret3
              rw [HR.out, nextF_form H4.out C3.out (.inr C8.out)]
              exact next_refuse HQ.out.1 (GU.out.trans HQ.out.2)
          · obtain ⟨gk, ck, rfl, hck, hkl, hkC⟩ := HU.out.key
            have hq := fun w n c => bin_nil_ne (P := Try.prog) Try.underlying23 (some ⟨gk, 0, none⟩) w n c
            obtain ⟨m, hm⟩ : ∃ m, m = (D + 0) % 8 := ⟨_, rfl⟩
            have k8a : wrap64 (D) = D := by
              have := C6.out.2
              rw [wrap_id (by omega) (by omega)]
            have k8b : IntKind.i64.wrap (D) = D := by rw [i64_w, k8a]
            have k8 : (D).tmod 8 = m := by
              have := C6.out.2
              rw [Int.tmod_eq_emod_of_nonneg (by omega), hm]
              rw [Int.add_zero]
            have HMm := Aside0.mk hm
            clear hm
            go_wp2_with fail
            refine (beside_calls (some ⟨gk, 0, none⟩) 32 ck u).mono ?_
            rintro e u1 ⟨rfl, rfl⟩
            rw [show (if ((some ⟨gk, 0, none⟩) : Option Addr).isNone = true then (4 : Int) else 0) = 0 from rfl]
            by_cases c8 : m = 0
            · have HF := Aside0.mk (show 6 ≤ long4 bs ∧ (long4 bs + headN (some k)) % 8 = 0 from ⟨C6.out.1, by rw [← HD.out.1]; show (D + 0) % 8 = 0; rw [← HMm.out]; exact c8⟩)
              subst c8
              obtain ⟨W, hW⟩ : ∃ W : Nat, W = 4 + (long4 bs).toNat + tagN (some k) := ⟨_, rfl⟩
              have HWD := Aside0.mk (show (W : Int) = 4 + D + 16 ∧ 10 ≤ W ∧ W ≤ 36000 by
                have h1 := C6.out
                have h2 := HD.out.1
                have h3 : tagN (some k) = 16 := rfl
                omega)
              have CK := Aside0.mk (And.intro hkC (And.intro hck hkl))
              clear hkC hck hkl
              have HWW := Aside0.mk hW
              clear hW
              by_cases c13 : bs.length < W
              · have HW3 := Aside0.mk (show bs.length < 4 + (long4 bs).toNat + tagN (some k) by rw [← HWW.out]; exact c13)
                have c13i : (bs.length : Int) < (4 + D + 16) := by have := HWD.out; omega
                go_wp2_with fail
                refine wp_goto ⟨rfl, ?_⟩
                go_wp2_with fail
                refine start_ (n := 7) (S := fun w' => w'.cell? ⟨g, 3, none⟩ = some (.int .i64 0)) (ds := []) #[false, false, false, false, false, false, false] (by kernel_rfl) rfl rfl (x3) (fun hHeld => ?_)
                refine pure_ (i := 0) (N := some 175) (v := ?_) (a' := ?_) #[true, false, false, false, false, false, false] rfl rfl (by kernel_rfl) (fun _ _ _ h => h) (Or.inl ⟨by rfl, ?_⟩) ?_ ?_
                rotate_left
                · intro w'
                  go_simp
                  with_reducible rfl
                rotate_left
                · simp only [Act.put, List.setIfInBounds_toArray, List.set_cons_zero, List.set_cons_succ]
                  rfl
                refine pure_ (i := 1) (N := some 176) (v := ?_) (a' := ?_) #[true, true, false, false, false, false, false] rfl rfl (by kernel_rfl) (fun _ _ _ h => h) (Or.inl ⟨by rfl, ?_⟩) ?_ ?_
                rotate_left
                · intro w'
                  go_simp
                  with_reducible rfl
                rotate_left
                · simp only [Act.put, List.setIfInBounds_toArray, List.set_cons_zero, List.set_cons_succ]
                  rfl
                refine pure_ (i := 2) (N := some 177) (v := ?_) (a' := ?_) #[true, true, true, false, false, false, false] rfl rfl (by kernel_rfl) (fun _ _ _ h => h) (Or.inl ⟨by rfl, ?_⟩) ?_ ?_
                rotate_left
                · intro w'
                  go_simp
                  with_reducible rfl
                rotate_left
                · simp only [Act.put, List.setIfInBounds_toArray, List.set_cons_zero, List.set_cons_succ]
                  rfl
                refine pure_ (i := 4) (N := some 2) (v := ?_) (a' := ?_) #[true, true, true, false, true, false, false] rfl rfl (by kernel_rfl) (fun _ _ _ h => h) (Or.inl ⟨by rfl, ?_⟩) ?_ ?_
                rotate_left
                · intro w'
                  go_simp
                  with_reducible rfl
                rotate_left
                · simp only [Act.put, List.setIfInBounds_toArray, List.set_cons_zero, List.set_cons_succ]
                  rfl
                refine pure_ (i := 5) (N := some 3) (v := ?_) (a' := ?_) #[true, true, true, false, true, true, false] rfl rfl (by kernel_rfl) (fun _ _ _ h => h) (Or.inl ⟨by rfl, ?_⟩) ?_ ?_
                rotate_left
                · intro w'
                  go_simp
                  with_reducible rfl
                rotate_left
                · simp only [Act.put, List.setIfInBounds_toArray, List.set_cons_zero, List.set_cons_succ]
                  rfl
                refine take_ (i := 3) (N := some 178) (v := ?_) (a' := ?_) #[true, true, true, true, true, true, false] rfl rfl (by kernel_rfl) (fun _ _ _ h => h) (Or.inl ⟨by rfl, ?_⟩) hHeld ?_ ?_
                rotate_left
                · intro w' s0
                  go_simp
                  with_reducible rfl
                rotate_left
                · simp only [Act.put, List.setIfInBounds_toArray, List.set_cons_zero, List.set_cons_succ]
                  rfl
                refine pure_ (i := 6) (N := some 4) (v := ?_) (a' := ?_) #[true, true, true, true, true, true, true] rfl rfl (by kernel_rfl) (fun _ _ _ h => h) (Or.inl ⟨by rfl, ?_⟩) ?_ ?_
                rotate_left
                · intro w'
                  go_simp
                  with_reducible rfl
                rotate_left
                · simp only [Act.put, List.setIfInBounds_toArray, List.set_cons_zero, List.set_cons_succ]
                  rfl
                refine done_ (by kernel_rfl) ?_
                go_wp2_with fail
                simp only [Exit.jump]
                go_ret3
                rw [HR.out, nextF_wait H4.out C3.out HF.out HW3.out]
                exact next_wait2 HU.out BU.out
              · have HW3 := Aside0.mk (show 4 + (long4 bs).toNat + tagN (some k) ≤ bs.length by rw [← HWW.out]; omega)
                have c13i : ¬ ((bs.length : Int) < (4 + D + 16)) := by have := HWD.out; omega
                obtain ⟨I0, hI0, hsz⟩ : ∃ i, Try.prog.info? 5 = some i ∧ i.size = 1 := ⟨_, rfl, rfl⟩
                obtain ⟨L, hL⟩ : ∃ L, L + 4 = W := ⟨W - 4, by have := HWD.out; omega⟩
                have hcut := cutM (P := Try.prog) Try.underlying23 hI0 hsz gb o bs.length cb 4 W L (by omega) (by omega) CB.out.2 (by have := CB.out.2; have := HWD.out; omega) hL
                rw [show ((4 : Nat) : Int) = 4 from rfl, show (W : Int) = (4 + D + 16) by have := HWD.out; omega] at hcut
                have HCB := Aside0.mk (C_cut (Kd.C_below CB.out.1 BU.out) CB.out.2 (show 4 ≤ W by omega) (show W ≤ bs.length by omega) (by have := CB.out.2; have := HWD.out; omega) hL)
                obtain ⟨B, hB⟩ : ∃ B, B = (bs.take W).drop 4 := ⟨_, rfl⟩
                have HBB := Aside0.mk hB
                have HLW := Aside0.mk (And.intro hL (And.intro (show W ≤ bs.length by omega) (And.intro hI0 hsz)))
                have HBY := Aside0.mk (show ∀ x ∈ B, 0 ≤ x ∧ x < 256 by rw [hB]; exact bytes_cut HB.out 4 W)
                rw [← hB] at HCB
                clear c13 hL hB hI0 hsz
                go_upto_region 17 with fail
                change Code.wp _ _ _ _ u1
                clear hq hcut c13i x0 x1 x2 x3
                have X0 := Aside0.mk (fun (w' : World) (h : Below u1.heap.size u1 w') => And.intro (cell_at (i := 0) (HU.out.below h).ptr rfl) (And.intro (cell_at (i := 1) (HU.out.below h).ptr rfl) (cell_at (i := 2) (HU.out.below h).ptr rfl)))
                have hcut4 := cut_to (P := Try.prog) 23 5 .i64 Try.underlying23 HLW.out.2.2.1 (some ⟨gb, o, none⟩) bs.length cb 4 (by decide) (by have := H4.out; omega) CB.out.2
                rw [show (4 : Int).toNat = 4 from rfl] at hcut4
                have HT4 := Aside0.mk (show (Kd.int .u8).C u1 (some ⟨gb, o, none⟩) 4 (bs.take 4) by
                  have h := Kd.C_take (m := 4) (Kd.C_below CB.out.1 BU.out) H4.out
                  rw [List.length_take, Nat.min_eq_left H4.out] at h
                  exact h)
                obtain ⟨X, hX⟩ : ∃ z, z = (openAns k (nonceF n) (bs.take 4) B).1 := ⟨_, rfl⟩
                obtain ⟨ex, hex⟩ : ∃ z, z = (openAns k (nonceF n) (bs.take 4) B).2 := ⟨_, rfl⟩
                have HX := Aside0.mk (And.intro hX hex)
                have CKU := CK
                have CK := Aside0.mk (And.intro CKU.out.1 CKU.out.2.1)
                have FS := Aside0.mk (fun (A9 : Option Addr) (c9 : Nat) (W0 : World) (h1 : (Kd.int .u8).C W0 (some ⟨gk, 0, none⟩) 32 k) (h2 : (Kd.int .u8).C W0 A9 12 (nonceF n) ∧ 12 ≤ c9) (h3 : (Kd.int .u8).C W0 (some ⟨gb, o, none⟩) 4 (bs.take 4)) (h4 : (Kd.int .u8).C W0 (some ⟨gb, o + 4, none⟩) L B) => show Calls Try.prog 44 #[.slice (some ⟨gk, 0, none⟩) 32 ck, .slice A9 12 c9, .slice (some ⟨gb, o, none⟩) 4 cb, .slice (some ⟨gb, o + 4, none⟩) L (cb - 4)] W0 fun e w' => ∃ v0_ : Value, e = .returned (.tuple #[v0_, .int .i64 ex]) ∧ Kd.R (Kd.int .u8) 5 w' W0.heap.size (fun _ => True) v0_ X ∧ Below W0.heap.size W0 w' from by
                  have hkl : k.length = 32 := Kd.C_len h1
                  have h4l : (bs.take 4).length = 4 := Kd.C_len h3
                  have hbl : B.length = L := Kd.C_len h4
                  have hh := aead_Open.calls (some ⟨gk, 0, none⟩) ck k A9 c9 (nonceF n) (some ⟨gb, o, none⟩) cb (bs.take 4) (some ⟨gb, o + 4, none⟩) (cb - 4) B X ex W0 (by rw [hkl]; exact h1) (by rw [hkl]; exact CK.out.2) h2.1 h2.2 (by rw [h4l]; exact h3) (by rw [h4l]; have := CB.out.2; have := H4.out; omega) (by rw [hbl]; exact h4) (by rw [hbl]; have := CB.out.2; have := HLW.out; omega) (by unfold aead_Open.f; rw [if_pos ⟨by rw [h4l]; decide, by rw [hbl]; have := HWD.out; have := HLW.out; omega⟩, hX, hex])
                  rw [hkl, h4l, hbl] at hh
                  exact hh)
                clear hX hex
                refine start_ (n := 21) (S := fun w' => Below u1.heap.size u1 w') (ds := []) #[false, false, false, false, false, false, false, false, false, false, false, false, false, false, false, false, false, false, false, false, false] (by kernel_rfl) rfl rfl ((below_drew1 (Below.refl _ _))) (fun hHeld => ?_)
                refine pure_ (i := 0) (N := some 108) (v := ?_) (a' := ?_) #[true, false, false, false, false, false, false, false, false, false, false, false, false, false, false, false, false, false, false, false, false] rfl rfl (by kernel_rfl) (fun _ _ _ h => h) (Or.inl ⟨by rfl, ?_⟩) ?_ ?_
                rotate_left
                · intro w'
                  go_simp
                  with_reducible rfl
                rotate_left
                · simp only [Act.put, List.setIfInBounds_toArray, List.set_cons_zero, List.set_cons_succ]
                  rfl
                refine pure_ (i := 1) (N := some 109) (v := ?_) (a' := ?_) #[true, true, false, false, false, false, false, false, false, false, false, false, false, false, false, false, false, false, false, false, false] rfl rfl (by kernel_rfl) (fun _ _ _ h => h) (Or.inl ⟨by rfl, ?_⟩) ?_ ?_
                rotate_left
                · intro w'
                  go_simp
                  with_reducible rfl
                rotate_left
                · simp only [Act.put, List.setIfInBounds_toArray, List.set_cons_zero, List.set_cons_succ]
                  rfl
                refine pure_ (i := 2) (N := some 110) (v := ?_) (a' := ?_) #[true, true, true, false, false, false, false, false, false, false, false, false, false, false, false, false, false, false, false, false, false] rfl rfl (by kernel_rfl) (fun _ _ _ h => h) (Or.inl ⟨by rfl, ?_⟩) ?_ ?_
                rotate_left
                · intro w'
                  go_simp
                  with_reducible rfl
                rotate_left
                · simp only [Act.put, List.setIfInBounds_toArray, List.set_cons_zero, List.set_cons_succ]
                  rfl
                refine pure_ (i := 4) (N := some 112) (v := ?_) (a' := ?_) #[true, true, true, false, true, false, false, false, false, false, false, false, false, false, false, false, false, false, false, false, false] rfl rfl (by kernel_rfl) (fun _ _ _ h => h) (Or.inl ⟨by rfl, ?_⟩) ?_ ?_
                rotate_left
                · intro w'
                  go_simp
                  with_reducible rfl
                rotate_left
                · simp only [Act.put, List.setIfInBounds_toArray, List.set_cons_zero, List.set_cons_succ]
                  rfl
                refine pure_ (i := 5) (N := some 113) (v := ?_) (a' := ?_) #[true, true, true, false, true, true, false, false, false, false, false, false, false, false, false, false, false, false, false, false, false] rfl rfl (by kernel_rfl) (fun _ _ _ h => h) (Or.inl ⟨by rfl, ?_⟩) ?_ ?_
                rotate_left
                · intro w'
                  go_simp
                  with_reducible rfl
                rotate_left
                · simp only [Act.put, List.setIfInBounds_toArray, List.set_cons_zero, List.set_cons_succ]
                  rfl
                refine pure_ (i := 6) (N := some 114) (v := ?_) (a' := ?_) #[true, true, true, false, true, true, true, false, false, false, false, false, false, false, false, false, false, false, false, false, false] rfl rfl (by kernel_rfl) (fun _ _ _ h => h) (Or.inl ⟨by rfl, ?_⟩) ?_ ?_
                rotate_left
                · intro w'
                  go_simp
                  with_reducible rfl
                rotate_left
                · simp only [Act.put, List.setIfInBounds_toArray, List.set_cons_zero, List.set_cons_succ]
                  rfl
                refine pure_ (i := 9) (N := some 117) (v := ?_) (a' := ?_) #[true, true, true, false, true, true, true, false, false, true, false, false, false, false, false, false, false, false, false, false, false] rfl rfl (by kernel_rfl) (fun _ _ _ h => h) (Or.inl ⟨by rfl, ?_⟩) ?_ ?_
                rotate_left
                · intro w'
                  go_simp
                  with_reducible rfl
                rotate_left
                · simp only [Act.put, List.setIfInBounds_toArray, List.set_cons_zero, List.set_cons_succ]
                  rfl
                refine pure_ (i := 10) (N := some 118) (v := ?_) (a' := ?_) #[true, true, true, false, true, true, true, false, false, true, true, false, false, false, false, false, false, false, false, false, false] rfl rfl (by kernel_rfl) (fun _ _ _ h => h) (Or.inl ⟨by rfl, ?_⟩) ?_ ?_
                rotate_left
                · intro w'
                  go_simp
                  with_reducible rfl
                rotate_left
                · simp only [Act.put, List.setIfInBounds_toArray, List.set_cons_zero, List.set_cons_succ]
                  rfl
                refine pure_ (i := 11) (N := some 119) (v := ?_) (a' := ?_) #[true, true, true, false, true, true, true, false, false, true, true, true, false, false, false, false, false, false, false, false, false] rfl rfl (by kernel_rfl) (fun _ _ _ h => h) (Or.inl ⟨by rfl, ?_⟩) ?_ ?_
                rotate_left
                · intro w'
                  go_simp
                  with_reducible rfl
                rotate_left
                · simp only [Act.put, List.setIfInBounds_toArray, List.set_cons_zero, List.set_cons_succ]
                  rfl
                refine pure_ (i := 14) (N := some 122) (v := ?_) (a' := ?_) #[true, true, true, false, true, true, true, false, false, true, true, true, false, false, true, false, false, false, false, false, false] rfl rfl (by kernel_rfl) (fun _ _ _ h => h) (Or.inl ⟨by rfl, ?_⟩) ?_ ?_
                rotate_left
                · intro w'
                  go_simp
                  with_reducible rfl
                rotate_left
                · simp only [Act.put, List.setIfInBounds_toArray, List.set_cons_zero, List.set_cons_succ]
                  rfl
                refine take_ (i := 3) (N := some 111) (v := ?_) (a' := ?_) #[true, true, true, true, true, true, true, false, false, true, true, true, false, false, true, false, false, false, false, false, false] rfl rfl (by kernel_rfl) (fun _ _ _ h => h) (Or.inl ⟨by rfl, ?_⟩) hHeld ?_ ?_
                rotate_left
                · intro w' s0
                  obtain ⟨c0_, c1_, c2_⟩ := X0.out w' s0
                  go_simp
                  with_reducible rfl
                rotate_left
                · simp only [Act.put, List.setIfInBounds_toArray, List.set_cons_zero, List.set_cons_succ]
                  rfl
                refine take_ (i := 7) (N := some 115) (v := ?_) (a' := ?_) #[true, true, true, true, true, true, true, true, false, true, true, true, false, false, true, false, false, false, false, false, false] rfl rfl (by kernel_rfl) (fun _ _ _ h => h) (Or.inl ⟨by rfl, ?_⟩) hHeld ?_ ?_
                rotate_left
                · intro w' s0
                  obtain ⟨c0_, c1_, c2_⟩ := X0.out w' s0
                  go_simp
                  with_reducible rfl
                rotate_left
                · simp only [Act.put, List.setIfInBounds_toArray, List.set_cons_zero, List.set_cons_succ]
                  rfl
                refine take_ (i := 12) (N := some 120) (v := ?_) (a' := ?_) #[true, true, true, true, true, true, true, true, false, true, true, true, true, false, true, false, false, false, false, false, false] rfl rfl (by kernel_rfl) (fun _ _ _ h => h) (Or.inl ⟨by rfl, ?_⟩) hHeld ?_ ?_
                rotate_left
                · intro w' s0
                  obtain ⟨c0_, c1_, c2_⟩ := X0.out w' s0
                  go_simp
                  with_reducible rfl
                rotate_left
                · simp only [Act.put, List.setIfInBounds_toArray, List.set_cons_zero, List.set_cons_succ]
                  rfl
                refine pure_ (i := 13) (N := some 121) (v := ?_) (a' := ?_) #[true, true, true, true, true, true, true, true, false, true, true, true, true, true, true, false, false, false, false, false, false] rfl rfl (by kernel_rfl) (fun _ _ _ h => h) (Or.inl ⟨by rfl, ?_⟩) ?_ ?_
                rotate_left
                · intro w'
                  go_simp
                  with_reducible rfl
                rotate_left
                · simp only [Act.put, List.setIfInBounds_toArray, List.set_cons_zero, List.set_cons_succ]
                  rfl
                refine one_ (i := 8) (N := some 116) #[true, true, true, true, true, true, true, true, true, true, true, true, true, true, true, false, false, false, false, false, false] rfl rfl (by kernel_rfl) (by decide) (fun K hK => ?_)
                refine goes_ Try.func36 (by kernel_rfl) rfl #[.int .u64 n] (by rfl) rfl rfl (by simp only [List.map_toArray, List.map_cons, List.map_nil]; rfl) ?_
                with_reducible refine (nonce_calls n _ (by have := HN.out; omega)).mono ?_
                rintro e w7 ⟨v7, rfl, hR7, hB7⟩
                refine ⟨_, rfl, ?_⟩
                have n7 := below_step hHeld hB7
                obtain ⟨A7, c7, rfl, hc7, hC7⟩ := Kd.R_reads hR7
                rw [show (nonceF n).length = 12 from rfl] at hc7 hC7 ⊢
                have C7 := Aside0.mk (And.intro hC7 hc7)
                clear hR7 hB7 hc7 hC7
                refine hK.out _ _ (n7) (fun hHeld => ?_)
                clear hK K
                refine norm_ (a' := ?_) ?_ ?_
                rotate_left
                · show Act.put _ (some 116) _ = _
                  simp only [Act.put, List.setIfInBounds_toArray, List.set_cons_zero, List.set_cons_succ]
                  rfl
                refine one_ (i := 15) (N := some 123) #[true, true, true, true, true, true, true, true, true, true, true, true, true, true, true, true, false, false, false, false, false] rfl rfl (by kernel_rfl) (by decide) (fun K hK => ?_)
                refine goes_ Try.func44 (by kernel_rfl) rfl #[.slice (some ⟨gk, 0, none⟩) 32 ck, .slice A7 12 c7, .slice (some ⟨gb, o, none⟩) 4 cb, .slice (some ⟨gb, o + 4, none⟩) L (cb - 4)] (by rfl) rfl rfl (by simp only [List.map_toArray, List.map_cons, List.map_nil]; rfl) ?_
                with_reducible refine (FS.out A7 c7 _ (Kd.C_below CK.out.1 hHeld) C7.out (Kd.C_below HT4.out hHeld) (Kd.C_below HCB.out.1 hHeld)).mono ?_
                rintro e w8 ⟨v8, rfl, hR8, hB8⟩
                refine ⟨_, rfl, ?_⟩
                have n8 := below_step hHeld hB8
                have Z8 := Aside0.mk (Kd.R_lower hR8 (show w.heap.size ≤ _ from Nat.le_trans BU.out.size hHeld.size))
                clear hR8 hB8 C7
                refine hK.out _ _ (n8) (fun hHeld => ?_)
                clear hK K
                refine norm_ (a' := ?_) ?_ ?_
                rotate_left
                · show Act.put _ (some 123) _ = _
                  simp only [Act.put, List.setIfInBounds_toArray, List.set_cons_zero, List.set_cons_succ]
                  rfl
                refine pure_ (i := 16) (N := some 107) (v := ?_) (a' := ?_) #[true, true, true, true, true, true, true, true, true, true, true, true, true, true, true, true, true, false, false, false, false] rfl rfl (by kernel_rfl) (fun _ _ _ h => h) (Or.inl ⟨by rfl, ?_⟩) ?_ ?_
                rotate_left
                · intro w'
                  go_simp
                  with_reducible rfl
                rotate_left
                · simp only [Act.put, List.setIfInBounds_toArray, List.set_cons_zero, List.set_cons_succ]
                  rfl
                refine pure_ (i := 17) (N := some 124) (v := ?_) (a' := ?_) #[true, true, true, true, true, true, true, true, true, true, true, true, true, true, true, true, true, true, false, false, false] rfl rfl (by kernel_rfl) (fun _ _ _ h => h) (Or.inl ⟨by rfl, ?_⟩) ?_ ?_
                rotate_left
                · intro w'
                  go_simp
                  with_reducible rfl
                rotate_left
                · simp only [Act.put, List.setIfInBounds_toArray, List.set_cons_zero, List.set_cons_succ]
                  rfl
                refine pure_ (i := 18) (N := some 125) (v := ?_) (a' := ?_) #[true, true, true, true, true, true, true, true, true, true, true, true, true, true, true, true, true, true, true, false, false] rfl rfl (by kernel_rfl) (fun _ _ _ h => h) (Or.inl ⟨by rfl, ?_⟩) ?_ ?_
                rotate_left
                · intro w'
                  go_simp
                  with_reducible rfl
                rotate_left
                · simp only [Act.put, List.setIfInBounds_toArray, List.set_cons_zero, List.set_cons_succ]
                  rfl
                refine pure_ (i := 19) (N := some 5) (v := ?_) (a' := ?_) #[true, true, true, true, true, true, true, true, true, true, true, true, true, true, true, true, true, true, true, true, false] rfl rfl (by kernel_rfl) (fun _ _ _ h => h) (Or.inl ⟨by rfl, ?_⟩) ?_ ?_
                rotate_left
                · intro w'
                  go_simp
                  with_reducible rfl
                rotate_left
                · simp only [Act.put, List.setIfInBounds_toArray, List.set_cons_zero, List.set_cons_succ]
                  rfl
                refine pure_ (i := 20) (N := some 9) (v := ?_) (a' := ?_) #[true, true, true, true, true, true, true, true, true, true, true, true, true, true, true, true, true, true, true, true, true] rfl rfl (by kernel_rfl) (fun _ _ _ h => h) (Or.inl ⟨by rfl, ?_⟩) ?_ ?_
                rotate_left
                · intro w'
                  go_simp
                  with_reducible rfl
                rotate_left
                · simp only [Act.put, List.setIfInBounds_toArray, List.set_cons_zero, List.set_cons_succ]
                  rfl
                refine done_ (by kernel_rfl) ?_

                obtain ⟨AX, cX, rfl, hcX, hCX⟩ := Kd.R_reads Z8.out
                have B8 := Aside0.mk (show Below w.heap.size w w8 from below_step BU.out hHeld)
                have HU8 := Aside0.mk (HU.out.below hHeld)
                have GU8 := Aside0.mk (show GB (fun k => k = g) w w8 from GB.of_below B8.out)
                have CX := Aside0.mk (And.intro hCX hcX)
                clear hHeld hcX hCX hcut4
                have EB : B = (bs.take (4 + (long4 bs).toNat + 16)).drop 4 := by rw [HBB.out, HWW.out]; rfl
                have HEB := Aside0.mk EB
                clear EB
                by_cases cx : ex = 0
                · have HX0 := Aside0.mk (show (openAns k (nonceF n) (bs.take 4) B).2 = 0 by rw [← HX.out.2]; exact cx)
                  have HOL := Aside0.mk (open_len (n := n) (a := bs.take 4) CKU.out.2.2 (show 16 ≤ B.length by rw [HCB.out.2]; have := HWD.out; have := HLW.out; omega) HX0.out)
                  have HEQ := Aside0.mk (show nextF (some k) n bs 0 = takeF n bs X W by
                    rw [HX.out.1, HEB.out, HWW.out]
                    exact nextF_open H4.out C3.out HF.out HW3.out (by rw [← HEB.out]; exact HX0.out))
                  have HXL := Aside0.mk (show X.length = L - 16 by rw [HX.out.1, HOL.out.1, HCB.out.2])
                  have HXB := Aside0.mk (show ∀ x ∈ X, 0 ≤ x ∧ x < 256 by rw [HX.out.1]; exact HOL.out.2)
                  obtain ⟨gx, cx', hx', hgx, _, _⟩ := Kd.R_form Z8.out (by rw [HXL.out]; have := HWD.out; have := HLW.out; omega)
                  obtain ⟨rfl, _, rfl⟩ := Value.slice.inj hx'
                  obtain ⟨mx, hmx⟩ : ∃ m, m = X.length := ⟨_, rfl⟩
                  rw [← hmx] at CX ⊢
                  have HMX := Aside0.mk (show mx = L - 16 by rw [hmx]; exact HXL.out)
                  have GA := Aside0.mk (show gx ≠ g by have h1 := HS.out.lt; have h2 : w.heap.size ≤ gx := hgx; omega)
                  have HLx := Aside0.mk (show 1 ≤ mx ∧ mx ≤ 40000 by have := HMX.out; have := HWD.out; have := HLW.out; omega)
                  subst cx
                  have x0 : True := trivial
                  have x1 : True := trivial
                  have x2 : True := trivial
                  have x3 : True := trivial
                  clear hmx hx' hgx
                  have p0 := C_head CX.out.1 (by have := HLx.out; omega)
                  obtain ⟨pv, hpv⟩ : ∃ p, p = X.getD 0 0 := ⟨_, rfl⟩
                  rw [← hpv] at p0
                  have hpb : 0 ≤ pv ∧ pv < 256 := by rw [hpv]; exact getD_b HXB.out 0
                  have hLn : X.length = mx := Kd.C_len CX.out.1
                  have kp : IntKind.i64.wrap pv = pv := by rw [i64_w, wrap_id (by omega) (by omega)]
                  have kp1 : IntKind.i64.wrap (pv + 1) = pv + 1 := by rw [i64_w, wrap_id (by omega) (by omega)]
                  have kp2 : wrap64 (pv + 1) = pv + 1 := by rw [wrap_id (by omega) (by omega)]
                  have r0 : (0 : Int) < (mx : Int) := by have := HLx.out; omega
                  have r0n : 0 < mx := by have := HLx.out; omega
                  have HPV := Aside0.mk (And.intro hpv (And.intro hpb hLn))
                  clear hpv hLn
                  by_cases cp : pv < 4
                  · have CPA := Aside0.mk cp
                    go_wp2_with fail
                    refine (refuse_calls g (.slice (some ⟨gk, 0, none⟩) 32 ck) (.slice (some ⟨gb, o, none⟩) bs.length cb) (some k) n bs 0 12 w8 HU8.out).mono ?_
                    rintro e wq ⟨rfl, hS, hG⟩
                    have HQ := Aside0.mk (And.intro hS hG)
                    clear hS hG
                    go_wp2_with fail
                    simp only [Exit.jump]
                    go_ret3
                    rw [HR.out, HEQ.out, takeF_bad (by rw [← HPV.out.1]; exact .inl CPA.out)]
                    exact next_refuse HQ.out.1 (GU8.out.trans HQ.out.2)
                  · by_cases cq : pv + 1 ≥ (mx : Int)
                    · have CQ := Aside0.mk cq
                      go_wp2_with fail
                      refine (refuse_calls g (.slice (some ⟨gk, 0, none⟩) 32 ck) (.slice (some ⟨gb, o, none⟩) bs.length cb) (some k) n bs 0 12 w8 HU8.out).mono ?_
                      rintro e wq ⟨rfl, hS, hG⟩
                      have HQ := Aside0.mk (And.intro hS hG)
                      clear hS hG
                      go_wp2_with fail
                      simp only [Exit.jump]
                      go_ret3
                      rw [HR.out, HEQ.out, takeF_bad (by rw [← HPV.out.1, HPV.out.2.2]; exact .inr CQ.out)]
                      exact next_refuse HQ.out.1 (GU8.out.trans HQ.out.2)
                    · have CPQ := Aside0.mk (show 4 ≤ pv ∧ pv + 1 < (mx : Int) by omega)
                      have y1 := cell_at (i := 1) HU8.out.ptr rfl
                      have y2 := frozen_at (i := 1) HU8.out.ptr
                      have k64 : IntKind.u64.wrap (n + 1) = n + 1 := by
                        have : IntKind.u64.wrap (n + 1) = (n + 1) % 18446744073709551616 := by simp [IntKind.wrap, IntKind.bits, IntKind.signed]
                        have := HN.out
                        omega
                      go_upto_region 24 with fail
                      have PT := Aside0.mk (blk_sets (i := 1) HU8.out.ptr (.int .u64 (n + 1)) rfl)
                      have SG := Aside0.mk (show GB (fun k => k = g) w8 (w8.setCell ⟨g, 1, none⟩ (.int .u64 (n + 1))) from GB.set (S := fun k => k = g) (GB.refl _ _) (show (⟨g, 1, none⟩ : Addr).block = g from rfl) _)
                      clear y1 y2 k64 p0 x0 x1 x2 x3 kp kp1 kp2 r0 r0n cp cq hpb
                      generalize w8.setCell ⟨g, 1, none⟩ (.int .u64 (n + 1)) = z1 at PT SG ⊢
                      have x2 := cell_at (i := 2) PT.out rfl
                      obtain ⟨H, hH⟩ : ∃ H : Nat, H = mx - pv.toNat := ⟨_, rfl⟩
                      have kH : wrap64 ((mx : Int) - pv) = (mx : Int) - pv := by
                        have h1 := HPV.out.2.1
                        have h2 := CPQ.out
                        have h3 := HLx.out
                        rw [wrap_id (by omega) (by omega)]
                      obtain ⟨M, hM⟩ : ∃ M, M + 1 = H := ⟨H - 1, by have h2 := CPQ.out; have h1 := HPV.out.2.1; omega⟩
                      have hHL : H ≤ mx := by omega
                      have hcut2 := cutM (P := Try.prog) Try.underlying23 HLW.out.2.2.1 HLW.out.2.2.2 gx 0 mx cX 1 H M (by omega) hHL CX.out.2 (by have := CX.out.2; have := HLx.out; have := CPQ.out; omega) hM
                      rw [show ((1 : Nat) : Int) = 1 from rfl, show (H : Int) = (mx : Int) - pv by have h1 := HPV.out.2.1; have h2 := CPQ.out; omega] at hcut2
                      have k24 : (1 : Int) ≤ (mx : Int) - pv := by have h2 := CPQ.out; omega
                      have k25 : (mx : Int) - pv ≤ (mx : Int) := by have h2 := CPQ.out; omega
                      have hC1 := C_cut (C_gb CX.out.1 SG.out (by intro ad e _ h; cases e; exact GA.out h)) CX.out.2 (show 1 ≤ H by omega) hHL (by have := CX.out.2; have := HLx.out; have := CPQ.out; omega) hM
                      rw [Nat.zero_add] at hC1 hcut2
                      have HC1 := Aside0.mk hC1
                      have HHM := Aside0.mk (And.intro hH hM)
                      clear hH hM hHL hC1
                      go_wp2_with fail
                      obtain ⟨pl, hpl⟩ : ∃ p, p = (X.take H).drop 1 := ⟨_, rfl⟩
                      rw [← hpl] at HC1
                      have HPL := Aside0.mk hpl
                      clear hpl
                      have hcl := slices_Clone.calls (some ⟨gx, 1, none⟩) (cX - 1) pl z1 (by rw [HC1.out.2]; exact HC1.out.1) (by rw [HC1.out.2]; have := CX.out.2; have := HHM.out; omega) (by rw [HC1.out.2]; have := HLx.out; have := HHM.out; omega)
                      rw [HC1.out.2] at hcl
                      refine hcl.mono ?_
                      rintro e z2 ⟨v2, rfl, hR, hB2⟩
                      obtain ⟨Av, cv, rfl, _⟩ := Kd.R_reads hR
                      have RV := Aside0.mk (Kd.R_lower hR (show w.heap.size ≤ z1.heap.size from Nat.le_trans GU8.out.size SG.out.size))
                      have hglt : g < z1.heap.size := (Array.getElem?_eq_some_iff.1 PT.out).1
                      have PT2 := Aside0.mk ((hB2.block g hglt).trans PT.out)
                      have G2 := Aside0.mk ((GU8.out.trans SG.out).trans (GB.of_below hB2))
                      have y1 := cell_at (i := 2) PT2.out rfl
                      have y2 := frozen_at (i := 2) PT2.out
                      have hcut3 := cut_from (P := Try.prog) 23 5 .i64 Try.underlying23 HLW.out.2.2.1 1 HLW.out.2.2.2 (some ⟨gb, o, none⟩) bs.length cb (W : Int) (by omega) (by have := HLW.out.2.1; omega)
                      rw [Int.toNat_natCast, show (W : Int) = (4 + D + 16) by have := HWD.out; omega] at hcut3
                      obtain ⟨A3, hA3⟩ : ∃ A3, A3 = (if cb = W then (some ⟨gb, o, none⟩ : Option Addr) else (some (⟨gb, o, none⟩ : Addr)).map (·.add (W * 1))) := ⟨_, rfl⟩
                      rw [← hA3] at hcut3
                      have HA3 := Aside0.mk hA3
                      have c3a : (4 + D + 16) ≤ (bs.length : Int) := by have := HLW.out.2.1; have := HWD.out; omega
                      clear hcl hR hB2 hglt kH hcut2 hA3 x2
                      go_wp2_with fail
                      simp only [Exit.jump]
                      go_ret3
                      have hgb := GB.set (S := fun k => k = g) G2.out (show (⟨g, 2, none⟩ : Addr).block = g from rfl) (.slice A3 (bs.length - W) (cb - W))
                      have hown : ∀ b, (Value.slice A3 (bs.length - W) (cb - W)).ownBlock = some b → b = gb := by
                        intro b hb
                        rw [HA3.out] at hb
                        split at hb
                        · cases hb; rfl
                        · rw [Option.map_some, add_at] at hb
                          cases hb; rfl
                      rw [HR.out, HEQ.out, takeF_ok (by rw [← HPV.out.1]; exact CPQ.out.1) (by rw [← HPV.out.1, HPV.out.2.2]; exact CPQ.out.2)]
                      refine ⟨_, .slice A3 (bs.length - W) (cb - W), rfl, ?_, ⟨blk_sets (i := 2) PT2.out _ rfl, HS.out.key.keep hgb HS.out.okg, ?_, HS.out.okg, ?_, ?_⟩, ?_, hgb⟩
                      · have h := R_set_far (i := 2) RV.out HS.out.lt (.slice A3 (bs.length - W) (cb - W))
                        rw [← HPV.out.1, HPV.out.2.2]
                        show (Kd.int .u8).R _ _ _ _ _ ((X.take (mx - pv.toNat)).drop 1)
                        rw [← HHM.out.1, ← HPL.out]
                        exact h
                      · have h := HS.out.row.drop W HLW.out.2.1
                        rw [← HA3.out] at h
                        exact h.keep hgb (fun b hb he => by rw [hown b hb] at he; exact HS.out.obg gb rfl he)
                      · intro b hb he
                        rw [hown b hb] at he
                        exact HS.out.obg gb rfl he
                      · intro b hb he
                        rw [hown b he] at hb
                        exact HS.out.okb gb hb rfl
                      · intro b hb
                        rw [hown b hb]
                        rfl
                · have cxb : (ex != 0) = true := by simp [cx]
                  have HX0 := Aside0.mk (show (openAns k (nonceF n) (bs.take 4) ((bs.take (4 + (long4 bs).toNat + 16)).drop 4)).2 ≠ 0 by rw [← HEB.out, ← HX.out.2]; exact cx)
                  clear cx
                  go_wp2_with fail
                  refine (refuse_calls g (.slice (some ⟨gk, 0, none⟩) 32 ck) (.slice (some ⟨gb, o, none⟩) bs.length cb) (some k) n bs 0 14 w8 HU8.out).mono ?_
                  rintro e wq ⟨rfl, hS, hG⟩
                  have HQ := Aside0.mk (And.intro hS hG)
                  clear hS hG
                  go_wp2_with fail
                  simp only [Exit.jump]
                  go_ret3
                  rw [HR.out, nextF_mac H4.out C3.out HF.out HW3.out HX0.out]
                  exact next_refuse HQ.out.1 (GU8.out.trans HQ.out.2)
            · have c8b : (m != 0) = true := by simp [c8]
              have C8 := Aside0.mk (show (long4 bs + headN (some k)) % 8 ≠ 0 by rw [← HD.out.1]; show (D + 0) % 8 ≠ 0; rw [← HMm.out]; exact c8)
              clear c8
              go_wp2_with fail
              refine (refuse_calls g (.slice (some ⟨gk, 0, none⟩) 32 ck) (.slice (some ⟨gb, o, none⟩) bs.length cb) (some k) n bs 0 12 u1 HU.out).mono ?_
              rintro e wq ⟨rfl, hS, hG⟩
              have HQ := Aside0.mk (And.intro hS hG)
              clear hS hG
              go_wp2_with fail
              simp only [Exit.jump]
              go_ret3
              rw [HR.out, nextF_form H4.out C3.out (.inr C8.out)]
              exact next_refuse HQ.out.1 (GU.out.trans HQ.out.2)
  · have hw1 : (why != 0) = true := by simp [hw]
    have HW := Aside0.mk hw
    clear hw
    go_wp2_with fail
    refine wp_goto ⟨rfl, ?_⟩
    go_wp2_with fail
    refine start_ (n := 7) (S := fun w' => w'.cell? ⟨g, 3, none⟩ = some (.int .i64 why)) (ds := []) #[false, false, false, false, false, false, false] (by kernel_rfl) rfl rfl (x3) (fun hHeld => ?_)
    refine pure_ (i := 0) (N := some 175) (v := ?_) (a' := ?_) #[true, false, false, false, false, false, false] rfl rfl (by kernel_rfl) (fun _ _ _ h => h) (Or.inl ⟨by rfl, ?_⟩) ?_ ?_
    rotate_left
    · intro w'
      go_simp
      with_reducible rfl
    rotate_left
    · simp only [Act.put, List.setIfInBounds_toArray, List.set_cons_zero, List.set_cons_succ]
      rfl
    refine pure_ (i := 1) (N := some 176) (v := ?_) (a' := ?_) #[true, true, false, false, false, false, false] rfl rfl (by kernel_rfl) (fun _ _ _ h => h) (Or.inl ⟨by rfl, ?_⟩) ?_ ?_
    rotate_left
    · intro w'
      go_simp
      with_reducible rfl
    rotate_left
    · simp only [Act.put, List.setIfInBounds_toArray, List.set_cons_zero, List.set_cons_succ]
      rfl
    refine pure_ (i := 2) (N := some 177) (v := ?_) (a' := ?_) #[true, true, true, false, false, false, false] rfl rfl (by kernel_rfl) (fun _ _ _ h => h) (Or.inl ⟨by rfl, ?_⟩) ?_ ?_
    rotate_left
    · intro w'
      go_simp
      with_reducible rfl
    rotate_left
    · simp only [Act.put, List.setIfInBounds_toArray, List.set_cons_zero, List.set_cons_succ]
      rfl
    refine pure_ (i := 4) (N := some 2) (v := ?_) (a' := ?_) #[true, true, true, false, true, false, false] rfl rfl (by kernel_rfl) (fun _ _ _ h => h) (Or.inl ⟨by rfl, ?_⟩) ?_ ?_
    rotate_left
    · intro w'
      go_simp
      with_reducible rfl
    rotate_left
    · simp only [Act.put, List.setIfInBounds_toArray, List.set_cons_zero, List.set_cons_succ]
      rfl
    refine pure_ (i := 5) (N := some 3) (v := ?_) (a' := ?_) #[true, true, true, false, true, true, false] rfl rfl (by kernel_rfl) (fun _ _ _ h => h) (Or.inl ⟨by rfl, ?_⟩) ?_ ?_
    rotate_left
    · intro w'
      go_simp
      with_reducible rfl
    rotate_left
    · simp only [Act.put, List.setIfInBounds_toArray, List.set_cons_zero, List.set_cons_succ]
      rfl
    refine take_ (i := 3) (N := some 178) (v := ?_) (a' := ?_) #[true, true, true, true, true, true, false] rfl rfl (by kernel_rfl) (fun _ _ _ h => h) (Or.inl ⟨by rfl, ?_⟩) hHeld ?_ ?_
    rotate_left
    · intro w' s0
      go_simp
      with_reducible rfl
    rotate_left
    · simp only [Act.put, List.setIfInBounds_toArray, List.set_cons_zero, List.set_cons_succ]
      rfl
    refine pure_ (i := 6) (N := some 4) (v := ?_) (a' := ?_) #[true, true, true, true, true, true, true] rfl rfl (by kernel_rfl) (fun _ _ _ h => h) (Or.inl ⟨by rfl, ?_⟩) ?_ ?_
    rotate_left
    · intro w'
      go_simp
      with_reducible rfl
    rotate_left
    · simp only [Act.put, List.setIfInBounds_toArray, List.set_cons_zero, List.set_cons_succ]
      rfl
    refine done_ (by kernel_rfl) ?_
    go_wp2_with fail
    simp only [Exit.jump]
    go_ret3
    have e : nextF key n bs why = waitF n bs why := by unfold nextF; rw [if_pos HW.out]
    rw [HR.out, e]
    exact next_wait HS.out
end Go.Proofs.Ytnmnghpdmiffaaa.Pk

/- Part PkF. -/
/-
  known of law 8, walked.
-/
namespace Go.Proofs.Ytnmnghpdmiffaaa.Pk
open Go.RowKit Go.Proofs.YtnmnghpdmiffaaaW.PrintWords Go.Proofs.YtnmnghpdmiffaaaW.PrintLast Go.Proofs.YtnmnghpdmiffaaaW.PrintMore Go.Proofs.Ytnmnghpdmiffaaa.Arr
set_option linter.unusedVariables false
set_option maxHeartbeats 8000000
set_option maxRecDepth 100000
def z10 : List Int := [0, 0, 0, 0, 0, 0, 0, 0, 0, 0]
def p16 : List Int := [0, 0, 0, 12, 10, 21, 0, 0, 0, 0, 0, 0, 0, 0, 0, 0]
theorem p16_is : packetF none 0 [21] = p16 := by decide +kernel
theorem next_p16 : nextF none 0 p16 0 = ⟨[21], true, 0, 1, [], 0⟩ := by kernel_rfl
theorem str16 : strOfNums p16 = (⟨#[0, 0, 0, 12, 10, 21]⟩ : ByteArray) ++ strOfNums z10 := by decide +kernel
theorem str1 : strOfNums [21] = (⟨#[21]⟩ : ByteArray) := by decide +kernel
theorem known8_calls (w : World) : Calls Try.prog 21 #[] w fun e w' => e = .returned (.bool true) ∧ Below w.heap.size w w' := by
  go_enter Try.func21, Try.ntmps21
  go_wp2_with fail
  refine (newOut_calls w).mono ?_
  rintro e w1 ⟨go, rfl, hgo, hO, hB1⟩
  have HO := Aside0.mk hO
  have B1 := Aside0.mk hB1
  have GO := Aside0.mk hgo
  clear hgo hO hB1
  go_wp2_with fail
  refine (newIn_calls w1).mono ?_
  rintro e w2 ⟨gn, rfl, hgn, hI, hB2⟩
  have HI := Aside0.mk hI
  have HO2 := Aside0.mk (HO.out.below hB2)
  have B2 := Aside0.mk (below_step B1.out hB2)
  have GN := Aside0.mk (And.intro (show go < gn by have := HO.out.lt; omega) (show w.heap.size ≤ gn by have := B1.out.size; omega))
  clear hgn hI hB2
  have C1 := Aside0.mk (lit_C w2 5 .u8 [21] (0, 0) 1 rfl (by decide))
  have hB3 : Below w2.heap.size w2 (w2.alloc (.cells (nums .u8 [21]).toArray 5)) := (Below.refl _ _).alloc (Nat.le_refl _) _
  have HO3 := Aside0.mk (HO2.out.below hB3)
  have HI3 := Aside0.mk (HI.out.below hB3)
  have B3 := Aside0.mk (below_step B2.out hB3)
  clear hB3
  go_wp2_with fail
  change Calls _ _ _ (w2.alloc (.cells (nums .u8 [21]).toArray 5)) _
  refine (packet_calls go (.slice none 0 0) none 0 (some ⟨w2.heap.size, 0, none⟩) 1 [21] _ HO3.out (by decide) C1.out (Nat.le_refl _) (by decide) (by decide)).mono ?_
  rintro e w4 ⟨v4, rfl, hR, hO4, hG4⟩
  rw [p16_is] at hR
  obtain ⟨A4, c4, rfl, hc4, hC4⟩ := Kd.R_reads hR
  rw [show p16.length = 16 from rfl] at hc4 hC4 ⊢
  have HI4 := Aside0.mk (HI3.out.keep hG4 (fun e => by have := GN.out.1; omega) (fun b hb => by cases hb) (fun b hb => by cases hb))
  have C4 := Aside0.mk hC4
  have B4 := Aside0.mk (B3.out.trans (hG4.below (n := w.heap.size) B3.out.size (fun k hk => by rw [hk]; exact GO.out)))
  have F4 := Aside0.mk (show ∀ ad, A4 = some ad → 0 < 16 → ad.block ≠ gn by
    intro ad e _ h
    have h1 := Kd.R_base hR ad.block (by rw [e]; rfl)
    have h2 := HI3.out.lt
    omega)
  clear hR hO4 hG4 hc4 hC4
  go_wp2_with fail
  refine (feed_calls gn (.slice none 0 0) (.slice none 0 0) none 0 [] A4 16 c4 p16 w4 HI4.out C4.out (by decide)).mono ?_
  rintro e w5 ⟨rfl, v5, hI5, hat, hG5⟩
  rw [show ([] : List Int) ++ p16 = p16 from rfl] at hI5
  have HI5 := Aside0.mk hI5
  have hs5 : ∀ k, (k = gn ∨ (Value.slice none 0 0).ownBlock = some k) → k = gn := fun k hk => by
    rcases hk with h | h
    · exact h
    · cases h
  have C5 := Aside0.mk (C_gb C4.out hG5 (fun ad e h0 hk => F4.out ad e h0 (hs5 _ hk)))
  have B5 := Aside0.mk (B4.out.trans (hG5.below (n := w.heap.size) B4.out.size (fun k hk => by rw [hs5 k hk]; exact GN.out.2)))
  clear hI5 hat hG5 hs5
  go_wp2_with fail
  refine (next_calls gn (.slice none 0 0) v5 none 0 p16 0 w5 HI5.out (by decide) (by decide) (by decide)).mono ?_
  rintro e w6 ⟨v6, v5', rfl, hR, hI6, _, hG6⟩
  rw [next_p16] at hR hI6 ⊢
  obtain ⟨A6, c6, rfl, hc6, hC6⟩ := Kd.R_reads hR
  rw [show (NextR.p ⟨[21], true, 0, 1, [], 0⟩).length = 1 from rfl] at hc6 hC6 ⊢
  have HI6 := Aside0.mk (show InS w6 gn (.slice none 0 0) v5' none 1 [] 0 from hI6)
  have C6 := Aside0.mk (show (Kd.int .u8).C w6 A6 1 [21] from hC6)
  have C46 := Aside0.mk (C_gb C5.out hG6 (fun ad e h0 hk => F4.out ad e h0 hk))
  have B6 := Aside0.mk (B5.out.trans (hG6.below (n := w.heap.size) B5.out.size (fun k hk => by rw [hk]; exact GN.out.2)))
  clear hR hI6 hG6 hc6 hC6
  have e10 : madeCells #[.int .u8 0] 10 = (nums .u8 z10).toArray := by kernel_rfl
  have hmk : ∀ W : World, (Instr.makeSlice 23 (.int .i64 10) (.int .i64 10)).run Try.prog W = .ok (.slice (some ⟨W.heap.size, 0, none⟩) 10 10) (W.alloc (.cells (nums .u8 z10).toArray 5)) := fun W => by
    have h := run_make_row' (P := Try.prog) 23 5 (.int .u8 0) 1 Try.underlying23 Pol.info_u8 rfl .i64 .i64 10 (by decide) (by decide) W
    rw [e10] at h
    exact h
  obtain ⟨ns, hns⟩ : ∃ s, s = strOfNums z10 := ⟨_, rfl⟩
  have hsz : ns.size = 10 := by rw [hns]; decide +kernel
  have q1 : ∀ W, Below w6.heap.size w6 W → (convert 23 9 (.slice A4 16 c4)).run Try.prog W = .ok (.string ((⟨#[0, 0, 0, 12, 10, 21]⟩ : ByteArray) ++ ns)) W := fun W h => by
    rw [hns, ← str16]
    exact Kd.C_string (P := Try.prog) (c := c4) Try.underlying23 Try.underlying5 Try.underlying9 (show (Kd.int .u8).C W A4 p16.length p16 from Kd.C_below C46.out h)
  have q2 : ∀ W, Below w6.heap.size w6 W → (convert 23 9 (.slice A6 1 c6)).run Try.prog W = .ok (.string (⟨#[21]⟩ : ByteArray)) W := fun W h => by
    rw [← str1]
    exact Kd.C_string (P := Try.prog) (c := c6) Try.underlying23 Try.underlying5 Try.underlying9 (show (Kd.int .u8).C W A6 [(21 : Int)].length [21] from Kd.C_below C6.out h)
  have q4 : ∀ W W' : World, Below (W.alloc (.cells (nums .u8 z10).toArray 5)).heap.size (W.alloc (.cells (nums .u8 z10).toArray 5)) W' → (convert 23 9 (.slice (some ⟨W.heap.size, 0, none⟩) 10 10)).run Try.prog W' = .ok (.string ns) W' := fun W W' h => by
    rw [hns]
    exact Kd.C_string (P := Try.prog) (c := 10) Try.underlying23 Try.underlying5 Try.underlying9 (Kd.C_below (C_of_is (new_is W 5 .u8 z10) (by decide)) h)
  have Q1 := Aside0.mk q1
  have Q2 := Aside0.mk q2
  have Q4 := Aside0.mk q4
  have HMK := Aside0.mk hmk
  clear q1 q2 q4 hmk e10 hns
  go_upto_region 8 with fail
  change Code.wp _ _ _ _ w6
  refine start_ (n := 28) (S := fun w' => Below w6.heap.size w6 w') (ds := []) #[false, false, false, false, false, false, false, false, false, false, false, false, false, false, false, false, false, false, false, false, false, false, false, false, false, false, false, false] (by kernel_rfl) rfl rfl ((below_drew1 (Below.refl w6.heap.size w6))) (fun hHeld => ?_)
  refine pure_ (i := 0) (N := some 31) (v := ?_) (a' := ?_) #[true, false, false, false, false, false, false, false, false, false, false, false, false, false, false, false, false, false, false, false, false, false, false, false, false, false, false, false] rfl rfl (by kernel_rfl) (fun _ _ _ h => h) (Or.inl ⟨by rfl, ?_⟩) ?_ ?_
  rotate_left
  · intro w'
    go_simp
    with_reducible rfl
  rotate_left
  · simp only [Act.put, List.setIfInBounds_toArray, List.set_cons_zero, List.set_cons_succ]
    rfl
  refine pure_ (i := 1) (N := some 32) (v := ?_) (a' := ?_) #[true, true, false, false, false, false, false, false, false, false, false, false, false, false, false, false, false, false, false, false, false, false, false, false, false, false, false, false] rfl rfl (by kernel_rfl) (fun _ _ _ h => h) (Or.inl ⟨by rfl, ?_⟩) ?_ ?_
  rotate_left
  · intro w'
    go_simp
    with_reducible rfl
  rotate_left
  · simp only [Act.put, List.setIfInBounds_toArray, List.set_cons_zero, List.set_cons_succ]
    rfl
  refine pure_ (i := 2) (N := some 33) (v := ?_) (a' := ?_) #[true, true, true, false, false, false, false, false, false, false, false, false, false, false, false, false, false, false, false, false, false, false, false, false, false, false, false, false] rfl rfl (by kernel_rfl) (fun _ _ _ h => h) (Or.inl ⟨by rfl, ?_⟩) ?_ ?_
  rotate_left
  · intro w'
    go_simp
    with_reducible rfl
  rotate_left
  · simp only [Act.put, List.setIfInBounds_toArray, List.set_cons_zero, List.set_cons_succ]
    rfl
  refine pure_ (i := 3) (N := some 34) (v := ?_) (a' := ?_) #[true, true, true, true, false, false, false, false, false, false, false, false, false, false, false, false, false, false, false, false, false, false, false, false, false, false, false, false] rfl rfl (by kernel_rfl) (fun _ _ _ h => h) (Or.inl ⟨by rfl, ?_⟩) ?_ ?_
  rotate_left
  · intro w'
    go_simp
    with_reducible rfl
  rotate_left
  · simp only [Act.put, List.setIfInBounds_toArray, List.set_cons_zero, List.set_cons_succ]
    rfl
  refine take_ (i := 4) (N := some 35) (v := ?_) (a' := ?_) #[true, true, true, true, true, false, false, false, false, false, false, false, false, false, false, false, false, false, false, false, false, false, false, false, false, false, false, false] rfl rfl (by kernel_rfl) (fun _ _ _ h => h) (Or.inl ⟨by rfl, ?_⟩) hHeld ?_ ?_
  rotate_left
  · intro w' s0
    have q1_ := Q1.out w' s0
    have q2_ := Q2.out w' s0
    go_simp
    with_reducible rfl
  rotate_left
  · simp only [Act.put, List.setIfInBounds_toArray, List.set_cons_zero, List.set_cons_succ]
    rfl
  refine one_ (i := 5) (N := some 36) #[true, true, true, true, true, true, false, false, false, false, false, false, false, false, false, false, false, false, false, false, false, false, false, false, false, false, false, false] rfl rfl (by kernel_rfl) (by decide) (fun K hK => ?_)
  have hmk_ := HMK.out
  refine value_ (w1 := ?_) (v := ?_) (by rfl) rfl ?_ ?_
  rotate_left 2
  · go_simp
    constructor
    · rfl
    · rfl
  clear hmk_
  refine hK.out _ _ ((below_alloc hHeld _)) (fun hHeld => ?_)
  clear hK K
  refine norm_ (a' := ?_) ?_ ?_
  rotate_left
  · show Act.put _ (some 36) _ = _
    simp only [Act.put, List.setIfInBounds_toArray, List.set_cons_zero, List.set_cons_succ]
    rfl
  refine one_ (i := 6) (N := some 37) #[true, true, true, true, true, true, true, false, false, false, false, false, false, false, false, false, false, false, false, false, false, false, false, false, false, false, false, false] rfl rfl (by kernel_rfl) (by decide) (fun K hK => ?_)
  have q_ := Q4.out _ _ (below_drew1 (Below.refl (w6.alloc (.cells (nums .u8 z10).toArray 5)).heap.size (w6.alloc (.cells (nums .u8 z10).toArray 5))))
  refine value_ (w1 := ?_) (v := ?_) (by rfl) rfl ?_ ?_
  rotate_left 2
  · go_simp
    constructor
    · rfl
    · rfl
  clear q_
  refine hK.out _ _ (hHeld) (fun hHeld => ?_)
  clear hK K
  refine norm_ (a' := ?_) ?_ ?_
  rotate_left
  · show Act.put _ (some 37) _ = _
    simp only [Act.put, List.setIfInBounds_toArray, List.set_cons_zero, List.set_cons_succ]
    rfl
  refine pure_ (i := 7) (N := some 38) (v := ?_) (a' := ?_) #[true, true, true, true, true, true, true, true, false, false, false, false, false, false, false, false, false, false, false, false, false, false, false, false, false, false, false, false] rfl rfl (by kernel_rfl) (fun _ _ _ h => h) (Or.inl ⟨by rfl, ?_⟩) ?_ ?_
  rotate_left
  · intro w'
    go_simp
    with_reducible rfl
  rotate_left
  · simp only [Act.put, List.setIfInBounds_toArray, List.set_cons_zero, List.set_cons_succ]
    rfl
  refine pure_ (i := 8) (N := some 39) (v := ?_) (a' := ?_) #[true, true, true, true, true, true, true, true, true, false, false, false, false, false, false, false, false, false, false, false, false, false, false, false, false, false, false, false] rfl rfl (by kernel_rfl) (fun _ _ _ h => h) (Or.inl ⟨by rfl, ?_⟩) ?_ ?_
  rotate_left
  · intro w'
    go_simp
    with_reducible rfl
  rotate_left
  · simp only [Act.put, List.setIfInBounds_toArray, List.set_cons_zero, List.set_cons_succ]
    rfl
  refine pure_ (i := 9) (N := some 40) (v := ?_) (a' := ?_) #[true, true, true, true, true, true, true, true, true, true, false, false, false, false, false, false, false, false, false, false, false, false, false, false, false, false, false, false] rfl rfl (by kernel_rfl) (fun _ _ _ h => h) (Or.inl ⟨by rfl, ?_⟩) ?_ ?_
  rotate_left
  · intro w'
    go_simp
    with_reducible rfl
  rotate_left
  · simp only [Act.put, List.setIfInBounds_toArray, List.set_cons_zero, List.set_cons_succ]
    rfl
  refine pure_ (i := 10) (N := some 41) (v := ?_) (a' := ?_) #[true, true, true, true, true, true, true, true, true, true, true, false, false, false, false, false, false, false, false, false, false, false, false, false, false, false, false, false] rfl rfl (by kernel_rfl) (fun _ _ _ h => h) (Or.inl ⟨by rfl, ?_⟩) ?_ ?_
  rotate_left
  · intro w'
    go_simp
    with_reducible rfl
  rotate_left
  · simp only [Act.put, List.setIfInBounds_toArray, List.set_cons_zero, List.set_cons_succ]
    rfl
  refine pure_ (i := 11) (N := some 42) (v := ?_) (a' := ?_) #[true, true, true, true, true, true, true, true, true, true, true, true, false, false, false, false, false, false, false, false, false, false, false, false, false, false, false, false] rfl rfl (by kernel_rfl) (fun _ _ _ h => h) (Or.inl ⟨by rfl, ?_⟩) ?_ ?_
  rotate_left
  · intro w'
    go_simp
    with_reducible rfl
  rotate_left
  · simp only [Act.put, List.setIfInBounds_toArray, List.set_cons_zero, List.set_cons_succ]
    rfl
  refine pure_ (i := 12) (N := some 43) (v := ?_) (a' := ?_) #[true, true, true, true, true, true, true, true, true, true, true, true, true, false, false, false, false, false, false, false, false, false, false, false, false, false, false, false] rfl rfl (by kernel_rfl) (fun _ _ _ h => h) (Or.inl ⟨by rfl, ?_⟩) ?_ ?_
  rotate_left
  · intro w'
    go_simp
    with_reducible rfl
  rotate_left
  · simp only [Act.put, List.setIfInBounds_toArray, List.set_cons_zero, List.set_cons_succ]
    rfl
  refine pure_ (i := 13) (N := some 44) (v := ?_) (a' := ?_) #[true, true, true, true, true, true, true, true, true, true, true, true, true, true, false, false, false, false, false, false, false, false, false, false, false, false, false, false] rfl rfl (by kernel_rfl) (fun _ _ _ h => h) (Or.inl ⟨by rfl, ?_⟩) ?_ ?_
  rotate_left
  · intro w'
    go_simp
    with_reducible rfl
  rotate_left
  · simp only [Act.put, List.setIfInBounds_toArray, List.set_cons_zero, List.set_cons_succ]
    rfl
  refine pure_ (i := 14) (N := some 45) (v := ?_) (a' := ?_) #[true, true, true, true, true, true, true, true, true, true, true, true, true, true, true, false, false, false, false, false, false, false, false, false, false, false, false, false] rfl rfl (by kernel_rfl) (fun _ _ _ h => h) (Or.inl ⟨by rfl, ?_⟩) ?_ ?_
  rotate_left
  · intro w'
    go_simp
    with_reducible rfl
  rotate_left
  · simp only [Act.put, List.setIfInBounds_toArray, List.set_cons_zero, List.set_cons_succ]
    rfl
  refine pure_ (i := 15) (N := some 46) (v := ?_) (a' := ?_) #[true, true, true, true, true, true, true, true, true, true, true, true, true, true, true, true, false, false, false, false, false, false, false, false, false, false, false, false] rfl rfl (by kernel_rfl) (fun _ _ _ h => h) (Or.inl ⟨by rfl, ?_⟩) ?_ ?_
  rotate_left
  · intro w'
    go_simp
    with_reducible rfl
  rotate_left
  · simp only [Act.put, List.setIfInBounds_toArray, List.set_cons_zero, List.set_cons_succ]
    rfl
  refine pure_ (i := 16) (N := some 47) (v := ?_) (a' := ?_) #[true, true, true, true, true, true, true, true, true, true, true, true, true, true, true, true, true, false, false, false, false, false, false, false, false, false, false, false] rfl rfl (by kernel_rfl) (fun _ _ _ h => h) (Or.inl ⟨by rfl, ?_⟩) ?_ ?_
  rotate_left
  · intro w'
    go_simp
    with_reducible rfl
  rotate_left
  · simp only [Act.put, List.setIfInBounds_toArray, List.set_cons_zero, List.set_cons_succ]
    rfl
  refine pure_ (i := 17) (N := some 48) (v := ?_) (a' := ?_) #[true, true, true, true, true, true, true, true, true, true, true, true, true, true, true, true, true, true, false, false, false, false, false, false, false, false, false, false] rfl rfl (by kernel_rfl) (fun _ _ _ h => h) (Or.inl ⟨by rfl, ?_⟩) ?_ ?_
  rotate_left
  · intro w'
    go_simp
    with_reducible rfl
  rotate_left
  · simp only [Act.put, List.setIfInBounds_toArray, List.set_cons_zero, List.set_cons_succ]
    rfl
  refine pure_ (i := 18) (N := some 49) (v := ?_) (a' := ?_) #[true, true, true, true, true, true, true, true, true, true, true, true, true, true, true, true, true, true, true, false, false, false, false, false, false, false, false, false] rfl rfl (by kernel_rfl) (fun _ _ _ h => h) (Or.inl ⟨by rfl, ?_⟩) ?_ ?_
  rotate_left
  · intro w'
    go_simp
    with_reducible rfl
  rotate_left
  · simp only [Act.put, List.setIfInBounds_toArray, List.set_cons_zero, List.set_cons_succ]
    rfl
  refine take_ (i := 19) (N := some 50) (v := ?_) (a' := ?_) #[true, true, true, true, true, true, true, true, true, true, true, true, true, true, true, true, true, true, true, true, false, false, false, false, false, false, false, false] rfl rfl (by kernel_rfl) (fun _ _ _ h => h) (Or.inl ⟨by rfl, ?_⟩) hHeld ?_ ?_
  rotate_left
  · intro w' s0
    have q1_ := Q1.out w' s0
    have q2_ := Q2.out w' s0
    go_simp
    with_reducible rfl
  rotate_left
  · simp only [Act.put, List.setIfInBounds_toArray, List.set_cons_zero, List.set_cons_succ]
    rfl
  refine pure_ (i := 20) (N := some 51) (v := ?_) (a' := ?_) #[true, true, true, true, true, true, true, true, true, true, true, true, true, true, true, true, true, true, true, true, true, false, false, false, false, false, false, false] rfl rfl (by kernel_rfl) (fun _ _ _ h => h) (Or.inl ⟨by rfl, ?_⟩) ?_ ?_
  rotate_left
  · intro w'
    go_simp
    with_reducible rfl
  rotate_left
  · simp only [Act.put, List.setIfInBounds_toArray, List.set_cons_zero, List.set_cons_succ]
    rfl
  refine pure_ (i := 21) (N := some 52) (v := ?_) (a' := ?_) #[true, true, true, true, true, true, true, true, true, true, true, true, true, true, true, true, true, true, true, true, true, true, false, false, false, false, false, false] rfl rfl (by kernel_rfl) (fun _ _ _ h => h) (Or.inl ⟨by rfl, ?_⟩) ?_ ?_
  rotate_left
  · intro w'
    go_simp
    with_reducible rfl
  rotate_left
  · simp only [Act.put, List.setIfInBounds_toArray, List.set_cons_zero, List.set_cons_succ]
    rfl
  refine pure_ (i := 22) (N := some 53) (v := ?_) (a' := ?_) #[true, true, true, true, true, true, true, true, true, true, true, true, true, true, true, true, true, true, true, true, true, true, true, false, false, false, false, false] rfl rfl (by kernel_rfl) (fun _ _ _ h => h) (Or.inl ⟨by rfl, ?_⟩) ?_ ?_
  rotate_left
  · intro w'
    go_simp
    with_reducible rfl
  rotate_left
  · simp only [Act.put, List.setIfInBounds_toArray, List.set_cons_zero, List.set_cons_succ]
    rfl
  refine pure_ (i := 23) (N := some 54) (v := ?_) (a' := ?_) #[true, true, true, true, true, true, true, true, true, true, true, true, true, true, true, true, true, true, true, true, true, true, true, true, false, false, false, false] rfl rfl (by kernel_rfl) (fun _ _ _ h => h) (Or.inl ⟨by rfl, ?_⟩) ?_ ?_
  rotate_left
  · intro w'
    go_simp
    with_reducible rfl
  rotate_left
  · simp only [Act.put, List.setIfInBounds_toArray, List.set_cons_zero, List.set_cons_succ]
    rfl
  refine one_ (i := 24) (N := some 55) #[true, true, true, true, true, true, true, true, true, true, true, true, true, true, true, true, true, true, true, true, true, true, true, true, true, false, false, false] rfl rfl (by kernel_rfl) (by decide) (fun K hK => ?_)
  refine goes_ Try.func30 (by kernel_rfl) rfl #[.pointer (some ⟨gn, 0, none⟩)] (by rfl) rfl rfl (by simp only [List.map_toArray, List.map_cons, List.map_nil]; rfl) ?_
  with_reducible refine ((held_calls gn (.slice none 0 0) v5' none 1 [] 0 _ (HI6.out.below hHeld))).mono ?_
  rintro e w3 ⟨rfl, rfl⟩
  refine ⟨_, rfl, ?_⟩
  refine hK.out _ _ (hHeld) (fun hHeld => ?_)
  clear hK K
  refine norm_ (a' := ?_) ?_ ?_
  rotate_left
  · show Act.put _ (some 55) _ = _
    simp only [Act.put, List.setIfInBounds_toArray, List.set_cons_zero, List.set_cons_succ]
    rfl
  refine pure_ (i := 25) (N := some 56) (v := ?_) (a' := ?_) #[true, true, true, true, true, true, true, true, true, true, true, true, true, true, true, true, true, true, true, true, true, true, true, true, true, true, false, false] rfl rfl (by kernel_rfl) (fun _ _ _ h => h) (Or.inl ⟨by rfl, ?_⟩) ?_ ?_
  rotate_left
  · intro w'
    go_simp
    with_reducible rfl
  rotate_left
  · simp only [Act.put, List.setIfInBounds_toArray, List.set_cons_zero, List.set_cons_succ]
    rfl
  refine pure_ (i := 26) (N := some 57) (v := ?_) (a' := ?_) #[true, true, true, true, true, true, true, true, true, true, true, true, true, true, true, true, true, true, true, true, true, true, true, true, true, true, true, false] rfl rfl (by kernel_rfl) (fun _ _ _ h => h) (Or.inl ⟨by rfl, ?_⟩) ?_ ?_
  rotate_left
  · intro w'
    go_simp
    with_reducible rfl
  rotate_left
  · simp only [Act.put, List.setIfInBounds_toArray, List.set_cons_zero, List.set_cons_succ]
    rfl
  refine pure_ (i := 27) (N := some 0) (v := ?_) (a' := ?_) #[true, true, true, true, true, true, true, true, true, true, true, true, true, true, true, true, true, true, true, true, true, true, true, true, true, true, true, true] rfl rfl (by kernel_rfl) (fun _ _ _ h => h) (Or.inl ⟨by rfl, ?_⟩) ?_ ?_
  rotate_left
  · intro w'
    go_simp
    with_reducible rfl
  rotate_left
  · simp only [Act.put, List.setIfInBounds_toArray, List.set_cons_zero]
    rfl
  refine done_ (by kernel_rfl) ?_
  have LZ := Aside0.mk (below_step B6.out hHeld)
  go_wp2_with fail
  go_ret
  exact ⟨rfl, LZ.out⟩
end Go.Proofs.Ytnmnghpdmiffaaa.Pk
