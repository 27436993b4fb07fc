/-
  The reference's add (chapter 3): numbers of seventeen bytes, walked.
-/
import Derived.Test.YtjlokmjbblpmoaaArr2
import Derived.Deep.Cut
namespace Go.Proofs.Ytjlokmjbblpmoaa.PolR
open Go.RowKit Go.Proofs.YtjlokmjbblpmoaaW.PrintWords Go.Proofs.Ytjlokmjbblpmoaa.Arr

theorem info_a17 : (Try.prog.info? 59).map (·.size) = some 17 := by kernel_rfl
/-- After so many places: the number, and what is carried. -/
def addR (h c : List Int) : Nat → List Int × Int
  | 0 => (h, 0)
  | j + 1 => ((addR h c j).1.set j (Go.bits .and .u32 (((addR h c j).2 + rd (addR h c j).1 j + rd c j) % 4294967296) 255), ((addR h c j).2 + rd (addR h c j).1 j + rd c j) % 4294967296 / 256)
theorem len_addR (h c : List Int) : ∀ j, (addR h c j).1.length = h.length
  | 0 => rfl
  | j + 1 => by rw [addR]; simp only [List.length_set]; exact len_addR h c j
def addF (h c : List Int) : List Int := (addR h c 17).1
theorem len_addF (h c : List Int) : (addF h c).length = h.length := len_addR h c 17

set_option maxHeartbeats 2000000 in
set_option maxRecDepth 100000 in
theorem add_calls (T : TypeId) (h c : List Int) (g : Nat) (w : World) (hw : Is w g T .u32 h) (hl : h.length = 17) (hc : c.length = 17) :
    Calls Try.prog 43 #[.pointer (some ⟨g, 0, none⟩), .agg (nums .u32 c).toArray] w fun e w' => e = .returned (.tuple #[]) ∧ Into w w' g .u32 (addF h c) := by
  have L := Aside0.mk hl
  have LC := Aside0.mk hc
  have hg := hw.lt
  clear hl hc
  go_enter Try.func43, Try.ntmps43
  go_upto_region 1 with (fail)
  change Code.wp _ _ _ _ (w.alloc (.cells (nums .u32 c).toArray 59))
  have ic := new_is w 59 .u32 c
  have B1 : Below w.heap.size w (w.alloc (.cells (nums .u32 c).toArray 59)) := (Below.refl _ _).alloc (Nat.le_refl _) _
  generalize w.alloc (.cells (nums .u32 c).toArray 59) = w1 at ic B1 ⊢
  obtain ⟨bC, hbC⟩ : ∃ b, b = w.heap.size := ⟨_, rfl⟩
  have BB := Aside0.mk B1
  have IH := Aside0.mk (hw.below B1)
  rw [← hbC] at ic ⊢
  have IC := Aside0.mk ic
  have HNE := Aside0.mk (show bC ≠ g by omega)
  have HW := Aside0.mk hw
  clear ic B1 hbC hg hw
  go_wp2
  go_loopw [4, 5] (fun u v w' => ∃ j : Nat, j ≤ 17 ∧ v = .int .i64 j ∧ u = .int .u32 (addR h c j).2 ∧ Aside0 (To w1 w' g .u32 (addR h c j).1)) (fun _ v _ => 17 - (intOf v).toNat)
  case atStart => exact ⟨0, by omega, rfl, rfl, ⟨To.refl IH.out⟩⟩
  case round =>
    obtain ⟨j, hj, rfl, rfl, HT⟩ := hrel
    obtain ⟨x, q0⟩ : ∃ x, x = (addR h c j).1 := ⟨_, rfl⟩
    obtain ⟨u, q1⟩ : ∃ u, u = (addR h c j).2 := ⟨_, rfl⟩
    rw [← q0] at HT
    rw [← q1]
    have LX := Aside0.mk (show x.length = 17 by rw [q0, len_addR, L.out])
    have Q0 := Aside0.mk q0
    have Q1 := Aside0.mk q1
    clear q0 q1
    by_cases h17 : j < 17
    · have c0 : (j : Int) < 17 := by omega
      have ix := HT.out.is IH.out
      have H1 := ix.cell j (by rw [LX.out]; omega)
      have H2 := (HT.out.other HNE.out IC.out).cell j (by rw [LC.out]; omega)
      go_upto_region 5 with (fail)
      go_quiet (fail)
      rename_i nq
      have HTq := Aside0.mk (HT.out.drewN nq)
      have ixq := ix.drewN nq
      generalize wr.drewN nq = wq at HTq ixq ⊢
      clear HT ix H1 H2
      have F1 := ixq.free j
      have H1 := ixq.cell j (by rw [LX.out]; omega)
      go_wp2_with fail
      rw [put_set ixq]
      have e1 : (addR h c (j + 1)).1 = x.set j (Go.bits .and .u32 ((u + rd x (j : Int) + rd c (j : Int)) % 4294967296) 255) := by rw [addR, ← Q0.out, ← Q1.out]
      have e2 : (addR h c (j + 1)).2 = (u + rd x (j : Int) + rd c (j : Int)) % 4294967296 / 256 := by rw [addR, ← Q0.out, ← Q1.out]
      have t1 := HTq.out.put_d0 (zs := x.set j (Go.bits .and .u32 ((u + rd x (j : Int) + rd c (j : Int)) % 4294967296) 255))
      rw [← e1] at t1
      refine ⟨⟨j + 1, by omega, by go_num, by rw [e2], ⟨?_⟩⟩, by simp [intOf]; omega⟩
      rw [e1] at t1 ⊢; exact t1
    · obtain rfl : j = 17 := by omega
      rw [show ((17 : Nat) : Int) = 17 from rfl]
      clear h17
      go_wp2_with fail
      go_end0
      refine ⟨rfl, ?_⟩
      rw [addF, ← Q0.out]
      exact ((Into.refl HW.out).below BB.out).to HT.out
end Go.Proofs.Ytjlokmjbblpmoaa.PolR
