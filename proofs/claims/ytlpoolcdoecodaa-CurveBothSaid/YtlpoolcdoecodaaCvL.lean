/-
  Words for the ladder: new arrays in open order; a slice's place is written.
-/
import Derived.Test.YtlpoolcdoecodaaCvH
import Derived.Test.YtlpoolcdoecodaaWTab
import Derived.Test.YtlpoolcdoecodaaWFour
namespace Go.Proofs.Ytlpoolcdoecodaa.Cv
open Go.RowKit Go.Proofs.YtlpoolcdoecodaaW.PrintWords Go.Proofs.YtlpoolcdoecodaaW.PrintLast Go.Proofs.YtlpoolcdoecodaaW.PrintMore Go.Proofs.Ytlpoolcdoecodaa.Arr
set_option linter.unusedVariables false
set_option maxHeartbeats 8000000
set_option maxRecDepth 100000
/-- New arrays of noughts, each in a block of its own. -/
structure Four (N : Nat) (w : World) (L : List Nat) : Prop where
  all : ∀ g ∈ L, Is w g 48 .i64 z16 ∧ N ≤ g
  nodup : L.Nodup
theorem Four.nil {N : Nat} {w : World} : Four N w [] := ⟨fun g h => by simp at h, List.nodup_nil⟩
theorem Four.ins {N : Nat} {w : World} (A B : List Nat) (h : Four N w (A ++ B)) (hN : N ≤ w.heap.size) : Four N (w.alloc (.cells #[.int .i64 0, .int .i64 0, .int .i64 0, .int .i64 0, .int .i64 0, .int .i64 0, .int .i64 0, .int .i64 0, .int .i64 0, .int .i64 0, .int .i64 0, .int .i64 0, .int .i64 0, .int .i64 0, .int .i64 0, .int .i64 0] 48)) (A ++ w.heap.size :: B) := by
  have hnew : Is (w.alloc (.cells #[.int .i64 0, .int .i64 0, .int .i64 0, .int .i64 0, .int .i64 0, .int .i64 0, .int .i64 0, .int .i64 0, .int .i64 0, .int .i64 0, .int .i64 0, .int .i64 0, .int .i64 0, .int .i64 0, .int .i64 0, .int .i64 0] 48)) w.heap.size 48 .i64 z16 := new_is w 48 .i64 z16
  have hb : Below w.heap.size w (w.alloc (.cells #[.int .i64 0, .int .i64 0, .int .i64 0, .int .i64 0, .int .i64 0, .int .i64 0, .int .i64 0, .int .i64 0, .int .i64 0, .int .i64 0, .int .i64 0, .int .i64 0, .int .i64 0, .int .i64 0, .int .i64 0, .int .i64 0] 48)) := (Below.refl _ _).alloc (Nat.le_refl _) _
  refine ⟨fun g hg => ?_, ?_⟩
  · rw [List.mem_append, List.mem_cons] at hg
    rcases hg with hg | rfl | hg
    · exact ⟨(h.all g (List.mem_append_left _ hg)).1.below hb, (h.all g (List.mem_append_left _ hg)).2⟩
    · exact ⟨hnew, hN⟩
    · exact ⟨(h.all g (List.mem_append_right _ hg)).1.below hb, (h.all g (List.mem_append_right _ hg)).2⟩
  · refine (List.perm_middle.nodup_iff).2 (List.nodup_cons.2 ⟨fun hm => ?_, h.nodup⟩)
    exact absurd (h.all _ hm).1.lt (Nat.lt_irrefl _)
theorem load_fact {w : World} {b : Nat} {xs : List Int} (h : Is w b 48 .i64 xs) (hl : xs.length = 16) : (loadVar 48 ⟨b, 0, none⟩).run Try.prog w = .ok (.agg (nums .i64 xs).toArray) w :=
  run_loadVar_row w b 48 48 (nums .i64 xs).toArray (0, 0) _ h Try.underlying48 rfl (by rw [info_f]; simp [nums, hl])
theorem load_ev {ρ : Operand → Value} {o : Oper} (X : Operand) (ho : o.op = .load 48 X) (b : Nat) (xs : List Int) (hX : ρ X = .pointer (some ⟨b, 0, none⟩)) {W : World} (h : Is W b 48 .i64 xs) (hl : xs.length = 16) : (execOp ρ o).run Try.prog W = .ok (.value (.agg (nums .i64 xs).toArray)) W := by
  simp only [execOp, ho, hX, Instr.loadAt, Instr.sureAddr, Sem.run_bind, Sem.run_pure, Result.andThen_ok, load_fact h hl]
theorem clamp31 (x : Int) (h0 : 0 ≤ x) (h1 : x < 256) : Go.bits .or .u8 (Go.bits .and .u8 x 127) 64 = x % 64 + 64 := by
  have key : ∀ v : Fin 256, Go.bits .or .u8 (Go.bits .and .u8 ((v.val : Nat) : Int) 127) 64 = ((v.val : Nat) : Int) % 64 + 64 := by decide +kernel
  obtain ⟨n, rfl⟩ := Int.eq_ofNat_of_zero_le h0
  exact key ⟨n, by omega⟩
theorem clamp0 (x : Int) (h0 : 0 ≤ x) (h1 : x < 256) : Go.bits .and .u8 x 248 = x - x % 8 := by
  have key : ∀ v : Fin 256, Go.bits .and .u8 ((v.val : Nat) : Int) 248 = ((v.val : Nat) : Int) - ((v.val : Nat) : Int) % 8 := by decide +kernel
  obtain ⟨n, rfl⟩ := Int.eq_ofNat_of_zero_le h0
  exact key ⟨n, by omega⟩
theorem bit0 (x : Int) (h0 : 0 ≤ x) (h1 : x < 256) : Go.bits .and .u8 x 1 = x % 2 := by
  have key : ∀ v : Fin 256, Go.bits .and .u8 ((v.val : Nat) : Int) 1 = ((v.val : Nat) : Int) % 2 := by decide +kernel
  obtain ⟨n, rfl⟩ := Int.eq_ofNat_of_zero_le h0
  exact key ⟨n, by omega⟩
theorem mask3 (x : Int) : Go.bits .and .i64 x 7 = x % 8 := and_mask x 3 (by decide)
end Go.Proofs.Ytlpoolcdoecodaa.Cv
