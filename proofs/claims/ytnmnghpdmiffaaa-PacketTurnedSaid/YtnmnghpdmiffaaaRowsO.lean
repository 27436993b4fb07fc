/-
  An argument that is a list of lists of bytes, opened.
-/
import Derived.Test.YtnmnghpdmiffaaaArr2
import Derived.ChangeSlices
import Derived.WalkKit
import Derived.ProofKit
namespace Go.Proofs.Ytnmnghpdmiffaaa
open Go.ChangeShapes Go.WideShapes Go.ChangeAt Go.RowKit Go.Proofs.YtnmnghpdmiffaaaW.PrintWords
/-- A slice of whole numbers, as it is read. -/
def IsRowO (k : IntKind) (w : World) (a : Option Addr) (len cap : Nat) (zs : List Int) : Prop :=
  (a = none ∧ len = 0 ∧ cap = 0 ∧ zs = []) ∨
  ∃ x, a = some x ∧ len ≤ cap ∧ cap ≤ maxLen ∧ zs.length = cap ∧ (∀ i, i < zs.length → w.cell? (x.add i) = some (.int k (zs.getD i 0))) ∧ ∀ n ∈ zs, (Lit.int k n).wf = true
theorem open_rows {H : Type} {enc : TypeId × Value → H} {P : Program} {w : World} {base : Nat} {held : Bool} {t e f : TypeId} {k : IntKind} {fuel : Nat} {cs : List Value} {x : DataW H × List MemPlace}
    (ht : P.underlying t = some (.slice e)) (he : P.underlying e = some (.slice f)) (hf : P.underlying f = some (.int k)) (hce : P.cellsOf e = 1) (hcf : P.cellsOf f = 1)
    (h : DataW.trod enc P w base (fun _ => true) held fuel t cs = some x) :
    cs = [.slice none 0 0] ∨ ∃ (a : Addr) (len cap : Nat), cs = [.slice (some a) len cap] ∧ len ≤ cap ∧ cap ≤ maxLen ∧
      ∀ i, i < len → ∃ (A : Option Addr) (l c : Nat) (zs : List Int), w.cell? (a.add i) = some (.slice A l c) ∧ IsRowO k w A l c zs := by
  rcases DataW.trod_slice ht h with h0 | ⟨a, len, cap, elems, rest, n, _, rfl, rfl, hb, hl, hm, hlen, hel, hsp, hns⟩
  · exact Or.inl h0.1
  right
  refine ⟨a, len, cap, rfl, hl, hm, fun i hi => ?_⟩
  have hE := hel i hi
  rw [hce, Nat.mul_one] at hE
  obtain ⟨y, hy⟩ : ∃ y, elems[i]? = some y := ⟨_, List.getElem?_eq_getElem (by omega)⟩
  rw [hy, Option.bind_eq_some_iff] at hE
  obtain ⟨cs', hcs, hy'⟩ := hE
  rcases open_ints he hf hcf hy' with ⟨h1, _⟩ | ⟨a', l', c', zs, h1, _, hl', hm', hz, _, hcell, hwz⟩
  · subst h1
    exact ⟨none, 0, 0, [], cell_of_cells?_one hcs, .inl ⟨rfl, rfl, rfl, rfl⟩⟩
  · subst h1
    exact ⟨some a', l', c', zs, cell_of_cells?_one hcs, .inr ⟨a', rfl, hl', hm', by simpa using hz, hcell, hwz⟩⟩
end Go.Proofs.Ytnmnghpdmiffaaa
