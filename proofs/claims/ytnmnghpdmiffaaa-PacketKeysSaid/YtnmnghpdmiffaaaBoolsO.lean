/-
  An argument that is a list of bools, opened.
-/
import Derived.Test.YtnmnghpdmiffaaaArr2
import Derived.ChangeSlices
import Derived.WalkKit
import Derived.ProofKit
namespace Go.Proofs.Ytnmnghpdmiffaaa
open Go.ChangeShapes Go.WideShapes Go.ChangeAt Go.RowKit Go.Proofs.YtnmnghpdmiffaaaW.PrintWords
theorem open_bools {H : Type} {enc : TypeId × Value → H} {P : Program} {w : World} {base : Nat} {held : Bool} {t e : TypeId} {fuel : Nat} {cs : List Value} {x : DataW H × List MemPlace}
    (ht : P.underlying t = some (.slice e)) (he : P.underlying e = some .bool) (hce : P.cellsOf e = 1)
    (h : DataW.trod enc P w base (fun _ => true) held fuel t cs = some x) :
    cs = [.slice none 0 0] ∨ ∃ (a : Addr) (len cap : Nat), cs = [.slice (some a) len cap] ∧ len ≤ cap ∧ cap ≤ maxLen ∧
      ∀ i, i < len → ∃ b : Bool, w.cell? (a.add i) = some (.bool b) := by
  rcases DataW.trod_slice ht h with h0 | ⟨a, len, cap, elems, rest, n, _, rfl, rfl, hb, hl, hm, hlen, hel, hsp, hns⟩
  · exact Or.inl h0.1
  right
  refine ⟨a, len, cap, rfl, hl, hm, fun i hi => ?_⟩
  have hE := hel i hi
  rw [hce, Nat.mul_one] at hE
  obtain ⟨y, hy⟩ : ∃ y, elems[i]? = some y := ⟨_, List.getElem?_eq_getElem (by omega)⟩
  rw [hy, Option.bind_eq_some_iff] at hE
  obtain ⟨cs', hcs, hy'⟩ := hE
  obtain ⟨b, h1, _⟩ := DataW.trod_bool he hy'
  subst h1
  exact ⟨b, cell_of_cells?_one hcs⟩
end Go.Proofs.Ytnmnghpdmiffaaa
