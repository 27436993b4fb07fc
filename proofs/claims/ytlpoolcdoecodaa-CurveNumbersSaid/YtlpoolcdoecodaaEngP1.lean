/-
  THE ENGINE: a verified abstract run of the program. No statement of the program is proved here.
-/
import Derived.Below
import Derived.Orders
import Derived.Laws.Cells
import Derived.Laws.IdiomCopy
import Derived.Laws.BytesString
set_option linter.unusedVariables false
set_option linter.unusedSimpArgs false
/- Part Eng1. -/
namespace Go.Proofs.Ytlpoolcdoecodaa.Eng
open Go.RowKit

/-- Where an abstract block lies: the block, its first cell, how many cells there are from there on, how many cells an element has. -/
structure Loc where
  blk : Nat
  base : Nat
  room : Nat
  unit : Nat

abbrev Env := Nat → Option Loc
/-- A slice's capacity that is not known: this, and how many cells an element has. -/
abbrev OPEN : Nat := 18446744073709551616
/-- Nothing is known of this value. -/
abbrev topv : Value := .map none

/-- Values that are the same in both runs. -/
def flat : Value → Bool
  | .bool _ | .int .. | .float .. | .complex .. | .string _ | .pointer none | .slice none .. | .nilFunc | .nilIface => true
  | _ => false

mutual
inductive VR (e : Env) : Value → Value → Prop
  | top (v : Value) : VR e (.map none) v
  | flat (v : Value) : flat v = true → VR e v v
  | ptr (id off : Nat) (l : Loc) : e id = some l → VR e (.pointer (some ⟨id, off, none⟩)) (.pointer (some ⟨l.blk, l.base + off, none⟩))
  | slice (id off n c : Nat) (a' : Addr) (c' : Nat) (l : Loc) : e id = some l → (a' = ⟨l.blk, l.base + off, none⟩ ∨ n = 0 ∧ c' = 0) → n ≤ c' → (c = c' ∧ c < OPEN ∨ OPEN ≤ c) → (OPEN ≤ c → 0 < c' → off + c' * (c - OPEN) ≤ l.room) →
      VR e (.slice (some ⟨id, off, none⟩) n c) (.slice (some a') n c')
  | agg (xs ys : List Value) : VRs e xs ys → VR e (.agg xs.toArray) (.agg ys.toArray)
  | tuple (xs ys : List Value) : VRs e xs ys → VR e (.tuple xs.toArray) (.tuple ys.toArray)
  | func (f : Fn) (xs ys xs' ys' : List Value) : VRs e xs ys → VRs e xs' ys' → VR e (.func f xs.toArray xs'.toArray) (.func f ys.toArray ys'.toArray)
inductive VRs (e : Env) : List Value → List Value → Prop
  | nil : VRs e [] []
  | cons (x y : Value) (xs ys : List Value) : VR e x y → VRs e xs ys → VRs e (x :: xs) (y :: ys)
end

/-- What is known of places stays known. -/
def Ext (e e' : Env) : Prop := ∀ id l, e id = some l → e' id = some l
theorem Ext.refl (e : Env) : Ext e e := fun _ _ h => h
theorem Ext.trans {a b c : Env} (h : Ext a b) (k : Ext b c) : Ext a c := fun id l hl => k id l (h id l hl)

mutual
theorem VR.mono {e e' : Env} (h : Ext e e') : ∀ {x y : Value}, VR e x y → VR e' x y
  | _, _, .top v => .top v
  | _, _, .flat v hv => .flat v hv
  | _, _, .ptr id off l hl => .ptr id off l (h id l hl)
  | _, _, .slice id off n c a' c' l hl h1 h2 h3 h4 => .slice id off n c a' c' l (h id l hl) h1 h2 h3 h4
  | _, _, .agg xs ys hs => .agg xs ys (VRs.mono h hs)
  | _, _, .tuple xs ys hs => .tuple xs ys (VRs.mono h hs)
  | _, _, .func f xs ys xs' ys' hs hs' => .func f xs ys xs' ys' (VRs.mono h hs) (VRs.mono h hs')
theorem VRs.mono {e e' : Env} (h : Ext e e') : ∀ {xs ys : List Value}, VRs e xs ys → VRs e' xs ys
  | _, _, .nil => .nil
  | _, _, .cons x y xs ys hx hs => .cons x y xs ys (VR.mono h hx) (VRs.mono h hs)
end

theorem VR.of_flat {e : Env} {x y : Value} (hx : Eng.flat x = true) (h : VR e x y) : y = x := by
  cases h with
  | flat v hv => rfl
  | top v => simp [Eng.flat] at hx
  | ptr id off l hl => simp [Eng.flat] at hx
  | slice id off n c a' c' l => simp [Eng.flat] at hx
  | agg xs ys hs => simp [Eng.flat] at hx
  | tuple xs ys hs => simp [Eng.flat] at hx
  | func f xs ys xs' ys' => simp [Eng.flat] at hx
theorem VR.int {e : Env} {k : IntKind} {n : Int} {y : Value} (h : VR e (.int k n) y) : y = .int k n := VR.of_flat rfl h
theorem VR.bool {e : Env} {b : Bool} {y : Value} (h : VR e (.bool b) y) : y = .bool b := VR.of_flat rfl h
theorem VR.string {e : Env} {s : ByteArray} {y : Value} (h : VR e (.string s) y) : y = .string s := VR.of_flat rfl h
theorem VR.ptr_inv {e : Env} {id off : Nat} {y : Value} (h : VR e (.pointer (some ⟨id, off, none⟩)) y) : ∃ l, e id = some l ∧ y = .pointer (some ⟨l.blk, l.base + off, none⟩) := by
  cases h with
  | flat v hv => simp [Eng.flat] at hv
  | ptr id off l hl => exact ⟨l, hl, rfl⟩
theorem VR.ptr_spot {e : Env} {id off s : Nat} {y : Value} (h : VR e (.pointer (some ⟨id, off, some s⟩)) y) : False := by
  cases h with
  | flat v hv => simp [Eng.flat] at hv
theorem VR.slice_inv {e : Env} {id off n c : Nat} {y : Value} (h : VR e (.slice (some ⟨id, off, none⟩) n c) y) :
    ∃ a' c' l, e id = some l ∧ y = .slice (some a') n c' ∧ (a' = ⟨l.blk, l.base + off, none⟩ ∨ n = 0 ∧ c' = 0) ∧ n ≤ c' ∧ (c = c' ∧ c < OPEN ∨ OPEN ≤ c) ∧ (OPEN ≤ c → 0 < c' → off + c' * (c - OPEN) ≤ l.room) := by
  cases h with
  | flat v hv => simp [Eng.flat] at hv
  | slice id off n c a' c' l hl h1 h2 h3 h4 => exact ⟨a', c', l, hl, rfl, h1, h2, h3, h4⟩
theorem VR.agg_inv {e : Env} {xs : Array Value} {y : Value} (h : VR e (.agg xs) y) : ∃ ys : List Value, y = .agg ys.toArray ∧ VRs e xs.toList ys := by
  cases h with
  | flat v hv => simp [Eng.flat] at hv
  | agg xs ys hs => exact ⟨ys, rfl, by simpa using hs⟩
theorem VR.tuple_inv {e : Env} {xs : Array Value} {y : Value} (h : VR e (.tuple xs) y) : ∃ ys : List Value, y = .tuple ys.toArray ∧ VRs e xs.toList ys := by
  cases h with
  | flat v hv => simp [Eng.flat] at hv
  | tuple xs ys hs => exact ⟨ys, rfl, by simpa using hs⟩
theorem VR.func_inv {e : Env} {f : Fn} {xs xs' : Array Value} {y : Value} (h : VR e (.func f xs xs') y) : ∃ ys ys' : List Value, y = .func f ys.toArray ys'.toArray ∧ VRs e xs.toList ys ∧ VRs e xs'.toList ys' := by
  cases h with
  | flat v hv => simp [Eng.flat] at hv
  | func f xs ys xs' ys' hs hs' => exact ⟨ys, ys', rfl, by simpa using hs, by simpa using hs'⟩

theorem VRs.length {e : Env} : ∀ {xs ys : List Value}, VRs e xs ys → ys.length = xs.length
  | _, _, .nil => rfl
  | _, _, .cons _ _ _ _ _ hs => by simp [VRs.length hs]
theorem VRs.get {e : Env} {xs : List Value} : ∀ {ys : List Value}, VRs e xs ys → ∀ (i : Nat) (v : Value), xs[i]? = some v → ∃ v', ys[i]? = some v' ∧ VR e v v' := by
  induction xs with
  | nil => intro ys _ i v h; simp at h
  | cons x xs ih =>
    intro ys hs i v h
    cases hs with
    | cons x y xs ys hx hs =>
      cases i with
      | zero => simp at h; subst h; exact ⟨y, rfl, hx⟩
      | succ i => simpa using ih hs i v (by simpa using h)
theorem VRs.of_get {e : Env} : ∀ {xs ys : List Value}, ys.length = xs.length → (∀ (i : Nat) (v : Value), xs[i]? = some v → ∃ v', ys[i]? = some v' ∧ VR e v v') → VRs e xs ys
  | [], [], _, _ => .nil
  | [], y :: ys, h, _ => by simp at h
  | x :: xs, [], h, _ => by simp at h
  | x :: xs, y :: ys, h, hg => by
    obtain ⟨v', h1, h2⟩ := hg 0 x rfl
    simp at h1
    subst h1
    exact .cons _ _ _ _ h2 (VRs.of_get (by simpa using h) fun i v hv => by simpa using hg (i + 1) v (by simpa using hv))
theorem VRs.append {e : Env} {xs' ys' : List Value} (h : VRs e xs' ys') : ∀ {xs ys : List Value}, VRs e xs ys → VRs e (xs ++ xs') (ys ++ ys')
  | _, _, .nil => h
  | _, _, .cons _ _ _ _ hx hs => .cons _ _ _ _ hx (VRs.append h hs)
theorem VRs.flats {e : Env} : ∀ {xs : List Value}, xs.all Eng.flat = true → VRs e xs xs
  | [], _ => .nil
  | x :: xs, h => by simp at h; exact .cons _ _ _ _ (.flat x h.1) (VRs.flats (by simpa using h.2))
theorem VRs.of_flats {e : Env} {xs : List Value} : ∀ {ys : List Value}, xs.all Eng.flat = true → VRs e xs ys → ys = xs := by
  induction xs with
  | nil => intro ys _ h; cases h; rfl
  | cons x xs ih =>
    intro ys h hs
    cases hs with
    | cons x y xs ys hx hs =>
      simp at h
      rw [VR.of_flat h.1 hx, ih (by simpa using h.2) hs]
theorem VRs.set {e : Env} {x y : Value} (hv : VR e x y) : ∀ {xs ys : List Value} (i : Nat), VRs e xs ys → VRs e (xs.set i x) (ys.set i y)
  | _, _, _, .nil => .nil
  | _, _, 0, .cons _ _ _ _ _ hs => .cons _ _ _ _ hv hs
  | _, _, i + 1, .cons _ _ _ _ hx hs => .cons _ _ _ _ hx (VRs.set hv i hs)
theorem VRs.take {e : Env} : ∀ {xs ys : List Value} (n : Nat), VRs e xs ys → VRs e (xs.take n) (ys.take n)
  | _, _, 0, _ => by simpa using .nil
  | _, _, n + 1, .nil => by simpa using .nil
  | _, _, n + 1, .cons _ _ _ _ hx hs => .cons _ _ _ _ hx (VRs.take n hs)
theorem VRs.drop {e : Env} : ∀ {xs ys : List Value} (n : Nat), VRs e xs ys → VRs e (xs.drop n) (ys.drop n)
  | _, _, 0, h => h
  | _, _, n + 1, .nil => by simpa using .nil
  | _, _, n + 1, .cons _ _ _ _ _ hs => VRs.drop n hs
theorem VRs.replicate {e : Env} {x y : Value} (hv : VR e x y) : ∀ n, VRs e (List.replicate n x) (List.replicate n y)
  | 0 => .nil
  | n + 1 => .cons _ _ _ _ hv (VRs.replicate hv n)

/-- An abstract block. 'ro': it is read, never written. -/
structure Blk where
  elem : TypeId
  unit : Nat
  cells : List Value
  ro : Bool

abbrev Mem := List (Nat × Blk)
def mget : Mem → Nat → Option Blk
  | [], _ => none
  | (i, b) :: m, id => if i = id then some b else mget m id
def mset : Mem → Nat → Blk → Mem
  | [], _, _ => []
  | (i, b) :: m, id, b' => if i = id then (i, b') :: m else (i, b) :: mset m id b'
def mdel : Mem → Nat → Mem
  | [], _ => []
  | (i, b) :: m, id => if i = id then mdel m id else (i, b) :: mdel m id
theorem mget_cons (m : Mem) (i id : Nat) (b : Blk) : mget ((i, b) :: m) id = if i = id then some b else mget m id := rfl
theorem mget_mset (id j : Nat) (b : Blk) : ∀ m : Mem, mget (mset m id b) j = if j = id then (mget m id).map (fun _ => b) else mget m j
  | [] => by simp [mset, mget]
  | (i, c) :: m => by
    unfold mset
    by_cases h : i = id
    · subst h
      by_cases hj : j = i
      · subst hj; simp [mget]
      · simp [mget, hj, Ne.symm hj]
    · simp only [h, if_false, mget_cons, mget_mset id j b m]
      by_cases hj : j = id
      · subst hj; simp [h]
      · simp [hj]
theorem mget_mdel (id j : Nat) : ∀ m : Mem, mget (mdel m id) j = if j = id then none else mget m j
  | [] => by simp [mdel, mget]
  | (i, c) :: m => by
    unfold mdel
    by_cases h : i = id
    · subst h
      rw [if_pos rfl, mget_mdel i j m, mget_cons]
      by_cases hj : j = i
      · simp [hj]
      · simp [hj, Ne.symm hj]
    · simp only [h, if_false, mget_cons, mget_mdel id j m]
      by_cases hj : j = id
      · subst hj; simp [h]
      · simp [hj]

/-- How a block stands in the world. -/
structure BlkR (e : Env) (w : World) (l : Loc) (B : Blk) : Prop where mk ::
  out : ∃ (c : Array Value) (f : Nat × Nat), w.heap[l.blk]? = some (.cells c B.elem f) ∧ l.base + l.room = c.size ∧ l.unit = B.unit ∧ B.cells.length ≤ l.room ∧ (∀ i v, B.cells[i]? = some v → ∃ v', c[l.base + i]? = some v' ∧ VR e v v') ∧ (B.ro = false → f.1 = f.2 ∨ c.size ≤ f.1)

/-- The blocks that may be written, and the names that may be given: those from 'lo' on, below 'top'; what the others name. -/
structure Fr where
  w : Nat → Prop
  lo : Nat
  top : Nat
  e0 : Env

/-- How the memory stands in the world: as it was in w0, but for the blocks in W and new ones. -/
structure MS (w0 : World) (W : Fr) (e : Env) (nx : Nat) (M : Mem) (w : World) : Prop where
  os : w.os = w0.os
  tape : w.tape = w0.tape
  output : w.output = w0.output
  size : w0.heap.size ≤ w.heap.size
  frame : ∀ b, b < w0.heap.size → ¬ W.w b → w.heap[b]? = w0.heap[b]?
  low : W.lo ≤ nx
  base : ∀ id, id < W.lo ∨ W.top ≤ id → e id = W.e0 id
  fresh : ∀ id, nx ≤ id → id < W.top → e id = none
  blk : ∀ id B, mget M id = some B → ∃ l, e id = some l ∧ BlkR e w l B
  own : ∀ id B l, mget M id = some B → e id = some l → B.ro = false → W.w l.blk ∨ w0.heap.size ≤ l.blk
  inj : ∀ id id' B B' l l', mget M id = some B → mget M id' = some B' → e id = some l → e id' = some l' → B.ro = false → l.blk = l'.blk → id = id'

theorem BlkR.mono {e e' : Env} {w w' : World} {l : Loc} {B : Blk} (h : BlkR e w l B) (he : Ext e e') (hw : w'.heap[l.blk]? = w.heap[l.blk]?) : BlkR e' w' l B := by
  obtain ⟨c, f, h1, h2, hu, h3, h4, h5⟩ := h.out
  exact ⟨c, f, hw.trans h1, h2, hu, h3, fun i v hv => let ⟨v', a, b⟩ := h4 i v hv; ⟨v', a, b.mono he⟩, h5⟩
theorem BlkR.lt {e : Env} {w : World} {l : Loc} {B : Blk} (h : BlkR e w l B) : l.blk < w.heap.size := by
  obtain ⟨c, f, h1, _⟩ := h.out
  exact (Array.getElem?_eq_some_iff.1 h1).1

section
variable {w0 w : World} {W : Fr} {e : Env} {nx : Nat} {M : Mem}

/-- A cell that is known. -/
theorem MS.cell (h : MS w0 W e nx M w) {id : Nat} {B : Blk} (hb : mget M id = some B) {l : Loc} (hl : e id = some l) {i : Nat} {v : Value} (hv : B.cells[i]? = some v) :
    ∃ v', w.cell? ⟨l.blk, l.base + i, none⟩ = some v' ∧ VR e v v' := by
  obtain ⟨l', hl', hr⟩ := h.blk id B hb
  obtain rfl : l = l' := by rw [hl] at hl'; exact Option.some.inj hl'
  obtain ⟨c, f, h1, h2, hu, h3, h4, h5⟩ := hr.out
  obtain ⟨v', a, b⟩ := h4 i v hv
  exact ⟨v', by simp [World.cell?, h1, a], b⟩
theorem MS.free (h : MS w0 W e nx M w) {id : Nat} {B : Blk} (hb : mget M id = some B) {l : Loc} (hl : e id = some l) (hro : B.ro = false) {o : Nat} (ho : o < l.base + l.room) :
    w.frozen? ⟨l.blk, o, none⟩ = false := by
  obtain ⟨l', hl', hr⟩ := h.blk id B hb
  obtain rfl : l = l' := by rw [hl] at hl'; exact Option.some.inj hl'
  obtain ⟨c, f, h1, h2, hu, h3, h4, h5⟩ := hr.out
  have := h5 hro
  simp only [World.frozen?, h1]
  simp only [Bool.and_eq_false_iff, decide_eq_false_iff_not]
  omega
/-- Fewer blocks. -/
theorem MS.weaken (h : MS w0 W e nx M w) {M' : Mem} (hm : ∀ id B, mget M' id = some B → mget M id = some B) : MS w0 W e nx M' w :=
  { h with
    blk := fun id B hb => h.blk id B (hm id B hb)
    own := fun id B l hb => h.own id B l (hm id B hb)
    inj := fun id id' B B' l l' hb hb' => h.inj id id' B B' l l' (hm id B hb) (hm id' B' hb') }
theorem MS.del (h : MS w0 W e nx M w) (id : Nat) : MS w0 W e nx (mdel M id) w :=
  h.weaken fun j B hb => by rw [mget_mdel] at hb; split at hb <;> simp_all
theorem MS.next (h : MS w0 W e nx M w) {nx' : Nat} (hn : nx ≤ nx') : MS w0 W e nx' M w := { h with low := Nat.le_trans h.low hn, fresh := fun id hi hj => h.fresh id (by omega) hj }
/-- Orders that are drawn. -/
theorem MS.drew (h : MS w0 W e nx M w) (n : Nat) : MS w0 W e nx M { w with drawn := n } :=
  { os := h.os, tape := h.tape, output := h.output, size := h.size, frame := h.frame, low := h.low, base := h.base, fresh := h.fresh, own := h.own, inj := h.inj
    blk := fun id B hb => let ⟨l, a, b⟩ := h.blk id B hb; ⟨l, a, b.mono (Ext.refl e) rfl⟩ }

/-- A new place's name. -/
def put (e : Env) (id : Nat) (l : Loc) : Env := fun j => if j = id then some l else e j
theorem put_same (e : Env) (id : Nat) (l : Loc) : put e id l id = some l := by simp [put]
theorem put_ext {id : Nat} (h : e id = none) (l : Loc) : Ext e (put e id l) := by
  intro j k hj
  unfold put
  by_cases hji : j = id
  · subst hji; rw [h] at hj; cases hj
  · simp [hji, hj]
theorem put_other {id j : Nat} (h : j ≠ id) (l : Loc) : put e id l j = e j := by simp [put, h]

/-- A new block. -/
theorem MS.alloc (h : MS w0 W e nx M w) {cs ds : List Value} (elem : TypeId) (f : Nat × Nat) (u : Nat) (hcs : ∀ (i : Nat) (v : Value), cs[i]? = some v → ∃ v', ds[i]? = some v' ∧ VR e v v') (hlen : cs.length ≤ ds.length)
    (hf : f.1 = f.2 ∨ ds.length ≤ f.1) {id : Nat} (hid : nx ≤ id) {nx' : Nat} (hn : id < nx') (hB : nx' ≤ W.top) :
    MS w0 W (put e id ⟨w.heap.size, 0, ds.length, u⟩) nx' ((id, ⟨elem, u, cs, false⟩) :: M) (w.alloc (.cells ds.toArray elem f)) ∧ Ext e (put e id ⟨w.heap.size, 0, ds.length, u⟩) := by
  have hx := put_ext (h.fresh id hid (by omega)) ⟨w.heap.size, 0, ds.length, u⟩
  have hh : ∀ k, k < w.heap.size → (w.alloc (.cells ds.toArray elem f)).heap[k]? = w.heap[k]? := fun k hk => Below.heap_alloc _ _ _ hk
  have hnew : (w.alloc (.cells ds.toArray elem f)).heap[w.heap.size]? = some (.cells ds.toArray elem f) := by
    show (w.heap.push _)[_]? = _
    simp
  have hnid : mget M id = none := by
    cases hm : mget M id with
    | none => rfl
    | some B => obtain ⟨l, hl, _⟩ := h.blk id B hm; rw [h.fresh id hid (by omega)] at hl; cases hl
  have hold : ∀ j B l, mget M j = some B → put e id ⟨w.heap.size, 0, ds.length, u⟩ j = some l → e j = some l ∧ l.blk < w.heap.size := by
    intro j B l hb hl
    have hji : j ≠ id := by rintro rfl; rw [hnid] at hb; cases hb
    rw [put_other hji] at hl
    obtain ⟨l', hl', hr⟩ := h.blk j B hb
    obtain rfl : l = l' := by rw [hl] at hl'; exact Option.some.inj hl'
    exact ⟨hl, hr.lt⟩
  refine ⟨{ os := h.os, tape := h.tape, output := h.output, size := ?_, frame := ?_, low := Nat.le_trans h.low (by omega), base := fun j hj => by rw [put_other (by have := h.low; omega)]; exact h.base j hj, fresh := ?_, blk := ?_, own := ?_, inj := ?_ }, hx⟩
  · have := h.size; simp; omega
  · intro b hb hw; rw [hh b (by have := h.size; omega)]; exact h.frame b hb hw
  · intro j hj hj2; rw [put_other (by omega)]; exact h.fresh j (by omega) hj2
  · intro j B hb
    rw [mget_cons] at hb
    split at hb
    · rename_i hj
      subst hj
      obtain rfl := Option.some.inj hb
      refine ⟨_, put_same .., ⟨ds.toArray, f, hnew, by simp, rfl, hlen, fun i v hv => ?_, fun _ => by simpa using hf⟩⟩
      obtain ⟨v', a, b⟩ := hcs i v hv
      exact ⟨v', by simpa using a, b.mono hx⟩
    · obtain ⟨l, hl, hr⟩ := h.blk j B hb
      exact ⟨l, hx j l hl, hr.mono hx (hh _ hr.lt)⟩
  · intro j B l hb hl hro
    rw [mget_cons] at hb
    split at hb
    · rename_i hj
      subst hj
      rw [put_same] at hl
      obtain rfl := Option.some.inj hl
      exact .inr h.size
    · obtain ⟨h1, _⟩ := hold j B l hb hl
      exact h.own j B l hb h1 hro
  · intro j j' B B' l l' hb hb' hl hl' hro heq
    rw [mget_cons] at hb hb'
    split at hb
    · rename_i hj
      subst hj
      rw [put_same] at hl
      obtain rfl := Option.some.inj hl
      split at hb'
      · rename_i hj'; exact hj'
      · have := (hold j' B' l' hb' hl').2
        simp only at heq
        omega
    · have h1 := hold j B l hb hl
      split at hb'
      · rename_i hj'
        subst hj'
        rw [put_same] at hl'
        obtain rfl := Option.some.inj hl'
        simp only at heq
        omega
      · exact h.inj j j' B B' l l' hb hb' h1.1 (hold j' B' l' hb' hl').1 hro heq
end
end Go.Proofs.Ytlpoolcdoecodaa.Eng

/- Part Eng2. -/
namespace Go.Proofs.Ytlpoolcdoecodaa.Eng
open Go.RowKit

theorem setCells_same (b : Nat) : ∀ (vs : List Value) (o : Nat) (w : World), (w.setCells b o vs).os = w.os ∧ (w.setCells b o vs).tape = w.tape ∧ (w.setCells b o vs).output = w.output ∧ (w.setCells b o vs).heap.size = w.heap.size ∧ ∀ k, k ≠ b → (w.setCells b o vs).heap[k]? = w.heap[k]?
  | [], _, _ => ⟨rfl, rfl, rfl, rfl, fun _ _ => rfl⟩
  | v :: r, o, w => by
    obtain ⟨h1, h2, h3, h4, h5⟩ := setCells_same b r (o + 1) (w.setCell ⟨b, o, none⟩ v)
    refine ⟨h1, h2, h3, h4.trans (World.size_setCell ..), fun k hk => (h5 k hk).trans (Below.heap_setCell _ _ _ _ hk)⟩
theorem setCells_heap (b : Nat) (elem : TypeId) (f : Nat × Nat) : ∀ (vs : List Value) (o : Nat) (w : World) (c : Array Value), w.heap[b]? = some (.cells c elem f) → o + vs.length ≤ c.size →
    ∃ c', (w.setCells b o vs).heap[b]? = some (.cells c' elem f) ∧ c'.size = c.size ∧ ∀ i, c'[i]? = if o ≤ i ∧ i < o + vs.length then vs[i - o]? else c[i]?
  | [], o, w, c, h, _ => ⟨c, h, rfl, fun i => by rw [if_neg (by have : ([] : List Value).length = 0 := rfl; omega)]⟩
  | v :: r, o, w, c, h, hl => by
    simp at hl
    have h1 : (w.setCell ⟨b, o, none⟩ v).heap[b]? = some (.cells (c.setIfInBounds o v) elem f) := by
      simp [World.setCell, Array.getElem?_modify, h]
    obtain ⟨c', e1, e2, e3⟩ := setCells_heap b elem f r (o + 1) _ _ h1 (by simp; omega)
    refine ⟨c', e1, by simpa using e2, fun i => ?_⟩
    rw [e3 i]
    by_cases ho : i = o
    · subst ho
      rw [if_neg (by omega), if_pos (by simp), Array.getElem?_setIfInBounds_self_of_lt (by omega)]
      simp
    · by_cases hi : o ≤ i ∧ i < o + (r.length + 1)
      · rw [if_pos (by omega), if_pos (by simpa using hi), show i - o = (i - (o + 1)) + 1 by omega]
        simp
      · rw [if_neg (by omega), if_neg (by simpa using hi), Array.getElem?_setIfInBounds_ne (by omega)]

section
variable {w0 w : World} {W : Fr} {e : Env} {nx : Nat} {M : Mem}

/-- A block that is written. -/
theorem MS.change (h : MS w0 W e nx M w) {id : Nat} {B : Blk} {l : Loc} (hb : mget M id = some B) (hl : e id = some l) (hro : B.ro = false) {w' : World} (cs : List Value)
    (hos : w'.os = w.os) (htp : w'.tape = w.tape) (hout : w'.output = w.output) (hsz : w'.heap.size = w.heap.size) (hoth : ∀ k, k ≠ l.blk → w'.heap[k]? = w.heap[k]?)
    (hnew : BlkR e w' l ⟨B.elem, B.unit, cs, false⟩) : MS w0 W e nx (mset M id ⟨B.elem, B.unit, cs, false⟩) w' := by
  have hne : ∀ j B' l', mget M j = some B' → e j = some l' → j ≠ id → l'.blk ≠ l.blk := fun j B' l' hj hl' hji hbl => hji (h.inj id j B B' l l' hb hj hl hl' hro hbl.symm).symm
  have hget : ∀ j B', mget (mset M id ⟨B.elem, B.unit, cs, false⟩) j = some B' → (j = id ∧ B' = ⟨B.elem, B.unit, cs, false⟩) ∨ (j ≠ id ∧ mget M j = some B') := by
    intro j B' hj
    rw [mget_mset] at hj
    split at hj
    · rename_i hji; subst hji; rw [hb] at hj; exact .inl ⟨rfl, by simpa using hj.symm⟩
    · rename_i hji; exact .inr ⟨hji, hj⟩
  refine { os := hos.trans h.os, tape := htp.trans h.tape, output := hout.trans h.output, size := hsz ▸ h.size, frame := ?_, low := h.low, base := h.base, fresh := h.fresh, blk := ?_, own := ?_, inj := ?_ }
  · intro b hb0 hw
    have hbl : b ≠ l.blk := by
      rintro rfl
      rcases h.own id B l hb hl hro with h1 | h1
      · exact hw h1
      · omega
    rw [hoth b hbl]; exact h.frame b hb0 hw
  · intro j B' hj
    rcases hget j B' hj with ⟨rfl, rfl⟩ | ⟨hji, hj'⟩
    · exact ⟨l, hl, hnew⟩
    · obtain ⟨l', hl', hr⟩ := h.blk j B' hj'
      exact ⟨l', hl', hr.mono (Ext.refl e) (hoth _ (hne j B' l' hj' hl' hji))⟩
  · intro j B' l' hj hl' hr
    rcases hget j B' hj with ⟨rfl, rfl⟩ | ⟨hji, hj'⟩
    · exact h.own j B l' hb hl' hro
    · exact h.own j B' l' hj' hl' hr
  · intro j j' B' B'' l' l'' hj hj' hl' hl'' hr heq
    rcases hget j B' hj with ⟨rfl, rfl⟩ | ⟨hji, hj1⟩
    · rcases hget j' B'' hj' with ⟨rfl, rfl⟩ | ⟨hji', hj2⟩
      · rfl
      · exact h.inj j j' B B'' l' l'' hb hj2 hl' hl'' hro heq
    · rcases hget j' B'' hj' with ⟨rfl, rfl⟩ | ⟨hji', hj2⟩
      · exact h.inj j j' B' B l' l'' hj1 hb hl' hl'' hr heq
      · exact h.inj j j' B' B'' l' l'' hj1 hj2 hl' hl'' hr heq
/-- A block that is written and goes by a new name from then on. -/
theorem MS.rename (h : MS w0 W e nx M w) {id : Nat} {B : Blk} {l : Loc} (hb : mget M id = some B) (hl : e id = some l) (hro : B.ro = false) {w' : World} {l' : Loc} (hll : l'.blk = l.blk) (u : Nat) (cs : List Value) {id' nx' : Nat} (hid : nx ≤ id') (hn : id' < nx') (hB : nx' ≤ W.top)
    (hos : w'.os = w.os) (htp : w'.tape = w.tape) (hout : w'.output = w.output) (hsz : w'.heap.size = w.heap.size) (hoth : ∀ k, k ≠ l.blk → w'.heap[k]? = w.heap[k]?)
    (hnew : BlkR (put e id' l') w' l' ⟨B.elem, u, cs, false⟩) : MS w0 W (put e id' l') nx' ((id', ⟨B.elem, u, cs, false⟩) :: mdel M id) w' := by
  have hx := put_ext (h.fresh id' hid (by omega)) l'
  have hne : ∀ j B' k, mget M j = some B' → e j = some k → j ≠ id → k.blk ≠ l.blk := fun j B' k hj hk hji hbl => hji (h.inj id j B B' l k hb hj hl hk hro hbl.symm).symm
  have hnid : mget M id' = none := by
    cases hm : mget M id' with
    | none => rfl
    | some B => obtain ⟨l, hl, _⟩ := h.blk id' B hm; rw [h.fresh id' hid (by omega)] at hl; cases hl
  have hget : ∀ j B', mget ((id', (⟨B.elem, u, cs, false⟩ : Blk)) :: mdel M id) j = some B' → (j = id' ∧ B' = ⟨B.elem, u, cs, false⟩) ∨ (j ≠ id' ∧ j ≠ id ∧ mget M j = some B') := by
    intro j B' hj
    rw [mget_cons] at hj
    split at hj
    · rename_i hji; exact .inl ⟨hji.symm, (Option.some.inj hj).symm⟩
    · rename_i hji
      rw [mget_mdel] at hj
      split at hj
      · cases hj
      · rename_i hjd; exact .inr ⟨fun hh => hji hh.symm, hjd, hj⟩
  refine { os := hos.trans h.os, tape := htp.trans h.tape, output := hout.trans h.output, size := hsz ▸ h.size, frame := ?_, low := Nat.le_trans h.low (by omega), base := fun j hj => by rw [put_other (by have := h.low; omega)]; exact h.base j hj, fresh := ?_, blk := ?_, own := ?_, inj := ?_ }
  · intro b hb0 hw
    have hbl : b ≠ l.blk := by
      rintro rfl
      rcases h.own id B l hb hl hro with h1 | h1
      · exact hw h1
      · omega
    rw [hoth b hbl]; exact h.frame b hb0 hw
  · intro j hj hj2
    rw [put_other (by omega)]; exact h.fresh j (by omega) hj2
  · intro j B' hj
    rcases hget j B' hj with ⟨rfl, rfl⟩ | ⟨hji, hjd, hj'⟩
    · exact ⟨l', put_same .., hnew⟩
    · obtain ⟨k, hk, hr⟩ := h.blk j B' hj'
      exact ⟨k, hx j k hk, hr.mono hx (hoth _ (hne j B' k hj' hk hjd))⟩
  · intro j B' k hj hk hr
    rcases hget j B' hj with ⟨rfl, rfl⟩ | ⟨hji, hjd, hj'⟩
    · rw [put_same] at hk
      obtain rfl := Option.some.inj hk
      rw [hll]
      exact h.own id B l hb hl hro
    · rw [put_other hji] at hk
      exact h.own j B' k hj' hk hr
  · intro j j' B' B'' k k' hj hj' hk hk' hr heq
    rcases hget j B' hj with ⟨rfl, rfl⟩ | ⟨hji, hjd, hj1⟩
    · rcases hget j' B'' hj' with ⟨rfl, rfl⟩ | ⟨hji', hjd', hj2⟩
      · rfl
      · rw [put_same] at hk
        obtain rfl := Option.some.inj hk
        rw [put_other hji'] at hk'
        exact absurd (heq.symm.trans hll) (hne j' B'' k' hj2 hk' hjd')
    · rw [put_other hji] at hk
      rcases hget j' B'' hj' with ⟨rfl, rfl⟩ | ⟨hji', hjd', hj2⟩
      · rw [put_same] at hk'
        obtain rfl := Option.some.inj hk'
        exact absurd (heq.trans hll) (hne j B' k hj1 hk hjd)
      · rw [put_other hji'] at hk'
        exact h.inj j j' B' B'' k k' hj1 hj2 hk hk' hr heq

/-- Cells with others in their place. -/
def overlay (cs : List Value) (o : Nat) (vs : List Value) : List Value := cs.take o ++ vs ++ cs.drop (o + vs.length)
theorem overlay_length {cs : List Value} {o : Nat} {vs : List Value} (h : o + vs.length ≤ cs.length) : (overlay cs o vs).length = cs.length := by
  simp [overlay]; omega
theorem overlay_get {cs : List Value} {o : Nat} {vs : List Value} (h : o ≤ cs.length) (i : Nat) : (overlay cs o vs)[i]? = if o ≤ i ∧ i < o + vs.length then vs[i - o]? else cs[i]? := by
  unfold overlay
  by_cases h1 : i < o
  · rw [if_neg (by omega), List.append_assoc, List.getElem?_append_left (by simp; omega), List.getElem?_take, if_pos h1]
  · by_cases h2 : i < o + vs.length
    · rw [if_pos (by omega), List.append_assoc, List.getElem?_append_right (by simp; omega), List.getElem?_append_left (by simp; omega)]
      congr 1; simp; omega
    · rw [if_neg (by omega), List.getElem?_append_right (by simp; omega), List.getElem?_drop]
      congr 1; simp; omega

/-- Cells of a known block are written. -/
theorem MS.write (h : MS w0 W e nx M w) {id : Nat} {B : Blk} {l : Loc} (hb : mget M id = some B) (hl : e id = some l) (hro : B.ro = false) {o : Nat} {vs vs' : List Value} (hvs : VRs e vs vs') (ho : o + vs.length ≤ B.cells.length) :
    MS w0 W e nx (mset M id ⟨B.elem, B.unit, overlay B.cells o vs, false⟩) (w.setCells l.blk (l.base + o) vs') := by
  obtain ⟨s1, s2, s3, s4, s5⟩ := setCells_same l.blk vs' (l.base + o) w
  refine h.change hb hl hro _ s1 s2 s3 s4 s5 ?_
  obtain ⟨l', hl', hr⟩ := h.blk id B hb
  obtain rfl : l = l' := by rw [hl] at hl'; exact Option.some.inj hl'
  obtain ⟨c, f, h1, h2, hu, h3, h4, h5⟩ := hr.out
  have hlen := hvs.length
  obtain ⟨c', e1, e2, e3⟩ := setCells_heap l.blk B.elem f vs' (l.base + o) w c h1 (by omega)
  refine ⟨c', f, e1, by omega, hu, by rw [overlay_length ho]; exact h3, fun i v hv => ?_, fun _ => by have := h5 hro; omega⟩
  simp only at hv
  rw [overlay_get (by omega)] at hv
  rw [e3]
  split at hv
  · rename_i hi
    rw [if_pos (by omega), show l.base + i - (l.base + o) = i - o by omega]
    exact hvs.get _ _ hv
  · rename_i hi
    rw [if_neg (by omega)]
    exact h4 i v hv

/-- The world's own words for a store. -/
theorem MS.run_store (P : Program) (h : MS w0 W e nx M w) {id : Nat} {B : Blk} {l : Loc} (hb : mget M id = some B) (hl : e id = some l) (hro : B.ro = false) {o : Nat} {vs vs' : List Value} (hvs : VRs e vs vs') (ho : o + vs.length ≤ B.cells.length) (h1 : ∀ v ∈ vs', v.oneCell' = true) :
    (storeCells ⟨l.blk, l.base + o, none⟩ vs').run P w = .ok () (w.setCells l.blk (l.base + o) vs') := by
  have hlen := hvs.length
  obtain ⟨l', hl', hr⟩ := h.blk id B hb
  obtain rfl : l = l' := by rw [hl] at hl'; exact Option.some.inj hl'
  obtain ⟨c, f, g1, g2, gu, g3, g4, g5⟩ := hr.out
  refine run_storeCells_cells (P := P) l.blk (l.base + o) vs' 0 w (fun j hj => ?_) (fun j hj => ?_) h1
  · simp [World.cell?, g1]; omega
  · exact h.free hb hl hro (by omega)
/-- Cells of a known block are read, whatever orders have been drawn. -/
theorem MS.run_loadsD (P : Program) (h : MS w0 W e nx M w) {id : Nat} {B : Blk} {l : Loc} (hb : mget M id = some B) (hl : e id = some l) {o n : Nat} (ho : o + n ≤ B.cells.length) :
    ∃ vs', (∀ m, (loadCells ⟨l.blk, l.base + o, none⟩ n).run P { w with drawn := m } = .ok vs'.toArray { w with drawn := m }) ∧ VRs e ((B.cells.drop o).take n) vs' := by
  obtain ⟨l', hl', hr⟩ := h.blk id B hb
  obtain rfl : l = l' := by rw [hl] at hl'; exact Option.some.inj hl'
  obtain ⟨c, f, g1, g2, gu, g3, g4, g5⟩ := hr.out
  have hx : ∀ j, j < n → ∃ v', c[l.base + (o + j)]? = some v' := fun j hj => by
    obtain ⟨v', a, _⟩ := g4 (o + j) B.cells[o + j] (List.getElem?_eq_getElem (by omega))
    exact ⟨v', a⟩
  refine ⟨(List.range n).map fun j => c.getD (l.base + (o + j)) undef, fun m => ?_, ?_⟩
  · refine run_loadCells (P := P) { w with drawn := m } _ n (fun j => c.getD (l.base + (o + j)) undef) fun j hj => ?_
    obtain ⟨v', hv⟩ := hx j hj
    have : (⟨l.blk, l.base + o, none⟩ : Addr).add j = ⟨l.blk, l.base + (o + j), none⟩ := by
      unfold Addr.add; split
      · subst_vars; rfl
      · simp; omega
    rw [this]
    simp [World.cell?, g1, hv]
  · refine VRs.of_get (by simp; omega) fun i v hv => ?_
    rw [List.getElem?_take] at hv
    split at hv
    · rename_i hi
      rw [List.getElem?_drop] at hv
      obtain ⟨v', a, b⟩ := g4 (o + i) v hv
      exact ⟨v', by simp [hi, a], b⟩
    · cases hv
/-- Cells of a known block are read. -/
theorem MS.run_loads (P : Program) (h : MS w0 W e nx M w) {id : Nat} {B : Blk} {l : Loc} (hb : mget M id = some B) (hl : e id = some l) {o n : Nat} (ho : o + n ≤ B.cells.length) :
    ∃ vs', (loadCells ⟨l.blk, l.base + o, none⟩ n).run P w = .ok vs'.toArray w ∧ VRs e ((B.cells.drop o).take n) vs' :=
  let ⟨vs', h1, h2⟩ := h.run_loadsD P hb hl ho
  ⟨vs', h1 w.drawn, h2⟩

/-- A block's end is marked. -/
theorem MS.mark (P : Program) (h : MS w0 W e nx M w) {id : Nat} {B : Blk} {l : Loc} (hb : mget M id = some B) (hl : e id = some l) (hro : B.ro = false) (off : Nat) :
    ∃ w', (markStringish ⟨l.blk, off, none⟩).run P w = .ok () w' ∧ MS w0 W e nx (mset M id ⟨B.elem, B.unit, B.cells, false⟩) w' := by
  obtain ⟨l', hl', hr⟩ := h.blk id B hb
  obtain rfl : l = l' := by rw [hl] at hl'; exact Option.some.inj hl'
  obtain ⟨c, f, h1, h2, hu, h3, h4, h5⟩ := hr.out
  refine ⟨w.freeze ⟨l.blk, c.size, none⟩ 1, ?_, ?_⟩
  · simp [markStringish, World.shape?, h1]
  · have hfz : (w.freeze ⟨l.blk, c.size, none⟩ 1).heap[l.blk]? = some (.cells c B.elem (if f.1 == f.2 then (c.size, c.size + 1) else (min f.1 c.size, max f.2 (c.size + 1)))) := by
      simp [World.freeze, Array.getElem?_modify, h1]
    refine h.change hb hl hro B.cells rfl rfl rfl (by simp [World.freeze]) (fun k hk => ?_) ⟨c, _, hfz, h2, hu, h3, h4, fun _ => ?_⟩
    · simp [World.freeze, Array.getElem?_modify, Ne.symm hk]
    · right
      have := h5 hro
      split
      · exact Nat.le_refl _
      · rename_i hne
        simp only [beq_iff_eq] at hne
        simp only
        omega
end
end Go.Proofs.Ytlpoolcdoecodaa.Eng

/- Part Eng3. -/
namespace Go.Proofs.Ytlpoolcdoecodaa.Eng
open Go.RowKit

/-- A list's place, by recursion alone. -/
def tget : List Value → Nat → Value
  | [], _ => topv
  | x :: _, 0 => x
  | _ :: xs, n + 1 => tget xs n
theorem tget_eq : ∀ (T : List Value) (t : Nat), tget T t = (T[t]?).getD topv
  | [], _ => rfl
  | x :: _, 0 => rfl
  | _ :: xs, n + 1 => by rw [tget, tget_eq xs n]; simp
/-- Constants that are the same in both runs. -/
def cflat : Value → Bool
  | .agg xs => xs.toList.all flat
  | .tuple xs => xs.toList.all flat
  | .func _ a b => a.isEmpty && b.isEmpty
  | v => flat v
def evalT (T : List Value) : Operand → Value
  | .tmp t => tget T t
  | .const v => if cflat v then v else topv
  | .global _ => topv
  | .func f => .func (.func f) #[] #[]
structure TR (e : Env) (T : List Value) (tmps : Array Value) : Prop where
  len : T.length = tmps.size
  get : ∀ (t : Nat) (v : Value), T[t]? = some v → ∃ v', tmps[t]? = some v' ∧ VR e v v'
theorem TR.mono {e e' : Env} {T : List Value} {tmps : Array Value} (h : TR e T tmps) (he : Ext e e') : TR e' T tmps := ⟨h.len, fun t v hv => let ⟨v', a, b⟩ := h.get t v hv; ⟨v', a, b.mono he⟩⟩
theorem VR.cflat {e : Env} {v : Value} (h : cflat v = true) : VR e v v := by
  cases v with
  | agg xs => exact VR.agg xs.toList xs.toList (VRs.flats h)
  | tuple xs => exact VR.tuple xs.toList xs.toList (VRs.flats h)
  | func f x y =>
    simp only [Eng.cflat, Bool.and_eq_true, Array.isEmpty_iff] at h
    obtain ⟨rfl, rfl⟩ := h
    exact VR.func f [] [] [] [] .nil .nil
  | _ => exact .flat _ h
theorem evalT_sound {e : Env} {T : List Value} {a : Act} (h : TR e T a.tmps) (x : Operand) : VR e (evalT T x) (a.eval x) := by
  cases x with
  | tmp t =>
    simp only [evalT, Act.eval, tget_eq]
    cases ht : T[t]? with
    | none => exact .top _
    | some v =>
      obtain ⟨v', h1, h2⟩ := h.get t v ht
      simp only [Array.getD_eq_getD_getElem?, h1, Option.getD_some]
      exact h2
  | const v =>
    simp only [evalT, Act.eval]
    split
    · exact VR.cflat ‹_›
    · exact .top _
  | global g => exact .top _
  | func f => exact VR.func (.func f) [] [] [] [] .nil .nil
/-- A slot is written. -/
def tput (T : List Value) (d : Option Tmp) (v : Value) : List Value :=
  match d with
  | some d => T.set d v
  | none => T
theorem TR.put {e : Env} {T : List Value} {a : Act} (h : TR e T a.tmps) (d : Option Tmp) {v v' : Value} (hv : VR e v v') : TR e (tput T d v) (a.put d v').tmps := by
  cases d with
  | none => exact h
  | some d =>
    refine ⟨by simp [tput, Act.put, h.len], fun t u hu => ?_⟩
    simp only [tput, Act.put] at hu ⊢
    rw [List.getElem?_set] at hu
    split at hu
    · rename_i htd
      subst htd
      split at hu
      · rename_i hlt
        obtain rfl := Option.some.inj hu
        exact ⟨v', by rw [Array.getElem?_setIfInBounds_self_of_lt (by rw [← h.len]; exact hlt)], hv⟩
      · cases hu
    · rename_i htd
      rw [Array.getElem?_setIfInBounds_ne htd]
      exact h.get t u hu

/-- A run that looks at no world. -/
def semv (P : Program) : Sem Next → Option Value
  | .pure (.value v) => some v
  | .program k => semv P (k P)
  | _ => none
theorem semv_sound (P : Program) (w : World) : ∀ {s : Sem Next} {v : Value}, semv P s = some v → s.run P w = .ok (.value v) w
  | .pure (.value v), _, h => by simp [semv] at h; subst h; rfl
  | .program k, v, h => by simp only [semv] at h; simp only [Sem.run]; exact semv_sound P w h
  | .pure .skip, _, h | .pure (.enter ..), _, h | .pure (.round ..), _, h | .pure (.defer _), _, h | .pure .recover, _, h | .pure (.spawn _), _, h | .pure (.comm ..), _, h | .pure .numGoroutine, _, h | .pure .collect, _, h | .pure (.watch _), _, h | .pure (.newcoro ..), _, h | .pure (.coroswitch ..), _, h | .pure (.sleep _), _, h | .pure (.timer _), _, h | .pure (.alone ..), _, h | .pure (.callThen ..), _, h | .pure (.row ..), _, h | .pure (.stack ..), _, h => by simp [semv] at h
  | .load .., _, h | .store .., _, h | .new .., _, h | .shape .., _, h | .freeze .., _, h | .frozen .., _, h | .getObj .., _, h | .setObj .., _, h | .choose .., _, h | .sys .., _, h | .mark .., _, h | .halt _, _, h => by simp [semv] at h

/-- What an operation has done. -/
structure Ran (P : Program) (o : Oper) (a : Act) (w : World) (v' : Value) (w' : World) : Prop where mk ::
  out : (execOp a.eval o).run P w = .ok (.value v') w' ∨ ((execOp a.eval o).run P w = .ok .skip w' ∧ v' = undef)
def Does (P : Program) (o : Oper) (a : Act) (w w0 : World) (W : Fr) (e : Env) (v : Value) (M' : Mem) (nx' : Nat) : Prop :=
  ∃ v' w' e', Ran P o a w v' w' ∧ Ext e e' ∧ VR e' v v' ∧ MS w0 W e' nx' M' w'

section
variable {P : Program} {o : Oper} {a : Act} {w0 w : World} {W : Fr} {e : Env} {nx : Nat} {M : Mem} {T : List Value}

theorem does_same (hM : MS w0 W e nx M w) {v v' : Value} (hr : (execOp a.eval o).run P w = .ok (.value v') w) (hv : VR e v v') : Does P o a w w0 W e v M nx :=
  ⟨v', w, e, ⟨.inl hr⟩, Ext.refl e, hv, hM⟩
theorem does_move (hT : TR e T a.tmps) (hM : MS w0 W e nx M w) (x : Operand) (ho : o.op = .move x ∨ o.op = .assign x) : Does P o a w w0 W e (evalT T x) M nx := by
  refine does_same hM (v' := a.eval x) ?_ (evalT_sound hT x)
  rcases ho with ho | ho <;> simp [execOp, ho]
theorem does_pure (hT : TR e T a.tmps) (hM : MS w0 W e nx M w) (hs : ∀ cs b, o.op ≠ .select cs b) (hf : o.op.operands.toList.all (fun x => flat (evalT T x)) = true) {v : Value} (hv : semv P (execOp (evalT T) o) = some v) (hfl : flat v = true) : Does P o a w w0 W e v M nx := by
  have hc : execOp a.eval o = execOp (evalT T) o := execOp_congr o hs fun x hx => by
    have hx' : x ∈ o.op.operands.toList := by simpa using hx
    exact VR.of_flat (by simpa using List.all_eq_true.1 hf x hx') (evalT_sound hT x)
  exact does_same hM (v' := v) (by rw [hc]; exact semv_sound P w hv) (.flat v hfl)
theorem does_pick (hT : TR e T a.tmps) (hM : MS w0 W e nx M w) (c x y : Operand) (ho : o.op = .pick c x y) {b : Bool} (hc : evalT T c = .bool b) : Does P o a w w0 W e (if b then evalT T x else evalT T y) M nx := by
  have h := evalT_sound hT c
  rw [hc] at h
  refine does_same hM (v' := if b then a.eval x else a.eval y) ?_ ?_
  · simp [execOp, ho, h.bool, asBool]
  · cases b
    · exact evalT_sound hT y
    · exact evalT_sound hT x
theorem does_extract (hT : TR e T a.tmps) (hM : MS w0 W e nx M w) (x : Operand) (i : Nat) (ho : o.op = .extract x i) {xs : Array Value} (hx : evalT T x = .tuple xs) {v : Value} (hv : xs.toList[i]? = some v) : Does P o a w w0 W e v M nx := by
  have h := evalT_sound hT x
  rw [hx] at h
  obtain ⟨ys, hy, hs⟩ := h.tuple_inv
  obtain ⟨v', h1, h2⟩ := hs.get i v hv
  exact does_same hM (v' := v') (by simp [execOp, ho, hy, Instr.extract, h1]) h2

/-- A new variable. -/
theorem does_new (hM : MS w0 W e nx M w) {elem : TypeId} {cs ds : List Value} (hcs : VRs e cs ds) (hr : (execOp a.eval o).run P w = .ok (.value (.pointer (some ⟨w.heap.size, 0, none⟩))) (w.alloc (.cells ds.toArray elem))) {id nx' : Nat} (hid : nx ≤ id) (hn : id < nx') (hB : nx' ≤ W.top) :
    Does P o a w w0 W e (.pointer (some ⟨id, 0, none⟩)) ((id, ⟨elem, 1, cs, false⟩) :: M) nx' := by
  obtain ⟨h1, h2⟩ := hM.alloc elem (0, 0) 1 (fun i v hv => hcs.get i v hv) (Nat.le_of_eq hcs.length.symm) (.inl rfl) hid hn hB
  exact ⟨_, _, _, ⟨.inl hr⟩, h2, .ptr id 0 _ (put_same ..), h1⟩
theorem does_alloc (hM : MS w0 W e nx M w) (elem : TypeId) (ho : o.op = .alloc elem) {i : TypeInfo} (hi : P.info? elem = some i) {z : Value} (hz : i.zero = some z) {zs : List Value} (hzs : z.cells.toList = zs) (hf : zs.all flat = true) {id nx' : Nat} (hid : nx ≤ id) (hn : id < nx') (hB : nx' ≤ W.top) :
    Does P o a w w0 W e (.pointer (some ⟨id, 0, none⟩)) ((id, ⟨elem, 1, zs, false⟩) :: M) nx' := by
  refine does_new hM (ds := zs) (VRs.flats hf) ?_ hid hn hB
  have : z.cells = zs.toArray := by rw [← hzs]
  simp only [execOp, ho, Instr.alloc, zeroValue, typeInfo, Sem.run_bind, run_program, Result.andThen_ok, hi, Sem.run_pure, hz, newVar, newRow, run_newObj, this]
  rfl

/-- A value's cells; none: it is not known how many. -/
def cellsOf : Value → Option (List Value)
  | .agg xs => some xs.toList
  | .tuple _ => none
  | .map _ => none
  | v => some [v]
theorem cellsOf_sound {v v' : Value} {cs : List Value} (hc : cellsOf v = some cs) (h : VR e v v') : VRs e cs v'.cells.toList := by
  cases v with
  | agg xs =>
    simp [cellsOf] at hc; subst hc
    obtain ⟨ys, rfl, hs⟩ := h.agg_inv
    simpa [Value.cells] using hs
  | tuple xs => simp [cellsOf] at hc
  | map r => simp [cellsOf] at hc
  | _ =>
    simp [cellsOf] at hc; subst hc
    cases h <;> exact .cons _ _ _ _ (by first | exact .flat _ ‹_› | exact .ptr _ _ _ ‹_› | exact .slice _ _ _ _ _ _ _ ‹_› ‹_› ‹_› ‹_› ‹_› | exact .func _ _ _ _ _ ‹_› ‹_›) .nil
theorem does_box (hT : TR e T a.tmps) (hM : MS w0 W e nx M w) (elem : TypeId) (x : Operand) (ho : o.op = .box elem x) {cs : List Value} (hc : cellsOf (evalT T x) = some cs) {id nx' : Nat} (hid : nx ≤ id) (hn : id < nx') (hB : nx' ≤ W.top) :
    Does P o a w w0 W e (.pointer (some ⟨id, 0, none⟩)) ((id, ⟨elem, 1, cs, false⟩) :: M) nx' := by
  refine does_new hM (cellsOf_sound hc (evalT_sound hT x)) ?_ hid hn hB
  simp only [execOp, ho, Instr.box, newVar, newRow, Sem.run_bind, Result.andThen_ok, Sem.run_pure, run_newObj]
  rfl

/-- Is it a value of several cells? -/
def aggD : TypeDesc → Bool
  | .struct _ => true
  | .array _ _ => true
  | _ => false
theorem addr_add (b o n : Nat) : (⟨b, o, none⟩ : Addr).add n = ⟨b, o + n, none⟩ := by unfold Addr.add; split <;> simp_all
/-- A variable is read. -/
theorem does_load1 (hT : TR e T a.tmps) (hM : MS w0 W e nx M w) (t : TypeId) (x : Operand) (ho : o.op = .load t x) {d : TypeDesc} (hd : P.underlying t = some d) (hna : aggD d = false)
    {id off : Nat} (hx : evalT T x = .pointer (some ⟨id, off, none⟩)) {B : Blk} (hb : mget M id = some B) {v : Value} (hv : B.cells[off]? = some v) : Does P o a w w0 W e v M nx := by
  have h := evalT_sound hT x
  rw [hx] at h
  obtain ⟨l, hl, hy⟩ := h.ptr_inv
  obtain ⟨v', h1, h2⟩ := hM.cell hb hl hv
  refine does_same hM (v' := v') ?_ h2
  cases d <;> first | (simp [aggD] at hna; done) | simp [execOp, ho, Instr.loadAt, loadVar, isAgg, run_underlying hd, Instr.sureAddr, hy, h1]
theorem does_loadA (hT : TR e T a.tmps) (hM : MS w0 W e nx M w) (t : TypeId) (x : Operand) (ho : o.op = .load t x) {d : TypeDesc} (hd : P.underlying t = some d) (hna : aggD d = true)
    {i : TypeInfo} (hi : P.info? t = some i) {id off : Nat} (hx : evalT T x = .pointer (some ⟨id, off, none⟩)) {B : Blk} (hb : mget M id = some B) (hle : off + i.size ≤ B.cells.length) : Does P o a w w0 W e (.agg ((B.cells.drop off).take i.size).toArray) M nx := by
  have h := evalT_sound hT x
  rw [hx] at h
  obtain ⟨l, hl, hy⟩ := h.ptr_inv
  obtain ⟨vs', h1, h2⟩ := hM.run_loads P hb hl hle
  refine does_same hM (v' := .agg vs'.toArray) ?_ (.agg _ _ h2)
  cases d <;> first | (simp [aggD] at hna; done) | simp [execOp, ho, Instr.loadAt, loadVar, isAgg, run_underlying hd, Instr.sureAddr, sizeOf, typeInfo, hi, hy, h1]
/-- Values that one cell holds. -/
def okCell : Value → Bool
  | .agg _ | .tuple _ | .map _ => false
  | _ => true
theorem okCell_sound {v v' : Value} (hc : okCell v = true) (h : VR e v v') : v'.oneCell' = true := by
  cases h <;> simp_all [okCell, Value.oneCell']
  rename_i hf
  cases v <;> simp_all [okCell, flat]
theorem okCells_sound {cs ds : List Value} (hc : cs.all okCell = true) (h : VRs e cs ds) : ∀ v ∈ ds, v.oneCell' = true := by
  intro v hv
  obtain ⟨i, hi, rfl⟩ := List.getElem_of_mem hv
  have hlen := h.length
  obtain ⟨v', h1, h2⟩ := h.get i cs[i] (List.getElem?_eq_getElem (by omega))
  rw [List.getElem?_eq_getElem hi] at h1
  obtain rfl := Option.some.inj h1
  exact okCell_sound (List.all_eq_true.1 hc _ (List.getElem_mem _)) h2
theorem does_store (hT : TR e T a.tmps) (hM : MS w0 W e nx M w) (t : TypeId) (x y : Operand) (ho : o.op = .store t x y) {i : TypeInfo} (hi : P.info? t = some i) {id off : Nat} (hx : evalT T x = .pointer (some ⟨id, off, none⟩)) {B : Blk} (hb : mget M id = some B) (hro : B.ro = false)
    {cs : List Value} (hc : cellsOf (evalT T y) = some cs) (hsz : cs.length = i.size) (hok : cs.all okCell = true) (hle : off + cs.length ≤ B.cells.length) : Does P o a w w0 W e undef (mset M id ⟨B.elem, B.unit, overlay B.cells off cs, false⟩) nx := by
  have h := evalT_sound hT x
  rw [hx] at h
  obtain ⟨l, hl, hy⟩ := h.ptr_inv
  have hvs := cellsOf_sound hc (evalT_sound hT y)
  refine ⟨undef, _, e, ⟨.inr ⟨?_, rfl⟩⟩, Ext.refl e, .tuple [] [] .nil, hM.write hb hl hro hvs hle⟩
  have hr := hM.run_store P hb hl hro hvs hle (okCells_sound hok hvs)
  have hlen := hvs.length
  simp only [Array.length_toList] at hlen
  simp [execOp, ho, Instr.storeAt, storeVar, hy, Instr.sureAddr, sizeOf, typeInfo, hi, hlen, hsz, hr]
theorem does_nilCheck (hT : TR e T a.tmps) (hM : MS w0 W e nx M w) (x : Operand) (ho : o.op = .nilCheck x) {id off : Nat} (hx : evalT T x = .pointer (some ⟨id, off, none⟩)) : Does P o a w w0 W e (evalT T x) M nx := by
  have h := evalT_sound hT x
  refine does_same hM (v' := a.eval x) ?_ h
  rw [hx] at h
  obtain ⟨l, hl, hy⟩ := h.ptr_inv
  simp [execOp, ho, hy]
theorem does_nilCheckF (hT : TR e T a.tmps) (hM : MS w0 W e nx M w) (x : Operand) (ho : o.op = .nilCheck x) {f : FuncId} {c d : Array Value} (hx : evalT T x = .func (.func f) c d) : Does P o a w w0 W e (evalT T x) M nx := by
  have h := evalT_sound hT x
  refine does_same hM (v' := a.eval x) ?_ h
  rw [hx] at h
  obtain ⟨ys, ys', hy, _⟩ := h.func_inv
  simp [execOp, ho, hy]
theorem does_fieldAddr (hT : TR e T a.tmps) (hM : MS w0 W e nx M w) (s : TypeId) (x : Operand) (f : Nat) (ho : o.op = .fieldAddr s x f) {fs : Array Field} (hs : P.underlying s = some (.struct fs)) {fd : Field} (hf : fs[f]? = some fd) {i : TypeInfo} (hi : P.info? fd.type = some i) (hsz : i.size ≠ 0)
    {id off : Nat} (hx : evalT T x = .pointer (some ⟨id, off, none⟩)) : Does P o a w w0 W e (.pointer (some ⟨id, off + fd.offset, none⟩)) M nx := by
  have h := evalT_sound hT x
  rw [hx] at h
  obtain ⟨l, hl, hy⟩ := h.ptr_inv
  refine does_same hM (v' := .pointer (some ⟨l.blk, l.base + (off + fd.offset), none⟩)) ?_ (.ptr id _ l hl)
  simp [execOp, ho, Instr.fieldAt, run_underlying hs, hf, hy, Instr.sureAddr, fieldPlace, sizeOf, typeInfo, hi, hsz, addr_add, Nat.add_assoc]
end
end Go.Proofs.Ytlpoolcdoecodaa.Eng

/- Part Eng4. -/
namespace Go.Proofs.Ytlpoolcdoecodaa.Eng
open Go.RowKit

section
variable {P : Program} {o : Oper} {a : Act} {w0 w : World} {W : Fr} {e : Env} {nx : Nat} {M : Mem} {T : List Value}

theorem does_indexArr (hT : TR e T a.tmps) (hM : MS w0 W e nx M w) (t : TypeId) (x y : Operand) (ho : o.op = .indexAddr t x y) {n : Nat} {el : TypeId} (ht : P.underlying t = some (.array n el)) {i : TypeInfo} (hi : P.info? el = some i)
    {id off : Nat} (hx : evalT T x = .pointer (some ⟨id, off, none⟩)) {k : IntKind} {q : Int} (hy : evalT T y = .int k q) (h0 : 0 ≤ q) (hq : q < n) : Does P o a w w0 W e (.pointer (some ⟨id, off + q.toNat * i.size, none⟩)) M nx := by
  have h := evalT_sound hT x
  rw [hx] at h
  obtain ⟨l, hl, h1⟩ := h.ptr_inv
  have h2 := evalT_sound hT y
  rw [hy] at h2
  refine does_same hM (v' := .pointer (some ⟨l.blk, l.base + (off + q.toNat * i.size), none⟩)) ?_ (.ptr id _ l hl)
  simp [execOp, ho, Instr.indexAt, run_underlying ht, h1, h2.int, Instr.sureAddr, asIntOf, h0, hq, sizeOf, typeInfo, hi, addr_add, Nat.add_assoc]
theorem does_indexSlice (hT : TR e T a.tmps) (hM : MS w0 W e nx M w) (t : TypeId) (x y : Operand) (ho : o.op = .indexAddr t x y) {el : TypeId} (ht : P.underlying t = some (.slice el)) {i : TypeInfo} (hi : P.info? el = some i)
    {id off n c : Nat} (hx : evalT T x = .slice (some ⟨id, off, none⟩) n c) {k : IntKind} {q : Int} (hy : evalT T y = .int k q) (h0 : 0 ≤ q) (hq : q < n) : Does P o a w w0 W e (.pointer (some ⟨id, off + q.toNat * i.size, none⟩)) M nx := by
  have h := evalT_sound hT x
  rw [hx] at h
  obtain ⟨a', c', l, hl, h1, hp, _⟩ := h.slice_inv
  have h2 := evalT_sound hT y
  rw [hy] at h2
  obtain rfl : a' = ⟨l.blk, l.base + off, none⟩ := hp.resolve_right (by omega)
  refine does_same hM (v' := .pointer (some ⟨l.blk, l.base + (off + q.toNat * i.size), none⟩)) ?_ (.ptr id _ l hl)
  simp [execOp, ho, Instr.indexAt, run_underlying ht, h1, h2.int, asIntOf, h0, hq, sizeOf, typeInfo, hi, addr_add, Nat.add_assoc]

/-- A bound of a slice. -/
def bound (v : Option Value) (dflt y : Nat) : Option Nat :=
  match v with
  | none => some dflt
  | some (.int _ i) => if 0 ≤ i ∧ i ≤ (y : Int) then some i.toNat else none
  | some _ => none
theorem bound_sound {v : Value} {d y r : Nat} (h : bound (some v) d y = some r) : r ≤ y ∧ ∃ k, v = .int k r ∧ ∀ (w : World) (cd : BoundsCode) (y' : Nat), y ≤ y' → (Instr.sliceBound v y' cd).run P w = .ok r w := by
  cases v with
  | int k i =>
    simp only [bound] at h
    split at h
    · rename_i hi
      obtain rfl := Option.some.inj h
      obtain ⟨n, rfl⟩ := Int.eq_ofNat_of_zero_le hi.1
      refine ⟨by omega, k, by simp, fun w cd y' hy' => ?_⟩
      have : (n : Int) ≤ y' := by omega
      simp [Instr.sliceBound, asIntOf, this]
    · cases h
  | _ => simp [bound] at h
/-- The bounds of a slice: its capacity is c, or is not known. -/
def bounds (n c : Nat) (lo hi mx : Option Value) : Option (Nat × Nat × Nat) :=
  match bound mx c (if c < OPEN then c else n) with
  | none => none
  | some m =>
    match bound hi n (if mx.isSome then m else if c < OPEN then c else n) with
    | none => none
    | some h =>
      match bound lo 0 h with
      | none => none
      | some l => if l ≤ h ∧ (mx.isNone ∨ (hi.isSome ∧ m < OPEN)) then some (l, h, m) else none
theorem bounds_inv {n c : Nat} {lo hi mx : Option Value} {l h m : Nat} (hb : bounds n c lo hi mx = some (l, h, m)) :
    bound mx c (if c < OPEN then c else n) = some m ∧ bound hi n (if mx.isSome then m else if c < OPEN then c else n) = some h ∧ bound lo 0 h = some l ∧ l ≤ h ∧ (mx.isNone ∨ (hi.isSome ∧ m < OPEN)) := by
  unfold bounds at hb
  split at hb
  · cases hb
  · rename_i m0 hm
    split at hb
    · cases hb
    · rename_i h0 hh
      split at hb
      · cases hb
      · rename_i l0 hl
        split at hb
        · rename_i hc
          simp only [Option.some.injEq, Prod.mk.injEq] at hb
          obtain ⟨rfl, rfl, rfl⟩ := hb
          exact ⟨hm, hh, hl, hc.1, hc.2⟩
        · cases hb
theorem low_sound {lo : Option Value} {h l : Nat} (hl : bound lo 0 h = some l) (w : World) (cd : BoundsCode) : (match lo with | some v => Instr.sliceBound v h cd | none => (Pure.pure 0 : Sem Nat)).run P w = .ok l w := by
  cases lo with
  | none => simp [bound] at hl; subst hl; rfl
  | some v => exact (bound_sound (P := P) hl).2.choose_spec.2 w cd h (Nat.le_refl _)
theorem bounds_sound {n c c' : Nat} {lo hi mx : Option Value} {l h m : Nat} (hb : bounds n c lo hi mx = some (l, h, m)) (hn : n ≤ c') (hc : c = c' ∧ c < OPEN ∨ OPEN ≤ c) (w : World) :
    l ≤ h ∧ (OPEN ≤ c → mx = none → h ≤ n) ∧ ∃ m', (Instr.sliceBounds true n c' lo hi mx).run P w = .ok (l, h, m') w ∧ h ≤ m' ∧ m' ≤ c' ∧ (mx = none → m' = c' ∧ m = c) ∧ (mx ≠ none → m' = m ∧ m < OPEN) := by
  obtain ⟨hm, hh, hl, hlh, hmx⟩ := bounds_inv hb
  have hle : (if c < OPEN then c else n) ≤ c' := by
    split
    · rename_i hne
      rcases hc with ⟨rfl, _⟩ | hge
      · exact Nat.le_refl _
      · omega
    · exact hn
  cases mx with
  | none =>
    simp [bound] at hm
    subst hm
    simp only [Option.isSome_none, Bool.false_eq_true, if_false] at hh
    have e3 := low_sound (P := P) hl w .sliceB
    have hh2 : h ≤ c' ∧ (OPEN ≤ c → h ≤ n) ∧ (match hi with | some v => Instr.sliceBound v c' .sliceAcap | none => (Pure.pure n : Sem Nat)).run P w = .ok h w := by
      cases hi with
      | none => simp [bound] at hh; subst hh; exact ⟨hn, fun _ => Nat.le_refl _, rfl⟩
      | some v =>
        obtain ⟨h1, k, h2, h3⟩ := bound_sound (P := P) hh
        exact ⟨by omega, fun hco => by rw [if_neg (by omega)] at h1; exact h1, h3 w _ c' hle⟩
    obtain ⟨h1, h2, e1⟩ := hh2
    refine ⟨hlh, fun hco _ => h2 hco, c', ?_, h1, Nat.le_refl _, fun _ => ⟨rfl, rfl⟩, fun hx => absurd rfl hx⟩
    clear hh hl hb hmx
    cases hi <;> cases lo <;> simp only [] at e1 e3 <;> simp [Instr.sliceBounds, e1, e3] <;> simp_all
  | some mv =>
    obtain ⟨hm1, km, hm2, hm3⟩ := bound_sound (P := P) hm
    have hmx2 : hi.isSome = true ∧ m < OPEN := by simpa using hmx
    obtain ⟨hv, rfl⟩ := Option.isSome_iff_exists.1 hmx2.1
    simp only [Option.isSome_some, if_true] at hh
    obtain ⟨hh1, kh, hh2, hh3⟩ := bound_sound (P := P) hh
    have e0 := hm3 w .slice3Acap c' hle
    have e1 := hh3 w .slice3B m (Nat.le_refl _)
    have e3 := low_sound (P := P) hl w .slice3C
    refine ⟨hlh, (fun _ hx => by cases hx), m, ?_, hh1, Nat.le_trans hm1 hle, (fun hx => by cases hx), fun _ => ⟨rfl, hmx2.2⟩⟩
    clear hh hl hb hmx hm2 hh2 hm hh3 hm3
    cases lo <;> simp only [] at e3 <;> simp [Instr.sliceBounds, e0, e1, e3] <;> simp_all
/-- The slice that comes of it. -/
def cutV (id off c sz : Nat) (mx : Option Value) (r : Nat × Nat × Nat) : Value :=
  if OPEN ≤ c ∧ mx.isNone then .slice (some ⟨id, off + r.1 * sz, none⟩) (r.2.1 - r.1) c
  else .slice (some (if r.2.2 = r.1 then ⟨id, off, none⟩ else ⟨id, off + r.1 * sz, none⟩)) (r.2.1 - r.1) (r.2.2 - r.1)
theorem bound_same (hT : TR e T a.tmps) {v : Option Operand} {d y q : Nat} (hq : bound (v.map (evalT T)) d y = some q) : v.map a.eval = v.map (evalT T) := by
  cases v with
  | none => rfl
  | some v =>
    obtain ⟨_, k, hk, _⟩ := (bound_sound (P := default) hq)
    have h := evalT_sound hT v
    rw [hk] at h
    simp [hk, h.int]
theorem does_slice (hT : TR e T a.tmps) (hM : MS w0 W e nx M w) (t : TypeId) (x : Operand) (lo hi mx : Option Operand) (ho : o.op = .slice t x lo hi mx) {el : TypeId} (ht : P.underlying t = some (.slice el)) {i : TypeInfo} (hi' : P.info? el = some i)
    {id off n c : Nat} (hx : evalT T x = .slice (some ⟨id, off, none⟩) n c) (hu : c < OPEN ∨ c = OPEN + i.size) {r : Nat × Nat × Nat}
    (hr : bounds n c (lo.map (evalT T)) (hi.map (evalT T)) (mx.map (evalT T)) = some r) : Does P o a w w0 W e (cutV id off c i.size (mx.map (evalT T)) r) M nx := by
  obtain ⟨l, h, m⟩ := r
  have hx' := evalT_sound hT x
  rw [hx] at hx'
  obtain ⟨a', c', lc, hl, h1, hp, hn, hc, hroom⟩ := hx'.slice_inv
  obtain ⟨i1, i2, i3, _, _⟩ := bounds_inv hr
  have s1 := bound_same hT i1
  have s2 := bound_same hT i2
  have s3 := bound_same hT i3
  obtain ⟨hlh, hOn, m', hrun, hhm, hmc, hm0, hm1⟩ := bounds_sound (P := P) hr hn hc w
  refine does_same hM (v' := .slice (some (if m' = l then a' else a'.add (l * i.size))) (h - l) (m' - l)) ?_ ?_
  · simp only [execOp, ho, h1, s1, s2, s3]
    simp only [Instr.sliceAt, Instr.slice, run_underlying ht, hrun, sizeOf, typeInfo, hi', Sem.run_bind, Result.andThen_ok, run_program, Sem.run_pure, Option.map_some]
    split <;> rfl
  · unfold cutV
    simp only
    have hadr : (if m' = l then a' else a'.add (l * i.size)) = ⟨lc.blk, lc.base + (off + l * i.size), none⟩ ∨ h - l = 0 ∧ m' - l = 0 := by
      by_cases hml : m' = l
      · exact .inr (by omega)
      · rw [if_neg hml]
        rcases hp with rfl | hp
        · left; rw [addr_add]; simp [Nat.add_assoc]
        · omega
    split
    · rename_i hco
      obtain ⟨hco, hmx⟩ := hco
      have hmx' : mx.map (evalT T) = none := by simpa using hmx
      obtain ⟨rfl, rfl⟩ := hm0 hmx'
      have hhn := hOn hco hmx'
      refine .slice id _ _ _ _ _ lc hl hadr (by omega) (.inr hco) (fun _ hpos => ?_)
      have h3 := hroom hco (by omega)
      have hcu : m - OPEN = i.size := by omega
      rw [hcu] at h3 ⊢
      have hlm : l ≤ m' := by omega
      calc off + l * i.size + (m' - l) * i.size = off + (l + (m' - l)) * i.size := by rw [Nat.add_mul]; omega
        _ = off + m' * i.size := by rw [Nat.add_sub_cancel' hlm]
        _ ≤ _ := h3
    · rename_i hco
      have hmm : m' = m ∧ m < OPEN := by
        by_cases hmx : mx.map (evalT T) = none
        · obtain ⟨h1, h2⟩ := hm0 hmx
          rcases hc with ⟨hc, hlt⟩ | hc
          · omega
          · exact absurd ⟨hc, by simp [hmx]⟩ hco
        · exact hm1 hmx
      obtain ⟨rfl, hlt⟩ := hmm
      by_cases hml : m' = l
      · rw [if_pos hml, if_pos hml]
        refine .slice id _ _ _ _ _ lc hl (.inr (by omega)) (by omega) (.inl ⟨rfl, by omega⟩) (fun hx => by omega)
      · rw [if_neg hml, if_neg hml]
        rw [if_neg hml] at hadr
        refine .slice id _ _ _ _ _ lc hl hadr (by omega) (.inl ⟨rfl, by omega⟩) (fun hx => by omega)
/-- An array is cut. -/
theorem does_sliceArr (hT : TR e T a.tmps) (hM : MS w0 W e nx M w) (t : TypeId) (x : Operand) (lo hi mx : Option Operand) (ho : o.op = .slice t x lo hi mx) {n : Nat} {el : TypeId} (ht : P.underlying t = some (.array n el)) {i : TypeInfo} (hi' : P.info? el = some i)
    {id off : Nat} (hx : evalT T x = .pointer (some ⟨id, off, none⟩)) (hlt : n < OPEN) (hlo : lo = none) (hmx : mx = none) {h : Nat} (hh : bound (hi.map (evalT T)) n n = some h) : Does P o a w w0 W e (.slice (some ⟨id, off, none⟩) h n) M nx := by
  subst hlo hmx
  have hx' := evalT_sound hT x
  rw [hx] at hx'
  obtain ⟨l, hl, h1⟩ := hx'.ptr_inv
  have hhn : h ≤ n ∧ (Instr.sliceBounds false n n none (hi.map (evalT T)) none).run P w = .ok (0, h, n) w := by
    cases hi with
    | none => simp [bound] at hh; subst hh; exact ⟨Nat.le_refl _, by simp [Instr.sliceBounds]⟩
    | some v =>
      obtain ⟨h1, k, h2, h3⟩ := bound_sound (P := P) hh
      exact ⟨h1, by simp [Instr.sliceBounds, h3 w _ n (Nat.le_refl _)]⟩
  refine does_same hM (v' := .slice (some ⟨l.blk, l.base + off, none⟩) h n) ?_ (.slice id _ _ _ _ _ l hl (.inl rfl) hhn.1 (.inl ⟨rfl, hlt⟩) (fun hx => by omega))
  simp only [execOp, ho, h1, bound_same hT hh, Option.map_none]
  simp only [Instr.sliceAt, Instr.sureAddr, run_underlying ht, hhn.2, sizeOf, typeInfo, hi', Sem.run_bind, Result.andThen_ok, run_program, Sem.run_pure, Nat.zero_mul, Nat.sub_zero]
  by_cases hn0 : n = 0
  · simp [hn0]
  · simp [hn0, Addr.add]
end
end Go.Proofs.Ytlpoolcdoecodaa.Eng

/- Part Eng5. -/
namespace Go.Proofs.Ytlpoolcdoecodaa.Eng
open Go.RowKit

/-- Zero cells. -/
def zcells (zs : List Value) (n : Nat) : List Value :=
  match zs with
  | [z] => List.replicate n z
  | _ => (List.range n).map fun i => zs.getD (i % zs.length) undef
theorem zcells_eq (zs : List Value) (n : Nat) (hz : zs ≠ []) : (Array.range n).map (fun i => zs.toArray[i % zs.toArray.size]!) = (zcells zs n).toArray := by
  apply Array.ext'
  simp only [Array.toList_map, Array.toList_range, List.size_toArray]
  have hpos : 0 < zs.length := List.length_pos_iff.2 hz
  have key : (List.range n).map (fun i => zs.toArray[i % zs.length]!) = (List.range n).map fun i => zs.getD (i % zs.length) undef := by
    apply List.map_congr_left
    intro i _
    have hlt := Nat.mod_lt i hpos
    simp [hlt]
  rw [key]
  unfold zcells
  split
  · simp [Nat.mod_one, List.map_const']
  · rfl
theorem zcells_length (zs : List Value) (n : Nat) : (zcells zs n).length = n := by
  unfold zcells; split <;> simp
theorem zcells_flat {zs : List Value} (hz : zs ≠ []) (h : zs.all flat = true) (n : Nat) : (zcells zs n).all flat = true := by
  unfold zcells
  split
  · simp only [List.all_cons, List.all_nil, Bool.and_true] at h
    simp [List.all_replicate, h]
  · simp only [List.all_map, List.all_eq_true, List.mem_range, Function.comp_apply]
    intro i _
    have hpos : 0 < zs.length := List.length_pos_iff.2 hz
    have hlt := Nat.mod_lt i hpos
    rw [show zs.getD (i % zs.length) undef = zs[i % zs.length] by simp [List.getD, hlt]]
    exact List.all_eq_true.1 h _ (List.getElem_mem _)

/-- Parts laid into cells. -/
def afill (cells : List Value) : List (Nat × Nat × Value) → Option (List Value)
  | [] => some cells
  | (off, size, v) :: rest =>
    match cellsOf v with
    | none => none
    | some cs => if cs.length = size ∧ off + size ≤ cells.length then afill (overlay cells off cs) rest else none
theorem foldl_overlay (off : Nat) : ∀ (vs : List Value) (j : Nat) (cells : List Value), off + j + vs.length ≤ cells.length →
    (vs.zipIdx j).foldl (fun (cs : Array Value) p => cs.setIfInBounds (off + p.2) p.1) cells.toArray = (overlay cells (off + j) vs).toArray
  | [], j, cells, h => by simp [overlay]
  | v :: vs, j, cells, h => by
    simp only [List.length_cons] at h
    simp only [List.zipIdx_cons, List.foldl_cons]
    rw [List.setIfInBounds_toArray, foldl_overlay off vs (j + 1) (cells.set (off + j) v) (by simp; omega)]
    congr 1
    apply List.ext_getElem?
    intro i
    rw [overlay_get (by simp; omega), overlay_get (by omega)]
    by_cases h1 : i = off + j
    · subst h1
      rw [if_neg (by omega), if_pos (by simp), List.getElem?_set_self (by omega)]
      simp
    · by_cases h2 : off + (j + 1) ≤ i ∧ i < off + (j + 1) + vs.length
      · rw [if_pos h2, if_pos (by simp; omega), show i - (off + j) = (i - (off + (j + 1))) + 1 by omega]
        simp
      · rw [if_neg h2, if_neg (by simp; omega), List.getElem?_set_ne (by omega)]
theorem fill_sound {e : Env} {place : Nat → Option (Nat × Nat)} : ∀ (parts : List (Nat × Value × Value)) (ps : List (Nat × Nat × Value)) {cells cells' : List Value},
    VRs e cells cells' → ps.length = parts.length → (∀ (k : Nat) (q : Nat × Value × Value), parts[k]? = some q → VR e q.2.1 q.2.2 ∧ ∃ r, place q.1 = some r ∧ ps[k]? = some (r.1, r.2, q.2.1)) → ∀ {out : List Value}, afill cells ps = some out →
    ∃ out', Instr.fill place cells'.toArray (parts.map fun q => (q.1, q.2.2)) = some out'.toArray ∧ VRs e out out'
  | [], [], cells, cells', hc, _, _, out, h => by
    simp [afill] at h; subst h
    exact ⟨cells', by simp [Instr.fill], hc⟩
  | [], _ :: _, _, _, _, hl, _, _, _ => by simp at hl
  | _ :: _, [], _, _, _, hl, _, _, _ => by simp at hl
  | q :: parts, p :: ps, cells, cells', hc, hl, hq, out, h => by
    obtain ⟨hv, ⟨off, size⟩, hp, hps⟩ := hq 0 q rfl
    simp at hps
    subst hps
    simp only [afill] at h
    split at h
    · cases h
    · rename_i cs hcs
      split at h
      · rename_i hle
        have hvs := cellsOf_sound hcs hv
        have hlen := hvs.length
        simp only [Array.length_toList] at hlen
        have hclen := hc.length
        have hc2 : VRs e (overlay cells off cs) (overlay cells' off q.2.2.cells.toList) := by
          unfold overlay
          rw [hvs.length]
          exact VRs.append (hc.drop _) (VRs.append hvs (hc.take off))
        obtain ⟨out', h1, h2⟩ := fill_sound parts ps hc2 (by simpa using hl) (fun k q' hk => by simpa using hq (k + 1) q' (by simpa using hk)) h
        refine ⟨out', ?_, h2⟩
        simp only [List.map_cons, Instr.fill, hp]
        rw [if_neg (by simp; omega)]
        rw [← h1]
        congr 1
        have := foldl_overlay off q.2.2.cells.toList 0 cells' (by simp; omega)
        simp only [Nat.add_zero] at this
        rw [← this]
        rw [← Array.foldl_toList, Array.toList_zipIdx]
      · cases h

section
variable {P : Program} {o : Oper} {a : Act} {w0 w : World} {W : Fr} {e : Env} {nx : Nat} {M : Mem} {T : List Value}

/-- The parts of a literal: where each goes, and what it is. -/
def partsT (T : List Value) (place : Nat → Option (Nat × Nat)) : List (Nat × Operand) → Option (List (Nat × Nat × Value))
  | [] => some []
  | (k, x) :: r =>
    match place k, partsT T place r with
    | some (off, size), some ps => some ((off, size, evalT T x) :: ps)
    | _, _ => none
theorem partsT_sound (hT : TR e T a.tmps) {place : Nat → Option (Nat × Nat)} : ∀ {parts : List (Nat × Operand)} {ps : List (Nat × Nat × Value)}, partsT T place parts = some ps →
    ps.length = parts.length ∧ ∀ (k : Nat) (q : Nat × Value × Value), (parts.map fun p => (p.1, evalT T p.2, a.eval p.2))[k]? = some q → VR e q.2.1 q.2.2 ∧ ∃ r, place q.1 = some r ∧ ps[k]? = some (r.1, r.2, q.2.1)
  | [], ps, h => by simp [partsT] at h; subst h; simp
  | (k, x) :: r, ps, h => by
    simp only [partsT] at h
    split at h
    · rename_i off size ps' hp hr
      obtain rfl := Option.some.inj h
      obtain ⟨h1, h2⟩ := partsT_sound hT hr
      refine ⟨by simp [h1], fun j q hq => ?_⟩
      cases j with
      | zero =>
        simp at hq
        subst hq
        exact ⟨evalT_sound hT x, (off, size), hp, rfl⟩
      | succ j => simpa using h2 j q (by simpa using hq)
    · cases h
theorem fill_run (hT : TR e T a.tmps) {place : Nat → Option (Nat × Nat)} {parts : List (Nat × Operand)} {ps : List (Nat × Nat × Value)} (hps : partsT T place parts = some ps) {cells : List Value} (hc : cells.all flat = true) {out : List Value} (hf : afill cells ps = some out) :
    ∃ out', Instr.fill place cells.toArray (parts.map fun p => (p.1, a.eval p.2)) = some out'.toArray ∧ VRs e out out' := by
  obtain ⟨h1, h2⟩ := partsT_sound hT hps
  have := fill_sound (place := place) (parts.map fun p => (p.1, evalT T p.2, a.eval p.2)) ps (VRs.flats (e := e) hc) (by simpa using h1) h2 hf
  simpa [Function.comp_def] using this
theorem run_placesL (P : Program) (w : World) : ∀ (l : List Field) (places : List (Nat × Nat)), l.map (fun f => (f.offset, (P.info? f.type).map (·.size))) = places.map (fun p => (p.1, some p.2)) →
    (l.mapM fun f => (do pure (f.offset, ← sizeOf f.type) : Sem (Nat × Nat))).run P w = .ok places w
  | [], [], _ => rfl
  | [], p :: places, h => by simp at h
  | f :: l, [], h => by simp at h
  | f :: l, p :: places, h => by
    simp only [List.map_cons, List.cons.injEq, Prod.mk.injEq] at h
    obtain ⟨⟨ha, hb⟩, hr⟩ := h
    obtain ⟨fi, hfi, hsz⟩ := Option.map_eq_some_iff.1 hb
    have ih := run_placesL P w l places hr
    simp only [List.mapM_cons, Sem.run_bind, sizeOf, typeInfo, run_program, Result.andThen_ok, hfi, Sem.run_pure] at ih ⊢
    rw [ih]
    simp [ha, hsz]
theorem run_places (P : Program) (w : World) (fs : Array Field) (places : List (Nat × Nat)) (h : fs.toList.map (fun f => (f.offset, (P.info? f.type).map (·.size))) = places.map (fun p => (p.1, some p.2))) :
    (fs.mapM fun f => (do pure (f.offset, ← sizeOf f.type) : Sem (Nat × Nat))).run P w = .ok places.toArray w := by
  rw [Array.mapM_eq_mapM_toList, Sem.run_map, run_placesL P w _ _ h]
  rfl
theorem does_buildStruct (hT : TR e T a.tmps) (hM : MS w0 W e nx M w) (t : TypeId) (parts : Array (Nat × Operand)) (ho : o.op = .build t parts) {i : TypeInfo} (hi : P.info? t = some i) {z : Value} (hz : i.zero = some z) (hzf : z.cells.toList.all flat = true) {fs : Array Field} (ht : P.underlying t = some (.struct fs))
    (places : List (Nat × Nat)) (hpl : fs.toList.map (fun f => (f.offset, (P.info? f.type).map (·.size))) = places.map fun p => (p.1, some p.2))
    {ps : List (Nat × Nat × Value)} (hps : partsT T (places[·]?) parts.toList = some ps) {out : List Value} (hf : afill z.cells.toList ps = some out) : Does P o a w w0 W e (.agg out.toArray) M nx := by
  obtain ⟨out', h1, h2⟩ := fill_run hT hps hzf hf
  refine does_same hM (v' := .agg out'.toArray) ?_ (.agg _ _ h2)
  have h3 : ((parts.map fun x => (x.1, a.eval x.2)).toList) = parts.toList.map fun p => (p.1, a.eval p.2) := by simp
  have h4 : Instr.fill (fun x => places.toArray[x]?) z.cells (parts.map fun x => (x.1, a.eval x.2)).toList = some out'.toArray := by rw [h3, ← h1]; simp
  simp only [execOp, ho, Instr.build, zeroValue, typeInfo, Sem.run_bind, run_program, Result.andThen_ok, hi, Sem.run_pure, hz, run_underlying ht, run_places P w fs places hpl, h4]
theorem does_buildArr (hT : TR e T a.tmps) (hM : MS w0 W e nx M w) (t : TypeId) (parts : Array (Nat × Operand)) (ho : o.op = .build t parts) {i : TypeInfo} (hi : P.info? t = some i) {z : Value} (hz : i.zero = some z) (hzf : z.cells.toList.all flat = true) {n : Nat} {el : TypeId} (ht : P.underlying t = some (.array n el))
    {j : TypeInfo} (hj : P.info? el = some j)
    {ps : List (Nat × Nat × Value)} (hps : partsT T (fun k => some (k * j.size, j.size)) parts.toList = some ps) {out : List Value} (hf : afill z.cells.toList ps = some out) : Does P o a w w0 W e (.agg out.toArray) M nx := by
  obtain ⟨out', h1, h2⟩ := fill_run hT hps hzf hf
  refine does_same hM (v' := .agg out'.toArray) ?_ (.agg _ _ h2)
  have h3 : ((parts.map fun x => (x.1, a.eval x.2)).toList) = parts.toList.map fun p => (p.1, a.eval p.2) := by simp
  have h4 : Instr.fill (fun k => some (k * j.size, j.size)) z.cells (parts.map fun x => (x.1, a.eval x.2)).toList = some out'.toArray := by rw [h3, ← h1]
  simp only [execOp, ho, Instr.build, zeroValue, sizeOf, typeInfo, Sem.run_bind, run_program, Result.andThen_ok, hi, hj, Sem.run_pure, hz, run_underlying ht, h4]

/-- A new block of which a slice is handed out. -/
theorem does_newSlice (hM : MS w0 W e nx M w) {elem : TypeId} {cs ds : List Value} (hcs : VRs e cs ds) (u n c : Nat) (hn : n ≤ c) (hc : c < OPEN) (hr : (execOp a.eval o).run P w = .ok (.value (.slice (some ⟨w.heap.size, 0, none⟩) n c)) (w.alloc (.cells ds.toArray elem))) {id nx' : Nat} (hid : nx ≤ id) (hn' : id < nx') (hB : nx' ≤ W.top) :
    Does P o a w w0 W e (.slice (some ⟨id, 0, none⟩) n c) ((id, ⟨elem, u, cs, false⟩) :: M) nx' := by
  obtain ⟨h1, h2⟩ := hM.alloc elem (0, 0) u (fun i v hv => hcs.get i v hv) (Nat.le_of_eq hcs.length.symm) (.inl rfl) hid hn' hB
  exact ⟨_, _, _, ⟨.inl hr⟩, h2, .slice id 0 n c ⟨w.heap.size, 0, none⟩ c _ (put_same ..) (.inl rfl) hn (.inl ⟨rfl, hc⟩) (fun h => absurd hc (Nat.not_lt.2 h)), h1⟩
theorem does_buildSlice (hT : TR e T a.tmps) (hM : MS w0 W e nx M w) (t : TypeId) (len : Nat) (parts : Array (Nat × Operand)) (ho : o.op = .buildSlice t len parts) {el : TypeId} (ht : P.underlying t = some (.slice el)) {j : TypeInfo} (hj : P.info? el = some j) {z : Value} (hz : j.zero = some z) (hzf : z.cells.toList.all flat = true) (hz0 : z.cells.toList ≠ [])
    (hbig : len * j.size ≤ 16777216) {ps : List (Nat × Nat × Value)} (hps : partsT T (fun k => some (k * j.size, j.size)) parts.toList = some ps) {out : List Value} (hf : afill (zcells z.cells.toList (len * j.size)) ps = some out) (hlen : len < OPEN) {id nx' : Nat} (hid : nx ≤ id) (hn' : id < nx') (hB : nx' ≤ W.top) :
    Does P o a w w0 W e (.slice (some ⟨id, 0, none⟩) len len) ((id, ⟨el, j.size, out, false⟩) :: M) nx' := by
  obtain ⟨out', h1, h2⟩ := fill_run hT hps (zcells_flat hz0 hzf _) hf
  refine does_newSlice hM h2 j.size len len (Nat.le_refl _) hlen ?_ hid hn' hB
  have h3 : ((parts.map fun x => (x.1, a.eval x.2)).toList) = parts.toList.map fun p => (p.1, a.eval p.2) := by simp
  have h4 : Instr.fill (fun k => some (k * j.size, j.size)) ((Array.range (len * j.size)).map fun i => z.cells[i % z.cells.size]!) (parts.map fun x => (x.1, a.eval x.2)).toList = some out'.toArray := by
    rw [h3, ← h1, ← zcells_eq _ _ hz0]
  have hb : ¬ (len * j.size > 2 ^ 24) := by omega
  by_cases h0 : len * j.size = 0
  · rw [h0] at h4
    simp only [execOp, ho, Instr.buildSlice, sizeOf, zeroValue, typeInfo, Sem.run_bind, run_program, Result.andThen_ok, hj, Sem.run_pure, hz, run_underlying ht, if_neg hb, if_pos h0, newRow, run_newObj]
    simp only [h0, show Array.range 0 = #[] from rfl, Array.map_empty] at h4 ⊢
    simp only [h4, Sem.run_bind, Sem.run_pure, Result.andThen_ok, run_newObj]
    rfl
  · simp only [execOp, ho, Instr.buildSlice, sizeOf, zeroValue, typeInfo, Sem.run_bind, run_program, Result.andThen_ok, hj, Sem.run_pure, hz, run_underlying ht, if_neg hb, if_neg h0, newRow, run_newObj, h4]
    rfl
theorem wrap_id {x : Int} (h0 : 0 ≤ x) (h1 : x < 9223372036854775808) : IntKind.i64.wrap x = x := by
  simp [IntKind.wrap, IntKind.bits, IntKind.signed]; omega
theorem does_makeSlice (hT : TR e T a.tmps) (hM : MS w0 W e nx M w) (t : TypeId) (x y : Operand) (ho : o.op = .makeSlice t x y) {el : TypeId} (ht : P.underlying t = some (.slice el)) {j : TypeInfo} (hj : P.info? el = some j) {z : Value} (hz : j.zero = some z) (hzf : z.cells.toList.all flat = true) (hz0 : z.cells.toList ≠ [])
    {k k' : IntKind} {l c : Int} (hx : evalT T x = .int k l) (hy : evalT T y = .int k' c) (h0 : 0 ≤ l) (hlc : l ≤ c) (hc : c * j.bytes ≤ 140737488355328) (hc' : c ≤ 140737488355328) {id nx' : Nat} (hid : nx ≤ id) (hn' : id < nx') (hB : nx' ≤ W.top) :
    Does P o a w w0 W e (.slice (some ⟨id, 0, none⟩) l.toNat c.toNat) ((id, ⟨el, j.size, zcells z.cells.toList (c.toNat * j.size), false⟩) :: M) nx' := by
  refine does_newSlice hM (VRs.flats (zcells_flat hz0 hzf _)) j.size _ _ (by omega) (by show _ < 18446744073709551616; omega) ?_ hid hn' hB
  have e1 := evalT_sound hT x
  have e2 := evalT_sound hT y
  rw [hx] at e1
  rw [hy] at e2
  have w1 : IntKind.i64.wrap l = l := wrap_id h0 (by omega)
  have w2 : IntKind.i64.wrap c = c := wrap_id (by omega) (by omega)
  have hbc : ¬ ((j.bytes : Int) * c > 281474976710656) := by rw [Int.mul_comm]; omega
  have hg : (c < 0 ∨ (281474976710656 : Int) < j.bytes * c) = False := by simp; omega
  have hz5 := zcells_eq z.cells.toList (c.toNat * j.size) hz0
  simp only [execOp, ho, Instr.makeSlice, sizeOf, zeroValue, typeInfo, Sem.run_bind, run_program, Result.andThen_ok, hj, Sem.run_pure, hz, run_underlying ht, e1.int, e2.int, asInt, asIntOf, w1, w2]
  have hcond : ((decide (c < 0) || decide ((j.bytes : Int) * c > 2 ^ 48)) || decide (l < 0) || decide (l > c)) = false := by simp; omega
  rw [if_neg (by rw [hcond]; simp)]
  simp only [Array.toArray_toList] at hz5
  by_cases h5 : c.toNat * j.size = 0
  · rw [h5] at hz5
    simp only [newRow, Sem.run_bind, run_askRoom, Result.andThen_ok, Sem.run_pure, run_program, hj, run_newObj, h5, if_true, show Array.range 0 = #[] from rfl, Array.map_empty] at hz5 ⊢
    rw [← hz5]
    rfl
  · simp only [newRow, Sem.run_bind, run_askRoom, Result.andThen_ok, Sem.run_pure, run_program, hj, hz, run_newObj, if_neg h5, hz5]
    rfl
end
end Go.Proofs.Ytlpoolcdoecodaa.Eng

/- Part Eng6. -/
namespace Go.Proofs.Ytlpoolcdoecodaa.Eng
open Go.RowKit

section
variable {P : Program} {o : Oper} {a : Act} {w0 w : World} {W : Fr} {e : Env} {nx : Nat} {M : Mem} {T : List Value}

theorem does_len (hT : TR e T a.tmps) (hM : MS w0 W e nx M w) (t : TypeId) (x : Operand) (ho : o.op = .call { callee := .builtin .len, args := #[x], argTypes := #[t] }) {el : TypeId} (ht : P.underlying t = some (.slice el)) {ad : Addr} {n c : Nat} (hx : evalT T x = .slice (some ad) n c) (hsp : ad.spot = none) : Does P o a w w0 W e (.int .i64 n) M nx := by
  have h := evalT_sound hT x
  obtain ⟨id, off, sp⟩ := ad
  simp only at hsp
  subst hsp
  rw [hx] at h
  obtain ⟨a', c', l, hl, h1, _⟩ := h.slice_inv
  refine does_same hM (v' := .int .i64 n) ?_ (.flat _ rfl)
  simp [execOp, ho, resolve, invoke, builtin, Builtin.len_, run_underlying ht, h1, goInt]
theorem does_lenArr (hM : MS w0 W e nx M w) (t : TypeId) (x : Operand) (ho : o.op = .call { callee := .builtin .len, args := #[x], argTypes := #[t] }) {n : Nat} {el : TypeId} (ht : P.underlying t = some (.array n el)) : Does P o a w w0 W e (.int .i64 n) M nx := by
  refine does_same hM (v' := .int .i64 n) ?_ (.flat _ rfl)
  simp only [execOp, ho, resolve, invoke, builtin, Builtin.len_, Sem.run_bind, Sem.run_pure, Result.andThen_ok, List.map_toArray, List.map_cons, List.map_nil]
  simp [run_underlying ht, goInt]
theorem does_lenPtr (hM : MS w0 W e nx M w) (t : TypeId) (x : Operand) (ho : o.op = .call { callee := .builtin .len, args := #[x], argTypes := #[t] }) {n : Nat} {el arr : TypeId} (ht : P.underlying t = some (.pointer arr)) (ha : P.underlying arr = some (.array n el)) : Does P o a w w0 W e (.int .i64 n) M nx := by
  refine does_same hM (v' := .int .i64 n) ?_ (.flat _ rfl)
  simp only [execOp, ho, resolve, invoke, builtin, Builtin.len_, Sem.run_bind, Sem.run_pure, Result.andThen_ok, List.map_toArray, List.map_cons, List.map_nil]
  simp [run_underlying ht, run_underlying ha, goInt]
theorem does_cap (hT : TR e T a.tmps) (hM : MS w0 W e nx M w) (t : TypeId) (x : Operand) (ho : o.op = .call { callee := .builtin .cap, args := #[x], argTypes := #[t] }) {el : TypeId} (ht : P.underlying t = some (.slice el)) {id off : Nat} {n c : Nat} (hx : evalT T x = .slice (some ⟨id, off, none⟩) n c) (hc : c < OPEN) : Does P o a w w0 W e (.int .i64 c) M nx := by
  have h := evalT_sound hT x
  rw [hx] at h
  obtain ⟨a', c', l, hl, h1, _, _, h2, _⟩ := h.slice_inv
  obtain rfl : c = c' := by
    rcases h2 with h2 | h2
    · exact h2.1
    · omega
  refine does_same hM (v' := .int .i64 c) ?_ (.flat _ rfl)
  simp [execOp, ho, resolve, invoke, builtin, Builtin.cap_, run_underlying ht, h1, goInt]

theorem does_capNil (hT : TR e T a.tmps) (hM : MS w0 W e nx M w) (t : TypeId) (x : Operand) (ho : o.op = .call { callee := .builtin .cap, args := #[x], argTypes := #[t] }) {el : TypeId} (ht : P.underlying t = some (.slice el)) {n c : Nat} (hx : evalT T x = .slice none n c) : Does P o a w w0 W e (.int .i64 c) M nx := by
  have h := evalT_sound hT x
  rw [hx] at h
  have h1 := VR.of_flat (by rfl) h
  refine does_same hM (v' := .int .i64 c) ?_ (.flat _ rfl)
  simp [execOp, ho, resolve, invoke, builtin, Builtin.cap_, run_underlying ht, h1, goInt]
/-- Comparison with nil: what may stand there, told as yes or no. -/
def nilEq : Value → Value → Option Bool
  | .slice none _ _, .slice (some _) _ _ => some false
  | .slice (some _) _ _, .slice none _ _ => some false
  | .pointer none, .pointer (some _) => some false
  | .pointer (some _), .pointer none => some false
  | .nilFunc, .func _ _ _ => some false
  | .func _ _ _, .nilFunc => some false
  | _, _ => none
theorem eqIn_slice1 {t el : TypeId} (ht : P.underlying t = some (.slice el)) (w : World) (n c n' c' : Nat) (ad : Addr) : (Op.equal t (.slice none n c) (.slice (some ad) n' c')).run P w = .ok false w := by
  show (Op.equalIn (9999 + 1) t _ _).run P w = _
  unfold Op.equalIn
  simp [run_underlying ht]
theorem eqIn_slice2 {t el : TypeId} (ht : P.underlying t = some (.slice el)) (w : World) (n c n' c' : Nat) (ad : Addr) : (Op.equal t (.slice (some ad) n' c') (.slice none n c)).run P w = .ok false w := by
  show (Op.equalIn (9999 + 1) t _ _).run P w = _
  unfold Op.equalIn
  simp [run_underlying ht]
theorem eqIn_ptr1 {t el : TypeId} (ht : P.underlying t = some (.pointer el)) (w : World) (ad : Addr) : (Op.equal t (.pointer none) (.pointer (some ad))).run P w = .ok false w := by
  show (Op.equalIn (9999 + 1) t _ _).run P w = _
  unfold Op.equalIn
  simp [run_underlying ht]
theorem eqIn_ptr2 {t el : TypeId} (ht : P.underlying t = some (.pointer el)) (w : World) (ad : Addr) : (Op.equal t (.pointer (some ad)) (.pointer none)).run P w = .ok false w := by
  show (Op.equalIn (9999 + 1) t _ _).run P w = _
  unfold Op.equalIn
  simp [run_underlying ht]
theorem eqIn_func1 {t : TypeId} {ps rs : Array TypeId} {v : Bool} (ht : P.underlying t = some (.func ps rs v)) (w : World) (f : Fn) (xs ys : Array Value) : (Op.equal t .nilFunc (.func f xs ys)).run P w = .ok false w := by
  show (Op.equalIn (9999 + 1) t _ _).run P w = _
  unfold Op.equalIn
  simp [run_underlying ht]
theorem eqIn_func2 {t : TypeId} {ps rs : Array TypeId} {v : Bool} (ht : P.underlying t = some (.func ps rs v)) (w : World) (f : Fn) (xs ys : Array Value) : (Op.equal t (.func f xs ys) .nilFunc).run P w = .ok false w := by
  show (Op.equalIn (9999 + 1) t _ _).run P w = _
  unfold Op.equalIn
  simp [run_underlying ht]
/-- The type's shape fits the value. -/
def nilFit (d : TypeDesc) (v : Value) : Bool :=
  match d, v with
  | .slice _, .slice .. => true
  | .pointer _, .pointer _ => true
  | .func .., .func .. => true
  | .func .., .nilFunc => true
  | _, _ => false
theorem VR.slice_some {e : Env} {ad : Addr} {n c : Nat} {y : Value} (h : VR e (.slice (some ad) n c) y) : ∃ a' c', y = .slice (some a') n c' := by
  cases h with
  | flat v hv => simp [Eng.flat] at hv
  | slice id off n c a' c' l => exact ⟨a', c', rfl⟩
theorem VR.ptr_some {e : Env} {ad : Addr} {y : Value} (h : VR e (.pointer (some ad)) y) : ∃ a', y = .pointer (some a') := by
  cases h with
  | flat v hv => simp [Eng.flat] at hv
  | ptr id off l hl => exact ⟨_, rfl⟩
theorem does_eqFalse (hM : MS w0 W e nx M w) (op : BinOp) (t t' : TypeId) (x y : Operand) (ho : o.op = .binOp op t x y t') (hop : op = .eql ∨ op = .neq) {u v : Value} (hx : a.eval x = u) (hy : a.eval y = v)
    (hk : (∃ n c ad n' c', u = .slice none n c ∧ v = .slice (some ad) n' c') ∨ (∃ n c ad n' c', u = .slice (some ad) n' c' ∧ v = .slice none n c) ∨ (∃ ad, u = .pointer none ∧ v = .pointer (some ad)) ∨ (∃ ad, u = .pointer (some ad) ∧ v = .pointer none) ∨ (∃ f xs ys, u = .nilFunc ∧ v = .func f xs ys) ∨ (∃ f xs ys, u = .func f xs ys ∧ v = .nilFunc))
    (hr : (Op.equal t u v).run P w = .ok false w) : Does P o a w w0 W e (.bool (if op = .eql then false else true)) M nx := by
  refine does_same hM (v' := .bool (if op = .eql then false else true)) ?_ (.flat _ rfl)
  have hg : (eqGuard op t x y u v).run P w = .ok () w := by
    rcases hk with ⟨_, _, _, _, _, rfl, rfl⟩ | ⟨_, _, _, _, _, rfl, rfl⟩ | ⟨_, rfl, rfl⟩ | ⟨_, rfl, rfl⟩ | ⟨_, _, _, rfl, rfl⟩ | ⟨_, _, _, rfl, rfl⟩ <;> rcases hop with rfl | rfl <;> simp [eqGuard]
  have hb : binOp op t u v = (if op = .eql then (do pure (.bool (← Op.equal t u v))) else (do pure (.bool (!(← Op.equal t u v))))) := by
    rcases hk with ⟨_, _, _, _, _, rfl, rfl⟩ | ⟨_, _, _, _, _, rfl, rfl⟩ | ⟨_, rfl, rfl⟩ | ⟨_, rfl, rfl⟩ | ⟨_, _, _, rfl, rfl⟩ | ⟨_, _, _, rfl, rfl⟩ <;> rcases hop with rfl | rfl <;> rfl
  simp only [execOp, ho, hx, hy, Sem.run_bind, hg, Result.andThen_ok, hb]
  rcases hop with rfl | rfl <;> simp [hr]
theorem does_nilEq (hT : TR e T a.tmps) (hM : MS w0 W e nx M w) (op : BinOp) (t t' : TypeId) (x y : Operand) (ho : o.op = .binOp op t x y t') (hop : op = .eql ∨ op = .neq) {d : TypeDesc} (ht : P.underlying t = some d)
    {b : Bool} (hb : nilEq (evalT T x) (evalT T y) = some b) (hfit : nilFit d (evalT T x) = true) : Does P o a w w0 W e (.bool (if op = .eql then false else true)) M nx := by
  have h1 := evalT_sound hT x
  have h2 := evalT_sound hT y
  generalize evalT T x = u at *
  generalize evalT T y = v at *
  unfold nilEq at hb
  split at hb
  · have e1 := VR.of_flat (by rfl) h1
    obtain ⟨a', c', e2⟩ := h2.slice_some
    cases d <;> simp [nilFit] at hfit
    exact does_eqFalse hM op t t' x y ho hop e1 e2 (.inl ⟨_, _, _, _, _, rfl, rfl⟩) (eqIn_slice1 ht w _ _ _ _ _)
  · have e1 := VR.of_flat (by rfl) h2
    obtain ⟨a', c', e2⟩ := h1.slice_some
    cases d <;> simp [nilFit] at hfit
    exact does_eqFalse hM op t t' x y ho hop e2 e1 (.inr (.inl ⟨_, _, _, _, _, rfl, rfl⟩)) (eqIn_slice2 ht w _ _ _ _ _)
  · have e1 := VR.of_flat (by rfl) h1
    obtain ⟨a', e2⟩ := h2.ptr_some
    cases d <;> simp [nilFit] at hfit
    exact does_eqFalse hM op t t' x y ho hop e1 e2 (.inr (.inr (.inl ⟨_, rfl, rfl⟩))) (eqIn_ptr1 ht w _)
  · have e1 := VR.of_flat (by rfl) h2
    obtain ⟨a', e2⟩ := h1.ptr_some
    cases d <;> simp [nilFit] at hfit
    exact does_eqFalse hM op t t' x y ho hop e2 e1 (.inr (.inr (.inr (.inl ⟨_, rfl, rfl⟩)))) (eqIn_ptr2 ht w _)
  · have e1 := VR.of_flat (by rfl) h1
    obtain ⟨ys, ys', e2, _⟩ := h2.func_inv
    cases d <;> simp [nilFit] at hfit
    exact does_eqFalse hM op t t' x y ho hop e1 e2 (.inr (.inr (.inr (.inr (.inl ⟨_, _, _, rfl, rfl⟩))))) (eqIn_func1 ht w _ _ _)
  · have e1 := VR.of_flat (by rfl) h2
    obtain ⟨ys, ys', e2, _⟩ := h1.func_inv
    cases d <;> simp [nilFit] at hfit
    exact does_eqFalse hM op t t' x y ho hop e2 e1 (.inr (.inr (.inr (.inr (.inr ⟨_, _, _, rfl, rfl⟩))))) (eqIn_func2 ht w _ _ _)
  · cases hb
end
end Go.Proofs.Ytlpoolcdoecodaa.Eng
