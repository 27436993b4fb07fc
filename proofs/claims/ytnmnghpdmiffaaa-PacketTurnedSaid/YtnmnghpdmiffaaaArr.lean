/-
  WORDS FOR ARRAYS: a variable that is an array of whole numbers lies in a block of its own. No statement of the program is proved here.
-/
import Derived.Test.YtnmnghpdmiffaaaWWords
import Derived.StillTailTactics
import Derived.Laws.Tables
import Derived.Test.YtnmnghpdmiffaaaProg
namespace Go.Proofs.Ytnmnghpdmiffaaa.Arr
open Go.RowKit Go.Proofs.YtnmnghpdmiffaaaW.PrintWords
set_option maxRecDepth 100000

/-- Block b is an array of whole numbers. -/
def Is (w : World) (b : Nat) (e : TypeId) (k : IntKind) (xs : List Int) : Prop := w.heap[b]? = some (.cells (nums k xs).toArray e (0, 0))
/-- Block b holds these numbers from now on. -/
def put (w : World) (b : Nat) (k : IntKind) (xs : List Int) : World := w.setRow b (nums k xs).toArray

variable {w : World} {b : Nat} {e : TypeId} {k : IntKind} {xs ys : List Int}

theorem put_heap (h : Is w b e k xs) : Is (put w b k ys) b e k ys := by
  unfold Is put World.setRow at *
  rw [Array.getElem?_modify]
  simp [h]
theorem put_other (c : Nat) (h : c ≠ b) : (put w b k ys).heap[c]? = w.heap[c]? := by
  unfold put World.setRow
  rw [Array.getElem?_modify]
  simp [Ne.symm h]
theorem put_size : (put w b k ys).heap.size = w.heap.size := by simp [put]
theorem Is.lt (h : Is w b e k xs) : b < w.heap.size := (Array.getElem?_eq_some_iff.1 h).1
theorem Is.cell (h : Is w b e k xs) (i : Nat) (hi : i < xs.length) : w.cell? ⟨b, i, none⟩ = some (.int k (rd xs i)) := by
  unfold Is at h
  unfold World.cell?
  simp [h, nums, rd, hi]
theorem Is.free (h : Is w b e k xs) (i : Nat) : w.frozen? ⟨b, i, none⟩ = false := by
  unfold Is at h
  unfold World.frozen?
  simp [h]
theorem put_put : put (put w b k xs) b k ys = put w b k ys := by
  unfold put World.setRow
  congr 1
  apply Array.ext_getElem?
  intro i
  rw [Array.getElem?_modify, Array.getElem?_modify, Array.getElem?_modify]
  split
  · cases w.heap[i]? with
    | none => rfl
    | some o => cases o <;> rfl
  · rfl
theorem put_self (h : Is w b e k xs) : put w b k xs = w := by
  unfold Is at h
  unfold put World.setRow
  have : w.heap.modify b (fun | .cells _ e f => .cells (nums k xs).toArray e f | o => o) = w.heap := by
    apply Array.ext_getElem?
    intro i
    rw [Array.getElem?_modify]
    split
    · rename_i hi
      subst hi
      simp [h]
    · rfl
  cases w with
  | mk hp tp dr os out => exact congrArg (fun hh => World.mk hh tp dr os out) this
/-- A store into the array. -/
theorem put_set (h : Is w b e k xs) (i : Nat) (x : Int) : w.setCell ⟨b, i, none⟩ (.int k x) = put w b k (xs.set i x) := by
  unfold Is at h
  unfold put World.setRow World.setCell
  congr 1
  apply Array.ext_getElem?
  intro c
  rw [Array.getElem?_modify, Array.getElem?_modify]
  split
  · rename_i hc
    subst hc
    simp [h, nums, List.map_set]
  · rfl
theorem put_drew : put w.drew b k ys = (put w b k ys).drew := rfl
theorem put_drewN (n : Nat) : put (w.drewN n) b k ys = (put w b k ys).drewN n := rfl
theorem Is.drew (h : Is w b e k xs) : Is w.drew b e k xs := h
theorem Is.drewN (h : Is w b e k xs) (n : Nat) : Is (w.drewN n) b e k xs := h
theorem Is.below {W : World} (h : Is w b e k xs) (hb : Below w.heap.size w W) : Is W b e k xs := (hb.block b h.lt).trans h
theorem Is.cell_int (h : Is w b e k xs) (i : Int) (h0 : 0 ≤ i) (hi : i < xs.length) : w.cell? ⟨b, i.toNat, none⟩ = some (.int k (rd xs i)) := by
  rw [h.cell i.toNat (by omega)]
  rw [show ((i.toNat : Nat) : Int) = i by omega]
/-- The world w1 is w, with these numbers in block b and some orders drawn. -/
structure To (w w1 : World) (b : Nat) (k : IntKind) (ys : List Int) : Prop where mk :: (out : ∃ n, w1 = (put w b k ys).drewN n)
theorem To.refl (h : Is w b e k xs) : To w w b k xs := ⟨⟨0, by rw [put_self h]; rfl⟩⟩
theorem To.step {w1 w2 : World} {zs : List Int} (h : To w w1 b k ys) (h2 : w2 = (put w1 b k zs).drew) : To w w2 b k zs := by
  obtain ⟨n, rfl⟩ := h.out
  subst h2
  refine ⟨⟨n + 1, ?_⟩⟩
  rw [put_drewN, put_put]
  rfl
theorem To.is {w1 : World} (h : To w w1 b k ys) (h0 : Is w b e k xs) : Is w1 b e k ys := by
  obtain ⟨n, rfl⟩ := h.out
  exact (put_heap h0).drewN n
theorem To.drewN {w1 : World} (h : To w w1 b k ys) (n : Nat) : To w (w1.drewN n) b k ys := by
  obtain ⟨m, rfl⟩ := h.out
  exact ⟨⟨m + n, World.drewN_drewN ..⟩⟩
theorem To.put {w1 : World} {zs : List Int} (h : To w w1 b k ys) : To w (put w1 b k zs) b k zs := by
  obtain ⟨n, rfl⟩ := h.out
  exact ⟨⟨n, by rw [put_drewN, put_put]⟩⟩
theorem To.trans {w1 w2 : World} {zs : List Int} (h : To w w1 b k ys) (h2 : To w1 w2 b k zs) : To w w2 b k zs := by
  obtain ⟨n, rfl⟩ := h2.out
  exact h.put.drewN n
theorem To.size {w1 : World} (h : To w w1 b k ys) : w1.heap.size = w.heap.size := by
  obtain ⟨n, rfl⟩ := h.out
  rw [World.drewN, put_size]
theorem To.heap {w1 : World} (h : To w w1 b k ys) (c : Nat) (hc : c ≠ b) : w1.heap[c]? = w.heap[c]? := by
  obtain ⟨n, rfl⟩ := h.out
  exact put_other c hc
theorem To.below {w0 w1 : World} {B : Nat} (h0 : Below B w0 w) (h : To w w1 b k ys) (hB : B ≤ b) : Below B w0 w1 := by
  obtain ⟨n, rfl⟩ := h.out
  have hp : Below B w0 (Arr.put w b k ys) := ⟨h0.os, h0.tape, h0.output, by rw [put_size]; exact h0.size, fun i hi => (put_other i (by omega)).trans (h0.block i hi)⟩
  exact pw_below_drewN hp n
theorem To.other {w1 : World} {c : Nat} {e : TypeId} {k' : IntKind} {zs : List Int} (h : To w w1 b k ys) (hc : c ≠ b) (h0 : Is w c e k' zs) : Is w1 c e k' zs := (h.heap c hc).trans h0
/-- A new array, its numbers laid at once. -/
theorem new_arr (W : World) (old : Array Value) (e : TypeId) (k : IntKind) (xs : List Int) : Is ((W.alloc (.cells old e)).setRow W.heap.size (nums k xs).toArray) W.heap.size e k xs ∧ Below W.heap.size W ((W.alloc (.cells old e)).setRow W.heap.size (nums k xs).toArray) ∧ ((W.alloc (.cells old e)).setRow W.heap.size (nums k xs).toArray).heap.size = W.heap.size + 1 := by
  refine ⟨?_, ⟨rfl, rfl, rfl, by simp, fun i hi => ?_⟩, by simp⟩
  · unfold Is World.setRow
    rw [Array.getElem?_modify, if_pos rfl, heap_alloc_new]
    rfl
  · have h := Below.heap_alloc W (.cells old e) i hi
    unfold World.setRow
    rw [Array.getElem?_modify, if_neg (by omega)]
    exact h
theorem Is.belowB {w1 : World} {B : Nat} (h : Is w b e k xs) (hb : Below B w w1) (hB : b < B) : Is w1 b e k xs := (hb.block b hB).trans h
/-- 'make([]T, 0, c)'. -/
theorem make_cap {P : Program} {ops : Array Oper} {rest : List Oper} {o : Oper} {a : Act} {Q : Exit → Act → World → Prop} {W : World} (base : Nat) (hgd : o.guard = none) (x y : Operand) (t e : TypeId) (k : IntKind) (bytes : Nat)
    (ho : o.op = .makeSlice t x y) (ht : P.underlying t = some (.slice e)) (hinfo : (P.info? e).map (fun i => (i.zero, i.size, i.bytes)) = some (some (.int k 0), 1, bytes))
    (c : Int) (hx : a.eval x = .int .i64 0) (hy : a.eval y = .int .i64 c) (h0 : 0 ≤ c) (hl : c.toNat * bytes ≤ 281474976710656) (hcm : c ≤ 9223372036854775807) (hbase : base ≤ W.heap.size)
    (h : ∀ v1 w1, (Kd.int k).R e w1 base (fun _ => True) v1 [] → Below W.heap.size W w1 → wpList P ops Q rest (a.put o.dst v1) w1) :
    wpList P ops Q (o :: rest) a W := by
  obtain ⟨i0, hi, hzz⟩ := Option.map_eq_some_iff.1 hinfo
  simp only [Prod.mk.injEq] at hzz
  obtain ⟨hz0, hz1, hz2⟩ := hzz
  obtain ⟨m, rfl⟩ := Int.eq_ofNat_of_zero_le h0
  obtain ⟨w1, hr, ho1, hg⟩ := run_make_own (P := P) W base t e i0 (.int k 0) 1 ht hi hz0 hz1 .i64 .i64 m (by rw [hz2, Nat.mul_comm]; simpa using hl) (by simp only [maxLen]; omega) hbase
  refine Kd.event_run hgd ?_ (h _ w1 (Kd.R_of_own (xs := []) ho1 (fun _ _ => trivial)) ⟨hg.os, hg.tape, hg.output, hg.size, fun i hi => hg.block i hi (by simp)⟩)
  simp [execOp, ho, hx, hy, hr]
/-- 'append(v, y, ..)': the literal lies in a block of its own. -/
theorem lit_append {P : Program} {ops : Array Oper} {rest : List Oper} {o : Oper} {a : Act} {Q : Exit → Act → World → Prop} {W : World} (base : Nat) (hgd : o.guard = none) (s x : Operand) (t e : TypeId) (k : IntKind) (bytes : Nat)
    (ho : o.op = .call { callee := .builtin .append, args := #[s, x], argTypes := #[t, t] }) (ht : P.underlying t = some (.slice e)) (hinfo : (P.info? e).map (fun i => (i.zero, i.size, i.bytes)) = some (some (.int k 0), 1, bytes)) (hb0 : 0 < bytes)
    (v : Value) (xs ys : List Int) (m : Nat) (hm : ys.length = m) (hs : a.eval s = v) (hx : a.eval x = .slice (some ⟨W.heap.size, 0, none⟩) m m)
    (HO : (Kd.int k).R e W base (fun _ => True) v xs) (hbase : base ≤ W.heap.size) (hl : (xs.length + m) * bytes ≤ 140737488355328)
    (h : ∀ v1 w1, (Kd.int k).R e w1 base (fun _ => True) v1 (xs ++ ys) → Below base W w1 → wpList P ops Q rest (a.put o.dst v1) w1) :
    wpList P ops Q (o :: rest) a (W.alloc (.cells (nums k ys).toArray e)) := by
  have hlm : ys.length ≤ 140737488355328 := by
    have := Nat.le_mul_of_pos_right (xs.length + m) hb0
    omega
  have HR : ReadsInt (W.alloc (.cells (nums k ys).toArray e)) k (some ⟨W.heap.size, 0, none⟩) m ys := by
    refine ⟨hm, by omega, fun _ => ⟨_, rfl, fun j hj => ?_⟩⟩
    rw [Go.Proofs.YtnmnghpdmiffaaaW.PrintWords.add_plain, World.cell?_alloc_new]
    simp [nums, hm, hj]
  refine print_append_row base hgd s x t e k bytes ho ht hinfo hb0 v xs ys _ m m hs hx ((Kd.own_of_R HO).alloc _) HR ((Below.refl base W).alloc hbase _) (by rw [World.size_alloc]; omega) hl ?_
  intro v1 w1 ho hB _ _
  exact h v1 w1 (Kd.R_of_own ho (fun _ _ => trivial)) hB
/-- 'l[j:]' of bytes that are read. -/
theorem cut_ex {P : Program} (t e : TypeId) (kl : IntKind) {i : TypeInfo} (ht : P.underlying t = some (.slice e)) (hi : P.info? e = some i) (hsz : i.size = 1) (A : Option Addr) (l : List Int) (c : Nat) (j : Int) (h0 : 0 ≤ j) (hm : j ≤ l.length) (hc : l.length ≤ c) :
    ∃ (A' : Option Addr) (y : List Int) (c' : Nat), y = l.drop j.toNat ∧ y.length ≤ c' ∧ (∀ W : World, (Instr.slice t (.slice A l.length c) (some (.int kl j)) none none).run P W = .ok (.slice A' y.length c') W) ∧ ∀ (w : World) (k : IntKind), (Kd.int k).C w A l.length l → (Kd.int k).C w A' y.length y := by
  refine ⟨(if c = j.toNat then A else A.map (·.add (j.toNat * 1))), l.drop j.toNat, c - j.toNat, rfl, by rw [List.length_drop]; omega, fun W => ?_, fun w k h => ?_⟩
  · rw [cut_from t e kl ht hi 1 hsz A l.length c j h0 hm W, List.length_drop]
  · exact Kd.C_drop h (by omega) hc
/-- The first j numbers of n that f tells, noughts behind them. -/
def fillF (f : Nat → Int) (n j : Nat) : List Int := (List.range j).map f ++ List.replicate (n - j) 0
theorem len_fillF (f : Nat → Int) (n j : Nat) (h : j ≤ n) : (fillF f n j).length = n := by simp [fillF]; omega
theorem fillF_zero (f : Nat → Int) (n : Nat) : fillF f n 0 = List.replicate n 0 := by simp [fillF]
theorem fillF_full (f : Nat → Int) (n : Nat) : fillF f n n = (List.range n).map f := by simp [fillF]
theorem fillF_set (f : Nat → Int) (n j : Nat) (h : j < n) : (fillF f n j).set j (f j) = fillF f n (j + 1) := by
  have h1 : List.replicate (n - j) (0 : Int) = 0 :: List.replicate (n - (j + 1)) 0 := by rw [show n - j = (n - (j + 1)) + 1 by omega, List.replicate_succ]
  rw [fillF, fillF, h1, List.set_append_right _ _ (by simp)]
  simp [List.range_succ, List.append_assoc]
theorem wrap_id {x : Int} (h0 : -9223372036854775808 ≤ x) (h1 : x ≤ 9223372036854775807) : wrap64 x = x := by unfold wrap64; omega
theorem rd_nat (xs : List Int) (i : Nat) : rd xs (i : Int) = xs.getD i 0 := by simp [rd]
end Go.Proofs.Ytnmnghpdmiffaaa.Arr
