/-
  MORE WORDS FOR ARRAYS: one array is written, and new blocks are laid. No statement of the program is proved here.
-/
import Derived.Test.YtnmnghpdmiffaaaArr
namespace Go.Proofs.Ytnmnghpdmiffaaa.Arr
open Go.RowKit Go.Proofs.YtnmnghpdmiffaaaW.PrintWords
set_option maxRecDepth 100000

variable {w w1 w2 : World} {b c : Nat} {e : TypeId} {k : IntKind} {xs ys zs : List Int}

theorem To.put_dr (h : To w w1 b k ys) : To w (Arr.put w1 b k zs).drew b k zs := h.step rfl
theorem To.put_d0 (h : To w w1 b k ys) : To w (Arr.put w1 b k zs) b k zs := h.put
/-- The world w1 is w, but for block b, which holds these numbers, and for new blocks. -/
structure Into (w w1 : World) (b : Nat) (k : IntKind) (ys : List Int) : Prop where mk :: (out : Below w.heap.size (Arr.put w b k ys) w1)
theorem Into.refl (h : Is w b e k xs) : Into w w b k xs := ⟨by rw [put_self h]; exact Below.refl _ _⟩
theorem Into.of (h : To w w1 b k ys) : Into w w1 b k ys := by
  obtain ⟨n, rfl⟩ := h.out
  exact ⟨pw_below_drewN (Below.refl _ _) n⟩
theorem Into.is (h : Into w w1 b k ys) (h0 : Is w b e k xs) : Is w1 b e k ys := (h.out.block b h0.lt).trans (put_heap h0)
theorem Into.heap (h : Into w w1 b k ys) (c : Nat) (hc : c ≠ b) (hl : c < w.heap.size) : w1.heap[c]? = w.heap[c]? := (h.out.block c hl).trans (put_other c hc)
theorem Into.size (h : Into w w1 b k ys) : w.heap.size ≤ w1.heap.size := by
  have := h.out.size
  rwa [put_size] at this
theorem Into.other {k' : IntKind} (h : Into w w1 b k ys) (hc : c ≠ b) (h0 : Is w c e k' zs) : Is w1 c e k' zs := (h.heap c hc h0.lt).trans h0
/-- The same block again. -/
theorem Into.to (h : Into w w1 b k ys) (h2 : To w1 w2 b k zs) : Into w w2 b k zs := by
  obtain ⟨n, rfl⟩ := h2.out
  have hp : Below w.heap.size (Arr.put w b k zs) (Arr.put w1 b k zs) := by
   refine ⟨h.out.os, h.out.tape, h.out.output, ?_, fun i hi => ?_⟩
   · rw [put_size, put_size]; exact h.size
   · by_cases hb : i = b
     · subst hb
       have h1 := h.out.block i hi
       unfold Arr.put World.setRow at h1 ⊢
       rw [Array.getElem?_modify, if_pos rfl] at h1 ⊢
       rw [h1, Array.getElem?_modify, if_pos rfl]
       cases w.heap[i]? with
       | none => rfl
       | some o => cases o <;> rfl
     · rw [put_other i hb, put_other i hb]
       exact h.heap i hb hi
  exact ⟨pw_below_drewN hp n⟩
theorem Into.trans (h : Into w w1 b k ys) (h2 : Into w1 w2 b k zs) : Into w w2 b k zs := by
  have h3 := (h.to (zs := zs) (To.put_d0 (ys := ys) (zs := zs) ⟨⟨0, rfl⟩⟩ : To w1 (Arr.put (Arr.put w1 b k ys) b k zs) b k zs))
  rw [put_put] at h3
  exact ⟨h3.out.trans (h2.out.mono h.size)⟩
/-- A block of the call's own. -/
theorem Into.own {k' : IntKind} (h : Into w w1 b k ys) (h2 : To w1 w2 c k' zs) (hc : w.heap.size ≤ c) : Into w w2 b k ys := by
  obtain ⟨n, rfl⟩ := h2.out
  have hp : Below w.heap.size (Arr.put w b k ys) (Arr.put w1 c k' zs) := by
   refine ⟨h.out.os, h.out.tape, h.out.output, ?_, fun i hi => ?_⟩
   · rw [put_size, put_size]; exact h.size
   · rw [put_other i (by omega)]
     exact h.out.block i hi
  exact ⟨pw_below_drewN hp n⟩
theorem Into.below (h : Into w w1 b k ys) (h2 : Below w.heap.size w1 w2) : Into w w2 b k ys := ⟨h.out.trans h2⟩
theorem Into.belowS (h : Into w w1 b k ys) (h2 : Below w1.heap.size w1 w2) : Into w w2 b k ys := ⟨h.out.trans (h2.mono h.size)⟩
/-- Seen from below: a block of the call's own is written. -/
theorem Into.belowB {B : Nat} {w0 : World} (h0 : Below B w0 w) (h : Into w w1 b k ys) (hB : B ≤ b) (hS : B ≤ w.heap.size) : Below B w0 w1 :=
  ⟨h.out.os.trans h0.os, h.out.tape.trans h0.tape, h.out.output.trans h0.output, Nat.le_trans h0.size h.size, fun i hi => (h.heap i (by omega) (by omega)).trans (h0.block i hi)⟩
theorem below_put {B : Nat} {w0 : World} (h : Below B w0 w) (hB : B ≤ b) : Below B w0 (Arr.put w b k ys) :=
  ⟨h.os, h.tape, h.output, by rw [put_size]; exact h.size, fun i hi => (put_other i (by omega)).trans (h.block i hi)⟩
/-- A literal in a block of its own. -/
theorem lit_R (W : World) (base b : Nat) (e : TypeId) (k : IntKind) (xs : List Int) (n : Nat) (hb : b = W.heap.size) (hbase : base ≤ W.heap.size) (hn : xs.length = n) (hm : n ≤ 9223372036854775807) :
    (Kd.int k).R e (W.alloc (.cells (nums k xs).toArray e)) base (fun _ => True) (.slice (some ⟨b, 0, none⟩) n n) xs := by
  subst hb
  subst hn
  exact Kd.R_of_own (own_lit W base e k xs hbase hm) (fun _ _ => trivial)
/-- A literal that is read, whatever is frozen behind it. -/
theorem lit_C (W : World) (e : TypeId) (k : IntKind) (xs : List Int) (fr : Nat × Nat) (n : Nat) (hn : xs.length = n) (hm : n ≤ 9223372036854775807) :
    (Kd.int k).C (W.alloc (.cells (nums k xs).toArray e fr)) (some ⟨W.heap.size, 0, none⟩) n xs := by
  subst hn
  refine Kd.C_of_reads (enc := Value.int k) (d := (0 : Int)) (h1 := fun _ => rfl) ⟨rfl, hm, fun _ => ⟨_, rfl, fun j hj => ?_⟩⟩
  rw [Go.Proofs.YtnmnghpdmiffaaaW.PrintWords.add_plain]
  have := heap_alloc_new W (.cells (nums k xs).toArray e fr)
  unfold World.cell?
  simp only [this]
  simp [nums, hj]
theorem drewN_of {W : World} (n : Nat) : Below W.heap.size W (W.drewN n) := pw_below_drewN (Below.refl _ _) n
theorem put_setD (h : Is w b e k xs) (i : Nat) (x : Int) : w.drew.setCell ⟨b, i, none⟩ (.int k x) = (Arr.put w b k (xs.set i x)).drew := put_set (h.drew) i x
/-- A whole array stored, in a region that draws its order and in a plain one; a whole array loaded. -/
theorem store_is {P : Program} {ops : Array Oper} {oi : Oper} {a : Act} {W : World} {K : Act → World → Prop} {Q : Exit → Act → World → Prop} (ty : TypeId) (x y : Operand) (hw : Region.wanted oi (yielded ops a.tmps) = true) (hN : oi.dst = none)
    (ho : oi.op = .store ty x y) (ys : List Int) (hx : a.eval x = .pointer (some ⟨b, 0, none⟩)) (hy : a.eval y = .agg (nums k ys).toArray) (hs : Is W b e k xs) (hl : xs.length = ys.length) (hi : (P.info? ty).map (·.size) = some ys.length)
    (h : K a (Arr.put W b k ys)) : if Region.wanted oi (yielded ops a.tmps) = true then Oper.wp P oi a W K Q else K (a.put none undef) W := by
  rw [if_pos hw]
  refine wp_store_row ty x y ho b _ hx hy e _ hs ?_ ?_ ?_ ?_
  · rw [hi]; simp [nums]
  · simp [nums, hl]
  · simp [nums, Value.oneCell']
  · rw [hN]; exact h
theorem storeL_is {P : Program} {ops : Array Oper} {rest : List Oper} {oi : Oper} {a : Act} {W : World} {Q : Exit → Act → World → Prop} (ty : TypeId) (x y : Operand) (hg : oi.guard = none) (hN : oi.dst = none)
    (ho : oi.op = .store ty x y) (ys : List Int) (hx : a.eval x = .pointer (some ⟨b, 0, none⟩)) (hy : a.eval y = .agg (nums k ys).toArray) (hs : Is W b e k xs) (hl : xs.length = ys.length) (hi : (P.info? ty).map (·.size) = some ys.length)
    (h : wpList P ops Q rest a (Arr.put W b k ys)) : wpList P ops Q (oi :: rest) a W := by
  refine wpList_store_row hg ty x y ho b _ hx hy e _ hs ?_ ?_ ?_ ?_
  · rw [hi]; simp [nums]
  · simp [nums, hl]
  · simp [nums, Value.oneCell']
  · rw [hN]; exact h
theorem loadL_is {P : Program} {ops : Array Oper} {rest : List Oper} {oi : Oper} {a : Act} {W : World} {Q : Exit → Act → World → Prop} (ty n : TypeId) (m : Nat) (x : Operand) (hg : oi.guard = none)
    (ho : oi.op = .load ty x) (hx : a.eval x = .pointer (some ⟨b, 0, none⟩)) (hs : Is W b e k xs) (hu : P.underlying ty = some (.array m n)) (hi : (P.info? ty).map (·.size) = some xs.length)
    (h : wpList P ops Q rest (a.put oi.dst (.agg (nums k xs).toArray)) W) : wpList P ops Q (oi :: rest) a W := by
  refine wpList_load_row hg ty x ho b hx e _ _ _ hs hu rfl ?_ h
  rw [hi]; simp [nums]
/-- An array is handed back. -/
theorem results_is {P : Program} {fn : Func} {p : Tmp} {ty n : TypeId} {m : Nat} (h : fn.results = #[.cell p ty]) (tmps : Array Value) {W : World} (hp : tmps.getD p undef = .pointer (some ⟨b, 0, none⟩)) (hs : Is W b e k xs)
    (hu : P.underlying ty = some (.array m n)) (hi : (P.info? ty).map (·.size) = some xs.length) : (results fn tmps).run P W = .ok (.agg (nums k xs).toArray) W :=
  results_cell_row h tmps W b e _ _ _ hp hs hu rfl (by rw [hi]; simp [nums])
theorem new_is (W : World) (e : TypeId) (k : IntKind) (xs : List Int) : Is (W.alloc (.cells (nums k xs).toArray e)) W.heap.size e k xs := heap_alloc_new W _
end Go.Proofs.Ytnmnghpdmiffaaa.Arr
