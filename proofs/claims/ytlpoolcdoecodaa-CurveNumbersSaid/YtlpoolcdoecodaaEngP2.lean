/-
  THE ENGINE: a verified abstract run of the program. No statement of the program is proved here.
-/
import Derived.Test.YtlpoolcdoecodaaEngP1
set_option linter.unusedVariables false
set_option linter.unusedSimpArgs false
/- Part Eng7. -/
namespace Go.Proofs.Ytlpoolcdoecodaa.Eng
open Go.RowKit

section
variable {P : Program} {o : Oper} {a : Act} {w0 w : World} {W : Fr} {e : Env} {nx : Nat} {M : Mem} {T : List Value}

/-- What is appended or copied: the cells of the first n elements. -/
def srcCells (M : Mem) (sz n : Nat) : Value → Option (List Value)
  | .slice none _ _ => if n = 0 then some [] else none
  | .slice (some ⟨id, off, none⟩) m _ => if n ≤ m ∧ n = 0 then some [] else if n ≤ m then (match mget M id with
      | some B => if off + n * sz ≤ B.cells.length then some ((B.cells.drop off).take (n * sz)) else none
      | none => none) else none
  | .string s => if sz = 1 ∧ n ≤ s.size then some ((s.data.toList.take n).map fun b => .int .u8 b.toNat) else none
  | _ => none
def srcLen : Value → Option Nat
  | .slice _ n _ => some n
  | .string s => some s.size
  | _ => none
theorem srcLen_sound {v v' : Value} {n : Nat} (h : srcLen v = some n) (hv : VR e v v') (w : World) : (Builtin.lenOf v').run P w = .ok n w := by
  cases v with
  | slice a m c =>
    simp [srcLen] at h; subst h
    cases hv <;> simp [Builtin.lenOf]
  | string s => simp [srcLen] at h; subst h; rw [hv.string]; simp [Builtin.lenOf]
  | _ => simp [srcLen] at h
theorem srcCells_soundD (hM : MS w0 W e nx M w) {sz n : Nat} {v v' : Value} {cs : List Value} (h : srcCells M sz n v = some cs) (hv : VR e v v') :
    ∃ cs', (∀ m, (Builtin.firstCells sz n v').run P { w with drawn := m } = .ok cs'.toArray { w with drawn := m }) ∧ VRs e cs cs' ∧ cs.length = n * sz := by
  unfold srcCells at h
  split at h
  · split at h
    · obtain rfl := Option.some.inj h
      subst n
      rw [VR.of_flat (by rfl) hv]
      exact ⟨[], by simp [Builtin.firstCells], .nil, by simp⟩
    · cases h
  · rename_i id off m c
    obtain ⟨a', c', l, hl, rfl, hp, hn, hc, hroom⟩ := hv.slice_inv
    split at h
    · rename_i h0
      obtain rfl := Option.some.inj h
      obtain ⟨_, rfl⟩ := h0
      exact ⟨[], by simp [Builtin.firstCells, loadCells, loadCellsFrom], .nil, by simp⟩
    · rename_i h0
      split at h
      · rename_i hnm
        split at h
        · rename_i B hb
          split at h
          · rename_i hle
            obtain rfl := Option.some.inj h
            obtain rfl : a' = ⟨l.blk, l.base + off, none⟩ := hp.resolve_right (by omega)
            obtain ⟨vs', h1, h2⟩ := hM.run_loadsD P hb hl hle
            exact ⟨vs', fun m => by simpa [Builtin.firstCells] using h1 m, h2, by simp; omega⟩
          · cases h
        · cases h
      · cases h
  · rename_i s
    split at h
    · rename_i hs
      obtain ⟨rfl, hs⟩ := hs
      obtain rfl := Option.some.inj h
      rw [hv.string]
      refine ⟨(s.data.toList.take n).map fun b => .int .u8 b.toNat, ?_, VRs.flats (e := e) ?_, ?_⟩
      · intro m
        have : (s.extract 0 n).data.map (fun b => Value.int .u8 b.toNat) = ((s.data.toList.take n).map fun b => Value.int .u8 b.toNat).toArray := by
          apply Array.ext'
          simp [List.map_take]
        simp only [Builtin.firstCells, Sem.run_pure, this]
      · rw [List.all_map]
        exact List.all_eq_true.2 fun x _ => rfl
      · have : s.data.toList.length = s.size := Array.length_toList
        simp only [List.length_map, List.length_take, this]
        omega
    · cases h
  · cases h

theorem srcCells_sound (hM : MS w0 W e nx M w) {sz n : Nat} {v v' : Value} {cs : List Value} (h : srcCells M sz n v = some cs) (hv : VR e v v') :
    ∃ cs', (Builtin.firstCells sz n v').run P w = .ok cs'.toArray w ∧ VRs e cs cs' ∧ cs.length = n * sz :=
  let ⟨cs', h1, h2⟩ := srcCells_soundD (P := P) hM h hv
  ⟨cs', h1 w.drawn, h2⟩

/-- 'copy'. -/
theorem does_copy (hT : TR e T a.tmps) (hM : MS w0 W e nx M w) (t t' : TypeId) (x y : Operand) (ho : o.op = .call { callee := .builtin .copy, args := #[x, y], argTypes := #[t, t'] }) {el : TypeId} (ht : P.underlying t = some (.slice el)) {j : TypeInfo} (hj : P.info? el = some j)
    {id off n c : Nat} (hx : evalT T x = .slice (some ⟨id, off, none⟩) n c) {B : Blk} (hb : mget M id = some B) (hro : B.ro = false) {m : Nat} (hm : srcLen (evalT T y) = some m) {cs : List Value} (hcs : srcCells M j.size (min m n) (evalT T y) = some cs) (hok : cs.all okCell = true) (hle : off + cs.length ≤ B.cells.length) :
    Does P o a w w0 W e (.int .i64 (min m n : Nat)) (mset M id ⟨B.elem, B.unit, overlay B.cells off cs, false⟩) nx := by
  have h1 := evalT_sound hT x
  rw [hx] at h1
  obtain ⟨a', c', l, hl, h1, hp, hn, hc, hroom⟩ := h1.slice_inv
  have h2 := evalT_sound hT y
  obtain ⟨cs', e1, e2, e3⟩ := srcCells_sound (P := P) hM hcs h2
  have e4 := srcLen_sound (P := P) hm h2 w
  have hmin : Nat.min m n = min m n := rfl
  by_cases h0 : cs' = []
  · have hcs0 : cs = [] := by have := e2.length; rw [h0] at this; exact List.length_eq_zero_iff.1 (by simpa using this.symm)
    subst h0
    refine ⟨.int .i64 (min m n : Nat), w, e, ⟨.inl ?_⟩, Ext.refl e, .flat _ rfl, ?_⟩
    · simp only [execOp, ho, resolve, invoke, builtin, Builtin.copy_, Sem.run_bind, Sem.run_pure, Result.andThen_ok, List.map_toArray, List.map_cons, List.map_nil]
      simp [run_underlying ht, h1, e4, sizeOf, typeInfo, hj, hmin, e1, goInt, storeCells]
    · subst hcs0
      have hov : overlay B.cells off [] = B.cells := by simp [overlay]
      rw [hov]
      have := hM.write hb hl hro (o := off) (vs := []) (vs' := []) .nil (by simpa using hle)
      simpa [hov, World.setCells] using this
  · have hpos : 0 < cs.length := by
      rw [← e2.length]
      exact List.length_pos_iff.2 h0
    have hmn : 0 < min m n := by
      rcases Nat.eq_zero_or_pos (min m n) with hz | hz
      · rw [hz] at e3; omega
      · exact hz
    obtain rfl : a' = ⟨l.blk, l.base + off, none⟩ := hp.resolve_right (by omega)
    have hr := hM.run_store P hb hl hro e2 hle (okCells_sound hok e2)
    refine ⟨.int .i64 (min m n : Nat), _, e, ⟨.inl ?_⟩, Ext.refl e, .flat _ rfl, hM.write hb hl hro e2 hle⟩
    simp only [execOp, ho, resolve, invoke, builtin, Builtin.copy_, Sem.run_bind, Sem.run_pure, Result.andThen_ok, List.map_toArray, List.map_cons, List.map_nil]
    simp [run_underlying ht, h1, e4, sizeOf, typeInfo, hj, hmin, e1, goInt, hr]

theorem growBy_le (need : Nat) : ∀ (r c b : Nat), c ≤ b → need + (need + 768) / 4 ≤ b → Builtin.growBy need r c ≤ b
  | 0, c, b, h, _ => h
  | r + 1, c, b, h, hb => by
    unfold Builtin.growBy
    split
    · exact h
    · exact growBy_le need r _ b (by omega) hb
theorem nextcap_le {need old : Nat} (h : old < need) : Builtin.nextslicecap need old ≤ 2 * need + 192 := by
  unfold Builtin.nextslicecap
  split
  · omega
  · split
    · omega
    · exact growBy_le need 4 old _ (by omega) (by omega)

/-- The world behind an append that makes a new block. -/
def grownW (w : World) (el : TypeId) (cells : List Value) : World := ({ w with drawn := w.drawn + 1 } : World).alloc (.cells cells.toArray el)

/-- 'append' where there is room. -/
theorem run_append_in (w w' : World) {t t' ty el : TypeId} {d : TypeDesc} (ht : P.underlying t = some (.slice el)) (ht' : P.underlying t' = some d) (hd : d = .string ∨ ∃ e2, d = .slice e2) {j : TypeInfo} (hj : P.info? el = some j)
    {base : Option Addr} {n c : Nat} {x : Value} {k : Nat} (hk : (Builtin.lenOf x).run P w = .ok k w) {new : List Value} (hx : (Builtin.firstCells j.size k x).run P w = .ok new.toArray w)
    (hle : n + k ≤ c) (hst : (match base with | some ad => storeCells (ad.add (n * j.size)) new | none => (Pure.pure () : Sem Unit)).run P w = .ok () w') :
    (Builtin.append_ #[t, t'] ty #[.slice base n c, x]).run P w = .ok (.slice base (n + k) c) w' := by
  rcases hd with rfl | ⟨e2, rfl⟩ <;>
  · unfold Builtin.append_
    simp only [List.getElem?_toArray, List.getElem?_cons_zero, List.getElem?_cons_succ, Sem.run_bind, run_underlying ht, run_underlying ht', Result.andThen_ok, Sem.run_pure, sizeOf, typeInfo, run_program, hj, Bool.false_eq_true, if_false, hk, if_pos hle, Bool.not_false, if_true, hx]
    cases base with
    | none => simp only [Sem.run_pure] at hst ⊢; cases hst; rfl
    | some ad => simp only [Sem.run_bind, hst, Result.andThen_ok, Sem.run_pure]
/-- 'append' that makes a new block. -/
theorem run_append_out (w : World) {t t' ty el : TypeId} {d : TypeDesc} (ht : P.underlying t = some (.slice el)) (ht' : P.underlying t' = some d) (hd : d = .string ∨ ∃ e2, d = .slice e2) {j : TypeInfo} (hj : P.info? el = some j) {z : Value} (hz : j.zero = some z)
    {base : Option Addr} {n c : Nat} {x : Value} {k : Nat} (hk : (Builtin.lenOf x).run P w = .ok k w) {old new : List Value} (hnc : n ≤ c) (hbig : (n + k + 192) * j.bytes ≤ 70368744177664) (hb0 : 0 < j.bytes)
    (hle : ¬ n + k ≤ c) (e1 : (Builtin.firstCells j.size n (.slice base n c)).run P { w with drawn := w.drawn + 1 } = .ok old.toArray { w with drawn := w.drawn + 1 }) (e2 : (Builtin.firstCells j.size k x).run P { w with drawn := w.drawn + 1 } = .ok new.toArray { w with drawn := w.drawn + 1 }) :
    ∃ q, n + k ≤ q ∧ (Builtin.append_ #[t, t'] ty #[.slice base n c, x]).run P w = .ok (.slice (some ⟨w.heap.size, 0, none⟩) (n + k) q) (grownW w el (old ++ new ++ (Builtin.zeroCells z.cells (q - (n + k))).toList)) := by
  have hmax : ¬ (((n + k : Nat) : Int) > IntKind.i64.max ∧ (False ∨ j.bytes = 0)) := by rintro ⟨_, h | h⟩ <;> omega
  have hcap := nextcap_le (need := n + k) (old := c) (by omega)
  have hc2 : ¬ (Builtin.nextslicecap (n + k) c * j.bytes > 2 ^ 48) := by
    have := Nat.mul_le_mul_right j.bytes hcap
    have h3 : (2 * (n + k) + 192) * j.bytes ≤ 2 * ((n + k + 192) * j.bytes) := by
      rw [← Nat.mul_assoc]; exact Nat.mul_le_mul_right _ (by omega)
    omega
  have hforce : (Question.appendCap (n + k) c el).forced = false := rfl
  obtain ⟨q, hq⟩ : ∃ q, q = (Question.appendCap (n + k) c el).cut (w.tape w.drawn (.appendCap (n + k) c el)) := ⟨_, rfl⟩
  have hqle : n + k ≤ q := by rw [hq]; simp [Question.cut]
  refine ⟨q, hqle, ?_⟩
  rcases hd with rfl | ⟨e2', rfl⟩ <;>
  · unfold Builtin.append_
    simp only [List.getElem?_toArray, List.getElem?_cons_zero, List.getElem?_cons_succ, Sem.run_bind, run_underlying ht, run_underlying ht', Result.andThen_ok, Sem.run_pure, sizeOf, typeInfo, run_program, hj, Bool.false_eq_true, if_false, hk, if_neg hle, Bool.not_false, if_true]
    rw [if_neg (by simpa using hmax)]
    simp only [Sem.run_bind, run_program, Result.andThen_ok, hj, Sem.run_pure, if_neg hc2, run_choose, hforce, Bool.false_eq_true, if_false, ← hq, run_askRoom, e1, e2, zeroValue, typeInfo, hz, newRow, run_newObj]
    simp only [grownW, World.alloc]
    congr 5
    apply Array.ext'
    simp
/-- 'append' of so many noughts where there is room. -/
theorem run_appendZ_in (w w' : World) {t t' ty el : TypeId} {kk : IntKind} (ht : P.underlying t = some (.slice el)) (ht' : P.underlying t' = some (.int kk)) {j : TypeInfo} (hj : P.info? el = some j) {z : Value} (hz : j.zero = some z)
    {base : Option Addr} {n c : Nat} {k2 : IntKind} {k : Nat} (hks : k ≤ 70368744177664) (hkb : (k + 192) * j.bytes ≤ 70368744177664) (hj0 : 0 < j.size)
    (hle : n + k ≤ c) (hst : (match base with | some ad => storeCells (ad.add (n * j.size)) (if k = 0 then [] else (Builtin.zeroCells z.cells k).toList) | none => (Pure.pure () : Sem Unit)).run P w = .ok () w') :
    (Builtin.append_ #[t, t'] ty #[.slice base n c, .int k2 k]).run P w = .ok (.slice base (n + k) c) w' := by
  have hw : IntKind.i64.wrap (k : Int) = k := wrap_id (by omega) (by omega)
  have h0 : ¬ ((k : Int) < 0) := by omega
  have hb : ¬ ((k : Int) * (j.bytes : Int) > 2 ^ 48) := by
    have : ((k * j.bytes : Nat) : Int) ≤ 70368744177664 := by
      have := Nat.mul_le_mul_right j.bytes (show k ≤ k + 192 by omega)
      omega
    simp at this ⊢
    omega
  unfold Builtin.append_
  simp only [List.getElem?_toArray, List.getElem?_cons_zero, List.getElem?_cons_succ, Sem.run_bind, run_underlying ht, run_underlying ht', Result.andThen_ok, Sem.run_pure, sizeOf, typeInfo, run_program, hj, if_true, asInt, asIntOf, hw, if_neg h0, if_neg hb, Int.toNat_natCast, if_pos hle, Bool.not_true, Bool.false_eq_true, if_false, zeroValue, hz]
  by_cases hk0 : k = 0
  · subst hk0
    simp only [Nat.zero_mul, if_true, Sem.run_pure, Result.andThen_ok] at hst ⊢
    cases base with
    | none => simp only [Sem.run_pure] at hst ⊢; cases hst; rfl
    | some ad => simp only [Sem.run_bind, hst, Result.andThen_ok, Sem.run_pure]
  · have hks0 : ¬ k * j.size = 0 := by
      intro h
      rcases Nat.mul_eq_zero.1 h with h | h <;> omega
    simp only [if_neg hks0, if_neg hk0, Sem.run_bind, run_program, Result.andThen_ok, hj, Sem.run_pure, hz] at hst ⊢
    cases base with
    | none => simp only [Sem.run_pure] at hst ⊢; cases hst; rfl
    | some ad => simp only [Sem.run_bind, hst, Result.andThen_ok, Sem.run_pure]
/-- 'append' of so many noughts that makes a new block. -/
theorem run_appendZ_out (w : World) {t t' ty el : TypeId} {kk : IntKind} (ht : P.underlying t = some (.slice el)) (ht' : P.underlying t' = some (.int kk)) {j : TypeInfo} (hj : P.info? el = some j) {z : Value} (hz : j.zero = some z)
    {base : Option Addr} {n c : Nat} {k2 : IntKind} {k : Nat} {old : List Value} (hnc : n ≤ c) (hks : n + k ≤ 70368744177664) (hbig : (n + k + 192) * j.bytes ≤ 70368744177664) (hj0 : 0 < j.size)
    (hle : ¬ n + k ≤ c) (e1 : (Builtin.firstCells j.size n (.slice base n c)).run P { w with drawn := w.drawn + 1 } = .ok old.toArray { w with drawn := w.drawn + 1 }) :
    ∃ q, n + k ≤ q ∧ (Builtin.append_ #[t, t'] ty #[.slice base n c, .int k2 k]).run P w = .ok (.slice (some ⟨w.heap.size, 0, none⟩) (n + k) q) (grownW w el (old ++ (if k = 0 then [] else (Builtin.zeroCells z.cells k).toList) ++ (Builtin.zeroCells z.cells (q - (n + k))).toList)) := by
  have hw : IntKind.i64.wrap (k : Int) = k := wrap_id (by omega) (by omega)
  have h0 : ¬ ((k : Int) < 0) := by omega
  have hb : ¬ ((k : Int) * (j.bytes : Int) > 2 ^ 48) := by
    have : ((k * j.bytes : Nat) : Int) ≤ 70368744177664 := by
      have := Nat.mul_le_mul_right j.bytes (show k ≤ n + k + 192 by omega)
      omega
    simp at this ⊢
    omega
  have hmax : ¬ (((n + k : Nat) : Int) > IntKind.i64.max ∧ (True ∨ j.bytes = 0)) := by
    rintro ⟨h, _⟩
    simp [IntKind.max, IntKind.signed, IntKind.bits] at h
    omega
  have hcap := nextcap_le (need := n + k) (old := c) (by omega)
  have hc2 : ¬ (Builtin.nextslicecap (n + k) c * j.bytes > 2 ^ 48) := by
    have := Nat.mul_le_mul_right j.bytes hcap
    have h3 : (2 * (n + k) + 192) * j.bytes ≤ 2 * ((n + k + 192) * j.bytes) := by
      rw [← Nat.mul_assoc]; exact Nat.mul_le_mul_right _ (by omega)
    omega
  have hforce : (Question.appendCap (n + k) c el).forced = false := rfl
  obtain ⟨q, hq⟩ : ∃ q, q = (Question.appendCap (n + k) c el).cut (w.tape w.drawn (.appendCap (n + k) c el)) := ⟨_, rfl⟩
  have hqle : n + k ≤ q := by rw [hq]; simp [Question.cut]
  have hk0 : ¬ k = 0 := by omega
  have hks0 : ¬ k * j.size = 0 := by
    intro h
    rcases Nat.mul_eq_zero.1 h with h | h <;> omega
  refine ⟨q, hqle, ?_⟩
  unfold Builtin.append_
  simp only [List.getElem?_toArray, List.getElem?_cons_zero, List.getElem?_cons_succ, Sem.run_bind, run_underlying ht, run_underlying ht', Result.andThen_ok, Sem.run_pure, sizeOf, typeInfo, run_program, hj, if_true, asInt, asIntOf, hw, if_neg h0, if_neg hb, Int.toNat_natCast, if_neg hle, Bool.not_true, Bool.false_eq_true, if_false, zeroValue, hz]
  rw [if_neg (by simpa using hmax)]
  simp only [Sem.run_bind, run_program, Result.andThen_ok, hj, Sem.run_pure, if_neg hc2, run_choose, hforce, Bool.false_eq_true, if_false, ← hq, run_askRoom, e1, if_neg hks0, if_neg hk0, hz, newRow, run_newObj]
  simp only [grownW, World.alloc]
  congr 5
  apply Array.ext'
  simp
end
end Go.Proofs.Ytlpoolcdoecodaa.Eng

/- Part Eng8. -/
namespace Go.Proofs.Ytlpoolcdoecodaa.Eng
open Go.RowKit

/-- 'append' of k elements, whose cells these are. -/
def aAppend (M : Mem) (nx : Nat) (el : TypeId) (sz bytes : Nat) (s : Value) (k : Nat) (news : List Value) : Option (Value × Mem) :=
  match s with
  | .slice none n c =>
    if n = 0 ∧ c = 0 ∧ k ≤ 70368744177664 then
      if k = 0 then some (s, M)
      else if (k + 192) * bytes ≤ 70368744177664 then some (.slice (some ⟨nx, 0, none⟩) k (OPEN + sz), (nx, ⟨el, sz, news, false⟩) :: M) else none
    else none
  | .slice (some ⟨id, off, none⟩) n c =>
    if n + k ≤ 70368744177664 ∧ (n + k + 192) * bytes ≤ 70368744177664 then
      if k = 0 ∧ (OPEN ≤ c ∨ n ≤ c) then some (s, M)
      else if c < OPEN then
        if n + k ≤ c then
          match mget M id with
          | some B => if B.ro = false ∧ off + n * sz + news.length ≤ B.cells.length then some (.slice (some ⟨id, off, none⟩) (n + k) c, mset M id ⟨B.elem, B.unit, overlay B.cells (off + n * sz) news, false⟩) else none
          | none => none
        else
          match srcCells M sz n s with
          | some old => some (.slice (some ⟨nx, 0, none⟩) (n + k) (OPEN + sz), (nx, ⟨el, sz, old ++ news, false⟩) :: M)
          | none => none
      else if c = OPEN + sz then
        match mget M id with
        | some B => if B.ro = false ∧ B.elem = el ∧ off + n * sz ≤ B.cells.length then some (.slice (some ⟨nx, 0, none⟩) (n + k) (OPEN + sz), (nx, ⟨B.elem, sz, (B.cells.drop off).take (n * sz) ++ news, false⟩) :: mdel M id) else none
        | none => none
      else none
    else none
  | _ => none

/-- What the model's append does, whatever slice it gets. -/
structure App (P : Program) (w : World) (el : TypeId) (sz bytes k : Nat) (run : Option Addr → Nat → Nat → Result Value) (new' : List Value) : Prop where
  inn : ∀ (base : Option Addr) (n c : Nat) (w' : World), n + k ≤ 70368744177664 → n + k ≤ c → (match base with | some ad => storeCells (ad.add (n * sz)) new' | none => (Pure.pure () : Sem Unit)).run P w = .ok () w' → run base n c = .ok (.slice base (n + k) c) w'
  out : ∀ (base : Option Addr) (n c : Nat) (old : List Value), n ≤ c → ¬ n + k ≤ c → n + k ≤ 70368744177664 → (n + k + 192) * bytes ≤ 70368744177664 → (Builtin.firstCells sz n (.slice base n c)).run P { w with drawn := w.drawn + 1 } = .ok old.toArray { w with drawn := w.drawn + 1 } →
    ∃ (q : Nat) (rest : List Value), n + k ≤ q ∧ rest.length = (q - (n + k)) * sz ∧ run base n c = .ok (.slice (some ⟨w.heap.size, 0, none⟩) (n + k) q) (grownW w el (old ++ new' ++ rest))

section
variable {P : Program} {o : Oper} {a : Act} {w0 w : World} {W : Fr} {e : Env} {nx : Nat} {M : Mem} {T : List Value}

theorem mem_weak {M : Mem} {id : Nat} {B : Blk} (h : mget M id = some B) : mset M id B = M := by
  induction M with
  | nil => rfl
  | cons p m ih =>
    obtain ⟨i, b⟩ := p
    unfold mset
    simp only [mget] at h
    split at h
    · rename_i hi; subst hi; simp; exact (Option.some.inj h).symm
    · rename_i hi; rw [if_neg hi, ih h]

/-- A new block, behind an append. -/
theorem grown_new (hM : MS w0 W e nx M w) {el : TypeId} {sz n q : Nat} {cs cs' rest : List Value} (hcs : VRs e cs cs') (hlen : cs.length = n * sz) (hnq : n ≤ q) (hrest : rest.length = (q - n) * sz) {run : Result Value}
    (hrun : run = .ok (.slice (some ⟨w.heap.size, 0, none⟩) n q) (grownW w el (cs' ++ rest))) {nx' : Nat} (hn : nx < nx') (hB : nx' ≤ W.top) :
    ∃ v' w' e', run = .ok v' w' ∧ Ext e e' ∧ VR e' (.slice (some ⟨nx, 0, none⟩) n (OPEN + sz)) v' ∧ MS w0 W e' nx' ((nx, ⟨el, sz, cs, false⟩) :: M) w' := by
  have hl := hcs.length
  have hM' := hM.drew (w.drawn + 1)
  obtain ⟨h1, h2⟩ := hM'.alloc (cs := cs) (ds := cs' ++ rest) el (0, 0) sz (fun i v hv => by
    obtain ⟨v', a, b⟩ := hcs.get i v hv
    exact ⟨v', by rw [List.getElem?_append_left (by rw [hl]; exact (List.getElem?_eq_some_iff.1 hv).1)]; exact a, b⟩) (by simp; omega) (.inl rfl) (Nat.le_refl nx) hn hB
  refine ⟨_, _, _, hrun, h2, .slice nx 0 n (OPEN + sz) _ q _ (put_same ..) (.inl rfl) hnq (.inr (Nat.le_add_right _ _)) (fun _ _ => ?_), h1⟩
  have h3 : n * sz + (q - n) * sz = q * sz := by rw [← Nat.add_mul, Nat.add_sub_cancel' hnq]
  simp only [List.length_append, Nat.zero_add, hl, hrest, hlen, h3, Nat.add_sub_cancel_left]
  exact Nat.le_refl _

theorem aAppend_sound (hM : MS w0 W e nx M w) {el : TypeId} {sz bytes k : Nat} {run : Option Addr → Nat → Nat → Result Value} {s s' : Value} (hs : VR e s s') {news new' : List Value} (hnew : VRs e news new') (hnl : news.length = k * sz) (hok : news.all okCell = true) (hA : App P w el sz bytes k run new') (hB : nx + 1 ≤ W.top)
    {v : Value} {M' : Mem} (h : aAppend M nx el sz bytes s k news = some (v, M')) : ∃ base n c, s' = .slice base n c ∧ ∃ v' w' e', run base n c = .ok v' w' ∧ Ext e e' ∧ VR e' v v' ∧ MS w0 W e' (nx + 1) M' w' := by
  unfold aAppend at h
  split at h
  · rename_i n c
    have := VR.of_flat (by rfl) hs
    subst this
    refine ⟨none, n, c, rfl, ?_⟩
    split at h
    · rename_i h0
      obtain ⟨rfl, rfl, hk46⟩ := h0
      split at h
      · rename_i hk
        subst hk
        obtain ⟨rfl, rfl⟩ := by simpa using h
        exact ⟨_, _, e, hA.inn none 0 0 w (by simp) (by simp) rfl, Ext.refl e, .flat _ rfl, hM.next (by omega)⟩
      · rename_i hk
        split at h
        · rename_i hb
          obtain ⟨rfl, rfl⟩ := by simpa using h
          obtain ⟨q, rest, h1, h2, h3⟩ := hA.out none 0 0 [] (Nat.le_refl _) (by omega) (by omega) (by simpa using hb) (by simp [Builtin.firstCells])
          simp only [Nat.zero_add, List.nil_append] at h1 h2 h3
          exact grown_new hM hnew hnl h1 h2 h3 (Nat.lt_succ_self nx) hB
        · cases h
    · cases h
  · rename_i id off n c
    obtain ⟨a', c', l, hl, rfl, hp, hn, hc, hroom⟩ := hs.slice_inv
    refine ⟨some a', n, c', rfl, ?_⟩
    split at h
    · rename_i hbig
      obtain ⟨h46, hbig⟩ := hbig
      split at h
      · rename_i hk
        obtain ⟨rfl, _⟩ := hk
        obtain ⟨rfl, rfl⟩ := by simpa using h
        have hn0 : new' = [] := List.length_eq_zero_iff.1 (by rw [hnew.length, hnl]; simp)
        subst hn0
        exact ⟨_, _, e, hA.inn (some a') n c' w h46 (by omega) rfl, Ext.refl e, hs, hM.next (by omega)⟩
      · rename_i hk
        split at h
        · rename_i hclt
          obtain rfl : c = c' := by
            rcases hc with hc | hc
            · exact hc.1
            · omega
          split at h
          · rename_i hle
            split at h
            · rename_i B hb
              split at h
              · rename_i hcond
                obtain ⟨hro, hlen⟩ := hcond
                obtain ⟨rfl, rfl⟩ := by simpa using h
                have hkpos : k ≠ 0 := fun h0 => hk ⟨h0, .inr (by omega)⟩
                obtain rfl : a' = ⟨l.blk, l.base + off, none⟩ := hp.resolve_right (by omega)
                have hst := hM.run_store P hb hl hro (o := off + n * sz) hnew hlen (okCells_sound hok hnew)
                refine ⟨_, _, e, hA.inn (some _) n c _ h46 hle (by simp only [addr_add]; rw [Nat.add_assoc]; exact hst), Ext.refl e, .slice id off (n + k) c _ c l hl (.inl rfl) hle (.inl ⟨rfl, hclt⟩) (fun hx => by omega), (hM.write hb hl hro hnew hlen).next (by omega)⟩
              · cases h
            · cases h
          · rename_i hle
            split at h
            · rename_i old hold
              obtain ⟨rfl, rfl⟩ := by simpa using h
              obtain ⟨old', e1, e2, e3⟩ := srcCells_sound (P := P) (hM.drew (w.drawn + 1)) hold hs
              obtain ⟨q, rest, h1, h2, h3⟩ := hA.out (some a') n c old' hn hle h46 hbig e1
              refine grown_new hM (VRs.append hnew e2) ?_ h1 h2 h3 (Nat.lt_succ_self nx) hB
              rw [List.length_append, e3, hnl, Nat.add_mul]
            · cases h
        · rename_i hclt
          split at h
          · rename_i hco
            split at h
            · rename_i B hb
              split at h
              · rename_i hcond
                obtain ⟨hro, hel, hle⟩ := hcond
                obtain ⟨rfl, rfl⟩ := by simpa using h
                have hkpos : k ≠ 0 := fun h0 => hk ⟨h0, .inl (by omega)⟩
                by_cases hin : n + k ≤ c'
                · obtain rfl : a' = ⟨l.blk, l.base + off, none⟩ := hp.resolve_right (by omega)
                  obtain ⟨l', hl', hbr⟩ := hM.blk id B hb
                  obtain rfl : l = l' := by rw [hl] at hl'; exact Option.some.inj hl'
                  obtain ⟨cc, f, g1, g2, gu, g3, g4, g5⟩ := hbr.out
                  have hrm := hroom (by omega) (by omega)
                  rw [show c - OPEN = sz by omega] at hrm
                  have hnl' := hnew.length
                  have hmul : n * sz + k * sz ≤ c' * sz := by rw [← Nat.add_mul]; exact Nat.mul_le_mul_right _ hin
                  have hst : (storeCells ⟨l.blk, l.base + (off + n * sz), none⟩ new').run P w = .ok () (w.setCells l.blk (l.base + (off + n * sz)) new') := by
                    refine run_storeCells_cells (P := P) l.blk (l.base + (off + n * sz)) new' 0 w (fun j hj => ?_) (fun j hj => ?_) (okCells_sound hok hnew)
                    · simp [World.cell?, g1]; omega
                    · exact hM.free hb hl hro (by omega)
                  obtain ⟨s1, s2, s3, s4, s5⟩ := setCells_same l.blk new' (l.base + (off + n * sz)) w
                  obtain ⟨cc', q1, q2, q3⟩ := setCells_heap l.blk B.elem f new' (l.base + (off + n * sz)) w cc g1 (by omega)
                  refine ⟨_, _, put e nx ⟨l.blk, l.base + off, l.room - off, sz⟩, hA.inn (some _) n c' _ h46 hin (by simp only [addr_add]; rw [Nat.add_assoc]; exact hst), put_ext (hM.fresh nx (Nat.le_refl _) hB) _, ?_, ?_⟩
                  · refine .slice nx 0 (n + k) (OPEN + sz) _ c' _ (put_same ..) (.inl rfl) hin (.inr (Nat.le_add_right _ _)) (fun _ _ => ?_)
                    simp only [Nat.zero_add, Nat.add_sub_cancel_left]; omega
                  · refine hM.rename (l' := ⟨l.blk, l.base + off, l.room - off, sz⟩) hb hl hro rfl sz _ (Nat.le_refl nx) (Nat.lt_succ_self nx) hB s1 s2 s3 s4 s5 ⟨cc', f, q1, by show l.base + off + (l.room - off) = cc'.size; omega, rfl, ?_, fun i v hv => ?_, fun _ => by have := g5 hro; omega⟩
                    · simp only [List.length_append, List.length_take, List.length_drop]; omega
                    · simp only at hv ⊢
                      rw [q3]
                      by_cases hi : i < n * sz
                      · rw [List.getElem?_append_left (by simp; omega), List.getElem?_take, if_pos hi, List.getElem?_drop] at hv
                        rw [if_neg (by omega)]
                        obtain ⟨v', x1, x2⟩ := g4 (off + i) v hv
                        exact ⟨v', by rw [← x1]; congr 1; omega, x2.mono (put_ext (hM.fresh nx (Nat.le_refl _) hB) _)⟩
                      · rw [List.getElem?_append_right (by simp; omega)] at hv
                        have hlt := (List.getElem?_eq_some_iff.1 hv).1
                        simp only [List.length_take, List.length_drop] at hlt hv
                        have hmin : min (n * sz) (B.cells.length - off) = n * sz := by omega
                        rw [hmin] at hv hlt
                        rw [if_pos (by omega)]
                        obtain ⟨v', x1, x2⟩ := hnew.get _ v hv
                        exact ⟨v', by rw [← x1]; congr 1; omega, x2.mono (put_ext (hM.fresh nx (Nat.le_refl _) hB) _)⟩
                · have hold : srcCells M sz n (.slice (some ⟨id, off, none⟩) n c) = some ((B.cells.drop off).take (n * sz)) := by
                    unfold srcCells
                    simp only [hb, Nat.le_refl, true_and, if_true]
                    by_cases hn0 : n = 0
                    · subst hn0; simp
                    · rw [if_neg hn0, if_pos hle]
                  obtain ⟨old', e1, e2, e3⟩ := srcCells_sound (P := P) (hM.drew (w.drawn + 1)) hold hs
                  obtain ⟨q, rest, h1, h2, h3⟩ := hA.out (some a') n c' old' hn hin h46 hbig e1
                  have hg := grown_new (hM.del id) (VRs.append hnew e2) (sz := sz) (n := n + k) (el := el) (by rw [List.length_append, e3, hnl, Nat.add_mul]) h1 h2 h3 (Nat.lt_succ_self nx) hB
                  rw [hel]
                  exact hg
              · cases h
            · cases h
          · cases h
    · cases h
  · cases h
end
end Go.Proofs.Ytlpoolcdoecodaa.Eng

/- Part Eng9. -/
namespace Go.Proofs.Ytlpoolcdoecodaa.Eng
open Go.RowKit

section
variable {P : Program} {o : Oper} {a : Act} {w0 w : World} {W : Fr} {e : Env} {nx : Nat} {M : Mem} {T : List Value}

theorem zeroCells_length (zs : Array Value) (n : Nat) : (Builtin.zeroCells zs n).toList.length = n * zs.size := by simp [Builtin.zeroCells]
theorem zeroCells_eq (zs : Array Value) (n : Nat) (h : zs.toList ≠ []) : (Builtin.zeroCells zs n).toList = zcells zs.toList (n * zs.size) := by
  have := zcells_eq zs.toList (n * zs.size) h
  simp only [Array.toArray_toList] at this
  rw [Builtin.zeroCells, this]
theorem does_append (hT : TR e T a.tmps) (hM : MS w0 W e nx M w) (t t' : TypeId) (x y : Operand) (ho : o.op = .call { callee := .builtin .append, args := #[x, y], argTypes := #[t, t'] }) {el : TypeId} (ht : P.underlying t = some (.slice el)) {d : TypeDesc} (ht' : P.underlying t' = some d) (hd : d = .string ∨ ∃ e2, d = .slice e2)
    {j : TypeInfo} (hj : P.info? el = some j) {z : Value} (hz : j.zero = some z) (hzs : z.cells.size = j.size) (hb0 : 0 < j.bytes)
    {k : Nat} (hk : srcLen (evalT T y) = some k) {news : List Value} (hn : srcCells M j.size k (evalT T y) = some news) (hok : news.all okCell = true) {v : Value} {M' : Mem} (hB : nx + 1 ≤ W.top) (h : aAppend M nx el j.size j.bytes (evalT T x) k news = some (v, M')) : Does P o a w w0 W e v M' (nx + 1) := by
  have h2 := evalT_sound hT y
  obtain ⟨new', e1, e2, e3⟩ := srcCells_soundD (P := P) hM hn h2
  have e4 := srcLen_sound (P := P) hk h2
  have hA : App P w el j.size j.bytes k (fun base n c => (Builtin.append_ #[t, t'] o.type #[.slice base n c, a.eval y]).run P w) new' := by
    refine ⟨fun base n c w' _ hle hst => run_append_in w w' ht ht' hd hj (e4 w) (e1 w.drawn) hle hst, fun base n c old hnc hle _ hbig hold => ?_⟩
    obtain ⟨q, h1, h3⟩ := run_append_out w ht ht' hd hj hz (e4 w) hnc hbig hb0 hle hold (e1 (w.drawn + 1)) (ty := o.type)
    exact ⟨q, _, h1, by rw [zeroCells_length, hzs], h3⟩
  obtain ⟨base, n, c, hs, v', w', e', r1, r2, r3, r4⟩ := aAppend_sound hM (evalT_sound hT x) e2 e3 hok hA hB h
  refine ⟨v', w', e', ⟨.inl ?_⟩, r2, r3, r4⟩
  simp only [execOp, ho, resolve, invoke, builtin, Sem.run_bind, Sem.run_pure, Result.andThen_ok, List.map_toArray, List.map_cons, List.map_nil, hs]
  rw [r1]
  rfl
theorem does_appendZ (hT : TR e T a.tmps) (hM : MS w0 W e nx M w) (t t' : TypeId) (x y : Operand) (ho : o.op = .call { callee := .builtin .append, args := #[x, y], argTypes := #[t, t'] }) {el : TypeId} (ht : P.underlying t = some (.slice el)) {kk : IntKind} (ht' : P.underlying t' = some (.int kk))
    {j : TypeInfo} (hj : P.info? el = some j) {z : Value} (hz : j.zero = some z) (hzs : z.cells.size = j.size) (hzf : z.cells.toList.all flat = true) (hzo : z.cells.toList.all okCell = true) (hj0 : 0 < j.size)
    {k2 : IntKind} {q : Int} (hy : evalT T y = .int k2 q) (hq : 0 ≤ q) (hbq : (q.toNat + 192) * j.bytes ≤ 70368744177664) {v : Value} {M' : Mem}
    (hB : nx + 1 ≤ W.top) (h : aAppend M nx el j.size j.bytes (evalT T x) q.toNat (zcells z.cells.toList (q.toNat * j.size)) = some (v, M')) : Does P o a w w0 W e v M' (nx + 1) := by
  have h2 := evalT_sound hT y
  rw [hy] at h2
  obtain ⟨k, rfl⟩ := Int.eq_ofNat_of_zero_le hq
  simp only [Int.toNat_natCast] at *
  have hne : z.cells.toList ≠ [] := by
    intro h0
    have : z.cells.size = 0 := by rw [← Array.length_toList, h0]; rfl
    omega
  have hzc : (if k = 0 then [] else (Builtin.zeroCells z.cells k).toList) = zcells z.cells.toList (k * j.size) := by
    split
    · rename_i hk
      subst hk
      exact (List.length_eq_zero_iff.1 (by rw [zcells_length]; simp)).symm
    · rw [zeroCells_eq _ _ hne, hzs]
  have hfl := zcells_flat hne hzf (k * j.size)
  have hokc : (zcells z.cells.toList (k * j.size)).all okCell = true := by
    refine List.all_eq_true.2 fun u hu => ?_
    unfold zcells at hu
    split at hu
    · rename_i z0 hz0
      rw [List.eq_of_mem_replicate hu]
      exact List.all_eq_true.1 hzo _ (by rw [hz0]; simp)
    · obtain ⟨i, _, rfl⟩ := List.mem_map.1 hu
      have hpos : 0 < z.cells.toList.length := List.length_pos_iff.2 hne
      have hlt := Nat.mod_lt i hpos
      rw [show z.cells.toList.getD (i % z.cells.toList.length) undef = z.cells.toList[i % z.cells.toList.length] by simp only [List.getD, List.getElem?_eq_getElem hlt, Option.getD_some]]
      exact List.all_eq_true.1 hzo _ (List.getElem_mem _)
  have hA : App P w el j.size j.bytes k (fun base n c => (Builtin.append_ #[t, t'] o.type #[.slice base n c, .int k2 k]).run P w) (zcells z.cells.toList (k * j.size)) := by
    refine ⟨fun base n c w' hN hle hst => run_appendZ_in w w' ht ht' hj hz (by omega) hbq hj0 hle (by rw [hzc]; exact hst), fun base n c old hnc hle hN hbig hold => ?_⟩
    obtain ⟨q, h1, h3⟩ := run_appendZ_out w ht ht' hj hz hnc hN hbig hj0 hle hold (k2 := k2) (ty := o.type)
    exact ⟨q, _, h1, by rw [zeroCells_length, hzs], by rw [hzc] at h3; exact h3⟩
  obtain ⟨base, n, c, hs, v', w', e', r1, r2, r3, r4⟩ := aAppend_sound hM (evalT_sound hT x) (VRs.flats hfl) (zcells_length _ _) hokc hA hB h
  refine ⟨v', w', e', ⟨.inl ?_⟩, r2, r3, r4⟩
  simp only [execOp, ho, resolve, invoke, builtin, Sem.run_bind, Sem.run_pure, Result.andThen_ok, List.map_toArray, List.map_cons, List.map_nil, hs, h2.int]
  rw [r1]
  rfl

/-- Bytes of cells. -/
def bytesOf : List Value → Option (List UInt8)
  | [] => some []
  | .int .u8 n :: r => (bytesOf r).map (UInt8.ofNat n.toNat :: ·)
  | _ => none
theorem bytesOf_ints : ∀ {cs : List Value} {bs : List UInt8}, bytesOf cs = some bs → ∃ ns : List Int, cs = ns.map (Value.int .u8) ∧ bs = ns.map fun n => UInt8.ofNat n.toNat
  | [], bs, h => by simp [bytesOf] at h; subst h; exact ⟨[], rfl, rfl⟩
  | v :: r, bs, h => by
    unfold bytesOf at h
    split at h
    · rename_i heq; cases heq
    · rename_i n r' heq
      simp only [List.cons.injEq] at heq
      obtain ⟨rfl, rfl⟩ := heq
      obtain ⟨bs', h1, rfl⟩ := Option.map_eq_some_iff.1 h
      obtain ⟨ns, rfl, rfl⟩ := bytesOf_ints h1
      exact ⟨n :: ns, rfl, rfl⟩
    · cases h
theorem push_fold : ∀ (ns : List Int) (s : ByteArray), ns.foldl (fun r n => r.push (UInt8.ofNat n.toNat)) s = ⟨s.data ++ (ns.map fun n => UInt8.ofNat n.toNat).toArray⟩
  | [], s => by simp
  | n :: ns, s => by
    simp only [List.foldl_cons, push_fold ns, List.map_cons]
    congr 1
    apply Array.ext'
    simp [ByteArray.push]
theorem does_toString (hT : TR e T a.tmps) (hM : MS w0 W e nx M w) (src dst : TypeId) (x : Operand) (ho : o.op = .convert src dst x) {el : TypeId} (hs : P.underlying src = some (.slice el)) (he : P.underlying el = some (.int .u8)) (hd : P.underlying dst = some .string)
    {n : Nat} (hn : srcLen (evalT T x) = some n) {ad : Option Addr} {c : Nat} (hx : evalT T x = .slice ad n c) {cs : List Value} (hc : srcCells M 1 n (evalT T x) = some cs) {bs : List UInt8} (hb : bytesOf cs = some bs) : Does P o a w w0 W e (.string ⟨bs.toArray⟩) M nx := by
  have h1 := evalT_sound hT x
  obtain ⟨cs', e1, e2, e3⟩ := srcCells_sound (P := P) hM hc h1
  obtain ⟨ns, rfl, rfl⟩ := bytesOf_ints hb
  have hcs : cs' = ns.map (Value.int .u8) := VRs.of_flats (by rw [List.all_map]; exact List.all_eq_true.2 fun _ _ => rfl) e2
  subst hcs
  refine does_same hM (v' := .string ⟨(ns.map fun n => UInt8.ofNat n.toNat).toArray⟩) ?_ (.flat _ rfl)
  obtain ⟨ad', c', h2⟩ : ∃ ad' c', a.eval x = .slice ad' n c' := by
    rw [hx] at h1
    cases ad with
    | none => exact ⟨_, _, VR.of_flat rfl h1⟩
    | some ad =>
      obtain ⟨a', c', h3⟩ := h1.slice_some
      exact ⟨_, _, h3⟩
  rw [h2] at e1
  simp only [execOp, ho, Sem.run_bind, h2, run_convert_bytes_string w src dst el ad' n c' hs he hd]
  cases ad' with
  | none =>
    simp only [Builtin.firstCells, Sem.run_pure] at e1
    have : ns = [] := by
      injection e1 with e1 _
      have := congrArg Array.toList e1
      simpa using this.symm
    subst this
    simp [Conv.bytesToString]
    rfl
  | some ad2 =>
    simp only [Builtin.firstCells, Nat.mul_one] at e1
    rw [run_bytesToString w ad2 n c' ns e1, push_fold]
    have : (ByteArray.empty.data ++ (ns.map fun n => UInt8.ofNat n.toNat).toArray) = (ns.map fun n => UInt8.ofNat n.toNat).toArray := by
      apply Array.ext'
      simp only [Array.toList_append]
      rfl
    rw [this]
    rfl

/-- '[]byte(s)'. -/
theorem does_toBytes (hT : TR e T a.tmps) (hM : MS w0 W e nx M w) (src dst : TypeId) (x : Operand) (ho : o.op = .convert src dst x) {d : TypeDesc} {el : TypeId} (hs : P.underlying src = some d) (hd : P.underlying dst = some (.slice el)) (he : P.underlying el = some (.int .u8))
    {s : ByteArray} (hx : evalT T x = .string s) (hB : nx + 1 ≤ W.top) : Does P o a w w0 W e (.slice (some ⟨nx, 0, none⟩) s.size (OPEN + 1)) ((nx, ⟨el, 1, s.data.toList.map (fun b => .int .u8 b.toNat), false⟩) :: M) (nx + 1) := by
  have h1 := evalT_sound hT x
  rw [hx] at h1
  have hforce : (Question.appendCap s.size 0 el).forced = false := rfl
  obtain ⟨q, hq⟩ : ∃ q, q = (Question.appendCap s.size 0 el).cut (w.tape w.drawn (.appendCap s.size 0 el)) := ⟨_, rfl⟩
  have hqle : s.size ≤ q := by rw [hq]; simp [Question.cut]
  have hM' := hM.drew (w.drawn + 1)
  have hlen : s.data.toList.length = s.size := Array.length_toList
  obtain ⟨cs, hcs⟩ : ∃ cs : List Value, cs = s.data.toList.map (fun b => .int .u8 b.toNat) := ⟨_, rfl⟩
  have hcl : cs.length = s.size := by rw [hcs, List.length_map, hlen]
  have hfl : VRs e cs cs := VRs.flats (by rw [hcs, List.all_map]; exact List.all_eq_true.2 fun _ _ => rfl)
  obtain ⟨h2, h3⟩ := hM'.alloc (cs := cs) (ds := cs ++ List.replicate (q - s.size) (Value.int .u8 0)) el (q, q + 1) 1 (fun i v hv => by
    obtain ⟨v', a, b⟩ := hfl.get i v hv
    exact ⟨v', by rw [List.getElem?_append_left (List.getElem?_eq_some_iff.1 hv).1]; exact a, b⟩) (by simp) (.inr (by simp [hcl]; omega)) (Nat.le_refl nx) (Nat.lt_succ_self nx) hB
  rw [← hcs]
  refine ⟨.slice (some ⟨w.heap.size, 0, none⟩) s.size q, _, _, ⟨.inl ?_⟩, h3, .slice nx 0 s.size (OPEN + 1) _ q _ (put_same ..) (.inl rfl) hqle (.inr (Nat.le_add_right _ _)) (fun _ _ => ?_), h2⟩
  · have hc : (Conv.stringToBytes el s).run P w = .ok (.slice (some ⟨w.heap.size, 0, none⟩) s.size q) (({ w with drawn := w.drawn + 1 } : World).alloc (.cells (cs ++ List.replicate (q - s.size) (Value.int .u8 0)).toArray el (q, q + 1))) := by
      have harr : s.data.map (fun b => Value.int .u8 b.toNat) ++ Array.replicate (q - s.size) (Value.int .u8 0) = (cs ++ List.replicate (q - s.size) (Value.int .u8 0)).toArray := by
        apply Array.ext'
        simp [hcs]
      simp only [Conv.stringToBytes, Sem.run_bind, run_choose, hforce, Bool.false_eq_true, if_false, ← hq, Result.andThen_ok, newRow, run_newObj, Sem.run_pure, harr, markStringish, run_shape, run_freeze]
      have hsz : (cs ++ List.replicate (q - s.size) (Value.int .u8 0)).toArray.size = q := by simp [hcl]; omega
      simp only [World.shape?, Array.getElem?_push_size, run_freeze, hsz]
      have hmod : ∀ X : Array Value, (w.heap.push (Obj.cells X el)).modify w.heap.size (fun
          | .cells c elem (lo, hi) => .cells c elem (if lo == hi then (q, q + 1) else (min lo q, max hi (q + 1)))
          | o => o) = w.heap.push (Obj.cells X el (q, q + 1)) := by
        intro X
        apply Array.ext_getElem?
        intro i
        simp only [Array.getElem?_modify, Array.getElem?_push]
        split
        · rename_i hi
          subst hi
          simp
        · rename_i hi
          rw [if_neg (by omega), if_neg (by omega)]
      simp only [World.freeze, World.alloc, show ¬ (1 : Nat) = 0 by decide, if_false, Result.andThen_ok]
      congr 2
      exact hmod _
    have hconv : (convert src dst (.string s)).run P w = (Conv.stringToBytes el s).run P w := by
      cases d <;> simp [convert, run_underlying hs, run_underlying hd, run_underlying he]
    simp only [execOp, ho, h1.string, Sem.run_bind, hconv, hc, Result.andThen_ok, Sem.run_pure]
  · simp [hcl]; omega

/-- A part of cells. -/
def partOf (agg : Bool) (sz off : Nat) (cs : List Value) : Option Value :=
  if agg then (if off + sz ≤ cs.length then some (.agg ((cs.drop off).take sz).toArray) else none) else cs[off]?
theorem part_run {t : TypeId} {d : TypeDesc} (hd : P.underlying t = some d) {i : TypeInfo} (hi : P.info? t = some i) {agg : Bool} (hag : aggD d = agg) {off : Nat} {cs ds : List Value} (hv : VRs e cs ds) {v : Value} (h : partOf agg i.size off cs = some v) (w : World) :
    ∃ v', (part t ds.toArray off).run P w = .ok v' w ∧ VR e v v' := by
  unfold partOf at h
  cases agg with
  | true =>
    simp only [if_true] at h
    split at h
    · obtain rfl := Option.some.inj h
      refine ⟨.agg ((ds.drop off).take i.size).toArray, ?_, .agg _ _ ((hv.drop off).take i.size)⟩
      have : ds.toArray.extract off (off + i.size) = ((ds.drop off).take i.size).toArray := by
        apply Array.ext'
        simp [List.take_drop]
      cases d <;> first | (simp [aggD] at hag; done) | simp [Go.part, isAgg, run_underlying hd, sizeOf, typeInfo, hi, this]
    · cases h
  | false =>
    simp only [Bool.false_eq_true, if_false] at h
    obtain ⟨v', h1, h2⟩ := hv.get off v h
    refine ⟨v', ?_, h2⟩
    cases d <;> first | (simp [aggD] at hag; done) | simp [Go.part, isAgg, run_underlying hd, h1]
theorem does_field (hT : TR e T a.tmps) (hM : MS w0 W e nx M w) (s : TypeId) (x : Operand) (f : Nat) (ho : o.op = .field s x f) {fs : Array Field} (hs : P.underlying s = some (.struct fs)) {fd : Field} (hf : fs[f]? = some fd) {d : TypeDesc} (hd : P.underlying fd.type = some d) {i : TypeInfo} (hi : P.info? fd.type = some i)
    {agg : Bool} (hag : aggD d = agg) {xs : Array Value} (hx : evalT T x = .agg xs) {v : Value} (h : partOf agg i.size fd.offset xs.toList = some v) : Does P o a w w0 W e v M nx := by
  have h1 := evalT_sound hT x
  rw [hx] at h1
  obtain ⟨ys, hy, hs'⟩ := h1.agg_inv
  obtain ⟨v', h2, h3⟩ := part_run (P := P) hd hi hag hs' h w
  exact does_same hM (v' := v') (by simp [execOp, ho, Instr.field, run_underlying hs, hf, hy, asAgg, h2]) h3
theorem does_indexAgg (hT : TR e T a.tmps) (hM : MS w0 W e nx M w) (t : TypeId) (x y : Operand) (ho : o.op = .index t x y) {n : Nat} {el : TypeId} (ht : P.underlying t = some (.array n el)) {d : TypeDesc} (hd : P.underlying el = some d) {i : TypeInfo} (hi : P.info? el = some i)
    {agg : Bool} (hag : aggD d = agg) {xs : Array Value} (hx : evalT T x = .agg xs) {k : IntKind} {q : Int} (hy : evalT T y = .int k q) (h0 : 0 ≤ q) (hq : q < n) {v : Value} (h : partOf agg i.size (q.toNat * i.size) xs.toList = some v) : Does P o a w w0 W e v M nx := by
  have h1 := evalT_sound hT x
  rw [hx] at h1
  have h1y := evalT_sound hT y
  rw [hy] at h1y
  obtain ⟨ys, hys, hs'⟩ := h1.agg_inv
  obtain ⟨v', h2, h3⟩ := part_run (P := P) hd hi hag hs' h w
  exact does_same hM (v' := v') (by simp [execOp, ho, Instr.index, run_underlying ht, hys, h1y.int, asIntOf, h0, hq, sizeOf, typeInfo, hi, h2]) h3
/-- A slice as an array's address. -/
theorem does_toArr (hT : TR e T a.tmps) (hM : MS w0 W e nx M w) (t : TypeId) (x : Operand) (ho : o.op = .sliceToArrayPointer t x) {m : Nat} {el : TypeId} (ht : P.underlying t = some (.array m el)) {id off n c : Nat} (hx : evalT T x = .slice (some ⟨id, off, none⟩) n c) (hm : m ≤ n) (hn : 0 < n) : Does P o a w w0 W e (.pointer (some ⟨id, off, none⟩)) M nx := by
  have h := evalT_sound hT x
  rw [hx] at h
  obtain ⟨a', c', l, hl, h1, hp, _⟩ := h.slice_inv
  obtain rfl : a' = ⟨l.blk, l.base + off, none⟩ := hp.resolve_right (by omega)
  refine does_same hM (v' := .pointer (some ⟨l.blk, l.base + off, none⟩)) ?_ (.ptr id _ l hl)
  have : ¬ n < m := by omega
  simp [execOp, ho, Instr.arrayAt, run_underlying ht, h1, this]
theorem does_mark (hT : TR e T a.tmps) (hM : MS w0 W e nx M w) (t : TypeId) (x : Operand) (ho : o.op = .convert t t x) {el : TypeId} (ht : P.underlying t = some (.slice el)) (he : P.underlying el = some (.int .u8)) {id off n c : Nat} (hx : evalT T x = .slice (some ⟨id, off, none⟩) n c) {B : Blk} (hb : mget M id = some B) (hro : B.ro = false) (hn : 0 < n) :
    Does P o a w w0 W e (.slice (some ⟨id, off, none⟩) n c) (mset M id ⟨B.elem, B.unit, B.cells, false⟩) nx := by
  have h := evalT_sound hT x
  rw [hx] at h
  have hv := h
  obtain ⟨a', c', l, hl, h1, hp, _⟩ := h.slice_inv
  obtain rfl : a' = ⟨l.blk, l.base + off, none⟩ := hp.resolve_right (by omega)
  obtain ⟨w', e1, e2⟩ := hM.mark P hb hl hro (l.base + off)
  refine ⟨a.eval x, w', e, ⟨.inl ?_⟩, Ext.refl e, hv, e2⟩
  simp [execOp, ho, h1, convert, run_underlying ht, run_underlying he, e1]
end
end Go.Proofs.Ytlpoolcdoecodaa.Eng

/- Part Eng10. -/
namespace Go.Proofs.Ytlpoolcdoecodaa.Eng
open Go.RowKit

/-- Operations made plain: what the program's types tell of them is reckoned out. -/
inductive IOp where
  | move (x : Operand)
  | pure (o : Oper)
  | pick (c x y : Operand)
  | extract (x : Operand) (i : Nat)
  | new (elem : TypeId) (zs : List Value)
  | box (elem : TypeId) (x : Operand)
  | load1 (x : Operand)
  | loadA (n : Nat) (x : Operand)
  | store (n : Nat) (x y : Operand)
  | nilCheck (x : Operand)
  | fieldAddr (off : Nat) (x : Operand)
  | indexArr (n sz : Nat) (x y : Operand)
  | indexSlice (sz : Nat) (x y : Operand)
  | slice (o : Oper) (sz : Nat) (x : Operand) (lo hi mx : Option Operand)
  | sliceArr (n : Nat) (x : Operand) (hi : Option Operand)
  | build (zs : List Value) (parts : List (Nat × Nat × Operand))
  | buildSlice (el : TypeId) (sz len : Nat) (cells : List Value) (parts : List (Nat × Nat × Operand))
  | makeSlice (el : TypeId) (sz bytes : Nat) (zs : List Value) (x y : Operand)
  | len (o : Oper) (x : Operand)
  | lenN (n : Nat)
  | cap (x : Operand)
  | copy (sz : Nat) (x y : Operand)
  | append (el : TypeId) (sz bytes : Nat) (x y : Operand)
  | appendZ (el : TypeId) (sz bytes : Nat) (zs : List Value) (x y : Operand)
  | toStr (x : Operand)
  | toBytes (el : TypeId) (x : Operand)
  | nilEq (o : Oper) (eql : Bool) (d : TypeDesc) (x y : Operand)
  | part (agg : Bool) (sz off : Nat) (x : Operand)
  | indexAgg (agg : Bool) (sz n : Nat) (x y : Operand)
  | toArr (m : Nat) (x : Operand)
  | ibin (op : BinOp) (x y : Operand)
  | iconv (k : IntKind) (x : Operand)
  | mark (x : Operand)
  | fail
  | call (f : Operand) (args : List Operand)

/-- What counts of an operation. -/
def norm (o : Oper) : Oper := ⟨none, o.op, o.type, "", #[], none⟩
theorem norm_exec (ρ : Operand → Value) (o : Oper) : execOp ρ (norm o) = execOp ρ o := rfl

/-- 'IntKind.wrap', by literal numbers. -/
def wrapF (k : IntKind) (n : Int) : Int :=
  match k with
  | .u8 => Int.emod n 256
  | .u16 => Int.emod n 65536
  | .u32 => Int.emod n 4294967296
  | .u64 => Int.emod n 18446744073709551616
  | .i8 => match Int.emod n 256 with | .ofNat m => cond (Nat.blt m 128) (.ofNat m) (Int.subNatNat m 256) | r => r
  | .i16 => match Int.emod n 65536 with | .ofNat m => cond (Nat.blt m 32768) (.ofNat m) (Int.subNatNat m 65536) | r => r
  | .i32 => match Int.emod n 4294967296 with | .ofNat m => cond (Nat.blt m 2147483648) (.ofNat m) (Int.subNatNat m 4294967296) | r => r
  | .i64 => match Int.emod n 18446744073709551616 with | .ofNat m => cond (Nat.blt m 9223372036854775808) (.ofNat m) (Int.subNatNat m 18446744073709551616) | r => r
theorem wrapF_eq (k : IntKind) (n : Int) : wrapF k n = k.wrap n := by
  have key : ∀ (M H : Nat), 0 < M → (match Int.emod n M with | .ofNat m => cond (Nat.blt m H) (.ofNat m) (Int.subNatNat m M) | r => r) = if n % (M : Int) ≥ (H : Int) then n % (M : Int) - M else n % (M : Int) := by
    intro M H hM
    have h0 : 0 ≤ n % (M : Int) := Int.emod_nonneg _ (by omega)
    obtain ⟨m, hm⟩ := Int.eq_ofNat_of_zero_le h0
    have hm' : Int.emod n M = .ofNat m := hm
    simp only [hm', hm]
    by_cases hlt : m < H
    · have hb : Nat.blt m H = true := by simpa [Nat.blt_eq] using hlt
      simp only [hb, cond_true]
      rw [if_neg (by omega)]
      rfl
    · have hb : Nat.blt m H = false := by
        cases hbb : Nat.blt m H with
        | false => rfl
        | true => exact absurd (by simpa [Nat.blt_eq] using hbb) hlt
      simp only [hb, cond_false]
      rw [if_pos (by omega), Int.subNatNat_eq_coe]
  cases k with
  | u8 => simp [wrapF, IntKind.wrap, IntKind.bits, IntKind.signed]; rfl
  | u16 => simp [wrapF, IntKind.wrap, IntKind.bits, IntKind.signed]; rfl
  | u32 => simp [wrapF, IntKind.wrap, IntKind.bits, IntKind.signed]; rfl
  | u64 => simp [wrapF, IntKind.wrap, IntKind.bits, IntKind.signed]; rfl
  | i8 => have := key 256 128 (by decide); simp only [wrapF]; refine Eq.trans this ?_; simp [IntKind.wrap, IntKind.bits, IntKind.signed]
  | i16 => have := key 65536 32768 (by decide); simp only [wrapF]; refine Eq.trans this ?_; simp [IntKind.wrap, IntKind.bits, IntKind.signed]
  | i32 => have := key 4294967296 2147483648 (by decide); simp only [wrapF]; refine Eq.trans this ?_; simp [IntKind.wrap, IntKind.bits, IntKind.signed]
  | i64 => have := key 18446744073709551616 9223372036854775808 (by decide); simp only [wrapF]; refine Eq.trans this ?_; simp [IntKind.wrap, IntKind.bits, IntKind.signed]
/-- The numbers of bits. -/
def bitsF : IntKind → Nat
  | .i8 | .u8 => 8
  | .i16 | .u16 => 16
  | .i32 | .u32 => 32
  | .i64 | .u64 => 64
theorem bitsF_eq (k : IntKind) : bitsF k = k.bits := by cases k <;> rfl
def keq : IntKind → IntKind → Bool
  | .i8, .i8 => true | .i16, .i16 => true | .i32, .i32 => true | .i64, .i64 => true | .u8, .u8 => true | .u16, .u16 => true | .u32, .u32 => true | .u64, .u64 => true
  | _, _ => false
theorem keq_eq {k k' : IntKind} (h : keq k k' = true) : k = k' := by cases k <;> cases k' <;> first | rfl | cases h
def eqF : Int → Int → Bool
  | .ofNat a, .ofNat b => Nat.beq a b
  | .negSucc a, .negSucc b => Nat.beq a b
  | _, _ => false
theorem eqF_eq (a b : Int) : eqF a b = (a == b) := by
  cases a <;> cases b <;> simp [eqF] <;> rw [Bool.eq_iff_iff] <;> simp [Nat.beq_eq] <;> omega
def ltF : Int → Int → Bool
  | .ofNat a, .ofNat b => Nat.blt a b
  | .negSucc _, .ofNat _ => true
  | .ofNat _, .negSucc _ => false
  | .negSucc a, .negSucc b => Nat.blt b a
theorem ltF_eq (a b : Int) : ltF a b = decide (a < b) := by
  cases a <;> cases b <;> rw [Bool.eq_iff_iff] <;> simp [ltF, Nat.blt_eq] <;> omega
def leF (a b : Int) : Bool := !ltF b a
theorem leF_eq (a b : Int) : leF a b = decide (a ≤ b) := by
  rw [leF, ltF_eq, Bool.eq_iff_iff]; simp
/-- Is an index within bounds? -/
def inR (q : Int) (n : Nat) : Bool :=
  match q with
  | .ofNat m => Nat.blt m n
  | _ => false
theorem inR_eq {q : Int} {n : Nat} (h : inR q n = true) : 0 ≤ q ∧ q < n := by
  cases q with
  | ofNat m => simp [inR, Nat.blt_eq] at h; exact ⟨Int.natCast_nonneg m, by show (m : Int) < n; omega⟩
  | negSucc m => cases h
def shlF (k : IntKind) (a b : Int) : Int :=
  match a, b with
  | .ofNat m, .ofNat s => wrapF k (.ofNat (Nat.mul m (Nat.pow 2 (Nat.min s (bitsF k)))))
  | _, _ => k.wrap (a * 2 ^ (min b.toNat k.bits))
theorem shlF_eq (k : IntKind) (a b : Int) : shlF k a b = k.wrap (a * 2 ^ (min b.toNat k.bits)) := by
  cases a <;> cases b <;> first | rfl | skip
  rename_i m s
  simp only [shlF, wrapF_eq, bitsF_eq]
  congr 1
  try (show ((m * 2 ^ (min s k.bits) : Nat) : Int) = (m : Int) * 2 ^ (min s k.bits); simp)
def shrF (k : IntKind) (a b : Int) : Int :=
  match a, b with
  | .ofNat m, .ofNat s => .ofNat (Nat.div m (Nat.pow 2 (Nat.min s (bitsF k))))
  | _, _ => a.fdiv (2 ^ (min b.toNat k.bits))
theorem shrF_eq (k : IntKind) (a b : Int) : shrF k a b = a.fdiv (2 ^ (min b.toNat k.bits)) := by
  cases a <;> cases b <;> first | rfl | skip
  rename_i m s
  simp only [shrF, bitsF_eq]
  show ((m / 2 ^ (min s k.bits) : Nat) : Int) = Int.fdiv (m : Int) (2 ^ (min s k.bits))
  rw [Int.fdiv_eq_ediv_of_nonneg _ (by exact Int.pow_nonneg (by decide))]
  try norm_cast
/-- May two numbers be laid upon one another bit by bit, as they are? -/
def smallF (k : IntKind) (m : Nat) : Bool :=
  match k with
  | .u8 => Nat.blt m 256 | .u16 => Nat.blt m 65536 | .u32 => Nat.blt m 4294967296 | .u64 => Nat.blt m 18446744073709551616
  | .i8 => Nat.blt m 128 | .i16 => Nat.blt m 32768 | .i32 => Nat.blt m 2147483648 | .i64 => Nat.blt m 9223372036854775808
def topOf : IntKind → Nat
  | .u8 => 8 | .u16 => 16 | .u32 => 32 | .u64 => 64 | .i8 => 7 | .i16 => 15 | .i32 => 31 | .i64 => 63
theorem smallF_lt {k : IntKind} {m : Nat} (h : smallF k m = true) : m < 2 ^ topOf k := by
  cases k <;> simp [smallF, Nat.blt_eq] at h <;> simp [topOf] <;> omega
theorem topOf_le (k : IntKind) : topOf k ≤ k.bits := by cases k <;> decide
theorem wrap_small {k : IntKind} {m : Nat} (h : m < 2 ^ topOf k) : k.wrap (m : Int) = m := by
  cases k <;> simp [topOf] at h <;> simp [IntKind.wrap, IntKind.bits, IntKind.signed] <;> omega
theorem ofInt_small {k : IntKind} {m : Nat} (h : m < 2 ^ topOf k) : (BitVec.ofInt k.bits (m : Int)).toNat = m := by
  have : m < 2 ^ k.bits := Nat.lt_of_lt_of_le h (Nat.pow_le_pow_right (by decide) (topOf_le k))
  rw [BitVec.toNat_ofInt]
  have h2 : (m : Int) % ((2 ^ k.bits : Nat) : Int) = m := Int.emod_eq_of_lt (by omega) (by exact_mod_cast this)
  rw [h2]
  rfl
def bitF {n : Nat} (f : Nat → Nat → Nat) (g : BitVec n → BitVec n → BitVec n) (k : IntKind) (h : k.bits = n) (a b : Int) : Int :=
  match a, b with
  | .ofNat m, .ofNat p => cond (smallF k m && smallF k p) (.ofNat (f m p)) (k.wrap (g (BitVec.ofInt n a) (BitVec.ofInt n b)).toNat)
  | _, _ => k.wrap (g (BitVec.ofInt n a) (BitVec.ofInt n b)).toNat
theorem bitF_eq {n : Nat} (f : Nat → Nat → Nat) (g : BitVec n → BitVec n → BitVec n) (k : IntKind) (h : k.bits = n) (hfg : ∀ x y : BitVec n, (g x y).toNat = f x.toNat y.toNat) (hf : ∀ m p, m < 2 ^ topOf k → p < 2 ^ topOf k → f m p < 2 ^ topOf k) (a b : Int) :
    bitF f g k h a b = k.wrap (g (BitVec.ofInt n a) (BitVec.ofInt n b)).toNat := by
  subst h
  cases a <;> cases b <;> first | rfl | skip
  rename_i m p
  simp only [bitF]
  cases hs : smallF k m && smallF k p with
  | false => rfl
  | true =>
    simp only [Bool.and_eq_true] at hs
    have h1 := smallF_lt hs.1
    have h2 := smallF_lt hs.2
    simp only [cond_true]
    show (f m p : Int) = k.wrap ((g (BitVec.ofInt k.bits (m : Int)) (BitVec.ofInt k.bits (p : Int))).toNat : Int)
    rw [hfg, ofInt_small h1, ofInt_small h2, wrap_small (hf m p h1 h2)]
/-- Whole numbers reckoned. -/
def aibin (op : BinOp) : Value → Value → Option Value
  | .int k a, .int k' b =>
    match op with
    | .shl => cond (ltF b 0) none (some (.int k (shlF k a b)))
    | .shr => cond (ltF b 0) none (some (.int k (shrF k a b)))
    | .add => cond (keq k k') (some (.int k (wrapF k (Int.add a b)))) none
    | .sub => cond (keq k k') (some (.int k (wrapF k (Int.sub a b)))) none
    | .mul => cond (keq k k') (some (.int k (wrapF k (Int.mul a b)))) none
    | .quo => cond (keq k k' && !eqF b 0) (some (.int k (wrapF k (Int.tdiv a b)))) none
    | .rem => cond (keq k k' && !eqF b 0) (some (.int k (Int.tmod a b))) none
    | .and => cond (keq k k') (some (.int k (bitF Nat.land (fun x y => x &&& y) k rfl a b))) none
    | .or => cond (keq k k') (some (.int k (bitF Nat.lor (fun x y => x ||| y) k rfl a b))) none
    | .xor => cond (keq k k') (some (.int k (bitF Nat.xor (fun x y => x ^^^ y) k rfl a b))) none
    | .andNot => cond (keq k k') (some (.int k (k.wrap (BitVec.ofInt k.bits a &&& ~~~ BitVec.ofInt k.bits b).toNat))) none
    | .eql => cond (keq k k') (some (.bool (eqF a b))) none
    | .neq => cond (keq k k') (some (.bool (!eqF a b))) none
    | .lss => cond (keq k k') (some (.bool (ltF a b))) none
    | .leq => cond (keq k k') (some (.bool (leF a b))) none
    | .gtr => cond (keq k k') (some (.bool (ltF b a))) none
    | .geq => cond (keq k k') (some (.bool (leF b a))) none
  | _, _ => none

def placeParts (place : Nat → Option (Nat × Nat)) : List (Nat × Operand) → Option (List (Nat × Nat × Operand))
  | [] => some []
  | (k, x) :: r =>
    match place k, placeParts place r with
    | some (off, size), some ps => some ((off, size, x) :: ps)
    | _, _ => none
def partsI (T : List Value) (ps : List (Nat × Nat × Operand)) : List (Nat × Nat × Value) := ps.map fun p => (p.1, p.2.1, evalT T p.2.2)
theorem placeParts_sound (T : List Value) {place : Nat → Option (Nat × Nat)} : ∀ {parts : List (Nat × Operand)} {ps : List (Nat × Nat × Operand)}, placeParts place parts = some ps → partsT T place parts = some (partsI T ps)
  | [], ps, h => by simp [placeParts] at h; subst h; rfl
  | (k, x) :: r, ps, h => by
    simp only [placeParts] at h
    split at h
    · rename_i off size ps' hp hr
      obtain rfl := Option.some.inj h
      simp [partsT, hp, placeParts_sound T hr, partsI]
    · cases h
/-- The places of a struct's fields. -/
def fieldPlaces (P : Program) : List Field → Option (List (Nat × Nat))
  | [] => some []
  | f :: r =>
    match P.info? f.type, fieldPlaces P r with
    | some i, some ps => some ((f.offset, i.size) :: ps)
    | _, _ => none
theorem fieldPlaces_sound (P : Program) : ∀ {l : List Field} {ps : List (Nat × Nat)}, fieldPlaces P l = some ps → l.map (fun f => (f.offset, (P.info? f.type).map (·.size))) = ps.map fun p => (p.1, some p.2)
  | [], ps, h => by simp [fieldPlaces] at h; subst h; rfl
  | f :: l, ps, h => by
    simp only [fieldPlaces] at h
    split at h
    · rename_i i ps' hi hr
      obtain rfl := Option.some.inj h
      simp [hi, fieldPlaces_sound P hr]
    · cases h
def zeroOf (P : Program) (t : TypeId) : Option (List Value) :=
  match P.info? t with
  | some i => match i.zero with
    | some z => if z.cells.toList.all flat && !z.cells.toList.isEmpty then some z.cells.toList else none
    | none => none
  | none => none
theorem zeroOf_sound {P : Program} {t : TypeId} {zs : List Value} (h : zeroOf P t = some zs) : ∃ i z, P.info? t = some i ∧ i.zero = some z ∧ z.cells.toList = zs ∧ zs.all flat = true ∧ zs ≠ [] := by
  unfold zeroOf at h
  split at h
  · rename_i i hi
    split at h
    · rename_i z hz
      split at h
      · rename_i hf
        obtain rfl := Option.some.inj h
        simp only [Bool.and_eq_true, Bool.not_eq_true', List.isEmpty_eq_false_iff] at hf
        exact ⟨i, z, hi, hz, rfl, hf.1, hf.2⟩
      · cases h
    · cases h
  · cases h
def sizeOfT (P : Program) (t : TypeId) : Option Nat := (P.info? t).map (·.size)
def bytesOfT (P : Program) (t : TypeId) : Option Nat := (P.info? t).map (·.bytes)
/-- Operations that look at no memory, of values that are the same in both runs. -/
def pureOp : Op → Bool
  | .binOp .. | .unOp .. | .convert .. | .index .. | .slice .. => true
  | .call { callee := .builtin b, .. } => match b with
    | .len | .min | .max | .real | .imag | .complex => true
    | _ => false
  | _ => false
theorem pureOp_sound {o : Oper} (h : pureOp o.op = true) : ∀ cs b, o.op ≠ .select cs b := by
  intro cs b hh; rw [hh] at h; cases h

def comp (P : Program) (o : Oper) : Option IOp :=
  match o.op with
  | .move x | .assign x => some (.move x)
  | .pick c x y => some (.pick c x y)
  | .extract x i => some (.extract x i)
  | .alloc t => (zeroOf P t).map (.new t ·)
  | .box t x => some (.box t x)
  | .load t x =>
    match P.underlying t with
    | some d => if aggD d then (sizeOfT P t).map (.loadA · x) else some (.load1 x)
    | none => none
  | .store t x y => (sizeOfT P t).map (.store · x y)
  | .nilCheck x => some (.nilCheck x)
  | .fieldAddr s x f =>
    match P.underlying s with
    | some (.struct fs) => match fs[f]? with
      | some fd => match sizeOfT P fd.type with
        | some n => if n = 0 then none else some (.fieldAddr fd.offset x)
        | none => none
      | none => none
    | _ => none
  | .indexAddr t x y =>
    match P.underlying t with
    | some (.array n el) => (sizeOfT P el).map (.indexArr n · x y)
    | some (.slice el) => (sizeOfT P el).map (.indexSlice · x y)
    | _ => none
  | .slice t x lo hi mx =>
    match P.underlying t with
    | some (.slice el) => (sizeOfT P el).map (.slice (norm o) · x lo hi mx)
    | some (.array n el) => if lo.isNone ∧ mx.isNone ∧ n < OPEN ∧ (sizeOfT P el).isSome then some (.sliceArr n x hi) else none
    | some .string => some (.pure (norm o))
    | _ => none
  | .build t parts =>
    match zeroOf P t, P.underlying t with
    | some zs, some (.struct fs) => match fieldPlaces P fs.toList with
      | some ps => (placeParts (ps[·]?) parts.toList).map (.build zs ·)
      | none => none
    | some zs, some (.array _ el) => match sizeOfT P el with
      | some sz => (placeParts (fun k => some (k * sz, sz)) parts.toList).map (.build zs ·)
      | none => none
    | _, _ => none
  | .buildSlice t len parts =>
    match P.underlying t with
    | some (.slice el) => match zeroOf P el, sizeOfT P el with
      | some zs, some sz => if len * sz ≤ 16777216 ∧ len < OPEN then (placeParts (fun k => some (k * sz, sz)) parts.toList).map (.buildSlice el sz len (zcells zs (len * sz)) ·) else none
      | _, _ => none
    | _ => none
  | .makeSlice t x y =>
    match P.underlying t with
    | some (.slice el) => match zeroOf P el, sizeOfT P el, bytesOfT P el with
      | some zs, some sz, some bytes => some (.makeSlice el sz bytes zs x y)
      | _, _, _ => none
    | _ => none
  | .convert src dst x =>
    match P.underlying src, P.underlying dst with
    | some (.slice el), some .string => (match P.underlying el with | some (.int .u8) => some (.toStr x) | _ => none)
    | some .string, some (.slice el) => (match P.underlying el with | some (.int .u8) => some (.toBytes el x) | _ => none)
    | some (.int _), some (.int k) => some (.iconv k x)
    | some (.slice el), some (.slice _) => if src = dst then (match P.underlying el with | some (.int .u8) => some (.mark x) | _ => none) else none
    | _, _ => some (.pure (norm o))
  | .binOp op t x y _ =>
    match P.underlying t with
    | some (.int _) => some (.ibin op x y)
    | some (.slice el) => if op = .eql then some (.nilEq (norm o) true (.slice el) x y) else if op = .neq then some (.nilEq (norm o) false (.slice el) x y) else none
    | some (.pointer el) => if op = .eql then some (.nilEq (norm o) true (.pointer el) x y) else if op = .neq then some (.nilEq (norm o) false (.pointer el) x y) else none
    | some (.func ps rs v) => if op = .eql then some (.nilEq (norm o) true (.func ps rs v) x y) else if op = .neq then some (.nilEq (norm o) false (.func ps rs v) x y) else none
    | _ => some (.pure (norm o))
  | .unOp .. => some (.pure (norm o))
  | .index t x y =>
    match P.underlying t with
    | some (.array n el) => match P.underlying el, sizeOfT P el with
      | some d, some sz => some (.indexAgg (aggD d) sz n x y)
      | _, _ => none
    | _ => some (.pure (norm o))
  | .field s x f =>
    match P.underlying s with
    | some (.struct fs) => match fs[f]? with
      | some fd => match P.underlying fd.type, sizeOfT P fd.type with
        | some d, some sz => some (.part (aggD d) sz fd.offset x)
        | _, _ => none
      | none => none
    | _ => none
  | .sliceToArrayPointer t x =>
    match P.underlying t with
    | some (.array m _) => some (.toArr m x)
    | _ => none
  | .call { callee := .builtin .len, args, argTypes } =>
    match args.toList, argTypes.toList with
    | [x], [t] => match P.underlying t with
      | some (.slice _) => some (.len (norm o) x)
      | some (.array n _) => some (.lenN n)
      | some (.pointer arr) => match P.underlying arr with
        | some (.array n _) => some (.lenN n)
        | _ => none
      | some .string => some (.pure (norm o))
      | _ => none
    | _, _ => none
  | .call { callee := .builtin .cap, args, argTypes } =>
    match args.toList, argTypes.toList with
    | [x], [t] => match P.underlying t with
      | some (.slice _) => some (.cap x)
      | _ => none
    | _, _ => none
  | .call { callee := .builtin .copy, args, argTypes } =>
    match args.toList, argTypes.toList with
    | [x, y], [t, _] => match P.underlying t with
      | some (.slice el) => (sizeOfT P el).map (.copy · x y)
      | _ => none
    | _, _ => none
  | .call { callee := .builtin .append, args, argTypes } =>
    match args.toList, argTypes.toList with
    | [x, y], [t, t'] => match P.underlying t with
      | some (.slice el) => match zeroOf P el, sizeOfT P el, bytesOfT P el with
        | some zs, some sz, some bytes => if zs.length = sz ∧ 0 < bytes ∧ 0 < sz then (match P.underlying t' with
          | some (.int _) => if zs.all okCell then some (.appendZ el sz bytes zs x y) else none
          | some .string => some (.append el sz bytes x y)
          | some (.slice _) => some (.append el sz bytes x y)
          | _ => none) else none
        | _, _, _ => none
      | _ => none
    | _, _ => none
  | .call { callee := .builtin b, .. } => match b with
    | .min | .max | .real | .imag | .complex => some (.pure (norm o))
    | _ => none
  | .call { callee := .value f, args, .. } => some (.call f args.toList)
  | _ => none

def apure (P : Program) (o : Oper) (T : List Value) : Option Value :=
  if pureOp o.op && o.op.operands.toList.all (fun x => flat (evalT T x)) then
    match semv P (execOp (evalT T) o) with
    | some v => if flat v then some v else none
    | none => none
  else none
/-- The abstract run of an operation that is no call. -/
def aop (P : Program) (i : IOp) (T : List Value) (M : Mem) (nx : Nat) : Option (Value × Mem × Nat) :=
  match i with
  | .move x => some (evalT T x, M, nx)
  | .pure o => (apure P o T).map fun v => (v, M, nx)
  | .pick c x y => match evalT T c with
    | .bool b => some (if b then evalT T x else evalT T y, M, nx)
    | _ => none
  | .extract x i => match evalT T x with
    | .tuple xs => (xs.toList[i]?).map fun v => (v, M, nx)
    | _ => none
  | .new t zs => some (.pointer (some ⟨nx, 0, none⟩), (nx, ⟨t, 1, zs, false⟩) :: M, nx + 1)
  | .box t x => (cellsOf (evalT T x)).map fun cs => (.pointer (some ⟨nx, 0, none⟩), (nx, ⟨t, 1, cs, false⟩) :: M, nx + 1)
  | .load1 x => match evalT T x with
    | .pointer (some ⟨id, off, none⟩) => match mget M id with
      | some B => (B.cells[off]?).map fun v => (v, M, nx)
      | none => none
    | _ => none
  | .loadA n x => match evalT T x with
    | .pointer (some ⟨id, off, none⟩) => match mget M id with
      | some B => if off + n ≤ B.cells.length then some (.agg ((B.cells.drop off).take n).toArray, M, nx) else none
      | none => none
    | _ => none
  | .store n x y => match evalT T x with
    | .pointer (some ⟨id, off, none⟩) => match mget M id, cellsOf (evalT T y) with
      | some B, some cs => if B.ro = false ∧ cs.length = n ∧ cs.all okCell = true ∧ off + cs.length ≤ B.cells.length then some (undef, mset M id ⟨B.elem, B.unit, overlay B.cells off cs, false⟩, nx) else none
      | _, _ => none
    | _ => none
  | .nilCheck x => match evalT T x with
    | .pointer (some ⟨id, off, none⟩) => some (.pointer (some ⟨id, off, none⟩), M, nx)
    | .func (.func f) c d => some (.func (.func f) c d, M, nx)
    | _ => none
  | .fieldAddr f x => match evalT T x with
    | .pointer (some ⟨id, off, none⟩) => some (.pointer (some ⟨id, off + f, none⟩), M, nx)
    | _ => none
  | .indexArr n sz x y => match evalT T x, evalT T y with
    | .pointer (some ⟨id, off, none⟩), .int _ q => cond (inR q n) (some (.pointer (some ⟨id, Nat.add off (Nat.mul q.toNat sz), none⟩), M, nx)) none
    | _, _ => none
  | .indexSlice sz x y => match evalT T x, evalT T y with
    | .slice (some ⟨id, off, none⟩) n _, .int _ q => cond (inR q n) (some (.pointer (some ⟨id, Nat.add off (Nat.mul q.toNat sz), none⟩), M, nx)) none
    | _, _ => none
  | .slice o sz x lo hi mx => match evalT T x with
    | .slice (some ⟨id, off, none⟩) n c => if c < OPEN ∨ c = OPEN + sz then (bounds n c (lo.map (evalT T)) (hi.map (evalT T)) (mx.map (evalT T))).map fun r => (cutV id off c sz (mx.map (evalT T)) r, M, nx) else none
    | _ => (apure P o T).map fun v => (v, M, nx)
  | .sliceArr n x hi => match evalT T x with
    | .pointer (some ⟨id, off, none⟩) => (bound (hi.map (evalT T)) n n).map fun h => (.slice (some ⟨id, off, none⟩) h n, M, nx)
    | _ => none
  | .build zs parts => (afill zs (partsI T parts)).map fun cs => (.agg cs.toArray, M, nx)
  | .buildSlice el sz len cells parts => (afill cells (partsI T parts)).map fun cs => (.slice (some ⟨nx, 0, none⟩) len len, (nx, ⟨el, sz, cs, false⟩) :: M, nx + 1)
  | .makeSlice el sz bytes zs x y => match evalT T x, evalT T y with
    | .int _ l, .int _ c => if 0 ≤ l ∧ l ≤ c ∧ c * bytes ≤ 140737488355328 ∧ c ≤ 140737488355328 then some (.slice (some ⟨nx, 0, none⟩) l.toNat c.toNat, (nx, ⟨el, sz, zcells zs (c.toNat * sz), false⟩) :: M, nx + 1) else none
    | _, _ => none
  | .len o x => match evalT T x with
    | .slice (some ⟨_, _, none⟩) n _ => some (.int .i64 n, M, nx)
    | _ => (apure P o T).map fun v => (v, M, nx)
  | .lenN n => some (.int .i64 n, M, nx)
  | .cap x => match evalT T x with
    | .slice (some ⟨_, _, none⟩) _ c => if c < OPEN then some (.int .i64 c, M, nx) else none
    | .slice none _ c => some (.int .i64 c, M, nx)
    | _ => none
  | .copy sz x y => match evalT T x, srcLen (evalT T y) with
    | .slice (some ⟨id, off, none⟩) n _, some m => match mget M id, srcCells M sz (min m n) (evalT T y) with
      | some B, some cs => if B.ro = false ∧ cs.all okCell = true ∧ off + cs.length ≤ B.cells.length then some (.int .i64 (min m n : Nat), mset M id ⟨B.elem, B.unit, overlay B.cells off cs, false⟩, nx) else none
      | _, _ => none
    | _, _ => none
  | .append el sz bytes x y => match srcLen (evalT T y) with
    | some k => match srcCells M sz k (evalT T y) with
      | some news => if news.all okCell = true then (aAppend M nx el sz bytes (evalT T x) k news).map fun r => (r.1, r.2, nx + 1) else none
      | none => none
    | none => none
  | .appendZ el sz bytes zs x y => match evalT T y with
    | .int _ q => if 0 ≤ q ∧ (q.toNat + 192) * bytes ≤ 70368744177664 then (aAppend M nx el sz bytes (evalT T x) q.toNat (zcells zs (q.toNat * sz))).map fun r => (r.1, r.2, nx + 1) else none
    | _ => none
  | .toStr x => match evalT T x with
    | .slice ad n c => match srcCells M 1 n (.slice ad n c) with
      | some cs => (bytesOf cs).map fun bs => (.string ⟨bs.toArray⟩, M, nx)
      | none => none
    | _ => none
  | .toBytes el x => match evalT T x with
    | .string s => some (.slice (some ⟨nx, 0, none⟩) s.size (OPEN + 1), (nx, ⟨el, 1, s.data.toList.map (fun b => .int .u8 b.toNat), false⟩) :: M, nx + 1)
    | _ => none
  | .nilEq o eql d x y => match nilEq (evalT T x) (evalT T y) with
    | some _ => if nilFit d (evalT T x) then some (.bool (if eql then false else true), M, nx) else none
    | none => (apure P o T).map fun v => (v, M, nx)
  | .part agg sz off x => match evalT T x with
    | .agg xs => (partOf agg sz off xs.toList).map fun v => (v, M, nx)
    | _ => none
  | .indexAgg agg sz n x y => match evalT T x, evalT T y with
    | .agg xs, .int _ q => if 0 ≤ q ∧ q < (n : Int) then (partOf agg sz (q.toNat * sz) xs.toList).map fun v => (v, M, nx) else none
    | _, _ => none
  | .toArr m x => match evalT T x with
    | .slice (some ⟨id, off, none⟩) n _ => if m ≤ n ∧ 0 < n then some (.pointer (some ⟨id, off, none⟩), M, nx) else none
    | _ => none
  | .ibin op x y => (aibin op (evalT T x) (evalT T y)).map fun v => (v, M, nx)
  | .iconv k x => match evalT T x with
    | .int _ n => some (.int k (wrapF k n), M, nx)
    | _ => none
  | .mark x => match evalT T x with
    | .slice (some ⟨id, off, none⟩) n c => match mget M id with
      | some B => if B.ro = false ∧ 0 < n then some (.slice (some ⟨id, off, none⟩) n c, mset M id ⟨B.elem, B.unit, B.cells, false⟩, nx) else none
      | none => none
    | _ => none
  | .fail => none
  | .call .. => none
end Go.Proofs.Ytlpoolcdoecodaa.Eng

/- Part Eng11. -/
namespace Go.Proofs.Ytlpoolcdoecodaa.Eng
open Go.RowKit

section
variable {P : Program} {o : Oper} {a : Act} {w0 w : World} {W : Fr} {e : Env} {nx : Nat} {M : Mem} {T : List Value}

theorem sizeOfT_sound {t : TypeId} {n : Nat} (h : sizeOfT P t = some n) : ∃ i, P.info? t = some i ∧ i.size = n := Option.map_eq_some_iff.1 h
theorem apure_sound (hT : TR e T a.tmps) (hM : MS w0 W e nx M w) {v : Value} (h : apure P o T = some v) : Does P o a w w0 W e v M nx := by
  unfold apure at h
  split at h
  · rename_i hp
    simp only [Bool.and_eq_true] at hp
    split at h
    · rename_i v' hv
      split at h
      · rename_i hf
        obtain rfl := Option.some.inj h
        exact does_pure hT hM (pureOp_sound hp.1) hp.2 hv hf
      · cases h
    · cases h
  · cases h
theorem apure_norm : apure P (norm o) T = apure P o T := rfl
theorem apure_map (hT : TR e T a.tmps) (hM : MS w0 W e nx M w) {v : Value} {M' : Mem} {nx' : Nat} (h : (apure P o T).map (fun v => (v, M, nx)) = some (v, M', nx')) : Does P o a w w0 W e v M' nx' ∧ nx ≤ nx' := by
  obtain ⟨v', h1, h2⟩ := Option.map_eq_some_iff.1 h
  simp only [Prod.mk.injEq] at h2
  obtain ⟨rfl, rfl, rfl⟩ := h2
  exact ⟨apure_sound hT hM h1, Nat.le_refl _⟩

theorem aibin_sound (hT : TR e T a.tmps) (hM : MS w0 W e nx M w) (op : BinOp) (t t' : TypeId) (x y : Operand) (ho : o.op = .binOp op t x y t') {v : Value} (h : aibin op (evalT T x) (evalT T y) = some v) : Does P o a w w0 W e v M nx := by
  have h1 := evalT_sound hT x
  have h2 := evalT_sound hT y
  generalize evalT T x = u1 at h h1
  generalize evalT T y = u2 at h h2
  unfold aibin at h
  split at h
  · rename_i k p k' q
    have e1 := h1.int
    have e2 := h2.int
    have fin : ∀ (r : Value), flat r = true → some r = some v → (binOp op t (.int k p) (.int k' q)).run P w = .ok r w → Does P o a w w0 W e v M nx := by
      intro r hf hr hb
      obtain rfl := Option.some.inj hr
      refine does_same hM (v' := r) ?_ (.flat _ hf)
      have hg : (eqGuard op t x y (.int k p) (.int k' q)).run P w = .ok () w := by
        unfold eqGuard
        split <;> simp
      simp only [execOp, ho, e1, e2, Sem.run_bind, hg, Result.andThen_ok, hb, Sem.run_pure]
    have sh : ∀ (r : Value), flat r = true → cond (ltF q 0) none (some r) = some v → (¬ q < 0 → (binOp op t (.int k p) (.int k' q)).run P w = .ok r w) → Does P o a w w0 W e v M nx := by
      intro r hf hr hb
      rw [ltF_eq] at hr
      by_cases hq : q < 0
      · simp [hq] at hr
      · simp only [hq, decide_false, cond_false] at hr
        exact fin r hf hr (hb hq)
    have eqk : ∀ (c : Bool) (r : Value), flat r = true → cond (keq k k' && c) (some r) none = some v → (k = k' → c = true → (binOp op t (.int k p) (.int k' q)).run P w = .ok r w) → Does P o a w w0 W e v M nx := by
      intro c r hf hr hb
      cases hk : keq k k' && c with
      | false => rw [hk] at hr; cases hr
      | true =>
        rw [hk] at hr
        simp only [Bool.and_eq_true] at hk
        exact fin r hf hr (hb (keq_eq hk.1) hk.2)
    have eqk' : ∀ (r : Value), flat r = true → cond (keq k k') (some r) none = some v → (k = k' → (binOp op t (.int k p) (.int k' q)).run P w = .ok r w) → Does P o a w w0 W e v M nx := by
      intro r hf hr hb
      exact eqk true r hf (by simpa using hr) fun hk _ => hb hk
    have nz : ∀ {b : Int}, (!eqF b 0) = true → b ≠ 0 := by
      intro b hb
      rw [eqF_eq] at hb
      simpa using hb
    split at h
    · exact sh _ rfl h fun hq => by rw [shlF_eq]; simp [binOp, Op.shift, hq]
    · exact sh _ rfl h fun hq => by rw [shrF_eq]; simp [binOp, Op.shift, hq]
    · exact eqk' _ rfl h fun hk => by subst hk; rw [wrapF_eq]; simp [binOp, Op.intArith] <;> rfl
    · exact eqk' _ rfl h fun hk => by subst hk; rw [wrapF_eq]; simp [binOp, Op.intArith] <;> rfl
    · exact eqk' _ rfl h fun hk => by subst hk; rw [wrapF_eq]; simp [binOp, Op.intArith] <;> rfl
    · exact eqk _ _ rfl h fun hk hb => by subst hk; rw [wrapF_eq]; simp [binOp, Op.intDiv, nz hb]
    · exact eqk _ _ rfl h fun hk hb => by subst hk; simp [binOp, Op.intDiv, nz hb]
    · exact eqk' _ rfl h fun hk => by
        subst hk
        rw [bitF_eq Nat.land (fun x y => x &&& y) k rfl (fun x y => by simp; try rfl) (fun m p hm hp => Nat.and_lt_two_pow m hp)]
        simp [binOp, Op.intBits]
    · exact eqk' _ rfl h fun hk => by
        subst hk
        rw [bitF_eq Nat.lor (fun x y => x ||| y) k rfl (fun x y => by simp; try rfl) (fun m p hm hp => Nat.or_lt_two_pow hm hp)]
        simp [binOp, Op.intBits]
    · exact eqk' _ rfl h fun hk => by
        subst hk
        rw [bitF_eq Nat.xor (fun x y => x ^^^ y) k rfl (fun x y => by simp; try rfl) (fun m p hm hp => Nat.xor_lt_two_pow hm hp)]
        simp [binOp, Op.intBits]
    · exact eqk' _ rfl h fun hk => by subst hk; simp [binOp, Op.intBits]
    · exact eqk' _ rfl h fun hk => by subst hk; rw [eqF_eq]; simp [binOp, Op.intCmp]
    · exact eqk' _ rfl h fun hk => by subst hk; rw [eqF_eq]; simp [binOp, Op.intCmp]; rfl
    · exact eqk' _ rfl h fun hk => by subst hk; rw [ltF_eq]; simp [binOp, Op.intCmp]
    · exact eqk' _ rfl h fun hk => by subst hk; rw [leF_eq]; simp [binOp, Op.intCmp]
    · exact eqk' _ rfl h fun hk => by subst hk; rw [ltF_eq]; simp [binOp, Op.intCmp]
    · exact eqk' _ rfl h fun hk => by subst hk; rw [leF_eq]; simp [binOp, Op.intCmp]
  · cases h
theorem arr_eq {α : Type} {a : Array α} {l : List α} (h : a.toList = l) : a = l.toArray := by rw [← h]
theorem aop_sound (hT : TR e T a.tmps) (hM : MS w0 W e nx M w) {i : IOp} (hc : comp P o = some i) {v : Value} {M' : Mem} {nx' : Nat} (hB : nx' ≤ W.top) (h : aop P i T M nx = some (v, M', nx')) : Does P o a w w0 W e v M' nx' ∧ nx ≤ nx' := by
  unfold comp at hc
  split at hc
  -- move, assign
  · rename_i x ho
    obtain rfl := Option.some.inj hc
    simp only [aop, Option.some.injEq, Prod.mk.injEq] at h
    obtain ⟨rfl, rfl, rfl⟩ := h
    exact ⟨does_move hT hM x (.inl ho), Nat.le_refl _⟩
  · rename_i x ho
    obtain rfl := Option.some.inj hc
    simp only [aop, Option.some.injEq, Prod.mk.injEq] at h
    obtain ⟨rfl, rfl, rfl⟩ := h
    exact ⟨does_move hT hM x (.inr ho), Nat.le_refl _⟩
  -- pick
  · rename_i c x y ho
    obtain rfl := Option.some.inj hc
    simp only [aop] at h
    split at h
    · rename_i b hb
      simp only [Option.some.injEq, Prod.mk.injEq] at h
      obtain ⟨rfl, rfl, rfl⟩ := h
      exact ⟨does_pick hT hM c x y ho hb, Nat.le_refl _⟩
    · cases h
  -- extract
  · rename_i x k ho
    obtain rfl := Option.some.inj hc
    simp only [aop] at h
    split at h
    · rename_i xs hx
      obtain ⟨v', h1, h2⟩ := Option.map_eq_some_iff.1 h
      simp only [Prod.mk.injEq] at h2
      obtain ⟨rfl, rfl, rfl⟩ := h2
      exact ⟨does_extract hT hM x k ho hx h1, Nat.le_refl _⟩
    · cases h
  -- alloc
  · rename_i t ho
    obtain ⟨zs, h1, rfl⟩ := Option.map_eq_some_iff.1 hc
    obtain ⟨j, z, hj, hz, hzs, hf, hne⟩ := zeroOf_sound h1
    simp only [aop, Option.some.injEq, Prod.mk.injEq] at h
    obtain ⟨rfl, rfl, rfl⟩ := h
    exact ⟨does_alloc hM t ho hj hz hzs hf (Nat.le_refl _) (Nat.lt_succ_self _) hB, Nat.le_succ _⟩
  -- box
  · rename_i t x ho
    obtain rfl := Option.some.inj hc
    simp only [aop] at h
    obtain ⟨cs, h1, h2⟩ := Option.map_eq_some_iff.1 h
    simp only [Prod.mk.injEq] at h2
    obtain ⟨rfl, rfl, rfl⟩ := h2
    exact ⟨does_box hT hM t x ho h1 (Nat.le_refl _) (Nat.lt_succ_self _) hB, Nat.le_succ _⟩
  -- load
  · rename_i t x ho
    split at hc
    · rename_i d hd
      split at hc
      · rename_i hag
        obtain ⟨n, h1, rfl⟩ := Option.map_eq_some_iff.1 hc
        obtain ⟨j, hj, rfl⟩ := sizeOfT_sound h1
        simp only [aop] at h
        split at h
        · rename_i id off hx
          split at h
          · rename_i B hb
            split at h
            · rename_i hle
              simp only [Option.some.injEq, Prod.mk.injEq] at h
              obtain ⟨rfl, rfl, rfl⟩ := h
              exact ⟨does_loadA hT hM t x ho hd hag hj hx hb hle, Nat.le_refl _⟩
            · cases h
          · cases h
        · cases h
      · rename_i hag
        obtain rfl := Option.some.inj hc
        simp only [aop] at h
        split at h
        · rename_i id off hx
          split at h
          · rename_i B hb
            obtain ⟨v', h1, h2⟩ := Option.map_eq_some_iff.1 h
            simp only [Prod.mk.injEq] at h2
            obtain ⟨rfl, rfl, rfl⟩ := h2
            exact ⟨does_load1 hT hM t x ho hd (by simpa using hag) hx hb h1, Nat.le_refl _⟩
          · cases h
        · cases h
    · cases hc
  -- store
  · rename_i t x y ho
    obtain ⟨n, h1, rfl⟩ := Option.map_eq_some_iff.1 hc
    obtain ⟨j, hj, rfl⟩ := sizeOfT_sound h1
    simp only [aop] at h
    split at h
    · rename_i id off hx
      split at h
      · rename_i B cs hb hcs
        split at h
        · rename_i hcond
          simp only [Option.some.injEq, Prod.mk.injEq] at h
          obtain ⟨rfl, rfl, rfl⟩ := h
          exact ⟨does_store hT hM t x y ho hj hx hb hcond.1 hcs hcond.2.1 hcond.2.2.1 hcond.2.2.2, Nat.le_refl _⟩
        · cases h
      · cases h
    · cases h
  -- nilCheck
  · rename_i x ho
    obtain rfl := Option.some.inj hc
    simp only [aop] at h
    split at h
    · rename_i id off hx
      simp only [Option.some.injEq, Prod.mk.injEq] at h
      obtain ⟨rfl, rfl, rfl⟩ := h
      exact ⟨hx ▸ does_nilCheck hT hM x ho hx, Nat.le_refl _⟩
    · rename_i f c d hx
      simp only [Option.some.injEq, Prod.mk.injEq] at h
      obtain ⟨rfl, rfl, rfl⟩ := h
      exact ⟨hx ▸ does_nilCheckF hT hM x ho hx, Nat.le_refl _⟩
    · cases h
  -- fieldAddr
  · rename_i s x f ho
    split at hc
    · rename_i fs hs
      split at hc
      · rename_i fd hf
        split at hc
        · rename_i n hn
          split at hc
          · cases hc
          · rename_i hn0
            obtain rfl := Option.some.inj hc
            obtain ⟨j, hj, rfl⟩ := sizeOfT_sound hn
            simp only [aop] at h
            split at h
            · rename_i id off hx
              simp only [Option.some.injEq, Prod.mk.injEq] at h
              obtain ⟨rfl, rfl, rfl⟩ := h
              exact ⟨does_fieldAddr hT hM s x f ho hs hf hj hn0 hx, Nat.le_refl _⟩
            · cases h
        · cases hc
      · cases hc
    · cases hc
  -- indexAddr
  · rename_i t x y ho
    split at hc
    · rename_i n el ht
      obtain ⟨sz, h1, rfl⟩ := Option.map_eq_some_iff.1 hc
      obtain ⟨j, hj, rfl⟩ := sizeOfT_sound h1
      simp only [aop] at h
      split at h
      · rename_i id off k q hx hy
        cases hq : inR q n with
        | true =>
          rw [hq] at h
          simp only [cond_true, Option.some.injEq, Prod.mk.injEq] at h
          obtain ⟨rfl, rfl, rfl⟩ := h
          exact ⟨does_indexArr hT hM t x y ho ht hj hx hy (inR_eq hq).1 (inR_eq hq).2, Nat.le_refl _⟩
        | false => rw [hq] at h; cases h
      · cases h
    · rename_i el ht
      obtain ⟨sz, h1, rfl⟩ := Option.map_eq_some_iff.1 hc
      obtain ⟨j, hj, rfl⟩ := sizeOfT_sound h1
      simp only [aop] at h
      split at h
      · rename_i id off n c k q hx hy
        cases hq : inR q n with
        | true =>
          rw [hq] at h
          simp only [cond_true, Option.some.injEq, Prod.mk.injEq] at h
          obtain ⟨rfl, rfl, rfl⟩ := h
          exact ⟨does_indexSlice hT hM t x y ho ht hj hx hy (inR_eq hq).1 (inR_eq hq).2, Nat.le_refl _⟩
        | false => rw [hq] at h; cases h
      · cases h
    · cases hc
  -- slice
  · rename_i t x lo hi mx ho
    split at hc
    · rename_i el ht
      obtain ⟨sz, h1, rfl⟩ := Option.map_eq_some_iff.1 hc
      obtain ⟨j, hj, rfl⟩ := sizeOfT_sound h1
      simp only [aop] at h
      split at h
      · rename_i id off n c hx
        split at h
        · rename_i hu
          obtain ⟨r, h2, h3⟩ := Option.map_eq_some_iff.1 h
          simp only [Prod.mk.injEq] at h3
          obtain ⟨rfl, rfl, rfl⟩ := h3
          exact ⟨does_slice hT hM t x lo hi mx ho ht hj hx hu h2, Nat.le_refl _⟩
        · cases h
      · exact apure_map hT hM h
    · rename_i n el ht
      split at hc
      · rename_i hcond
        obtain rfl := Option.some.inj hc
        obtain ⟨sz, hsz⟩ := Option.isSome_iff_exists.1 hcond.2.2.2
        obtain ⟨j, hj, _⟩ := sizeOfT_sound hsz
        simp only [aop] at h
        split at h
        · rename_i id off hx
          obtain ⟨r, h2, h3⟩ := Option.map_eq_some_iff.1 h
          simp only [Prod.mk.injEq] at h3
          obtain ⟨rfl, rfl, rfl⟩ := h3
          exact ⟨does_sliceArr hT hM t x lo hi mx ho ht hj hx hcond.2.2.1 (by simpa using hcond.1) (by simpa using hcond.2.1) h2, Nat.le_refl _⟩
        · cases h
      · cases hc
    · obtain rfl := Option.some.inj hc
      exact apure_map hT hM h
    · cases hc
  -- build
  · rename_i t parts ho
    split at hc
    · rename_i zs fs hz ht
      obtain ⟨j, z, hj, hz0, rfl, hf, hne⟩ := zeroOf_sound hz
      split at hc
      · rename_i ps hps
        obtain ⟨q, h1, rfl⟩ := Option.map_eq_some_iff.1 hc
        simp only [aop] at h
        obtain ⟨cs, h2, h3⟩ := Option.map_eq_some_iff.1 h
        simp only [Prod.mk.injEq] at h3
        obtain ⟨rfl, rfl, rfl⟩ := h3
        exact ⟨does_buildStruct hT hM t parts ho hj hz0 hf ht ps (fieldPlaces_sound P hps) (placeParts_sound T h1) h2, Nat.le_refl _⟩
      · cases hc
    · rename_i zs n el hz ht
      obtain ⟨j, z, hj, hz0, rfl, hf, hne⟩ := zeroOf_sound hz
      split at hc
      · rename_i sz hsz
        obtain ⟨j2, hj2, rfl⟩ := sizeOfT_sound hsz
        obtain ⟨q, h1, rfl⟩ := Option.map_eq_some_iff.1 hc
        simp only [aop] at h
        obtain ⟨cs, h2, h3⟩ := Option.map_eq_some_iff.1 h
        simp only [Prod.mk.injEq] at h3
        obtain ⟨rfl, rfl, rfl⟩ := h3
        exact ⟨does_buildArr hT hM t parts ho hj hz0 hf ht hj2 (placeParts_sound T h1) h2, Nat.le_refl _⟩
      · cases hc
    · cases hc
  -- buildSlice
  · rename_i t len parts ho
    split at hc
    · rename_i el ht
      split at hc
      · rename_i zs sz hz hsz
        obtain ⟨j, z, hj, hz0, rfl, hf, hne⟩ := zeroOf_sound hz
        obtain ⟨j2, hj2, rfl⟩ := sizeOfT_sound hsz
        obtain rfl : j = j2 := by rw [hj] at hj2; exact Option.some.inj hj2
        split at hc
        · rename_i hlim
          obtain ⟨q, h1, rfl⟩ := Option.map_eq_some_iff.1 hc
          simp only [aop] at h
          obtain ⟨cs, h2, h3⟩ := Option.map_eq_some_iff.1 h
          simp only [Prod.mk.injEq] at h3
          obtain ⟨rfl, rfl, rfl⟩ := h3
          exact ⟨does_buildSlice hT hM t len parts ho ht hj hz0 hf hne hlim.1 (placeParts_sound T h1) h2 hlim.2 (Nat.le_refl _) (Nat.lt_succ_self _) hB, Nat.le_succ _⟩
        · cases hc
      · cases hc
    · cases hc
  -- makeSlice
  · rename_i t x y ho
    split at hc
    · rename_i el ht
      split at hc
      · rename_i zs sz bytes hz hsz hby
        obtain ⟨j, z, hj, hz0, rfl, hf, hne⟩ := zeroOf_sound hz
        obtain ⟨j2, hj2, rfl⟩ := sizeOfT_sound hsz
        obtain ⟨j3, hj3, rfl⟩ := Option.map_eq_some_iff.1 hby
        obtain rfl : j = j2 := by rw [hj] at hj2; exact Option.some.inj hj2
        obtain rfl : j = j3 := by rw [hj] at hj3; exact Option.some.inj hj3
        obtain rfl := Option.some.inj hc
        simp only [aop] at h
        split at h
        · rename_i k l k' c hx hy
          split at h
          · rename_i hcond
            simp only [Option.some.injEq, Prod.mk.injEq] at h
            obtain ⟨rfl, rfl, rfl⟩ := h
            exact ⟨does_makeSlice hT hM t x y ho ht hj hz0 hf hne hx hy hcond.1 hcond.2.1 hcond.2.2.1 hcond.2.2.2 (Nat.le_refl _) (Nat.lt_succ_self _) hB, Nat.le_succ _⟩
          · cases h
        · cases h
      · cases hc
    · cases hc
  -- convert
  · rename_i src dst x ho
    split at hc
    · rename_i el hs hd
      split at hc
      · rename_i he
        have he' : P.underlying el = some (.int .u8) := he
        obtain rfl := Option.some.inj hc
        simp only [aop] at h
        split at h
        · rename_i ad n c hx
          split at h
          · rename_i cs hcs
            obtain ⟨bs, h2, h3⟩ := Option.map_eq_some_iff.1 h
            simp only [Prod.mk.injEq] at h3
            obtain ⟨rfl, rfl, rfl⟩ := h3
            exact ⟨does_toString hT hM src dst x ho hs he' hd (by rw [hx]; rfl) hx (by rw [hx]; exact hcs) h2, Nat.le_refl _⟩
          · cases h
        · cases h
      · cases hc
    · rename_i el hs hd
      split at hc
      · rename_i he
        have he' : P.underlying el = some (.int .u8) := he
        obtain rfl := Option.some.inj hc
        simp only [aop] at h
        split at h
        · rename_i s hx
          simp only [Option.some.injEq, Prod.mk.injEq] at h
          obtain ⟨rfl, rfl, rfl⟩ := h
          exact ⟨does_toBytes hT hM src dst x ho hs hd he' hx hB, Nat.le_succ _⟩
        · cases h
      · cases hc
    · rename_i hs hd
      obtain rfl := Option.some.inj hc
      simp only [aop] at h
      split at h
      · rename_i k2 n hx
        simp only [Option.some.injEq, Prod.mk.injEq] at h
        obtain ⟨rfl, rfl, rfl⟩ := h
        have h1 := evalT_sound hT x
        rw [hx] at h1
        exact ⟨does_same hM (v' := _) (by rw [wrapF_eq]; simp [execOp, ho, h1.int, convert, run_underlying hs, run_underlying hd, Conv.intToInt]) (.flat _ rfl), Nat.le_refl _⟩
      · cases h
    · rename_i el el' hs hd
      split at hc
      · rename_i hsd
        subst hsd
        split at hc
        · rename_i he
          obtain rfl := Option.some.inj hc
          simp only [aop] at h
          split at h
          · rename_i id off n c hx
            split at h
            · rename_i B hb
              split at h
              · rename_i hcond
                simp only [Option.some.injEq, Prod.mk.injEq] at h
                obtain ⟨rfl, rfl, rfl⟩ := h
                exact ⟨does_mark hT hM src x ho hs he hx hb hcond.1 hcond.2, Nat.le_refl _⟩
              · cases h
            · cases h
          · cases h
        · cases hc
      · cases hc
    · obtain rfl := Option.some.inj hc
      exact apure_map hT hM h
  -- binOp
  · rename_i op t x y t' ho
    have key : ∀ (d : TypeDesc) (eq : Bool), P.underlying t = some d → (if op = .eql then some (IOp.nilEq (norm o) true d x y) else if op = .neq then some (IOp.nilEq (norm o) false d x y) else none) = some i → Does P o a w w0 W e v M' nx' ∧ nx ≤ nx' := by
      intro d _ ht hc
      have hfin : ∀ b, (op = .eql ∧ b = true ∨ op = .neq ∧ b = false) → i = .nilEq (norm o) b d x y → Does P o a w w0 W e v M' nx' ∧ nx ≤ nx' := by
        intro b hb hi
        subst hi
        simp only [aop] at h
        split at h
        · rename_i b' hn
          split at h
          · rename_i hfit
            simp only [Option.some.injEq, Prod.mk.injEq] at h
            obtain ⟨rfl, rfl, rfl⟩ := h
            have hop : op = .eql ∨ op = .neq := by rcases hb with ⟨h, _⟩ | ⟨h, _⟩ <;> simp [h]
            have := does_nilEq hT hM op t t' x y ho hop ht hn hfit
            rcases hb with ⟨rfl, rfl⟩ | ⟨rfl, rfl⟩
            · exact ⟨by simpa using this, Nat.le_refl _⟩
            · exact ⟨by simpa using this, Nat.le_refl _⟩
          · cases h
        · exact apure_map hT hM h
      split at hc
      · rename_i he
        exact hfin true (.inl ⟨he, rfl⟩) (Option.some.inj hc).symm
      · split at hc
        · rename_i he
          exact hfin false (.inr ⟨he, rfl⟩) (Option.some.inj hc).symm
        · cases hc
    split at hc
    · obtain rfl := Option.some.inj hc
      simp only [aop] at h
      obtain ⟨v', h1, h2⟩ := Option.map_eq_some_iff.1 h
      simp only [Prod.mk.injEq] at h2
      obtain ⟨rfl, rfl, rfl⟩ := h2
      exact ⟨aibin_sound hT hM op t t' x y ho h1, Nat.le_refl _⟩
    · rename_i el ht; exact key _ true ht hc
    · rename_i el ht; exact key _ true ht hc
    · rename_i ps rs vv ht; exact key _ true ht hc
    · obtain rfl := Option.some.inj hc
      exact apure_map hT hM h
  -- unOp
  · obtain rfl := Option.some.inj hc
    exact apure_map hT hM h
  -- index
  · rename_i t x y ho
    split at hc
    · rename_i n el ht
      split at hc
      · rename_i d sz hd hsz
        obtain ⟨j, hj, rfl⟩ := sizeOfT_sound hsz
        obtain rfl := Option.some.inj hc
        simp only [aop] at h
        split at h
        · rename_i xs k q hx hy
          split at h
          · rename_i hq
            obtain ⟨v', h2, h3⟩ := Option.map_eq_some_iff.1 h
            simp only [Prod.mk.injEq] at h3
            obtain ⟨rfl, rfl, rfl⟩ := h3
            exact ⟨does_indexAgg hT hM t x y ho ht hd hj rfl hx hy hq.1 hq.2 h2, Nat.le_refl _⟩
          · cases h
        · cases h
      · cases hc
    · obtain rfl := Option.some.inj hc
      exact apure_map hT hM h
  -- field
  · rename_i s x f ho
    split at hc
    · rename_i fs hs
      split at hc
      · rename_i fd hf
        split at hc
        · rename_i d sz hd hsz
          obtain ⟨j, hj, rfl⟩ := sizeOfT_sound hsz
          obtain rfl := Option.some.inj hc
          simp only [aop] at h
          split at h
          · rename_i xs hx
            obtain ⟨v', h2, h3⟩ := Option.map_eq_some_iff.1 h
            simp only [Prod.mk.injEq] at h3
            obtain ⟨rfl, rfl, rfl⟩ := h3
            exact ⟨does_field hT hM s x f ho hs hf hd hj rfl hx h2, Nat.le_refl _⟩
          · cases h
        · cases hc
      · cases hc
    · cases hc
  -- sliceToArrayPointer
  · rename_i t x ho
    split at hc
    · rename_i m el ht
      obtain rfl := Option.some.inj hc
      simp only [aop] at h
      split at h
      · rename_i id off n c hx
        split at h
        · rename_i hm
          simp only [Option.some.injEq, Prod.mk.injEq] at h
          obtain ⟨rfl, rfl, rfl⟩ := h
          exact ⟨does_toArr hT hM t x ho ht hx hm.1 hm.2, Nat.le_refl _⟩
        · cases h
      · cases h
    · cases hc
  -- len
  · rename_i args argTypes ho
    split at hc
    · rename_i x t ha1 ha2
      obtain rfl := arr_eq ha1
      obtain rfl := arr_eq ha2
      split at hc
      · rename_i el ht
        obtain rfl := Option.some.inj hc
        simp only [aop] at h
        split at h
        · rename_i b off n c hx
          simp only [Option.some.injEq, Prod.mk.injEq] at h
          obtain ⟨rfl, rfl, rfl⟩ := h
          exact ⟨does_len hT hM t x ho ht hx rfl, Nat.le_refl _⟩
        · exact apure_map hT hM h
      · rename_i n el ht
        obtain rfl := Option.some.inj hc
        simp only [aop, Option.some.injEq, Prod.mk.injEq] at h
        obtain ⟨rfl, rfl, rfl⟩ := h
        exact ⟨does_lenArr hM t x ho ht, Nat.le_refl _⟩
      · rename_i arr ht
        split at hc
        · rename_i n el ha
          obtain rfl := Option.some.inj hc
          simp only [aop, Option.some.injEq, Prod.mk.injEq] at h
          obtain ⟨rfl, rfl, rfl⟩ := h
          exact ⟨does_lenPtr hM t x ho ht ha, Nat.le_refl _⟩
        · cases hc
      · obtain rfl := Option.some.inj hc
        exact apure_map hT hM h
      · cases hc
    · cases hc
  -- cap
  · rename_i args argTypes ho
    split at hc
    · rename_i x t ha1 ha2
      obtain rfl := arr_eq ha1
      obtain rfl := arr_eq ha2
      split at hc
      · rename_i el ht
        obtain rfl := Option.some.inj hc
        simp only [aop] at h
        split at h
        · rename_i b off n c hx
          split at h
          · rename_i hlt
            simp only [Option.some.injEq, Prod.mk.injEq] at h
            obtain ⟨rfl, rfl, rfl⟩ := h
            exact ⟨does_cap hT hM t x ho ht hx hlt, Nat.le_refl _⟩
          · cases h
        · rename_i n c hx
          simp only [Option.some.injEq, Prod.mk.injEq] at h
          obtain ⟨rfl, rfl, rfl⟩ := h
          exact ⟨does_capNil hT hM t x ho ht hx, Nat.le_refl _⟩
        · cases h
      · cases hc
    · cases hc
  -- copy
  · rename_i args argTypes ho
    split at hc
    · rename_i x y t t' ha1 ha2
      obtain rfl := arr_eq ha1
      obtain rfl := arr_eq ha2
      split at hc
      · rename_i el ht
        obtain ⟨sz, h1, rfl⟩ := Option.map_eq_some_iff.1 hc
        obtain ⟨j, hj, rfl⟩ := sizeOfT_sound h1
        simp only [aop] at h
        split at h
        · rename_i id off n c m hx hm
          split at h
          · rename_i B cs hb hcs
            split at h
            · rename_i hcond
              simp only [Option.some.injEq, Prod.mk.injEq] at h
              obtain ⟨rfl, rfl, rfl⟩ := h
              exact ⟨does_copy hT hM t t' x y ho ht hj hx hb hcond.1 hm hcs hcond.2.1 hcond.2.2, Nat.le_refl _⟩
            · cases h
          · cases h
        · cases h
      · cases hc
    · cases hc
  -- append
  · rename_i args argTypes ho
    split at hc
    · rename_i x y t t' ha1 ha2
      obtain rfl := arr_eq ha1
      obtain rfl := arr_eq ha2
      split at hc
      · rename_i el ht
        split at hc
        · rename_i zs sz bytes hz hsz hby
          obtain ⟨j, z, hj, hz0, rfl, hf, hne⟩ := zeroOf_sound hz
          obtain ⟨j2, hj2, rfl⟩ := sizeOfT_sound hsz
          obtain ⟨j3, hj3, rfl⟩ := Option.map_eq_some_iff.1 hby
          obtain rfl : j = j2 := by rw [hj] at hj2; exact Option.some.inj hj2
          obtain rfl : j = j3 := by rw [hj] at hj3; exact Option.some.inj hj3
          split at hc
          · rename_i hcond
            have hzs : z.cells.size = j.size := by rw [← hcond.1]; simp
            have keyA : ∀ d, P.underlying t' = some d → (d = .string ∨ ∃ e2, d = .slice e2) → i = .append el j.size j.bytes x y → Does P o a w w0 W e v M' nx' ∧ nx ≤ nx' := by
              intro d ht' hd hi
              subst hi
              simp only [aop] at h
              split at h
              · rename_i k hk
                split at h
                · rename_i news hn
                  split at h
                  · rename_i hok
                    obtain ⟨r, h2, h3⟩ := Option.map_eq_some_iff.1 h
                    simp only [Prod.mk.injEq] at h3
                    obtain ⟨rfl, rfl, rfl⟩ := h3
                    exact ⟨does_append hT hM t t' x y ho ht ht' hd hj hz0 hzs hcond.2.1 hk hn hok hB h2, Nat.le_succ _⟩
                  · cases h
                · cases h
              · cases h
            split at hc
            · rename_i kk ht'
              split at hc
              · rename_i hzo
                obtain rfl := Option.some.inj hc
                simp only [aop] at h
                split at h
                · rename_i k2 q hy
                  split at h
                  · rename_i hq
                    obtain ⟨r, h2, h3⟩ := Option.map_eq_some_iff.1 h
                    simp only [Prod.mk.injEq] at h3
                    obtain ⟨rfl, rfl, rfl⟩ := h3
                    exact ⟨does_appendZ hT hM t t' x y ho ht ht' hj hz0 hzs hf hzo hcond.2.2 hy hq.1 hq.2 hB h2, Nat.le_succ _⟩
                  · cases h
                · cases h
              · cases hc
            · rename_i ht'
              exact keyA .string ht' (.inl rfl) (Option.some.inj hc).symm
            · rename_i e2 ht'
              exact keyA (.slice e2) ht' (.inr ⟨e2, rfl⟩) (Option.some.inj hc).symm
            · cases hc
          · cases hc
        · cases hc
      · cases hc
    · cases hc
  -- other builtins
  · split at hc
    all_goals first | (cases hc; done) | (obtain rfl := Option.some.inj hc; exact apure_map hT hM h)
  -- calls
  · obtain rfl := Option.some.inj hc
    simp [aop] at h
  · cases hc

/-- Names are given upwards. -/
theorem aop_mono {i : IOp} {v : Value} {M' : Mem} {nx' : Nat} (h : aop P i T M nx = some (v, M', nx')) : nx ≤ nx' := by
  cases i <;> simp only [aop] at h <;> (repeat' (first | (cases h; done) | (split at h))) <;>
    first
      | (simp only [Option.some.injEq, Prod.mk.injEq] at h; omega)
      | (cases hq : inR _ _ <;> rw [hq] at h <;> first | (cases h; done) | (simp only [cond_true, Option.some.injEq, Prod.mk.injEq] at h; omega))
      | (obtain ⟨_, _, h2⟩ := Option.map_eq_some_iff.1 h; simp only [Prod.mk.injEq] at h2; omega)
end
end Go.Proofs.Ytlpoolcdoecodaa.Eng
