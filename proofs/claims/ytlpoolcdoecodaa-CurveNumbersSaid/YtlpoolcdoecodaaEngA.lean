/-
  THE ENGINE: what is known of functions of lists of bytes, for abstract runs. No statement of the program is proved here.
-/
import Derived.Test.YtlpoolcdoecodaaEngP4
import Derived.Test.YtlpoolcdoecodaaWWords
set_option linter.unusedVariables false
set_option linter.unusedSimpArgs false
namespace Go.Proofs.Ytlpoolcdoecodaa.Eng
open Go.RowKit Go.Proofs.YtlpoolcdoecodaaW.PrintWords

/-- The numbers in cells. -/
def intsOf (k : IntKind) : List Value → Option (List Int)
  | [] => some []
  | .int k' n :: r => if keq k k' then (intsOf k r).map (n :: ·) else none
  | _ => none
theorem intsOf_eq {k : IntKind} : ∀ {cs : List Value} {ns : List Int}, intsOf k cs = some ns → cs = nums k ns
  | [], ns, h => by simp [intsOf] at h; subst h; rfl
  | v :: r, ns, h => by
    unfold intsOf at h
    split at h
    · rename_i heq; cases heq
    · rename_i k' n r' heq
      simp only [List.cons.injEq] at heq
      obtain ⟨rfl, rfl⟩ := heq
      split at h
      · rename_i hk
        obtain rfl := keq_eq hk
        obtain ⟨ns', h1, rfl⟩ := Option.map_eq_some_iff.1 h
        rw [intsOf_eq h1]
        rfl
      · cases h
    · cases h
/-- A list of numbers that is handed in. -/
def listArg (k : IntKind) (M : Mem) (v : Value) : Option (List Int) :=
  match v with
  | .slice none n _ => if n = 0 then some [] else none
  | .slice (some ⟨id, off, none⟩) n _ => match mget M id with
    | some B => if off + n ≤ B.cells.length then intsOf k ((B.cells.drop off).take n) else none
    | none => none
  | _ => none

section
variable {w0 w : World} {W : Fr} {e : Env} {nx : Nat} {M : Mem}

theorem listArg_sound (hM : MS w0 W e nx M w) {k : IntKind} {v v' : Value} {ns : List Int} (h : listArg k M v = some ns) (hv : VR e v v') (hlen : ns.length ≤ 140737488355328) :
    ∃ A c, v' = .slice A ns.length c ∧ ns.length ≤ c ∧ Kd.C (Kd.int k) w A ns.length ns := by
  unfold listArg at h
  split at h
  · rename_i n c
    split at h
    · rename_i hn
      subst hn
      obtain rfl := Option.some.inj h
      have := VR.of_flat (by rfl) hv
      subst this
      exact ⟨none, c, rfl, Nat.zero_le _, Kd.C_of_reads (enc := Value.int k) (d := (0 : Int)) (h1 := fun _ => rfl) ⟨rfl, by simp, fun h => absurd h (Nat.lt_irrefl 0)⟩⟩
    · cases h
  · rename_i id off n c
    split at h
    · rename_i B hb
      split at h
      · rename_i hle
        have hcs2 := intsOf_eq h
        obtain ⟨a', c', l, hl, rfl, hp, hn, hc, hroom⟩ := hv.slice_inv
        have hns : ns.length = n := by
          have := congrArg List.length hcs2
          rw [nums_length] at this
          rw [← this, List.length_take, List.length_drop]
          omega
        refine ⟨some a', c', by rw [hns], by omega, Kd.C_of_reads (enc := Value.int k) (d := (0 : Int)) (h1 := fun _ => rfl) ⟨rfl, by omega, fun hpos => ⟨a', rfl, fun j hj => ?_⟩⟩⟩
        obtain rfl : a' = ⟨l.blk, l.base + off, none⟩ := hp.resolve_right (by omega)
        have hcell : B.cells[off + j]? = some (.int k (ns.getD j 0)) := by
          have h1 : ((B.cells.drop off).take n)[j]? = (nums k ns)[j]? := by rw [hcs2]
          rw [List.getElem?_take, if_pos (by omega), List.getElem?_drop] at h1
          rw [h1]
          simp [nums, hj, List.getD]
        obtain ⟨v', e1, e2⟩ := hM.cell hb hl hcell
        rw [addr_add, Nat.add_assoc, e1, e2.int]
      · cases h
    · cases h
  · cases h

/-- A world that is as it was, but for new blocks. -/
theorem MS.below (h : MS w0 W e nx M w) {w' : World} (hb : Below w.heap.size w w') : MS w0 W e nx M w' :=
  { os := hb.os.trans h.os, tape := hb.tape.trans h.tape, output := hb.output.trans h.output, size := Nat.le_trans h.size hb.size
    frame := fun b hb0 hw => (hb.block b (Nat.lt_of_lt_of_le hb0 h.size)).trans (h.frame b hb0 hw), low := h.low, base := h.base, fresh := h.fresh
    blk := fun id B hB => let ⟨l, hl, hr⟩ := h.blk id B hB; ⟨l, hl, hr.mono (Ext.refl e) (hb.block _ hr.lt)⟩, own := h.own, inj := h.inj }
/-- A new list of numbers, handed out. -/
theorem MS.list (h : MS w0 W e nx M w) {w' : World} (hb : Below w.heap.size w w') {el : TypeId} {k : IntKind} {v : Value} {ns : List Int} (hR : Kd.R (Kd.int k) el w' w.heap.size (fun _ => True) v ns) (hpos : 0 < ns.length) (hB : nx + 1 ≤ W.top) :
    ∃ e', Ext e e' ∧ VR e' (.slice (some ⟨nx, 0, none⟩) ns.length (OPEN + 1)) v ∧ MS w0 W e' (nx + 1) ((nx, ⟨el, 1, nums k ns, false⟩) :: M) w' := by
  have hown := Kd.own_of_R hR
  obtain ⟨hlen, hrest⟩ := hown
  rcases hrest with ⟨_, h0⟩ | ⟨g, cap, cur, rfl, hg, hh, hnc, hcap, hsz, htake⟩
  · omega
  · have hM' := h.below hb
    have hx := put_ext (h.fresh nx (Nat.le_refl _) hB) ⟨g, 0, cur.size, 1⟩
    have henc : encs (Value.int k) ns = nums k ns := rfl
    have hnid : mget M nx = none := by
      cases hm : mget M nx with
      | none => rfl
      | some B => obtain ⟨l, hl, _⟩ := h.blk nx B hm; rw [h.fresh nx (Nat.le_refl _) hB] at hl; cases hl
    have hold : ∀ j B l, mget M j = some B → put e nx ⟨g, 0, cur.size, 1⟩ j = some l → j ≠ nx ∧ e j = some l ∧ l.blk < w.heap.size := by
      intro j B l hj hl
      have hji : j ≠ nx := by rintro rfl; rw [hnid] at hj; cases hj
      rw [put_other hji] at hl
      obtain ⟨l', hl', hr⟩ := h.blk j B hj
      obtain rfl : l = l' := by rw [hl] at hl'; exact Option.some.inj hl'
      exact ⟨hji, hl, hr.lt⟩
    refine ⟨_, hx, .slice nx 0 ns.length (OPEN + 1) _ cap _ (put_same ..) (.inl rfl) hnc (.inr (Nat.le_add_right _ _)) (fun _ _ => ?_), { os := hM'.os, tape := hM'.tape, output := hM'.output, size := hM'.size, frame := hM'.frame, low := Nat.le_trans h.low (Nat.le_succ _), base := fun j hj => ?_, fresh := fun j hj hj2 => ?_, blk := fun j B hj => ?_, own := fun j B l hj hl hro => ?_, inj := fun j j' B B' l l' hj hj' hl hl' hro heq => ?_ }⟩
    · simp only [Nat.zero_add, Nat.add_sub_cancel_left, hsz]; omega
    · rw [put_other (by have := h.low; omega)]; exact h.base j hj
    · rw [put_other (by omega)]; exact h.fresh j (by omega) hj2
    · rw [mget_cons] at hj
      split at hj
      · rename_i hjn
        subst hjn
        obtain rfl := Option.some.inj hj
        refine ⟨_, put_same .., ⟨cur, (0, 0), hh, by simp, rfl, by simp only [nums_length]; omega, fun i u hu => ?_, fun _ => .inl rfl⟩⟩
        simp only at hu
        have hi : i < ns.length := by have := (List.getElem?_eq_some_iff.1 hu).1; rwa [nums_length] at this
        refine ⟨u, ?_, .flat _ ?_⟩
        · rw [henc] at htake
          rw [← htake, List.getElem?_take, if_pos (by omega)] at hu
          simpa using hu
        · simp only [nums, List.getElem?_map] at hu
          obtain ⟨n, _, rfl⟩ := Option.map_eq_some_iff.1 hu
          rfl
      · obtain ⟨l, hl, hr⟩ := hM'.blk j B hj
        exact ⟨l, hx j l hl, hr.mono hx rfl⟩
    · rw [mget_cons] at hj
      split at hj
      · rename_i hjn
        subst hjn
        rw [put_same] at hl
        obtain rfl := Option.some.inj hl
        right
        have := h.size
        simp only
        omega
      · obtain ⟨_, h1, _⟩ := hold j B l hj hl
        exact h.own j B l hj h1 hro
    · rw [mget_cons] at hj hj'
      split at hj
      · rename_i hjn
        subst hjn
        rw [put_same] at hl
        obtain rfl := Option.some.inj hl
        split at hj'
        · rename_i hjn'; exact hjn'
        · have := (hold j' B' l' hj' hl').2.2
          simp only at heq
          omega
      · have h1 := hold j B l hj hl
        split at hj'
        · rename_i hjn'
          subst hjn'
          rw [put_same] at hl'
          obtain rfl := Option.some.inj hl'
          simp only at heq
          omega
        · exact h.inj j j' B B' l l' hj hj' h1.2.1 (hold j' B' l' hj' hl').2.1 hro heq
end
end Go.Proofs.Ytlpoolcdoecodaa.Eng
