/-
  THE ENGINE: a verified abstract run of the program. No statement of the program is proved here.
-/
import Derived.Test.YtlpoolcdoecodaaEngP2
import Derived.Scope
set_option linter.unusedVariables false
set_option linter.unusedSimpArgs false
/- Part Eng12. -/
namespace Go.Proofs.Ytlpoolcdoecodaa.Eng
open Go.RowKit

structure IOper where
  dst : Option Nat
  op : IOp
  guard : Option (Option Nat × Bool)

/-- Calls: of functions with a body; of functions without one, whose answers look at no memory. -/
structure CallF where
  app : Nat → List Value → Mem → Nat → Option (Value × Mem × Nat)
  xt : Nat → List Value → Option Value
abbrev XSt := List Value × Mem × Nat

def wantedT (T : List Value) : Option (Option Nat × Bool) → Option Bool
  | none => some true
  | some (none, _) => some false
  | some (some t, want) => match tget T t with
    | .bool b => some (b == want)
    | .tuple xs => if xs.isEmpty then some false else none
    | _ => none
/-- One operation, a call or none. -/
def aopC (P : Program) (callf : CallF) (i : IOp) (T : List Value) (M : Mem) (nx : Nat) : Option (Value × Mem × Nat) :=
  match i with
  | .call f args => match evalT T f with
    | .func (.func g) fst cap => match callf.xt g (fst.toList ++ args.map (evalT T) ++ cap.toList) with
      | some v => if (fst.toList ++ args.map (evalT T) ++ cap.toList).all flat && cflat v then some (v, M, nx) else none
      | none => callf.app g (fst.toList ++ args.map (evalT T) ++ cap.toList) M nx
    | _ => none
  | i => aop P i T M nx
def exOper (P : Program) (callf : CallF) (o : IOper) (s : XSt) : Option XSt :=
  match wantedT s.1 o.guard with
  | some true => match aopC P callf o.op s.1 s.2.1 s.2.2 with
    | some (v, M', nx') => some (tput s.1 o.dst v, M', nx')
    | none => none
  | some false => some (tput s.1 o.dst undef, s.2)
  | none => none
def exOps (P : Program) (callf : CallF) : List IOper → XSt → Option XSt
  | [], s => some s
  | o :: r, s => match exOper P callf o s with
    | some s' => exOps P callf r s'
    | none => none

/-- How an operation stands to the plain one. -/
structure IsOper (P : Program) (ops : Array Oper) (o : Oper) (io : IOper) : Prop where
  dst : io.dst = o.dst
  op : comp P o = some io.op ∨ io.op = .fail
  guard : io.guard = o.guard.map fun g => ((ops[g.1]?).bind (·.dst), g.2)
def compOper (P : Program) (ops : Array Oper) (o : Oper) : Option IOper :=
  some ⟨o.dst, (comp P o).getD .fail, o.guard.map fun g => ((ops[g.1]?).bind (·.dst), g.2)⟩
theorem compOper_sound {P : Program} {ops : Array Oper} {o : Oper} {io : IOper} (h : compOper P ops o = some io) : IsOper P ops o io := by
  obtain rfl := Option.some.inj h
  refine ⟨rfl, ?_, rfl⟩
  cases hc : comp P o with
  | none => exact .inr rfl
  | some i => exact .inl rfl
def compOps (P : Program) (ops : Array Oper) : List Oper → Option (List IOper)
  | [] => some []
  | o :: r => match compOper P ops o, compOps P ops r with
    | some io, some l => some (io :: l)
    | _, _ => none

/-- A state of the abstract run, and the model's. -/
structure SimS (w0 : World) (W : Fr) (e : Env) (s : XSt) (a : Act) (w : World) : Prop where
  tr : TR e s.1 a.tmps
  defers : a.defers = []
  ms : MS w0 W e s.2.2 s.2.1 w

/-- What is asked of calls. -/
structure CallOK (P : Program) (callf : CallF) : Prop where
  out : ∀ (f : Nat) (args : List Value) (M : Mem) (nx : Nat) (v : Value) (M' : Mem) (nx' : Nat), callf.app f args M nx = some (v, M', nx') →
    nx ≤ nx' ∧ (∃ fn, P.funcs[f]? = some fn ∧ (fn.name == "runtime.NumGoroutine") = false ∧ fn.body.isSome = true) ∧
    ∀ (w0 : World) (W : Fr) (e : Env) (w : World) (args' : List Value), nx' ≤ W.top → VRs e args args' → MS w0 W e nx M w →
      Calls P f args'.toArray w fun en w' => ∃ v' e', en = .returned v' ∧ Ext e e' ∧ VR e' v v' ∧ MS w0 W e' nx' M' w'
  ext : ∀ (f : Nat) (args : List Value) (v : Value), callf.xt f args = some v → args.all flat = true → ∀ w, (callFunc f args.toArray).run P w = .ok (.value v) w

section
variable {P : Program} {ops : Array Oper} {Q : Exit → Act → World → Prop} {w0 : World} {W : Fr}

theorem VRs.map_eval {e : Env} {T : List Value} {a : Act} (hT : TR e T a.tmps) : ∀ (l : List Operand), VRs e (l.map (evalT T)) (l.map a.eval)
  | [] => .nil
  | x :: l => .cons _ _ _ _ (evalT_sound hT x) (VRs.map_eval hT l)

theorem wantedT_sound {e : Env} {T : List Value} {a : Act} (hT : TR e T a.tmps) {o : Oper} {b : Bool} (h : wantedT T (o.guard.map fun g => ((ops[g.1]?).bind (·.dst), g.2)) = some b) : Region.wanted o (yielded ops a.tmps) = b := by
  unfold Region.wanted
  cases hg : o.guard with
  | none => simp [hg, wantedT] at h; exact h.symm
  | some g =>
    obtain ⟨j, want⟩ := g
    simp only [hg, Option.map_some] at h
    simp only [yielded]
    cases hd : (ops[j]?).bind (·.dst) with
    | none => simp [hd, wantedT] at h; simpa using h
    | some t =>
      simp only [hd, wantedT] at h
      have hv := evalT_sound hT (.tmp t)
      simp only [evalT, Act.eval] at hv
      split at h
      · rename_i b' hb
        rw [hb] at hv
        have := hv.bool
        have ht : a.tmps[t]? = some (.bool b') := by
          rw [Array.getD_eq_getD_getElem?] at this
          cases hx : a.tmps[t]? with
          | none => rw [hx] at this; simp [undef] at this
          | some u => rw [hx] at this; simpa using this
        simp [ht]
        simpa using h
      · rename_i xs hb
        split at h
        · rename_i hxs
          have hxs' : xs = #[] := by simpa using hxs
          subst hxs'
          rw [hb] at hv
          obtain ⟨ys, hy, hs⟩ := hv.tuple_inv
          have hys : ys = [] := by cases hs; rfl
          subst hys
          have ht : a.tmps[t]? = none ∨ a.tmps[t]? = some (.tuple #[]) := by
            rw [Array.getD_eq_getD_getElem?] at hy
            cases hx : a.tmps[t]? with
            | none => exact .inl rfl
            | some u => rw [hx] at hy; right; simpa using hy
          rcases ht with ht | ht <;> simp [ht] <;> simpa using h
        · cases h
      · cases h

theorem comp_call {o : Oper} {f : Operand} {args : List Operand} (h : comp P o = some (.call f args)) : ∃ c : Call, o.op = .call c ∧ c.args.toList = args ∧ c.callee = .value f := by
  unfold comp at h
  split at h
  all_goals first
    | (rename_i ho; simp only [Option.some.injEq, IOp.call.injEq] at h; obtain ⟨rfl, rfl⟩ := h; exact ⟨_, ho, rfl, rfl⟩)
    | (simp at h; done)
    | (split at h <;> first | (simp at h; done) | (split at h <;> first | (simp at h; done) | (split at h <;> first | (simp at h; done) | (split at h <;> first | (simp at h; done) | (split at h <;> first | (simp at h; done) | (split at h <;> simp at h))))))
/-- A step of the abstract run is one of the model's. -/
theorem aopC_mono {callf : CallF} (hcall : CallOK P callf) {i : IOp} {T : List Value} {M : Mem} {nx : Nat} {v : Value} {M' : Mem} {nx' : Nat} (h : aopC P callf i T M nx = some (v, M', nx')) : nx ≤ nx' := by
  cases i
  case call f args =>
    simp only [aopC] at h
    split at h
    · split at h
      · split at h
        · simp only [Option.some.injEq, Prod.mk.injEq] at h; omega
        · cases h
      · exact (hcall.out _ _ _ _ _ _ _ h).1
    · cases h
  all_goals (simp only [aopC] at h; exact aop_mono h)
theorem exOper_mono {callf : CallF} (hcall : CallOK P callf) {io : IOper} {s s' : XSt} (h : exOper P callf io s = some s') : s.2.2 ≤ s'.2.2 := by
  unfold exOper at h
  split at h
  · split at h
    · rename_i v M' nx' hop
      obtain rfl := Option.some.inj h
      exact aopC_mono hcall hop
    · cases h
  · obtain rfl := Option.some.inj h
    exact Nat.le_refl _
  · cases h
theorem exOps_mono {callf : CallF} (hcall : CallOK P callf) : ∀ (il : List IOper) {s s' : XSt}, exOps P callf il s = some s' → s.2.2 ≤ s'.2.2
  | [], s, s', h => by simp only [exOps] at h; obtain rfl := Option.some.inj h; exact Nat.le_refl _
  | io :: il, s, s', h => by
    simp only [exOps] at h
    split at h
    · rename_i s1 h1
      exact Nat.le_trans (exOper_mono hcall h1) (exOps_mono hcall il h)
    · cases h
theorem exOper_sound {callf : CallF} (hcall : CallOK P callf) {o : Oper} {io : IOper} (hio : IsOper P ops o io) {e : Env} {s s' : XSt} {a : Act} {w : World} (hs : SimS w0 W e s a w) (hB : s'.2.2 ≤ W.top) (h : exOper P callf io s = some s') {K : Act → World → Prop}
    (hK : ∀ e' a' w', Ext e e' → SimS w0 W e' s' a' w' → K a' w') : (if Region.wanted o (yielded ops a.tmps) then o.wp P a w K Q else K (a.put o.dst undef) w) := by
  obtain ⟨T, M, nx⟩ := s
  unfold exOper at h
  simp only at h
  rw [hio.guard] at h
  split at h
  · rename_i hw
    rw [wantedT_sound hs.tr hw, if_pos rfl]
    split at h
    · rename_i v M' nx' hop
      obtain rfl := Option.some.inj h
      have hdoes : ∀ {v M' nx'}, nx' ≤ W.top → aop P io.op T M nx = some (v, M', nx') → (∀ e' a' w', Ext e e' → SimS w0 W e' (tput T io.dst v, M', nx') a' w' → K a' w') → o.wp P a w K Q := by
        intro v M' nx' hB hop hK
        have hcmp : comp P o = some io.op := hio.op.resolve_right (fun hf => by rw [hf] at hop; cases hop)
        obtain ⟨⟨v', w', e', hr, he, hv, hM⟩, _⟩ := aop_sound hs.tr hs.ms hcmp hB hop
        have hfin : K (a.put o.dst v') w' := hK e' _ w' he ⟨by rw [hio.dst]; exact (hs.tr.mono he).put o.dst hv, by cases hd : o.dst <;> simp [Act.put, hd, hs.defers], hM⟩
        unfold Oper.wp
        rcases hr.out with hr' | ⟨hr', rfl⟩
        · rw [hr']; exact hfin
        · rw [hr']; exact hfin
      cases hop' : io.op
      case call f args =>
        rw [hop'] at hop
        simp only [aopC] at hop
        split at hop
        · rename_i g fst cap hf
          have hcomp : comp P o = some (.call f args) := by
            rcases hio.op with h | h
            · rw [h, hop']
            · rw [hop'] at h; cases h
          obtain ⟨c, hc, hca, hcf⟩ := comp_call hcomp
          have hvf := evalT_sound hs.tr f
          rw [hf] at hvf
          obtain ⟨ys, ys', hyf, hv1, hv2⟩ := hvf.func_inv
          have hargs : VRs e (fst.toList ++ args.map (evalT T) ++ cap.toList) (ys ++ c.args.toList.map a.eval ++ ys') := by
            rw [hca]
            exact VRs.append hv2 (VRs.append (VRs.map_eval hs.tr args) hv1)
          split at hop
          · rename_i v1 hxt
            split at hop
            · rename_i hfl
              simp only [Bool.and_eq_true] at hfl
              simp only [Option.some.injEq, Prod.mk.injEq] at hop
              obtain ⟨rfl, rfl, rfl⟩ := hop
              have heq := VRs.of_flats hfl.1 hargs
              have hx := hcall.ext _ _ _ hxt hfl.1 w
              have hrun : (execOp a.eval o).run P w = .ok (.value v1) w := by
                have harr : (fst.toList ++ args.map (evalT T) ++ cap.toList).toArray = ys.toArray ++ c.args.map a.eval ++ ys'.toArray := by
                  rw [← heq]
                  apply Array.ext'
                  simp
                rw [harr] at hx
                simp only [execOp, hc, resolve, hcf, Sem.run_bind, Sem.run_pure, Result.andThen_ok, Deferred.ofValue, hyf, invoke, hx]
              unfold Oper.wp
              rw [hrun]
              exact hK e _ w (Ext.refl e) ⟨by rw [hio.dst]; exact hs.tr.put o.dst (VR.cflat hfl.2), by cases hd : o.dst <;> simp [Act.put, hd, hs.defers], hs.ms⟩
            · cases hop
          obtain ⟨_, ⟨fn, hfn, hname, hbody⟩, hC⟩ := hcall.out _ _ _ _ _ _ _ hop
          have hrun : (execOp a.eval o).run P w = .ok (.enter g (ys ++ c.args.toList.map a.eval ++ ys').toArray) w := by
            have harr : (ys ++ c.args.toList.map a.eval ++ ys').toArray = ys.toArray ++ c.args.map a.eval ++ ys'.toArray := by
              apply Array.ext'
              simp
            rw [harr]
            simp only [execOp, hc, resolve, hcf, Sem.run_bind, Sem.run_pure, Result.andThen_ok, Deferred.ofValue, hyf, invoke, callFunc, run_program, hfn, hname, Bool.false_eq_true, if_false]
            have : fn.body.isNone = false := by cases hb : fn.body <;> simp_all
            simp [this]
          unfold Oper.wp
          rw [hrun]
          refine Calls.mono (hC w0 W e w _ hB hargs hs.ms) ?_
          rintro en w' ⟨v', e', rfl, he, hv, hM⟩
          exact hK e' _ w' he ⟨by rw [hio.dst]; exact (hs.tr.mono he).put o.dst hv, by cases hd : o.dst <;> simp [Act.put, hd, hs.defers], hM⟩
        · cases hop
      all_goals
        rw [hop'] at hop
        simp only [aopC] at hop
        exact hdoes hB (by rw [hop']; exact hop) hK
    · cases h
  · rename_i hw
    obtain rfl := Option.some.inj h
    rw [wantedT_sound hs.tr hw]
    simp only [Bool.false_eq_true, if_false]
    exact hK e _ w (Ext.refl e) ⟨by rw [hio.dst]; exact hs.tr.put o.dst (.tuple [] [] .nil), by cases hd : o.dst <;> simp [Act.put, hd, hs.defers], hs.ms⟩
  · cases h

theorem exOps_sound {callf : CallF} (hcall : CallOK P callf) : ∀ (l : List Oper) {il : List IOper}, compOps P ops l = some il → ∀ {e : Env} {s s' : XSt} {a : Act} {w : World}, SimS w0 W e s a w → s'.2.2 ≤ W.top → exOps P callf il s = some s' →
    ∀ (Q : Exit → Act → World → Prop), (∀ e' a' w', Ext e e' → SimS w0 W e' s' a' w' → Q .normal a' w') → wpList P ops Q l a w
  | [], il, hc, e, s, s', a, w, hs, hB, h, Q, hQ => by
    simp [compOps] at hc; subst hc
    simp only [exOps] at h
    obtain rfl := Option.some.inj h
    exact hQ e a w (Ext.refl e) hs
  | o :: l, il, hc, e, s, s', a, w, hs, hB, h, Q, hQ => by
    simp only [compOps] at hc
    split at hc
    · rename_i io l' h1 h2
      obtain rfl := Option.some.inj hc
      simp only [exOps] at h
      split at h
      · rename_i s1 hs1
        have := exOper_sound (Q := Q) hcall (compOper_sound h1) hs (Nat.le_trans (exOps_mono hcall _ h) hB) hs1 (K := wpList P ops Q l) (fun e' a' w' he' hs' => exOps_sound hcall l h2 hs' hB h Q fun e2 a2 w2 he2 hs2 => hQ e2 a2 w2 (he'.trans he2) hs2)
        unfold wpList
        split
        · rename_i hw
          rw [if_pos hw] at this
          exact .inl this
        · rename_i hw
          rw [if_neg hw] at this
          exact this
      · cases h
    · cases hc
end
end Go.Proofs.Ytlpoolcdoecodaa.Eng

/- Part EngK. -/
namespace Go.Proofs.Ytlpoolcdoecodaa.Eng
open Go.RowKit

/-- n: no memory. a: a new block. r: memory is read. x: any. -/
inductive IK where
  | n | a | r | x
  deriving DecidableEq
def kindOf : IOp → IK
  | .new .. | .box .. | .buildSlice .. | .makeSlice .. | .toBytes .. => .a
  | .load1 .. | .loadA .. | .toStr .. => .r
  | .store .. | .copy .. | .append .. | .appendZ .. | .mark .. | .call .. => .x
  | _ => .n
def iopOperands : IOp → List Operand
  | .move x | .extract x _ | .box _ x | .load1 x | .loadA _ x | .nilCheck x | .fieldAddr _ x | .cap x | .toStr x | .toBytes _ x | .part _ _ _ x | .toArr _ x => [x]
  | .pure o => o.op.operands.toList
  | .pick c x y => [c, x, y]
  | .new .. | .lenN _ => []
  | .store _ x y | .indexArr _ _ x y | .indexSlice _ x y | .makeSlice _ _ _ _ x y | .copy _ x y | .append _ _ _ x y | .appendZ _ _ _ _ x y | .indexAgg _ _ _ x y => [x, y]
  | .slice o _ x lo hi mx => o.op.operands.toList ++ [x] ++ lo.toList ++ hi.toList ++ mx.toList
  | .sliceArr _ x hi => x :: hi.toList
  | .build _ ps => ps.map (·.2.2)
  | .buildSlice _ _ _ _ ps => ps.map (·.2.2)
  | .len o x => x :: o.op.operands.toList
  | .nilEq o _ _ x y => x :: y :: o.op.operands.toList
  | .ibin _ x y => [x, y]
  | .iconv _ x => [x]
  | .mark x => [x]
  | .fail => []
  | .call f args => f :: args
def opTmps (l : List Operand) : List Nat := l.filterMap fun | .tmp t => some t | _ => none
/-- The slots that an operation looks at. -/
def looks (io : IOper) : List Nat := opTmps (iopOperands io.op) ++ (match io.guard with | some (some t, _) => [t] | _ => [])

section
variable {P : Program} {T T' : List Value} {M M' : Mem} {nx nx' : Nat} {v : Value} {i : IOp}

theorem evalT_agree {x : Operand} {l : List Operand} (hx : x ∈ l) (h : ∀ t ∈ opTmps l, tget T t = tget T' t) : evalT T x = evalT T' x := by
  cases x with
  | tmp t => exact h t (List.mem_filterMap.2 ⟨.tmp t, hx, rfl⟩)
  | _ => rfl
theorem apure_congr {o : Oper} (h : ∀ x ∈ o.op.operands.toList, evalT T x = evalT T' x) : apure P o T = apure P o T' := by
  unfold apure
  by_cases hp : pureOp o.op = true
  · have h1 : o.op.operands.toList.all (fun x => flat (evalT T x)) = o.op.operands.toList.all (fun x => flat (evalT T' x)) := by
      rw [Bool.eq_iff_iff, List.all_eq_true, List.all_eq_true]
      constructor <;> intro hh x hx
      · rw [← h x hx]; exact hh x hx
      · rw [h x hx]; exact hh x hx
    have h2 : execOp (evalT T) o = execOp (evalT T') o := execOp_congr o (pureOp_sound hp) fun x hx => h x (by simpa using hx)
    rw [h1, h2]
  · simp [hp]
theorem partsI_congr {ps : List (Nat × Nat × Operand)} (h : ∀ x ∈ ps.map (·.2.2), evalT T x = evalT T' x) : partsI T ps = partsI T' ps := by
  unfold partsI
  refine List.map_congr_left fun p hp => ?_
  rw [h p.2.2 (List.mem_map.2 ⟨p, hp, rfl⟩)]
theorem opt_congr {y : Option Operand} (h : ∀ x ∈ y.toList, evalT T x = evalT T' x) : y.map (evalT T) = y.map (evalT T') := by
  cases y with
  | none => rfl
  | some y => simp [h y (by simp)]
theorem aopC_congr {callf : CallF} (h : ∀ x ∈ iopOperands i, evalT T x = evalT T' x) : aopC P callf i T M nx = aopC P callf i T' M nx := by
  cases i <;> simp only [iopOperands] at h <;> simp only [aopC, aop]
  case pure o => rw [apure_congr h]
  case slice o sz x lo hi mx =>
    rw [h x (by simp), opt_congr (y := lo) (fun z hz => h z (by simp [hz])), opt_congr (y := hi) (fun z hz => h z (by simp [hz])), opt_congr (y := mx) (fun z hz => h z (by simp [hz])), apure_congr (fun z hz => h z (by simp only [List.mem_append]; exact .inl (.inl (.inl (.inl hz)))))]
  case sliceArr n x hi => rw [h x (by simp), opt_congr (y := hi) (fun z hz => h z (by simp [hz]))]
  case build zs ps => rw [partsI_congr h]
  case buildSlice el sz len cells ps => rw [partsI_congr h]
  case len o x => rw [h x (by simp), apure_congr (fun z hz => h z (List.mem_cons_of_mem _ hz))]
  case nilEq o eql d x y => rw [h x (by simp), h y (by simp), apure_congr (fun z hz => h z (List.mem_cons_of_mem _ (List.mem_cons_of_mem _ hz)))]
  case call f args =>
    rw [h f (by simp), List.map_congr_left (l := args) fun x hx => h x (List.mem_cons_of_mem _ hx)]
  case move x => rw [h x (by simp)]
  case extract x k => rw [h x (by simp)]
  case box t x => rw [h x (by simp)]
  case load1 x => rw [h x (by simp)]
  case loadA n x => rw [h x (by simp)]
  case nilCheck x => rw [h x (by simp)]
  case fieldAddr f x => rw [h x (by simp)]
  case cap x => rw [h x (by simp)]
  case toStr x => rw [h x (by simp)]
  case toBytes el x => rw [h x (by simp)]
  case part ag sz off x => rw [h x (by simp)]
  case toArr m x => rw [h x (by simp)]
  case pick c x y => rw [h c (by simp), h x (by simp), h y (by simp)]
  case mark x => rw [h x (by simp)]
  case ibin op x y => rw [h x (by simp), h y (by simp)]
  case iconv k x => rw [h x (by simp)]
  case store n x y => rw [h x (by simp), h y (by simp)]
  case indexArr n sz x y => rw [h x (by simp), h y (by simp)]
  case indexSlice sz x y => rw [h x (by simp), h y (by simp)]
  case makeSlice el sz b zs x y => rw [h x (by simp), h y (by simp)]
  case copy sz x y => rw [h x (by simp), h y (by simp)]
  case append el sz b x y => rw [h x (by simp), h y (by simp)]
  case appendZ el sz b zs x y => rw [h x (by simp), h y (by simp)]
  case indexAgg ag sz n x y => rw [h x (by simp), h y (by simp)]

/-- A new block, or none: the rest of the memory does not matter. -/
theorem kind_na (hk : kindOf i = .n ∨ kindOf i = .a) (h : aop P i T M nx = some (v, M', nx')) :
    ∃ news : Mem, M' = news ++ M ∧ (news = [] ∨ kindOf i = .a ∧ nx' = nx + 1 ∧ ∃ B, news = [(nx, B)]) ∧ ∀ M2, aop P i T M2 nx = some (v, news ++ M2, nx') := by
  cases i <;> simp only [kindOf, reduceCtorEq, or_self, or_false, or_true] at hk <;> simp only [aop] at h ⊢ <;> (repeat' (first | (cases h; done) | (split at h))) <;>
    first
      | (simp only [Option.some.injEq, Prod.mk.injEq] at h; obtain ⟨rfl, rfl, rfl⟩ := h; first | exact ⟨[], rfl, .inl rfl, fun M2 => by simp_all⟩ | exact ⟨[(_, _)], rfl, .inr ⟨rfl, rfl, _, rfl⟩, fun M2 => by simp_all⟩)
      | (cases hq : inR _ _ <;> rw [hq] at h <;> first | (cases h; done) | (simp only [cond_true, Option.some.injEq, Prod.mk.injEq] at h; obtain ⟨rfl, rfl, rfl⟩ := h; exact ⟨[], rfl, .inl rfl, fun M2 => by simp_all⟩))
      | (obtain ⟨u, h1, h2⟩ := Option.map_eq_some_iff.1 h; simp only [Prod.mk.injEq] at h2; obtain ⟨rfl, rfl, rfl⟩ := h2; first | exact ⟨[], rfl, .inl rfl, fun M2 => by simp_all⟩ | exact ⟨[(_, _)], rfl, .inr ⟨rfl, rfl, _, rfl⟩, fun M2 => by simp_all⟩)
/-- More memory. -/
def MLe (M M2 : Mem) : Prop := ∀ id B, mget M id = some B → mget M2 id = some B
theorem srcCells_mono {M2 : Mem} (hm : MLe M M2) {sz n : Nat} {u : Value} {cs : List Value} (h : srcCells M sz n u = some cs) : srcCells M2 sz n u = some cs := by
  unfold srcCells at h ⊢
  split at h
  · exact h
  · split at h
    · rename_i hc; simp only [hc]; exact h
    · rename_i hc
      rw [if_neg hc]
      split at h
      · rename_i hn
        rw [if_pos hn]
        split at h
        · rename_i B hb
          simp only [hm _ _ hb]
          exact h
        · cases h
      · cases h
  · exact h
  · cases h
theorem kind_r (hk : kindOf i = .r) (h : aop P i T M nx = some (v, M', nx')) : M' = M ∧ nx' = nx ∧ ∀ M2, MLe M M2 → aop P i T M2 nx = some (v, M2, nx) := by
  cases i <;> simp only [kindOf, reduceCtorEq] at hk <;> simp only [aop] at h ⊢
  case load1 x =>
    split at h
    · rename_i id off hx
      split at h
      · rename_i B hb
        obtain ⟨u, h1, h2⟩ := Option.map_eq_some_iff.1 h
        simp only [Prod.mk.injEq] at h2
        obtain ⟨rfl, rfl, rfl⟩ := h2
        exact ⟨rfl, rfl, fun M2 hm => by simp only [hm _ _ hb, h1, Option.map_some]⟩
      · cases h
    · cases h
  case loadA n x =>
    split at h
    · rename_i id off hx
      split at h
      · rename_i B hb
        split at h
        · rename_i hle
          simp only [Option.some.injEq, Prod.mk.injEq] at h
          obtain ⟨rfl, rfl, rfl⟩ := h
          exact ⟨rfl, rfl, fun M2 hm => by simp only [hm _ _ hb, if_pos hle]⟩
        · cases h
      · cases h
    · cases h
  case toStr x =>
    split at h
    · rename_i ad n c hx
      split at h
      · rename_i cs hcs
        obtain ⟨u, h1, h2⟩ := Option.map_eq_some_iff.1 h
        simp only [Prod.mk.injEq] at h2
        obtain ⟨rfl, rfl, rfl⟩ := h2
        exact ⟨rfl, rfl, fun M2 hm => by simp only [srcCells_mono hm hcs, h1, Option.map_some]⟩
      · cases h
    · cases h
end

section
variable {P : Program} {callf : CallF} {io : IOper} {T T2 : List Value} {M M2 : Mem} {nx nx2 : Nat}

theorem wantedT_congr {T' : List Value} (h : ∀ t ∈ looks io, tget T t = tget T' t) : wantedT T io.guard = wantedT T' io.guard := by
  cases hg : io.guard with
  | none => rfl
  | some g =>
    obtain ⟨t, want⟩ := g
    cases t with
    | none => rfl
    | some t => simp only [wantedT, h t (by simp [looks, hg])]
/-- A step, from any state that agrees where the operation looks. -/
theorem exOper_any (h : exOper P callf io (T, M, nx) = some (T2, M2, nx2)) : ∃ v, T2 = tput T io.dst v ∧
    ((kindOf io.op ≠ .x ∧ ∃ news : Mem, M2 = news ++ M ∧ (news = [] ∨ kindOf io.op = .a ∧ nx2 = nx + 1 ∧ ∃ B, news = [(nx, B)]) ∧ ∀ T' M', (∀ t ∈ looks io, tget T t = tget T' t) → (kindOf io.op = .r → MLe M M') → exOper P callf io (T', M', nx) = some (tput T' io.dst v, news ++ M', nx2)) ∨
     (kindOf io.op = .x ∧ ∀ T', (∀ t ∈ looks io, tget T t = tget T' t) → exOper P callf io (T', M, nx) = some (tput T' io.dst v, M2, nx2))) := by
  have hag : ∀ T', (∀ t ∈ looks io, tget T t = tget T' t) → ∀ x ∈ iopOperands io.op, evalT T x = evalT T' x := fun T' hT' x hx => evalT_agree hx fun t ht => hT' t (by simp [looks, ht])
  unfold exOper at h
  simp only at h
  split at h
  · rename_i hw
    split at h
    · rename_i v M' nx' hop
      simp only [Option.some.injEq, Prod.mk.injEq] at h
      obtain ⟨rfl, rfl, rfl⟩ := h
      refine ⟨v, rfl, ?_⟩
      by_cases hx : kindOf io.op = .x
      · right
        refine ⟨hx, fun T' hT' => ?_⟩
        simp only [exOper, ← wantedT_congr hT', hw, ← aopC_congr (hag T' hT'), hop]
      · left
        refine ⟨hx, ?_⟩
        have hnc : aopC P callf io.op T M nx = aop P io.op T M nx := by
          cases hop' : io.op <;> first | rfl | (exfalso; exact hx (by rw [hop']; rfl))
        have hnc' : ∀ T' M', aopC P callf io.op T' M' nx = aop P io.op T' M' nx := by
          intro T' M'
          cases hop' : io.op <;> first | rfl | (exfalso; exact hx (by rw [hop']; rfl))
        rw [hnc] at hop
        by_cases hr : kindOf io.op = .r
        · obtain ⟨rfl, rfl, h3⟩ := kind_r hr hop
          refine ⟨[], rfl, .inl rfl, fun T' M' hT' hM' => ?_⟩
          have := h3 M' (hM' hr)
          simp only [exOper, ← wantedT_congr hT', hw, ← aopC_congr (hag T' hT'), hnc', this, List.nil_append]
        · have hna : kindOf io.op = .n ∨ kindOf io.op = .a := by
            cases hk : kindOf io.op with
            | n => exact .inl rfl
            | a => exact .inr rfl
            | r => exact absurd hk hr
            | x => exact absurd hk hx
          obtain ⟨news, h1, h2, h3⟩ := kind_na hna hop
          refine ⟨news, h1, h2, fun T' M' hT' _ => ?_⟩
          simp only [exOper, ← wantedT_congr hT', hw, ← aopC_congr (hag T' hT'), hnc', h3 M']
    · cases h
  · rename_i hw
    simp only [Option.some.injEq, Prod.mk.injEq] at h
    obtain ⟨rfl, rfl, rfl⟩ := h
    refine ⟨undef, rfl, ?_⟩
    by_cases hx : kindOf io.op = .x
    · right
      refine ⟨hx, fun T' hT' => ?_⟩
      simp only [exOper, ← wantedT_congr hT', hw]
    · left
      refine ⟨hx, [], rfl, .inl rfl, fun T' M' hT' _ => ?_⟩
      simp only [exOper, ← wantedT_congr hT', hw, List.nil_append]
  · cases h
end
end Go.Proofs.Ytlpoolcdoecodaa.Eng

/- Part EngR. -/
namespace Go.Proofs.Ytlpoolcdoecodaa.Eng
open Go.RowKit

/-- Which operations come ahead of each one, as bits; the check of such a table. -/
def okMask (ops : Array Oper) (c : List Nat) : Bool :=
  (List.range ops.size).all fun j => match ops[j]? with
    | some o => o.after.toList.all (fun e => !Region.binds .any e || decide (e.on < j)) && c.getD j 0 == o.after.toList.foldl (fun s e => if Region.binds .any e then s ||| 2 ^ e.on ||| c.getD e.on 0 else s) 0
    | none => true
/-- May two operations go in either order? -/
def indep (bd : Bool) (x y : IOper) : Bool :=
  (match x.dst with | some d => !(looks y).contains d && y.dst != some d | none => true) && (match y.dst with | some d => !(looks x).contains d | none => true) &&
  (kindOf x.op == .n || kindOf y.op == .n || (kindOf x.op == .r && kindOf y.op == .r) || (kindOf x.op == .a && kindOf y.op == .a) || (bd && (kindOf x.op == .r || kindOf y.op == .r || (kindOf x.op == .x && kindOf y.op == .a))))
def simpleB (bd : Bool) (ops : Array Oper) (il : List IOper) : Bool :=
  let c := (Region.before ops).toList
  okMask ops c && il.length == ops.size && (List.range ops.size).all fun j => (List.range j).all fun i => (c.getD j 0).testBit i || (match il[i]?, il[j]? with
    | some x, some y => indep bd x y
    | _, _ => false)

section
variable {ops : Array Oper}

/-- Those that have been are closed. -/
def Closed (ops : Array Oper) (D : Nat → Bool) : Prop := ∀ j o e, ops[j]? = some o → D j = true → e ∈ o.after → Region.binds .any e = true → D e.on = true
theorem fold_bit (f : Nat → Nat) (i : Nat) : ∀ (l : List Edge) (s : Nat), (l.foldl (fun s e => if Region.binds .any e then s ||| 2 ^ e.on ||| f e.on else s) s).testBit i = true → s.testBit i = true ∨ ∃ e ∈ l, Region.binds .any e = true ∧ (e.on = i ∨ (f e.on).testBit i = true)
  | [], s, h => .inl h
  | e :: l, s, h => by
    rw [List.foldl_cons] at h
    rcases fold_bit f i l _ h with h1 | ⟨e', he, hb, hi⟩
    · split at h1
      · rename_i hb
        simp only [Nat.testBit_or, Bool.or_eq_true, Nat.testBit_two_pow, decide_eq_true_eq] at h1
        rcases h1 with (h1 | h1) | h1
        · exact .inl h1
        · exact .inr ⟨e, by simp, hb, .inl h1⟩
        · exact .inr ⟨e, by simp, hb, .inr h1⟩
      · exact .inl h1
    · exact .inr ⟨e', List.mem_cons_of_mem _ he, hb, hi⟩
theorem mask_row {c : List Nat} (h : okMask ops c = true) {j : Nat} {o : Oper} (ho : ops[j]? = some o) {i : Nat} (hi : (c.getD j 0).testBit i = true) : ∃ e ∈ o.after, Region.binds .any e = true ∧ e.on < j ∧ (e.on = i ∨ (c.getD e.on 0).testBit i = true) := by
  have hj : j < ops.size := (Array.getElem?_eq_some_iff.1 ho).1
  have h1 := List.all_eq_true.1 h j (List.mem_range.2 hj)
  rw [ho] at h1
  simp only [Bool.and_eq_true, beq_iff_eq] at h1
  rw [h1.2] at hi
  rcases fold_bit (fun k => c.getD k 0) i _ _ hi with h2 | ⟨e, he, hb, h3⟩
  · simp at h2
  · have h4 := List.all_eq_true.1 h1.1 e he
    simp only [hb, Bool.not_true, Bool.false_or, decide_eq_true_eq] at h4
    exact ⟨e, by simpa using he, hb, h4, h3⟩
theorem mask_closed {c : List Nat} (h : okMask ops c = true) {D : Nat → Bool} (hD : Closed ops D) (hn : ∀ j, D j = true → j < ops.size) : ∀ (j : Nat), D j = true → ∀ i, (c.getD j 0).testBit i = true → D i = true := by
  intro j
  induction j using Nat.strongRecOn with
  | _ j ih =>
    intro hj i hi
    obtain ⟨o, ho⟩ : ∃ o, ops[j]? = some o := ⟨ops[j]'(hn j hj), Array.getElem?_eq_getElem _⟩
    obtain ⟨e, he, hb, hlt, h2⟩ := mask_row h ho hi
    have hk := hD j o e ho hj he hb
    rcases h2 with rfl | h2
    · exact hk
    · exact ih e.on hlt hk i h2
theorem mask_ready {c : List Nat} (h : okMask ops c = true) {D : Nat → Bool} (hD : Closed ops D) (hn : ∀ j, D j = true → j < ops.size) {j : Nat} {o : Oper} (ho : ops[j]? = some o) (hr : ∀ e ∈ o.after, Region.binds .any e = true → D e.on = true) {i : Nat} (hi : (c.getD j 0).testBit i = true) : D i = true := by
  obtain ⟨e, he, hb, hlt, h2⟩ := mask_row h ho hi
  have hk := hr e he hb
  rcases h2 with rfl | h2
  · exact hk
  · exact mask_closed h hD hn e.on hk i h2
end

/-- The slots behind those that have been. -/
def TD (dst : Nat → Option Nat) (v : Nat → Value) (T0 : List Value) (D : Nat → Bool) : Nat → List Value
  | 0 => T0
  | k + 1 => if D k then tput (TD dst v T0 D k) (dst k) (v k) else TD dst v T0 D k
/-- The memory behind those that have been. -/
def mD (U : Nat → (Nat → Option Blk) → Nat → Option Blk) (m0 : Nat → Option Blk) (D : Nat → Bool) : Nat → Nat → Option Blk
  | 0 => m0
  | k + 1 => if D k then U k (mD U m0 D k) else mD U m0 D k
def plus (D : Nat → Bool) (i : Nat) : Nat → Bool := fun j => j == i || D j

section
variable {dst : Nat → Option Nat} {v : Nat → Value} {T0 : List Value} {U : Nat → (Nat → Option Blk) → Nat → Option Blk} {m0 : Nat → Option Blk} {D : Nat → Bool}

theorem tget_tput_ne {T : List Value} {d : Option Nat} {u : Value} {t : Nat} (h : d ≠ some t) : tget (tput T d u) t = tget T t := by
  cases d with
  | none => rfl
  | some d =>
    have hd : d ≠ t := fun hh => h (by rw [hh])
    simp only [tget_eq, tput, List.getElem?_set_ne hd]
theorem tput_comm {T : List Value} {x y : Option Nat} {u w : Value} (h : ∀ d, x = some d → y ≠ some d) : tput (tput T x u) y w = tput (tput T y w) x u := by
  cases x with
  | none => rfl
  | some d =>
    cases y with
    | none => rfl
    | some e =>
      have hne : d ≠ e := fun he => h d rfl (by rw [he])
      exact List.set_comm _ _ hne
theorem tput_length {T : List Value} {d : Option Nat} {u : Value} : (tput T d u).length = T.length := by
  cases d <;> simp [tput]
theorem TD_length (D : Nat → Bool) : ∀ k, (TD dst v T0 D k).length = T0.length
  | 0 => rfl
  | k + 1 => by
    simp only [TD]
    split
    · rw [tput_length, TD_length D k]
    · exact TD_length D k
theorem TD_agree (n i : Nat) (hin : i ≤ n) (t : Nat) (h1 : ∀ j, j < i → dst j = some t → D j = true) (h2 : ∀ j, i ≤ j → j < n → D j = true → dst j ≠ some t) : tget (TD dst v T0 D n) t = tget (TD dst v T0 (fun _ => true) i) t := by
  have a : ∀ k, k ≤ i → tget (TD dst v T0 D k) t = tget (TD dst v T0 (fun _ => true) k) t := by
    intro k
    induction k with
    | zero => intro _; rfl
    | succ k ih =>
      intro hk
      have ih' := ih (by omega)
      simp only [TD, if_true]
      by_cases hd : dst k = some t
      · rw [if_pos (h1 k (by omega) hd), hd]
        simp only [tget_eq, tput, List.getElem?_set, if_true, TD_length]
      · rw [tget_tput_ne hd]
        split
        · rw [tget_tput_ne hd, ih']
        · exact ih'
  have b : ∀ d, i + d ≤ n → tget (TD dst v T0 D (i + d)) t = tget (TD dst v T0 D i) t := by
    intro d
    induction d with
    | zero => intro _; rfl
    | succ d ih =>
      intro hk
      show tget (TD dst v T0 D (i + d + 1)) t = _
      simp only [TD]
      split
      · rename_i hd
        rw [tget_tput_ne (h2 (i + d) (by omega) (by omega) hd), ih (by omega)]
      · exact ih (by omega)
  have := b (n - i) (by omega)
  rw [show i + (n - i) = n by omega] at this
  rw [this, a i (Nat.le_refl _)]
theorem TD_below {D' : Nat → Bool} : ∀ k, (∀ j, j < k → D j = D' j) → TD dst v T0 D k = TD dst v T0 D' k
  | 0, _ => rfl
  | k + 1, h => by
    simp only [TD, h k (by omega), TD_below k fun j hj => h j (by omega)]
theorem mD_below {D' : Nat → Bool} : ∀ k, (∀ j, j < k → D j = D' j) → mD U m0 D k = mD U m0 D' k
  | 0, _ => rfl
  | k + 1, h => by
    simp only [mD, h k (by omega), mD_below k fun j hj => h j (by omega)]
theorem TD_plus {n i : Nat} (hin : i < n) (hi : D i = false) (h : ∀ j, i < j → j < n → D j = true → ∀ d, dst i = some d → dst j ≠ some d) : TD dst v T0 (plus D i) n = tput (TD dst v T0 D n) (dst i) (v i) := by
  have b : ∀ d, i + 1 + d ≤ n → TD dst v T0 (plus D i) (i + 1 + d) = tput (TD dst v T0 D (i + 1 + d)) (dst i) (v i) := by
    intro d
    induction d with
    | zero =>
      intro _
      show TD dst v T0 (plus D i) (i + 1) = tput (TD dst v T0 D (i + 1)) (dst i) (v i)
      have hp : plus D i i = true := by simp [plus]
      simp only [TD, hp, if_true, hi, Bool.false_eq_true, if_false]
      rw [TD_below (D' := D) i fun j hj => by have : j ≠ i := by omega
                                              simp [plus, this]]
    | succ d ih =>
      intro hk
      have ih' := ih (by omega)
      show TD dst v T0 (plus D i) (i + 1 + d + 1) = tput (TD dst v T0 D (i + 1 + d + 1)) (dst i) (v i)
      have hp : plus D i (i + 1 + d) = D (i + 1 + d) := by
        have : i + 1 + d ≠ i := by omega
        simp [plus, this]
      simp only [TD, hp, ih']
      split
      · rename_i hd
        exact tput_comm (h (i + 1 + d) (by omega) (by omega) hd)
      · rfl
  have := b (n - (i + 1)) (by omega)
  rwa [show i + 1 + (n - (i + 1)) = n by omega] at this
theorem mD_plus {n i : Nat} (hin : i < n) (hi : D i = false) (h : ∀ j, i < j → j < n → D j = true → ∀ m, U j (U i m) = U i (U j m)) : mD U m0 (plus D i) n = U i (mD U m0 D n) := by
  have b : ∀ d, i + 1 + d ≤ n → mD U m0 (plus D i) (i + 1 + d) = U i (mD U m0 D (i + 1 + d)) := by
    intro d
    induction d with
    | zero =>
      intro _
      show mD U m0 (plus D i) (i + 1) = U i (mD U m0 D (i + 1))
      have hp : plus D i i = true := by simp [plus]
      simp only [mD, hp, if_true, hi, Bool.false_eq_true, if_false]
      rw [mD_below (D' := D) i fun j hj => by have : j ≠ i := by omega
                                              simp [plus, this]]
    | succ d ih =>
      intro hk
      have ih' := ih (by omega)
      show mD U m0 (plus D i) (i + 1 + d + 1) = U i (mD U m0 D (i + 1 + d + 1))
      have hp : plus D i (i + 1 + d) = D (i + 1 + d) := by
        have : i + 1 + d ≠ i := by omega
        simp [plus, this]
      simp only [mD, hp, ih']
      split
      · rename_i hd
        exact h (i + 1 + d) (by omega) (by omega) hd _
      · rfl
  have := b (n - (i + 1)) (by omega)
  rwa [show i + 1 + (n - (i + 1)) = n by omega] at this
/-- Where those that have been and have an effect are just those ahead. -/
theorem mD_agree (n i : Nat) (hin : i ≤ n) (id : Nat) (h1 : ∀ j, j < i → D j = true ∨ ∀ m, U j m = m) (h2 : ∀ j, i ≤ j → j < n → D j = true → ∀ m, U j m id = m id) : mD U m0 D n id = mD U m0 (fun _ => true) i id := by
  have a : ∀ k, k ≤ i → mD U m0 D k = mD U m0 (fun _ => true) k := by
    intro k
    induction k with
    | zero => intro _; rfl
    | succ k ih =>
      intro hk
      simp only [mD, if_true, ih (by omega)]
      rcases h1 k (by omega) with h | h
      · rw [if_pos h]
      · split
        · rfl
        · exact (h _).symm
  have b : ∀ d, i + d ≤ n → mD U m0 D (i + d) id = mD U m0 D i id := by
    intro d
    induction d with
    | zero => intro _; rfl
    | succ d ih =>
      intro hk
      show mD U m0 D (i + d + 1) id = _
      simp only [mD]
      split
      · rename_i hd
        rw [h2 (i + d) (by omega) (by omega) hd, ih (by omega)]
      · exact ih (by omega)
  have := b (n - i) (by omega)
  rw [show i + (n - i) = n by omega] at this
  rw [this, a i (Nat.le_refl _)]
end

/-- The states of a run, one behind the other. -/
def states (P : Program) (callf : CallF) (il : List IOper) (s : XSt) : Nat → Option XSt
  | 0 => some s
  | k + 1 => match states P callf il s k, il[k]? with
    | some s', some io => exOper P callf io s'
    | _, _ => none
theorem states_cons (P : Program) (callf : CallF) (io : IOper) (il : List IOper) (s s1 : XSt) (h : exOper P callf io s = some s1) : ∀ k, states P callf (io :: il) s (k + 1) = states P callf il s1 k
  | 0 => by simp [states, h]
  | k + 1 => by
    have ih := states_cons P callf io il s s1 h k
    show (match states P callf (io :: il) s (k + 1), (io :: il)[k + 1]? with | some s', some io => exOper P callf io s' | _, _ => none) = _
    rw [ih]
    simp [states]
theorem states_all (P : Program) (callf : CallF) : ∀ (il : List IOper) (s s' : XSt), exOps P callf il s = some s' → ∃ st : Nat → XSt, st 0 = s ∧ st il.length = s' ∧ ∀ j io, il[j]? = some io → exOper P callf io (st j) = some (st (j + 1))
  | [], s, s', h => by
    simp only [exOps, Option.some.injEq] at h
    exact ⟨fun _ => s, rfl, h, fun j io hj => by simp at hj⟩
  | io :: il, s, s', h => by
    simp only [exOps] at h
    split at h
    · rename_i s1 h1
      obtain ⟨st, e1, e2, e3⟩ := states_all P callf il s1 s' h
      refine ⟨fun k => match k with | 0 => s | k + 1 => st k, rfl, e2, fun j io' hj => ?_⟩
      cases j with
      | zero =>
        simp only [List.getElem?_cons_zero, Option.some.injEq] at hj
        subst hj
        simp only [e1, h1]
      | succ j => exact e3 j io' (by simpa using hj)
    · cases h
/-- All names are below the next one, and no block is for reading alone. -/
def okMem (s : XSt) : Bool := s.2.1.all fun p => Nat.ble (p.1 + 1) s.2.2 && !p.2.ro
theorem okMem_get {s : XSt} (h : okMem s = true) {id : Nat} {B : Blk} (hb : mget s.2.1 id = some B) : id < s.2.2 ∧ B.ro = false := by
  obtain ⟨T, M, nx⟩ := s
  simp only at hb ⊢
  unfold okMem at h
  simp only at h
  induction M with
  | nil => cases hb
  | cons p M ih =>
    obtain ⟨i, b⟩ := p
    rw [List.all_cons, Bool.and_eq_true] at h
    rw [mget_cons] at hb
    split at hb
    · rename_i hi
      subst hi
      obtain rfl := Option.some.inj hb
      have h1 := h.1
      simp only [Bool.and_eq_true, Bool.not_eq_true'] at h1
      exact ⟨Nat.le_of_ble_eq_true h1.1, h1.2⟩
    · exact ih h.2 hb
/-- All states of a run; names are looked at. -/
def runB (P : Program) (callf : CallF) : List IOper → XSt → Option (List XSt)
  | [], s => if okMem s then some [s] else none
  | o :: r, s => if okMem s then (match exOper P callf o s with
    | some s' => (match runB P callf r s' with
      | some l => some (s :: l)
      | none => none)
    | none => none) else none
def kindAt (il : List IOper) (j : Nat) : IK := match il[j]? with | some io => kindOf io.op | none => .n
/-- Are two plain values one? -/
def veq : Value → Value → Bool
  | .bool a, .bool b => a == b
  | .int k n, .int k' n' => decide (k = k') && decide (n = n')
  | .float k n, .float k' n' => decide (k = k') && decide (n = n')
  | .complex k n m, .complex k' n' m' => decide (k = k') && decide (n = n') && decide (m = m')
  | .string a, .string b => decide (a.data.toList = b.data.toList)
  | .pointer a, .pointer b => decide (a = b)
  | .slice a n c, .slice b n' c' => decide (a = b) && decide (n = n') && decide (c = c')
  | .map none, .map none => true
  | .nilFunc, .nilFunc => true
  | .nilIface, .nilIface => true
  | .tuple a, .tuple b => a.isEmpty && b.isEmpty
  | _, _ => false
theorem veq_eq {a b : Value} (h : veq a b = true) : a = b := by
  unfold veq at h
  split at h <;> simp_all
  rename_i x y
  exact ByteArray.ext h
/-- The new blocks of allocations that come ahead of operation i, from place p on. -/
def newsOf (mask : List Nat) (il : List IOper) (st : Nat → XSt) (i p j : Nat) : Mem :=
  if p ≤ j ∧ kindAt il j = .a ∧ (mask.getD i 0).testBit j = true then (match (st (j + 1)).2.1 with
    | q :: _ => if q.1 = (st j).2.2 then [q] else []
    | [] => []) else []
def newsUp (mask : List Nat) (il : List IOper) (st : Nat → XSt) (i p : Nat) : Nat → Mem
  | 0 => []
  | n + 1 => newsOf mask il st i p n ++ newsUp mask il st i p n
/-- May p be the place behind the last call when i reads? -/
def allowed (mask : List Nat) (il : List IOper) (i p : Nat) : Bool :=
  (p == 0 || (kindAt il (p - 1) == .x && !(mask.getD (p - 1) 0).testBit i)) && (List.range il.length).all fun j => !(kindAt il j == .x && (mask.getD i 0).testBit j) || decide (j < p)
def readOK (P : Program) (callf : CallF) (mask : List Nat) (il : List IOper) (st : Nat → XSt) (i p : Nat) (io : IOper) : Bool :=
  match exOper P callf io ((st i).1, newsUp mask il st i p il.length ++ (st p).2.1, (st i).2.2) with
  | some s' => (match io.dst with
    | some d => veq (tget s'.1 d) (tget (st (i + 1)).1 d)
    | none => true) && decide (s'.2.2 = (st (i + 1)).2.2)
  | none => false
def readsOK (P : Program) (callf : CallF) (mask : List Nat) (il : List IOper) (st : Nat → XSt) : Bool :=
  (List.range il.length).all fun i => match il[i]? with
    | some io => !(kindOf io.op == .r) || (List.range (il.length + 1)).all fun p => !(allowed mask il i p) || readOK P callf mask il st i p io
    | none => true
/-- A run that looks at the names behind each step, and at each read in all orders. -/
def exOpsB (P : Program) (callf : CallF) (mask : List Nat) (il : List IOper) (s : XSt) : Option XSt :=
  match runB P callf il s with
  | some l => if readsOK P callf mask il (fun j => l.getD j s) then l.getLast? else none
  | none => none
theorem runB_all (P : Program) (callf : CallF) : ∀ (il : List IOper) (s : XSt) (l : List XSt), runB P callf il s = some l → l.length = il.length + 1 ∧ l[0]? = some s ∧ (∀ j io, il[j]? = some io → ∃ a b, l[j]? = some a ∧ l[j + 1]? = some b ∧ exOper P callf io a = some b) ∧ (∀ x ∈ l, okMem x = true) ∧ ∀ s', l.getLast? = some s' → exOps P callf il s = some s'
  | [], s, l, h => by
    simp only [runB] at h
    split at h
    · rename_i hk
      obtain rfl := Option.some.inj h
      exact ⟨rfl, rfl, fun j io hj => by simp at hj, fun x hx => by simp at hx; rw [hx]; exact hk, fun s' h => by simpa [exOps] using h⟩
    · cases h
  | io :: il, s, l, h => by
    simp only [runB] at h
    split at h
    · rename_i hk
      split at h
      · rename_i s1 h1
        split at h
        · rename_i l1 h2
          obtain rfl := Option.some.inj h
          obtain ⟨e1, e2, e3, e4, e5⟩ := runB_all P callf il s1 l1 h2
          refine ⟨by simp [e1], rfl, fun j io' hj => ?_, fun x hx => ?_, fun s' hl => ?_⟩
          · cases j with
            | zero =>
              simp only [List.getElem?_cons_zero, Option.some.injEq] at hj
              subst hj
              exact ⟨s, s1, rfl, by simpa using e2, h1⟩
            | succ j => exact e3 j io' (by simpa using hj)
          · rcases List.mem_cons.1 hx with rfl | hx
            · exact hk
            · exact e4 x hx
          · simp only [exOps, h1]
            refine e5 s' ?_
            cases l1 with
            | nil => simp at e1
            | cons y l1 => simpa using hl
        · cases h
      · cases h
    · cases h
theorem exOpsB_ops (P : Program) (callf : CallF) (mask : List Nat) (il : List IOper) (s s' : XSt) (h : exOpsB P callf mask il s = some s') : exOps P callf il s = some s' := by
  unfold exOpsB at h
  split at h
  · rename_i l hl
    split at h
    · exact (runB_all P callf il s l hl).2.2.2.2 s' h
    · cases h
  · cases h
theorem states_both (P : Program) (callf : CallF) (bd : Bool) (mask : List Nat) {il : List IOper} {s s' : XSt} (h : exOps P callf il s = some s') (hb : bd = true → exOpsB P callf mask il s = some s') : ∃ st : Nat → XSt, st 0 = s ∧ st il.length = s' ∧ (∀ j io, il[j]? = some io → exOper P callf io (st j) = some (st (j + 1))) ∧ (bd = true → (∀ j, j ≤ il.length → okMem (st j) = true) ∧ readsOK P callf mask il st = true) := by
  cases bd with
  | false => obtain ⟨st, e1, e2, e3⟩ := states_all P callf il s s' h; exact ⟨st, e1, e2, e3, fun h => by cases h⟩
  | true =>
    have hb := hb rfl
    unfold exOpsB at hb
    split at hb
    · rename_i l hl
      split at hb
      · rename_i hr
        obtain ⟨e1, e2, e3, e4, e5⟩ := runB_all P callf il s l hl
        refine ⟨fun j => l.getD j s, by simp [List.getD, e2], ?_, fun j io hj => ?_, fun _ => ⟨fun j hj => ?_, hr⟩⟩
        · rw [List.getLast?_eq_getElem?, e1] at hb
          simp only [List.getD, Nat.add_sub_cancel] at hb ⊢
          rw [hb]; rfl
        · obtain ⟨a, b, h1, h2, h3⟩ := e3 j io hj
          simp only [List.getD, h1, h2, Option.getD_some, h3]
        · have hj' : j < l.length := by omega
          simp only [List.getD, List.getElem?_eq_getElem hj', Option.getD_some]
          exact e4 _ (List.getElem_mem hj')
      · cases hb
    · cases hb
theorem mget_filterP (p : Nat → Bool) (M : Mem) (id : Nat) : mget (M.filter fun q => p q.1) id = if p id then mget M id else none := by
  induction M with
  | nil => simp [mget]
  | cons q M ih =>
    obtain ⟨i, b⟩ := q
    rw [List.filter_cons]
    by_cases hp : p i = true
    · simp only [hp, if_true]
      rw [mget_cons, mget_cons, ih]
      by_cases hi : i = id
      · subst hi; simp [hp]
      · simp [hi]
    · simp only [hp, Bool.false_eq_true, if_false]
      rw [ih, mget_cons]
      by_cases hi : i = id
      · subst hi; simp [hp]
      · simp [hi]
end Go.Proofs.Ytlpoolcdoecodaa.Eng

/- Part EngR2. -/
namespace Go.Proofs.Ytlpoolcdoecodaa.Eng
open Go.RowKit

section
variable {P : Program} {ops : Array Oper} {callf : CallF}

theorem compOps_get : ∀ {l : List Oper} {il : List IOper}, compOps P ops l = some il → il.length = l.length ∧ ∀ (j : Nat) (o : Oper), l[j]? = some o → ∃ io, il[j]? = some io ∧ IsOper P ops o io
  | [], il, h => by simp [compOps] at h; subst h; simp
  | o :: l, il, h => by
    simp only [compOps] at h
    split at h
    · rename_i io l' h1 h2
      obtain rfl := Option.some.inj h
      obtain ⟨e1, e2⟩ := compOps_get h2
      refine ⟨by simp [e1], fun j o' hj => ?_⟩
      cases j with
      | zero => simp at hj; subst hj; exact ⟨io, rfl, compOper_sound h1⟩
      | succ j => exact e2 j o' (by simpa using hj)
    · cases h
theorem mget_append (A B : Mem) (id : Nat) : mget (A ++ B) id = match mget A id with | some x => some x | none => mget B id := by
  induction A with
  | nil => rfl
  | cons p A ih =>
    obtain ⟨i, b⟩ := p
    rw [List.cons_append, mget_cons, mget_cons]
    split
    · rfl
    · exact ih

/-- What an operation does to the memory. -/
def Uf (bd : Bool) (il : List IOper) (st : Nat → XSt) (news : Nat → Mem) (j : Nat) (m : Nat → Option Blk) : Nat → Option Blk :=
  if kindAt il j = .x then fun id => if bd = true ∧ (st (j + 1)).2.2 ≤ id then m id else mget (st (j + 1)).2.1 id else fun id => match mget (news j) id with | some B => some B | none => m id

/-- What is known of each step. -/
def StepOK (P : Program) (callf : CallF) (il : List IOper) (st : Nat → XSt) (j : Nat) (ev : Option Nat × Value × Mem) : Prop :=
  ∀ io, il[j]? = some io → ev.1 = io.dst ∧ (st (j + 1)).1 = tput (st j).1 io.dst ev.2.1 ∧
    ((kindOf io.op ≠ .x ∧ (st (j + 1)).2.1 = ev.2.2 ++ (st j).2.1 ∧ (ev.2.2 = [] ∨ kindOf io.op = .a ∧ (st (j + 1)).2.2 = (st j).2.2 + 1 ∧ ∃ B, ev.2.2 = [((st j).2.2, B)]) ∧
        ∀ T' M', (∀ t ∈ looks io, tget (st j).1 t = tget T' t) → (kindOf io.op = .r → MLe (st j).2.1 M') → exOper P callf io (T', M', (st j).2.2) = some (tput T' io.dst ev.2.1, ev.2.2 ++ M', (st (j + 1)).2.2)) ∨
     (kindOf io.op = .x ∧ ∀ T', (∀ t ∈ looks io, tget (st j).1 t = tget T' t) → exOper P callf io (T', (st j).2.1, (st j).2.2) = some (tput T' io.dst ev.2.1, (st (j + 1)).2.1, (st (j + 1)).2.2)))
theorem steps_ok {il : List IOper} {st : Nat → XSt} (hst : ∀ j io, il[j]? = some io → exOper P callf io (st j) = some (st (j + 1))) : ∃ ev : Nat → Option Nat × Value × Mem, ∀ j, StepOK P callf il st j (ev j) := by
  apply Classical.axiomOfChoice
  intro j
  cases hio : il[j]? with
  | none => exact ⟨(none, undef, []), fun io h => by rw [hio] at h; cases h⟩
  | some io =>
    have h := hst j io hio
    obtain ⟨v, h1, h2⟩ := exOper_any (T := (st j).1) (M := (st j).2.1) (nx := (st j).2.2) (T2 := (st (j + 1)).1) (M2 := (st (j + 1)).2.1) (nx2 := (st (j + 1)).2.2) h
    rcases h2 with ⟨hk, news, e1, e2, e3⟩ | ⟨hk, e3⟩
    · exact ⟨(io.dst, v, news), fun io' h' => by
        rw [hio] at h'
        obtain rfl := Option.some.inj h'
        exact ⟨rfl, h1, .inl ⟨hk, e1, e2, e3⟩⟩⟩
    · exact ⟨(io.dst, v, []), fun io' h' => by
        rw [hio] at h'
        obtain rfl := Option.some.inj h'
        exact ⟨rfl, h1, .inr ⟨hk, e3⟩⟩⟩

variable {w0 : World} {W : Fr} {e : Env}

/-- The state behind those that have been. -/
structure DState (bd : Bool) (w0 : World) (W : Fr) (e : Env) (n : Nat) (st : Nat → XSt) (il : List IOper) (ev : Nat → Option Nat × Value × Mem) (D : Nat → Bool) (a : Act) (w : World) : Prop where mk ::
  out : ∃ (e1 : Env) (MD : Mem), Ext e e1 ∧ TR e1 (TD (fun j => (ev j).1) (fun j => (ev j).2.1) (st 0).1 D n) a.tmps ∧ a.defers = [] ∧ mget MD = mD (Uf bd il st fun j => (ev j).2.2) (mget (st 0).2.1) D n ∧
    MS w0 ⟨W.w, 0, 0, e1⟩ e1 0 MD w ∧ (∀ id, id < (st 0).2.2 ∨ (st n).2.2 ≤ id → e1 id = e id) ∧ ∀ j, j < n → D j = false → ∀ id, (st j).2.2 ≤ id → id < (st (j + 1)).2.2 → e1 id = none

theorem MS.reframe {W' : Fr} {nx nx' : Nat} {M : Mem} {w : World} (h : MS w0 W e nx M w) (hw : W'.w = W.w) (low : W'.lo ≤ nx') (base : ∀ id, id < W'.lo ∨ W'.top ≤ id → e id = W'.e0 id) (fresh : ∀ id, nx' ≤ id → id < W'.top → e id = none) : MS w0 W' e nx' M w :=
  { os := h.os, tape := h.tape, output := h.output, size := h.size, frame := fun b hb hx => h.frame b hb (by rw [← hw]; exact hx), low := low, base := base, fresh := fresh, blk := h.blk, own := fun id B l h1 h2 h3 => by rw [hw]; exact h.own id B l h1 h2 h3, inj := h.inj }

theorem indep_spec {bd : Bool} {x y : IOper} (h : indep bd x y = true) : (∀ d, x.dst = some d → d ∉ looks y ∧ y.dst ≠ some d) ∧ (∀ d, y.dst = some d → d ∉ looks x) ∧ (kindOf x.op = .n ∨ kindOf y.op = .n ∨ kindOf x.op = .r ∧ kindOf y.op = .r ∨ kindOf x.op = .a ∧ kindOf y.op = .a ∨ bd = true ∧ (kindOf x.op = .r ∨ kindOf y.op = .r ∨ kindOf x.op = .x ∧ kindOf y.op = .a)) := by
  unfold indep at h
  simp only [Bool.and_eq_true, Bool.or_eq_true, beq_iff_eq] at h
  obtain ⟨⟨h1, h2⟩, h3⟩ := h
  refine ⟨fun d hd => ?_, fun d hd => ?_, ?_⟩
  · simp [hd] at h1; exact ⟨h1.1, h1.2⟩
  · simp [hd] at h2; exact h2
  · rcases h3 with (((h3 | h3) | h3) | h3) | h3
    · exact .inl h3
    · exact .inr (.inl h3)
    · exact .inr (.inr (.inl h3))
    · exact .inr (.inr (.inr (.inl h3)))
    · refine .inr (.inr (.inr (.inr ⟨h3.1, ?_⟩)))
      rcases h3.2 with (h4 | h4) | h4
      · exact .inl h4
      · exact .inr (.inl h4)
      · exact .inr (.inr h4)

theorem draw_step (hcall : CallOK P callf) {il : List IOper} (hc : compOps P ops ops.toList = some il) {bd : Bool} (hs : simpleB bd ops il = true) {st : Nat → XSt} (hst : ∀ j io, il[j]? = some io → exOper P callf io (st j) = some (st (j + 1))) (hbd : bd = true → (∀ j, j ≤ ops.size → okMem (st j) = true) ∧ readsOK P callf (Region.before ops).toList il st = true) {ev : Nat → Option Nat × Value × Mem} (hev : ∀ j, StepOK P callf il st j (ev j))
    {D : Nat → Bool} (hD : Closed ops D) (hDn : ∀ j, D j = true → j < ops.size) {i : Nat} {o : Oper} (ho : ops[i]? = some o) (hDi : D i = false) (hready : ∀ e ∈ o.after, Region.binds .any e = true → D e.on = true)
    {a : Act} {w : World} (hS : DState bd w0 W e ops.size st il ev D a w) {Q : Exit → Act → World → Prop} {K : Act → World → Prop} (hK : ∀ a' w', DState bd w0 W e ops.size st il ev (plus D i) a' w' → K a' w') : wpOp P ops Q i K a w := by
  obtain ⟨hlen, hget⟩ := compOps_get hc
  have hilen : il.length = ops.size := by rw [hlen]; simp
  have hin : i < ops.size := (Array.getElem?_eq_some_iff.1 ho).1
  obtain ⟨io, hio, hIs⟩ := hget i o (by simpa using ho)
  unfold simpleB at hs
  simp only [Bool.and_eq_true] at hs
  obtain ⟨⟨hmask, _⟩, hpairs⟩ := hs
  have pair : ∀ j k, j < k → k < ops.size → ((Region.before ops).toList.getD k 0).testBit j = true ∨ ∃ x y, il[j]? = some x ∧ il[k]? = some y ∧ indep bd x y = true := by
    intro j k hjk hk
    have h1 := List.all_eq_true.1 (List.all_eq_true.1 hpairs k (List.mem_range.2 hk)) j (List.mem_range.2 hjk)
    simp only [Bool.or_eq_true] at h1
    rcases h1 with h1 | h1
    · exact .inl h1
    · split at h1
      · rename_i x y hx hy; exact .inr ⟨x, y, hx, hy, h1⟩
      · cases h1
  -- those ahead that matter have been; those behind that have been do not matter
  have F1 : ∀ j, j < i → D j = true ∨ ∃ x, il[j]? = some x ∧ indep bd x io = true := by
    intro j hj
    rcases pair j i hj hin with h | ⟨x, y, hx, hy, h⟩
    · exact .inl (mask_ready hmask hD hDn ho hready h)
    · rw [hio] at hy; obtain rfl := Option.some.inj hy; exact .inr ⟨x, hx, h⟩
  have F2 : ∀ j, i < j → j < ops.size → D j = true → ∃ y, il[j]? = some y ∧ indep bd io y = true := by
    intro j hj hjn hDj
    rcases pair i j hj hjn with h | ⟨x, y, hx, hy, h⟩
    · have := mask_closed hmask hD hDn j hDj i h
      rw [hDi] at this; cases this
    · rw [hio] at hx; obtain rfl := Option.some.inj hx; exact ⟨y, hy, h⟩
  have nxs : ∀ d j, j + d ≤ ops.size → (st j).2.2 ≤ (st (j + d)).2.2 := by
    intro d
    induction d with
    | zero => intro j _; exact Nat.le_refl _
    | succ d ih =>
      intro j hj
      have h1 := ih j (by omega)
      obtain ⟨x, hx⟩ : ∃ x, il[j + d]? = some x := ⟨il[j + d]'(by omega), List.getElem?_eq_getElem _⟩
      exact Nat.le_trans h1 (exOper_mono hcall (hst (j + d) x hx))
  have nxle : ∀ j k, j ≤ k → k ≤ ops.size → (st j).2.2 ≤ (st k).2.2 := fun j k hjk hk => by
    have := nxs (k - j) j (by omega); rwa [show j + (k - j) = k by omega] at this
  have textT : ∀ k, k ≤ ops.size → (st k).1 = TD (fun j => (ev j).1) (fun j => (ev j).2.1) (st 0).1 (fun _ => true) k := by
    intro k
    induction k with
    | zero => intro _; rfl
    | succ k ih =>
      intro hk
      obtain ⟨x, hx⟩ : ∃ x, il[k]? = some x := ⟨il[k]'(by omega), List.getElem?_eq_getElem _⟩
      obtain ⟨e1, e2, _⟩ := hev k x hx
      simp only [TD, if_true, ← ih (by omega), e1, e2]
  have Uid : ∀ j, j < ops.size → kindAt il j = .n ∨ kindAt il j = .r → ∀ m, Uf bd il st (fun j => (ev j).2.2) j m = m := by
    intro j hjn hk m
    have hne : kindAt il j ≠ .x := by rcases hk with h | h <;> rw [h] <;> decide
    obtain ⟨x, hj⟩ : ∃ x, il[j]? = some x := ⟨il[j]'(by omega), List.getElem?_eq_getElem _⟩
    have hnews : (ev j).2.2 = [] := by
      obtain ⟨_, _, h3⟩ := hev j x hj
      have hkx : kindAt il j = kindOf x.op := by simp [kindAt, hj]
      rcases h3 with ⟨_, _, h4, _⟩ | ⟨h4, _⟩
      · rcases h4 with h4 | ⟨h4, _⟩
        · exact h4
        · rw [hkx, h4] at hk; rcases hk with h | h <;> cases h
      · rw [hkx, h4] at hk; rcases hk with h | h <;> cases h
    simp [Uf, hne, hnews, mget]
  have textX : ∀ k, k + 1 ≤ ops.size → ∀ id, (if bd = true ∧ (st (k + 1)).2.2 ≤ id then mget (st k).2.1 id else mget (st (k + 1)).2.1 id) = mget (st (k + 1)).2.1 id := by
    intro k hk id
    split
    · rename_i hb
      have q1 := nxle k (k + 1) (by omega) hk
      have n1 : mget (st k).2.1 id = none := by
        cases hm : mget (st k).2.1 id with
        | none => rfl
        | some B => have := (okMem_get ((hbd hb.1).1 k (by omega)) hm).1; omega
      have n2 : mget (st (k + 1)).2.1 id = none := by
        cases hm : mget (st (k + 1)).2.1 id with
        | none => rfl
        | some B => have := (okMem_get ((hbd hb.1).1 (k + 1) hk) hm).1; omega
      rw [n1, n2]
    · rfl
  have textM : ∀ k, k ≤ ops.size → mget (st k).2.1 = mD (Uf bd il st fun j => (ev j).2.2) (mget (st 0).2.1) (fun _ => true) k := by
    intro k
    induction k with
    | zero => intro _; rfl
    | succ k ih =>
      intro hk
      obtain ⟨x, hx⟩ : ∃ x, il[k]? = some x := ⟨il[k]'(by omega), List.getElem?_eq_getElem _⟩
      obtain ⟨_, _, h3⟩ := hev k x hx
      have hkx : kindAt il k = kindOf x.op := by simp [kindAt, hx]
      simp only [mD, if_true, ← ih (by omega)]
      rcases h3 with ⟨h4, h5, _⟩ | ⟨h4, _⟩
      · simp only [Uf, hkx, h4, if_false]
        rw [h5]
        funext id
        exact mget_append _ _ _
      · simp only [Uf, hkx, h4, if_true]
        funext id
        exact (textX k hk id).symm
  obtain ⟨e1, MD, hE, hTR, hdef, hMD, hMS, hout, hfree⟩ := hS.out
  -- what the operation looks at is as it is in the text's order
  have agree : ∀ t ∈ looks io, tget (st i).1 t = tget (TD (fun j => (ev j).1) (fun j => (ev j).2.1) (st 0).1 D ops.size) t := by
    intro t ht
    rw [textT i (by omega)]
    refine (TD_agree ops.size i (by omega) t (fun j hj hd => ?_) (fun j hj hjn hDj hd => ?_)).symm
    · rcases F1 j hj with h | ⟨x, hx, h⟩
      · exact h
      · obtain ⟨e1', _⟩ := hev j x hx
        rw [e1'] at hd
        exact absurd ht ((indep_spec h).1 t hd).1
    · have hji : i < j := by
        rcases Nat.lt_or_ge i j with h | h
        · exact h
        · obtain rfl : j = i := by omega
          rw [hDi] at hDj; cases hDj
      obtain ⟨y, hy, h⟩ := F2 j hji hjn hDj
      obtain ⟨e1', _⟩ := hev j y hy
      rw [e1'] at hd
      exact (indep_spec h).2.1 t hd ht
  have memLe : (kindOf io.op = .r ∧ bd = false) ∨ kindOf io.op = .x → ∀ id B, mget (st i).2.1 id = some B → mget MD id = some B := by
    intro hk id B hB
    rw [hMD, ← hB, textM i (by omega)]
    refine mD_agree ops.size i (by omega) id (fun j hj => ?_) (fun j hj hjn hDj => ?_)
    · rcases F1 j hj with h | ⟨x, hx, h⟩
      · exact .inl h
      · right
        refine Uid j (by omega) ?_
        have hkx : kindAt il j = kindOf x.op := by simp [kindAt, hx]
        rw [hkx]
        rcases (indep_spec h).2.2 with h1 | h1 | ⟨h1, _⟩ | ⟨_, h1⟩ | ⟨hb, h1⟩
        · exact .inl h1
        · rcases hk with ⟨hk, _⟩ | hk <;> rw [hk] at h1 <;> cases h1
        · exact .inr h1
        · rcases hk with ⟨hk, _⟩ | hk <;> rw [hk] at h1 <;> cases h1
        · rcases hk with ⟨_, hk⟩ | hk
          · rw [hk] at hb; cases hb
          · rcases h1 with h1 | h1 | ⟨_, h1⟩
            · exact .inr h1
            · rw [hk] at h1; cases h1
            · rw [hk] at h1; cases h1
    · have hji : i < j := by
        rcases Nat.lt_or_ge i j with h | h
        · exact h
        · obtain rfl : j = i := by omega
          rw [hDi] at hDj; cases hDj
      obtain ⟨y, hy, h⟩ := F2 j hji hjn hDj
      have hkx : kindAt il j = kindOf y.op := by simp [kindAt, hy]
      have hnr : kindAt il j = .n ∨ kindAt il j = .r → ∀ m, Uf bd il st (fun j => (ev j).2.2) j m id = m id := fun hh m => by rw [Uid j hjn hh]
      rcases (indep_spec h).2.2 with h1 | h1 | ⟨_, h1⟩ | ⟨h1, _⟩ | ⟨hb, h1⟩
      · rcases hk with ⟨hk, _⟩ | hk <;> rw [hk] at h1 <;> cases h1
      · exact hnr (.inl (hkx.trans h1))
      · exact hnr (.inr (hkx.trans h1))
      · rcases hk with ⟨hk, _⟩ | hk <;> rw [hk] at h1 <;> cases h1
      · rcases hk with ⟨_, hk⟩ | hk
        · rw [hk] at hb; cases hb
        · rcases h1 with h1 | h1 | ⟨_, h1⟩
          · rw [hk] at h1; cases h1
          · exact hnr (.inr (hkx.trans h1))
          · intro m
            have hnj : kindAt il j ≠ .x := by rw [hkx, h1]; decide
            obtain ⟨_, _, g3⟩ := hev j y hy
            have hlt := (okMem_get ((hbd hb).1 i (by omega)) hB).1
            have hle := nxle i j (by omega) (by omega)
            simp only [Uf, hnj, if_false]
            rcases g3 with ⟨_, _, g4, _⟩ | ⟨g4, _⟩
            · rcases g4 with g4 | ⟨_, g4, B', g5⟩
              · simp [g4, mget]
              · simp only [g5, mget]
                rw [if_neg (by omega)]
            · rw [h1] at g4; cases g4
  -- a read in any order
  have keeps : ∀ j, j < ops.size → kindAt il j ≠ .x → ∀ (m : Nat → Option Blk) id, id ≠ (st j).2.2 → Uf bd il st (fun j => (ev j).2.2) j m id = m id := by
    intro j hjn hnx m id hid
    obtain ⟨y, hy⟩ : ∃ x, il[j]? = some x := ⟨il[j]'(by omega), List.getElem?_eq_getElem _⟩
    have hky : kindAt il j = kindOf y.op := by simp [kindAt, hy]
    obtain ⟨_, _, g3⟩ := hev j y hy
    simp only [Uf, hnx, if_false]
    rcases g3 with ⟨_, _, g4, _⟩ | ⟨g4, _⟩
    · rcases g4 with g4 | ⟨_, g4, B', g5⟩
      · simp [g4, mget]
      · simp only [g5, mget]
        rw [if_neg (fun hh => hid hh.symm)]
    · rw [hky] at hnx; exact absurd g4 hnx
  have later : ∀ (k : Nat) id, (∀ j, k ≤ j → j < ops.size → D j = true → kindAt il j ≠ .x ∧ id ≠ (st j).2.2) → k ≤ ops.size → mget MD id = mD (Uf bd il st fun j => (ev j).2.2) (mget (st 0).2.1) D k id := by
    intro k id hall hk
    rw [hMD]
    have : ∀ d, k + d ≤ ops.size → mD (Uf bd il st fun j => (ev j).2.2) (mget (st 0).2.1) D (k + d) id = mD (Uf bd il st fun j => (ev j).2.2) (mget (st 0).2.1) D k id := by
      intro d
      induction d with
      | zero => intro _; rfl
      | succ d ih =>
        intro hd
        show mD _ _ D (k + d + 1) id = _
        simp only [mD]
        split
        · rename_i hDk
          obtain ⟨h1, h2⟩ := hall (k + d) (by omega) (by omega) hDk
          rw [keeps (k + d) (by omega) h1 _ id h2, ih (by omega)]
        · exact ih (by omega)
    have := this (ops.size - k) (by omega)
    rwa [show k + (ops.size - k) = ops.size by omega] at this
  have lastX : ∀ n, n ≤ ops.size → ∃ p, p ≤ n ∧ (p = 0 ∨ 0 < p ∧ kindAt il (p - 1) = .x ∧ D (p - 1) = true) ∧ ∀ j, p ≤ j → j < n → D j = true → kindAt il j ≠ .x := by
    intro n
    induction n with
    | zero => intro _; exact ⟨0, Nat.le_refl _, .inl rfl, fun j _ h => absurd h (Nat.not_lt_zero _)⟩
    | succ n ih =>
      intro hn
      by_cases hx : D n = true ∧ kindAt il n = .x
      · exact ⟨n + 1, Nat.le_refl _, .inr ⟨Nat.succ_pos _, by simpa using hx.2, by simpa using hx.1⟩, fun j h1 h2 => by omega⟩
      · obtain ⟨p, h1, h2, h3⟩ := ih (by omega)
        refine ⟨p, by omega, h2, fun j h4 h5 hDj hk => ?_⟩
        rcases Nat.lt_or_ge j n with h | h
        · exact h3 j h4 h hDj hk
        · obtain rfl : j = n := by omega
          exact hx ⟨hDj, hk⟩
  have readAny : kindOf io.op = .r → bd = true → exOper P callf io (TD (fun j => (ev j).1) (fun j => (ev j).2.1) (st 0).1 D ops.size, MD, (st i).2.2) = some (tput (TD (fun j => (ev j).1) (fun j => (ev j).2.1) (st 0).1 D ops.size) io.dst (ev i).2.1, MD, (st (i + 1)).2.2) := by
    intro hk hb
    obtain ⟨hok, hreads⟩ := hbd hb
    obtain ⟨p, hpn, hp0, hpx⟩ := lastX ops.size (Nat.le_refl _)
    have hall := List.all_eq_true.1 hreads i (List.mem_range.2 (by omega))
    rw [hio] at hall
    simp only [hk, beq_self_eq_true, Bool.not_true, Bool.false_or] at hall
    have hp := List.all_eq_true.1 hall p (List.mem_range.2 (by omega))
    have hal : allowed (Region.before ops).toList il i p = true := by
      unfold allowed
      rw [Bool.and_eq_true]
      constructor
      · rcases hp0 with rfl | ⟨h1, h2, h3⟩
        · rfl
        · rw [Bool.or_eq_true]
          right
          simp only [h2, beq_self_eq_true, Bool.true_and, Bool.not_eq_true']
          cases hbit : ((Region.before ops).toList.getD (p - 1) 0).testBit i with
          | false => rfl
          | true =>
            have := mask_closed hmask hD hDn (p - 1) h3 i hbit
            rw [hDi] at this; cases this
      · rw [List.all_eq_true]
        intro j hj
        have hj := List.mem_range.1 hj
        rw [Bool.or_eq_true]
        by_cases hjp : j < p
        · right; exact decide_eq_true hjp
        · left
          rw [Bool.not_eq_true', Bool.and_eq_false_iff]
          by_cases hjx : kindAt il j = .x
          · right
            cases hbit : ((Region.before ops).toList.getD i 0).testBit j with
            | false => rfl
            | true =>
              have := mask_ready hmask hD hDn ho hready hbit
              exact absurd hjx (hpx j (by omega) (by omega) this)
          · left
            simpa using hjx
    rw [hal] at hp
    simp only [Bool.not_true, Bool.false_or] at hp
    unfold readOK at hp
    split at hp
    · rename_i s' hs'
      rw [Bool.and_eq_true] at hp
      obtain ⟨hdst, hnx⟩ := hp
      have hnx := of_decide_eq_true hnx
      obtain ⟨T2, M2, nx2⟩ := s'
      obtain ⟨v, hv, hany⟩ := exOper_any hs'
      rcases hany with ⟨_, news, g1, g2, g3⟩ | ⟨g1, _⟩
      · have hnews : news = [] := by
          rcases g2 with g2 | ⟨g2, _⟩
          · exact g2
          · rw [hk] at g2; cases g2
        subst hnews
        have hle : MLe (newsUp (Region.before ops).toList il st i p il.length ++ (st p).2.1) MD := by
          intro id B hB
          rw [mget_append] at hB
          have hnew : ∀ n, n ≤ ops.size → ∀ B, mget (newsUp (Region.before ops).toList il st i p n) id = some B → mget MD id = some B := by
            intro n
            induction n with
            | zero => intro _ B hB; cases hB
            | succ n ih =>
              intro hn B hB
              rw [newsUp, mget_append] at hB
              split at hB
              · rename_i x hx
                obtain rfl := Option.some.inj hB
                unfold newsOf at hx
                split at hx
                · rename_i hc
                  obtain ⟨hpn', hka, hbit⟩ := hc
                  have hDn' := mask_ready hmask hD hDn ho hready hbit
                  obtain ⟨y, hy⟩ : ∃ x, il[n]? = some x := ⟨il[n]'(by omega), List.getElem?_eq_getElem _⟩
                  have hky : kindAt il n = kindOf y.op := by simp [kindAt, hy]
                  obtain ⟨_, _, k3⟩ := hev n y hy
                  split at hx
                  · rename_i q r hq
                    split at hx
                    · rename_i hq1
                      obtain ⟨q1, q2⟩ := q
                      simp only at hq1
                      subst hq1
                      simp only [mget] at hx
                      split at hx
                      · rename_i hid
                        subst hid
                        obtain rfl := Option.some.inj hx
                        rw [later (n + 1) (st n).2.2 (fun j h1 h2 h3 => ⟨hpx j (by omega) h2 h3, ?_⟩) (by omega)]
                        · simp only [mD, hDn', if_true, Uf, show kindAt il n ≠ .x by rw [hka]; decide, if_false]
                          rcases k3 with ⟨_, k4, k5, _⟩ | ⟨k4, _⟩
                          · rcases k5 with k5 | ⟨_, k6, B', k5⟩
                            · rw [k5, List.nil_append] at k4
                              exfalso
                              have h0 : mget (st n).2.1 (st n).2.2 = some q2 := by rw [← k4, hq]; simp [mget]
                              have := (okMem_get (hok n (by omega)) h0).1
                              omega
                            · rw [k5] at k4 ⊢
                              rw [k4] at hq
                              simp only [List.cons_append, List.nil_append, List.cons.injEq, Prod.mk.injEq] at hq
                              simp [mget, hq.1.2]
                          · rw [← hky, hka] at k4; cases k4
                        · rcases k3 with ⟨_, k4, k5, _⟩ | ⟨k4, _⟩
                          · rcases k5 with k5 | ⟨_, k6, B', k5⟩
                            · rw [k5, List.nil_append] at k4
                              exfalso
                              have h0 : mget (st n).2.1 (st n).2.2 = some q2 := by rw [← k4, hq]; simp [mget]
                              have := (okMem_get (hok n (by omega)) h0).1
                              omega
                            · have := nxle (n + 1) j h1 (by omega)
                              omega
                          · rw [← hky, hka] at k4; cases k4
                      · cases hx
                    · cases hx
                  · cases hx
                · cases hx
              · exact ih (by omega) B hB
          split at hB
          · rename_i x hx
            obtain rfl := Option.some.inj hB
            exact hnew il.length (by omega) _ hx
          · have hlt := (okMem_get (hok p hpn) hB).1
            rw [later p id (fun j h1 h2 h3 => ⟨hpx j h1 h2 h3, by have := nxle p j h1 (by omega); omega⟩) hpn]
            rcases hp0 with rfl | ⟨h1, h2, h3⟩
            · exact hB
            · obtain ⟨q, rfl⟩ : ∃ q, p = q + 1 := ⟨p - 1, by omega⟩
              simp only [Nat.add_sub_cancel] at h2 h3
              simp only [mD, h3, if_true, Uf, h2]
              rw [if_neg (by omega)]
              exact hB
        have h5 := g3 (TD (fun j => (ev j).1) (fun j => (ev j).2.1) (st 0).1 D ops.size) MD agree (fun _ => hle)
        rw [List.nil_append] at h5
        simp only at hnx
        rw [h5, hnx]
        refine congrArg some (Prod.ext ?_ rfl)
        obtain ⟨k1, k2, _⟩ := hev i io hio
        cases hd : io.dst with
        | none => rfl
        | some d =>
          rw [hd] at hdst
          have hveq := veq_eq hdst
          rw [hv, k2, hd] at hveq
          have hTl : ∀ n D', (TD (fun j => (ev j).1) (fun j => (ev j).2.1) (st 0).1 D' n).length = (st 0).1.length := fun n D' => TD_length D' n
          have hil : (st i).1.length = (st 0).1.length := by rw [textT i (by omega)]; exact hTl i _
          by_cases hdl : d < (st 0).1.length
          · have h6 : ∀ (T : List Value) (u : Value), d < T.length → tget (tput T (some d) u) d = u := by
              intro T u hT
              simp [tget_eq, tput, List.getElem?_set, hT]
            rw [h6 _ _ (by omega), h6 _ _ (by omega)] at hveq
            rw [hveq]
          · have h7 : ∀ (T : List Value) (u : Value), ¬ d < T.length → tput T (some d) u = T := by
              intro T u hT
              simp only [tput]
              exact List.set_eq_of_length_le (by omega)
            rw [h7 _ _ (by rw [hTl]; exact hdl), h7 _ _ (by rw [hTl]; exact hdl)]
      · rw [hk] at g1; cases g1
    · cases hp
  obtain ⟨d1, d2, d3⟩ := hev i io hio
  have hki : kindAt il i = kindOf io.op := by simp [kindAt, hio]
  have hTplus : TD (fun j => (ev j).1) (fun j => (ev j).2.1) (st 0).1 (plus D i) ops.size = tput (TD (fun j => (ev j).1) (fun j => (ev j).2.1) (st 0).1 D ops.size) io.dst (ev i).2.1 := by
    rw [TD_plus hin hDi, d1]
    intro j hj hjn hDj d hd
    obtain ⟨y, hy, h⟩ := F2 j hj hjn hDj
    obtain ⟨e1', _⟩ := hev j y hy
    rw [e1']
    rw [d1] at hd
    exact ((indep_spec h).1 d hd).2
  have hMplus : mD (Uf bd il st fun j => (ev j).2.2) (mget (st 0).2.1) (plus D i) ops.size = Uf bd il st (fun j => (ev j).2.2) i (mD (Uf bd il st fun j => (ev j).2.2) (mget (st 0).2.1) D ops.size) := by
    refine mD_plus hin hDi fun j hj hjn hDj m => ?_
    obtain ⟨y, hy, h⟩ := F2 j hj hjn hDj
    have hky : kindAt il j = kindOf y.op := by simp [kindAt, hy]
    rcases (indep_spec h).2.2 with h1 | h1 | ⟨h1, h2⟩ | ⟨h1, h2⟩ | ⟨hb, h1 | h1 | ⟨h1, h2⟩⟩
    · rw [Uid i hin (.inl (hki.trans h1)), Uid i hin (.inl (hki.trans h1))]
    · rw [Uid j hjn (.inl (hky.trans h1)), Uid j hjn (.inl (hky.trans h1))]
    · rw [Uid i hin (.inr (hki.trans h1)), Uid i hin (.inr (hki.trans h1))]
    · obtain ⟨_, _, g3⟩ := hev j y hy
      have hnxij : (st (i + 1)).2.2 ≤ (st j).2.2 := nxle (i + 1) j hj (by omega)
      have hni : kindAt il i ≠ .x := by rw [hki, h1]; decide
      have hnj : kindAt il j ≠ .x := by rw [hky, h2]; decide
      simp only [Uf, hni, hnj, if_false]
      funext id
      rcases d3 with ⟨_, _, d4, _⟩ | ⟨d4, _⟩
      · rcases g3 with ⟨_, _, g4, _⟩ | ⟨g4, _⟩
        · rcases d4 with d4 | ⟨_, d4, B, d5⟩
          · simp [d4, mget]
          · rcases g4 with g4 | ⟨_, g4, B', g5⟩
            · simp [g4, mget]
            · simp only [d5, g5, mget]
              by_cases ha : (st i).2.2 = id
              · rw [if_pos ha, if_neg (by omega)]
              · rw [if_neg ha]
        · rw [h2] at g4; cases g4
      · rw [h1] at d4; cases d4
    · rw [Uid i hin (.inr (hki.trans h1)), Uid i hin (.inr (hki.trans h1))]
    · rw [Uid j hjn (.inr (hky.trans h1)), Uid j hjn (.inr (hky.trans h1))]
    · obtain ⟨_, _, g3⟩ := hev j y hy
      have hnxij : (st (i + 1)).2.2 ≤ (st j).2.2 := nxle (i + 1) j hj (by omega)
      have hni : kindAt il i = .x := by rw [hki, h1]
      have hnj : kindAt il j ≠ .x := by rw [hky, h2]; decide
      simp only [Uf, hni, hnj, if_false, if_true]
      funext id
      rcases g3 with ⟨_, _, g4, _⟩ | ⟨g4, _⟩
      · rcases g4 with g4 | ⟨_, g4, B', g5⟩
        · simp [g4, mget]
        · simp only [g5, mget]
          by_cases ha : (st j).2.2 = id
          · have hge : bd = true ∧ (st (i + 1)).2.2 ≤ id := ⟨hb, by omega⟩
            simp only [ha, hge, if_true, and_self]
          · simp only [ha, if_false]
      · rw [h2] at g4; cases g4
  have finish : ∀ (M2 : Mem), mget M2 = Uf bd il st (fun j => (ev j).2.2) i (mget MD) → ∀ e2 a' w', Ext e1 e2 → SimS w0 ⟨W.w, (st i).2.2, (st (i + 1)).2.2, e1⟩ e2 (tput (TD (fun j => (ev j).1) (fun j => (ev j).2.1) (st 0).1 D ops.size) io.dst (ev i).2.1, M2, (st (i + 1)).2.2) a' w' → K a' w' := by
    intro M2 hM2 e2 a' w' he hsim
    refine hK a' w' ⟨e2, M2, hE.trans he, by rw [hTplus]; exact hsim.tr, hsim.defers, by rw [hMplus, ← hMD]; exact hM2, ?_, fun id hid => ?_, fun j hj hDj id h1 h2 => ?_⟩
    · exact hsim.ms.reframe rfl (Nat.zero_le _) (fun _ _ => rfl) (fun id _ h => absurd h (Nat.not_lt_zero _))
    · rw [hsim.ms.base id]
      · exact hout id hid
      · have q1 := nxle 0 i (Nat.zero_le _) (by omega)
        have q2 := nxle (i + 1) ops.size (by omega) (Nat.le_refl _)
        simp only
        omega
    · have hji : j ≠ i := by rintro rfl; simp [plus] at hDj
      have hDj' : D j = false := by simpa [plus, hji] using hDj
      rw [hsim.ms.base id]
      · exact hfree j hj hDj' id h1 h2
      · simp only
        rcases Nat.lt_or_gt_of_ne hji with h | h
        · have := nxle (j + 1) i h (by omega); omega
        · have := nxle (i + 1) j h (by omega); omega
  have hrunMS : ∀ {M2 : Mem}, (∀ id B, mget M2 id = some B → mget MD id = some B) → MS w0 ⟨W.w, (st i).2.2, (st (i + 1)).2.2, e1⟩ e1 (st i).2.2 M2 w := fun hm =>
    (hMS.weaken hm).reframe rfl (Nat.le_refl _) (fun _ _ => rfl) (fun id h1 h2 => hfree i hin hDi id h1 h2)
  unfold wpOp
  simp only [ho]
  have conv : (if Region.wanted o (yielded ops a.tmps) then o.wp P a w K Q else K (a.put o.dst undef) w) → (if Region.wanted o (yielded ops a.tmps) then o.wp P a w K Q ∨ (o.asks P a w ∧ LetsOut Q) else K (a.put o.dst undef) w) := by
    intro h
    split
    · rename_i hw; rw [if_pos hw] at h; exact .inl h
    · rename_i hw; rw [if_neg hw] at h; exact h
  apply conv
  rcases d3 with ⟨d4, d5, d6, d7⟩ | ⟨d4, d7⟩
  · have h : exOper P callf io (TD (fun j => (ev j).1) (fun j => (ev j).2.1) (st 0).1 D ops.size, MD, (st i).2.2) = some (tput (TD (fun j => (ev j).1) (fun j => (ev j).2.1) (st 0).1 D ops.size) io.dst (ev i).2.1, (ev i).2.2 ++ MD, (st (i + 1)).2.2) := by
      by_cases hrb : kindOf io.op = .r ∧ bd = true
      · have hnil : (ev i).2.2 = [] := by
          rcases d6 with d6 | ⟨d6, _⟩
          · exact d6
          · rw [hrb.1] at d6; cases d6
        rw [hnil, List.nil_append]
        exact readAny hrb.1 hrb.2
      · exact d7 (TD (fun j => (ev j).1) (fun j => (ev j).2.1) (st 0).1 D ops.size) MD agree (fun hr id B hb => memLe (.inl ⟨hr, by simpa using fun hh => hrb ⟨hr, hh⟩⟩) id B hb)
    refine exOper_sound (W := ⟨W.w, (st i).2.2, (st (i + 1)).2.2, e1⟩) (s := (_, MD, (st i).2.2)) (s' := (_, (ev i).2.2 ++ MD, (st (i + 1)).2.2)) hcall hIs ⟨hTR, hdef, hrunMS fun id B hb => hb⟩ (Nat.le_refl _) h (finish _ ?_)
    funext id
    rw [mget_append]
    simp [Uf, hki, d4]
  · have h := d7 (TD (fun j => (ev j).1) (fun j => (ev j).2.1) (st 0).1 D ops.size) agree
    cases hbb : bd with
    | false =>
      refine exOper_sound (W := ⟨W.w, (st i).2.2, (st (i + 1)).2.2, e1⟩) (s := (_, (st i).2.1, (st i).2.2)) (s' := (_, (st (i + 1)).2.1, (st (i + 1)).2.2)) hcall hIs ⟨hTR, hdef, hrunMS fun id B hb => memLe (.inr d4) id B hb⟩ (Nat.le_refl _) h (finish _ ?_)
      simp [Uf, hki, d4, hbb]
    | true =>
      have ok1 := (hbd hbb).1 i (by omega)
      have ok2 := (hbd hbb).1 (i + 1) (by omega)
      have hle := nxle i (i + 1) (by omega) (by omega)
      have hMle := memLe (.inr d4)
      let Wx : Fr := ⟨fun b => ∃ id B l, mget (st i).2.1 id = some B ∧ e1 id = some l ∧ l.blk = b, (st i).2.2, (st (i + 1)).2.2, e1⟩
      have hMSx : MS w Wx e1 (st i).2.2 (st i).2.1 w :=
        { os := rfl, tape := rfl, output := rfl, size := Nat.le_refl _, frame := fun _ _ _ => rfl, low := Nat.le_refl _, base := fun _ _ => rfl, fresh := fun id h1 h2 => hfree i hin hDi id h1 h2
          blk := fun id B hb => hMS.blk id B (hMle id B hb), own := fun id B l hb hl _ => .inl ⟨id, B, l, hb, hl, rfl⟩, inj := fun id id' B B' l l' hb hb' => hMS.inj id id' B B' l l' (hMle id B hb) (hMle id' B' hb') }
      refine exOper_sound (w0 := w) (W := Wx) (s := (_, (st i).2.1, (st i).2.2)) (s' := (_, (st (i + 1)).2.1, (st (i + 1)).2.2)) hcall hIs ⟨hTR, hdef, hMSx⟩ (Nat.le_refl _) h fun e2 a' w' he hsim => ?_
      have hm := hsim.ms
      let MX : Mem := (st (i + 1)).2.1 ++ MD.filter fun q => Nat.ble (st (i + 1)).2.2 q.1
      have hMX : ∀ id, mget MX id = if (st (i + 1)).2.2 ≤ id then mget MD id else mget (st (i + 1)).2.1 id := by
        intro id
        show mget ((st (i + 1)).2.1 ++ MD.filter fun q => Nat.ble (st (i + 1)).2.2 q.1) id = _
        rw [mget_append, mget_filterP (fun k => Nat.ble (st (i + 1)).2.2 k)]
        by_cases hid : (st (i + 1)).2.2 ≤ id
        · rw [if_pos hid, if_pos (Nat.ble_eq_true_of_le hid)]
          cases hg : mget (st (i + 1)).2.1 id with
          | none => rfl
          | some B => have := (okMem_get ok2 hg).1; omega
        · rw [if_neg hid, if_neg (fun hh => hid (Nat.le_of_ble_eq_true hh))]
          cases mget (st (i + 1)).2.1 id <;> rfl
      have hsplit : ∀ id B, mget MX id = some B → (st (i + 1)).2.2 ≤ id ∧ mget MD id = some B ∨ id < (st (i + 1)).2.2 ∧ mget (st (i + 1)).2.1 id = some B := by
        intro id B hb
        rw [hMX] at hb
        split at hb
        · rename_i hh; exact .inl ⟨hh, hb⟩
        · rename_i hh; exact .inr ⟨by omega, hb⟩
      have hexe : ∀ id, (st (i + 1)).2.2 ≤ id → e2 id = e1 id := fun id hid => hm.base id (.inr hid)
      have hout2 : ∀ id B l, (st (i + 1)).2.2 ≤ id → mget MD id = some B → e1 id = some l → l.blk < w.heap.size ∧ (B.ro = false → ¬ Wx.w l.blk) := by
        intro id B l hid hb hl
        obtain ⟨l', hl', hr⟩ := hMS.blk id B hb
        obtain rfl : l = l' := by rw [hl] at hl'; exact Option.some.inj hl'
        refine ⟨hr.lt, ?_⟩
        rintro hro ⟨id2, B2, l2, hb2, hl2, heq⟩
        have := hMS.inj id id2 B B2 l l2 hb (hMle id2 B2 hb2) hl hl2 hro heq.symm
        have := (okMem_get ok1 hb2).1
        omega
      have hnw : ∀ id B l, (st (i + 1)).2.2 ≤ id → mget MD id = some B → e1 id = some l → ¬ Wx.w l.blk := by
        rintro id B l hid hb hl ⟨id2, B2, l2, hb2, hl2, heq⟩
        have := hMS.inj id2 id B2 B l2 l (hMle id2 B2 hb2) hb hl2 hl (okMem_get ok1 hb2).2 heq
        have := (okMem_get ok1 hb2).1
        omega
      refine finish MX ?_ e2 a' w' he ⟨hsim.tr, hsim.defers, ?_⟩
      · funext id
        rw [hMX]
        simp [Uf, hki, d4, hbb]
      · refine { os := hm.os.trans hMS.os, tape := hm.tape.trans hMS.tape, output := hm.output.trans hMS.output, size := Nat.le_trans hMS.size hm.size, frame := fun b hb hw => ?_, low := hm.low, base := hm.base, fresh := hm.fresh, blk := fun id B hb => ?_, own := fun id B l hb hl hro => ?_, inj := fun id id' B B' l l' hb hb' hl hl' hro heq => ?_ }
        · refine (hm.frame b (Nat.lt_of_lt_of_le hb hMS.size) ?_).trans (hMS.frame b hb hw)
          rintro ⟨id, B, l, hb1, hl1, rfl⟩
          rcases hMS.own id B l (hMle id B hb1) hl1 (okMem_get ok1 hb1).2 with h1 | h1
          · exact hw h1
          · omega
        · rcases hsplit id B hb with ⟨h1, h2⟩ | ⟨h1, h2⟩
          · obtain ⟨l, hl, hr⟩ := hMS.blk id B h2
            exact ⟨l, by rw [hexe id h1]; exact hl, hr.mono he (hm.frame _ hr.lt (hnw id B l h1 h2 hl))⟩
          · exact hm.blk id B h2
        · rcases hsplit id B hb with ⟨h1, h2⟩ | ⟨h1, h2⟩
          · rw [hexe id h1] at hl
            exact hMS.own id B l h2 hl hro
          · rcases hm.own id B l h2 hl hro with ⟨id2, B2, l2, h3, h4, h5⟩ | h3
            · rw [← h5]; exact hMS.own id2 B2 l2 (hMle id2 B2 h3) h4 (okMem_get ok1 h3).2
            · exact .inr (Nat.le_trans hMS.size h3)
        · rcases hsplit id B hb with ⟨h1, h2⟩ | ⟨h1, h2⟩
          · rcases hsplit id' B' hb' with ⟨g1, g2⟩ | ⟨g1, g2⟩
            · rw [hexe id h1] at hl
              rw [hexe id' g1] at hl'
              exact hMS.inj id id' B B' l l' h2 g2 hl hl' hro heq
            · rw [hexe id h1] at hl
              exfalso
              rcases hm.own id' B' l' g2 hl' (okMem_get ok2 g2).2 with h3 | h3
              · rw [← heq] at h3; exact hnw id B l h1 h2 hl h3
              · have := (hout2 id B l h1 h2 hl).1; omega
          · rcases hsplit id' B' hb' with ⟨g1, g2⟩ | ⟨g1, g2⟩
            · rw [hexe id' g1] at hl'
              exfalso
              rcases hm.own id B l h2 hl hro with h3 | h3
              · rw [heq] at h3; exact hnw id' B' l' g1 g2 hl' h3
              · have := (hout2 id' B' l' g1 g2 hl').1; omega
            · exact hm.inj id id' B B' l l' h2 g2 hl hl' hro heq

/-- How many have not been. -/
def unlisted : List Bool → Nat
  | [] => 0
  | b :: l => (if b then 0 else 1) + unlisted l
theorem unlisted_set : ∀ (l : List Bool) (i : Nat), l[i]? = some false → unlisted (l.set i true) + 1 = unlisted l
  | [], i, h => by simp at h
  | b :: l, 0, h => by simp at h; subst h; simp [unlisted]; omega
  | b :: l, i + 1, h => by
    simp only [List.set_cons_succ, unlisted]
    have := unlisted_set l i (by simpa using h)
    omega
theorem unlisted_zero : ∀ (l : List Bool), unlisted l = 0 → ∀ (i : Nat) (b : Bool), l[i]? = some b → b = true
  | [], _, i, b, h => by simp at h
  | c :: l, hz, 0, b, h => by simp at h; subst h; cases c <;> simp_all [unlisted]
  | c :: l, hz, i + 1, b, h => unlisted_zero l (by simp only [unlisted] at hz; omega) i b (by simpa using h)

theorem draw_any (hcall : CallOK P callf) {il : List IOper} (hc : compOps P ops ops.toList = some il) {bd : Bool} (hs : simpleB bd ops il = true) {st : Nat → XSt} (hst : ∀ j io, il[j]? = some io → exOper P callf io (st j) = some (st (j + 1))) (hbd : bd = true → (∀ j, j ≤ ops.size → okMem (st j) = true) ∧ readsOK P callf (Region.before ops).toList il st = true) {ev : Nat → Option Nat × Value × Mem} (hev : ∀ j, StepOK P callf il st j (ev j))
    {Q : Exit → Act → World → Prop} (hQ : ∀ a w, DState bd w0 W e ops.size st il ev (fun j => decide (j < ops.size)) a w → Q .normal a w) :
    ∀ (fuel : Nat) (listed : Array Bool) (a : Act) (w : World), listed.size = ops.size → unlisted listed.toList ≤ fuel → Closed ops (fun j => listed.getD j false) → DState bd w0 W e ops.size st il ev (fun j => listed.getD j false) a w → wpAny P .any ops Q fuel listed a w := by
  have hmask : okMask ops (Region.before ops).toList = true := by
    unfold simpleB at hs
    simp only [Bool.and_eq_true] at hs
    exact hs.1.1
  have hilen : il.length = ops.size := by have := (compOps_get hc).1; simpa using this
  -- if none may come, all have been
  have done : ∀ (listed : Array Bool) (a : Act) (w : World), listed.size = ops.size → Closed ops (fun j => listed.getD j false) → DState bd w0 W e ops.size st il ev (fun j => listed.getD j false) a w → Region.ready .any ops listed = [] → Q .normal a w := by
    intro listed a w hsz hD hS hr
    have hall : ∀ j, j < ops.size → listed.getD j false = true := by
      intro j
      induction j using Nat.strongRecOn with
      | _ j ih =>
        intro hj
        have hnot : j ∉ Region.ready .any ops listed := by rw [hr]; simp
        cases hb : listed.getD j false with
        | true => rfl
        | false =>
          exfalso
          apply hnot
          rw [mem_ready]
          have ho : ops[j]? = some ops[j] := Array.getElem?_eq_getElem hj
          refine ⟨?_, ops[j], ho, fun ed hed hbd => ?_⟩
          · simp only [Array.getD_eq_getD_getElem?, Array.getElem?_eq_getElem (show j < listed.size by omega), Option.getD_some] at hb ⊢
            exact hb
          · have h1 := List.all_eq_true.1 hmask j (List.mem_range.2 hj)
            rw [ho] at h1
            simp only [Bool.and_eq_true] at h1
            have h2 := List.all_eq_true.1 h1.1 ed (by simpa using hed)
            simp only [hbd, Bool.not_true, Bool.false_or, decide_eq_true_eq] at h2
            exact ih ed.on h2 (by omega)
    have : (fun j => listed.getD j false) = fun j => decide (j < ops.size) := by
      funext j
      by_cases hj : j < ops.size
      · simp only [hall j hj, hj, decide_true]
      · simp only [hj, decide_false, Array.getD_eq_getD_getElem?, Array.getElem?_eq_none (show listed.size ≤ j by omega), Option.getD_none]
    rw [this] at hS
    exact hQ a w hS
  have next : ∀ (listed : Array Bool) (i : Nat), i ∈ Region.ready .any ops listed → listed.size = ops.size → Closed ops (fun j => listed.getD j false) →
      (∃ o, ops[i]? = some o ∧ (∀ e ∈ o.after, Region.binds .any e = true → listed.getD e.on false = true)) ∧ listed.getD i false = false ∧ (fun j => (listed.setIfInBounds i true).getD j false) = plus (fun j => listed.getD j false) i ∧ Closed ops (fun j => (listed.setIfInBounds i true).getD j false) ∧ listed.toList[i]? = some false := by
    intro listed i hi hsz hD
    rw [mem_ready] at hi
    obtain ⟨h0, o, ho, hall⟩ := hi
    have hin : i < ops.size := (Array.getElem?_eq_some_iff.1 ho).1
    have hl : listed[i]? = some false := by
      simp only [Array.getD_eq_getD_getElem?, Array.getElem?_eq_getElem (show i < listed.size by omega), Option.getD_some] at h0 ⊢
      rw [h0]
    have hf : (fun j => (listed.setIfInBounds i true).getD j false) = plus (fun j => listed.getD j false) i := by
      funext j
      by_cases hj : j = i
      · subst hj
        simp [plus, Array.getD_eq_getD_getElem?, Array.getElem?_setIfInBounds_self_of_lt (show j < listed.size by omega)]
      · simp [plus, hj, Array.getD_eq_getD_getElem?, Array.getElem?_setIfInBounds_ne (Ne.symm hj)]
    refine ⟨⟨o, ho, hall⟩, by simp [Array.getD_eq_getD_getElem?, hl], hf, ?_, by simpa using hl⟩
    rw [hf]
    intro j o' ed ho' hj hed hbd
    simp only [plus, Bool.or_eq_true, beq_iff_eq] at hj ⊢
    rcases hj with rfl | hj
    · rw [ho] at ho'
      obtain rfl := Option.some.inj ho'
      exact .inr (hall ed hed hbd)
    · exact .inr (hD j o' ed ho' hj hed hbd)
  intro fuel
  induction fuel with
  | zero =>
    intro listed a w hsz hf hD hS
    have hempty : Region.ready .any ops listed = [] := by
      cases hr : Region.ready .any ops listed with
      | nil => rfl
      | cons i r =>
        obtain ⟨_, _, _, _, h5⟩ := next listed i (by rw [hr]; simp) hsz hD
        have := unlisted_zero _ (by omega) i false h5
        cases this
    exact ⟨hempty, done listed a w hsz hD hS hempty⟩
  | succ fuel ih =>
    intro listed a w hsz hf hD hS
    refine ⟨done listed a w hsz hD hS, fun i hi => ?_⟩
    obtain ⟨⟨o, ho, hready⟩, h2, h3, h4, h5⟩ := next listed i hi hsz hD
    have hDn : ∀ j, listed.getD j false = true → j < ops.size := by
      intro j hj
      rcases Nat.lt_or_ge j ops.size with h | h
      · exact h
      · simp [Array.getD_eq_getD_getElem?, Array.getElem?_eq_none (show listed.size ≤ j by omega)] at hj
    refine draw_step hcall hc hs hst hbd hev hD hDn ho h2 hready hS fun a' w' hS' => ih _ a' w' (by simp [hsz]) ?_ h4 (by rw [h3]; exact hS')
    have := unlisted_set listed.toList i h5
    simp only [Array.toList_setIfInBounds]
    omega

theorem getD_rep (m j : Nat) : (Array.replicate m false).getD j false = false := by
  rw [Array.getD_eq_getD_getElem?]
  by_cases h : j < m
  · rw [Array.getElem?_eq_getElem (by simpa using h)]; simp
  · rw [Array.getElem?_eq_none (by simpa using h)]; rfl
/-- A region that draws its order: any order comes to what the text's order comes to. -/
theorem draw_sound_any (hcall : CallOK P callf) {il : List IOper} (hc : compOps P ops ops.toList = some il) {bd : Bool} (hs : simpleB bd ops il = true) {s s' : XSt} {a : Act} {w : World} (hsim : SimS w0 W e s a w) (hB : s'.2.2 ≤ W.top) (h : exOps P callf il s = some s') (hb : bd = true → exOpsB P callf (Region.before ops).toList il s = some s') 
    {Q : Exit → Act → World → Prop} (hQ : ∀ e' a' w', Ext e e' → SimS w0 W e' s' a' w' → Q .normal a' w') : wpAny P .any ops Q ops.size (Array.replicate ops.size false) a { w with drawn := w.drawn + 1 } := by
  obtain ⟨st, h0, hn, hst, hbd0⟩ := states_both P callf bd (Region.before ops).toList h hb
  obtain ⟨ev, hev⟩ := steps_ok hst
  have hilen : il.length = ops.size := by have := (compOps_get hc).1; simpa using this
  have hbd : bd = true → (∀ j, j ≤ ops.size → okMem (st j) = true) ∧ readsOK P callf (Region.before ops).toList il st = true := by rw [← hilen]; exact hbd0
  have nxs : ∀ d j, j + d ≤ ops.size → (st j).2.2 ≤ (st (j + d)).2.2 := by
    intro d
    induction d with
    | zero => intro j _; exact Nat.le_refl _
    | succ d ih =>
      intro j hj
      have h1 := ih j (by omega)
      obtain ⟨x, hx⟩ : ∃ x, il[j + d]? = some x := ⟨il[j + d]'(by omega), List.getElem?_eq_getElem _⟩
      exact Nat.le_trans h1 (exOper_mono hcall (hst (j + d) x hx))
  have nxle : ∀ j k, j ≤ k → k ≤ ops.size → (st j).2.2 ≤ (st k).2.2 := fun j k hjk hk => by
    have := nxs (k - j) j (by omega); rwa [show j + (k - j) = k by omega] at this
  have hsn : st ops.size = s' := by rw [← hilen]; exact hn
  refine draw_any (w0 := w0) (W := W) (e := e) hcall hc hs hst hbd hev ?_ ops.size _ a _ (by simp) ?_ ?_ ?_
  · -- behind all
    intro a' w' hS
    obtain ⟨e1, MD, hE, hTR, hdef, hMD, hMS, hout, _⟩ := hS.out
    have hT : TD (fun j => (ev j).1) (fun j => (ev j).2.1) (st 0).1 (fun j => decide (j < ops.size)) ops.size = s'.1 := by
      rw [TD_below (D' := fun _ => true) ops.size fun j hj => by simp [hj], ← hsn]
      have : ∀ k, k ≤ ops.size → (st k).1 = TD (fun j => (ev j).1) (fun j => (ev j).2.1) (st 0).1 (fun _ => true) k := by
        intro k
        induction k with
        | zero => intro _; rfl
        | succ k ih =>
          intro hk
          obtain ⟨x, hx⟩ : ∃ x, il[k]? = some x := ⟨il[k]'(by omega), List.getElem?_eq_getElem _⟩
          obtain ⟨e1, e2, _⟩ := hev k x hx
          simp only [TD, if_true, ← ih (by omega), e1, e2]
      exact (this ops.size (Nat.le_refl _)).symm
    have hM : mD (Uf bd il st fun j => (ev j).2.2) (mget (st 0).2.1) (fun j => decide (j < ops.size)) ops.size = mget s'.2.1 := by
      rw [mD_below (D' := fun _ => true) ops.size fun j hj => by simp [hj], ← hsn]
      have : ∀ k, k ≤ ops.size → mget (st k).2.1 = mD (Uf bd il st fun j => (ev j).2.2) (mget (st 0).2.1) (fun _ => true) k := by
        intro k
        induction k with
        | zero => intro _; rfl
        | succ k ih =>
          intro hk
          obtain ⟨x, hx⟩ : ∃ x, il[k]? = some x := ⟨il[k]'(by omega), List.getElem?_eq_getElem _⟩
          obtain ⟨_, _, h3⟩ := hev k x hx
          have hkx : kindAt il k = kindOf x.op := by simp [kindAt, hx]
          simp only [mD, if_true, ← ih (by omega)]
          rcases h3 with ⟨h4, h5, _⟩ | ⟨h4, _⟩
          · simp only [Uf, hkx, h4, if_false]
            rw [h5]
            funext id
            exact mget_append _ _ _
          · simp only [Uf, hkx, h4, if_true]
            funext id
            refine (?_ : _ = _)
            symm
            split
            · rename_i hb2
              have q1 := nxle k (k + 1) (by omega) hk
              have n1 : mget (st k).2.1 id = none := by
                cases hm : mget (st k).2.1 id with
                | none => rfl
                | some B => have := (okMem_get ((hbd hb2.1).1 k (by omega)) hm).1; omega
              have n2 : mget (st (k + 1)).2.1 id = none := by
                cases hm : mget (st (k + 1)).2.1 id with
                | none => rfl
                | some B => have := (okMem_get ((hbd hb2.1).1 (k + 1) hk) hm).1; omega
              rw [n1, n2]
            · rfl
      exact (this ops.size (Nat.le_refl _)).symm
    refine hQ e1 a' w' hE ⟨by rw [← hT]; exact hTR, hdef, ?_⟩
    have hMS' : MS w0 ⟨W.w, 0, 0, e1⟩ e1 0 s'.2.1 w' := hMS.weaken fun id B hb => by rw [hMD, hM]; exact hb
    have hle := nxle 0 ops.size (Nat.zero_le _) (Nat.le_refl _)
    rw [hsn, h0] at hle
    refine hMS'.reframe rfl (Nat.le_trans hsim.ms.low hle) (fun id hid => ?_) (fun id h1 h2 => ?_)
    · rw [hout id]
      · exact hsim.ms.base id hid
      · rw [h0, hsn]
        have := hsim.ms.low
        omega
    · rw [hout id]
      · exact hsim.ms.fresh id (by omega) h2
      · right; rw [hsn]; exact h1
  · have : ∀ n, unlisted (List.replicate n false) = n := by
      intro n
      induction n with
      | zero => rfl
      | succ n ih => rw [List.replicate_succ, unlisted, ih]; simp; omega
    simp [this]
  · intro j o ed ho hj
    have hj2 : (Array.replicate ops.size false).getD j false = true := hj
    rw [getD_rep] at hj2
    cases hj2
  · have hD0 : (fun j => (Array.replicate ops.size false).getD j false) = fun _ => false := by
      funext j
      exact getD_rep _ j
    rw [hD0]
    have hT : ∀ k, TD (fun j => (ev j).1) (fun j => (ev j).2.1) (st 0).1 (fun _ => false) k = (st 0).1 := by
      intro k
      induction k with
      | zero => rfl
      | succ k ih => simp only [TD, Bool.false_eq_true, if_false, ih]
    have hM : ∀ k, mD (Uf bd il st fun j => (ev j).2.2) (mget (st 0).2.1) (fun _ => false) k = mget (st 0).2.1 := by
      intro k
      induction k with
      | zero => rfl
      | succ k ih => simp only [mD, Bool.false_eq_true, if_false, ih]
    refine ⟨e, (st 0).2.1, Ext.refl e, by rw [hT, h0]; exact hsim.tr, hsim.defers, (hM _).symm, ?_, fun _ _ => rfl, fun j hj _ id h1 h2 => ?_⟩
    · rw [h0]
      exact (hsim.ms.drew (w.drawn + 1)).reframe rfl (Nat.zero_le _) (fun _ _ => rfl) (fun id _ h => absurd h (Nat.not_lt_zero _))
    · have q1 := nxle 0 j (Nat.zero_le _) (by omega)
      have q2 := nxle (j + 1) ops.size hj (Nat.le_refl _)
      rw [hsn] at q2
      rw [h0] at q1
      exact hsim.ms.fresh id (by omega) (by omega)
theorem draw_sound (hm : P.follows .mixedOrders = true) (hcall : CallOK P callf) {il : List IOper} (hc : compOps P ops ops.toList = some il) {bd : Bool} (hs : simpleB bd ops il = true) {s s' : XSt} {a : Act} {w : World} (hsim : SimS w0 W e s a w) (hB : s'.2.2 ≤ W.top) (h : exOps P callf il s = some s') (hb : bd = true → exOpsB P callf (Region.before ops).toList il s = some s') {id : Nat}
    {Q : Exit → Act → World → Prop} (hQ : ∀ e' a' w', Ext e e' → SimS w0 W e' s' a' w' → Q .normal a' w') : (Code.region id ops true).wp P Q a w :=
  wp_region_any hm (draw_sound_any hcall hc hs hsim hB h hb hQ)
/-! Another order of the text. -/
def remap (q : Nat → Nat) (o : Oper) : Oper := { o with after := o.after.map (fun e => { e with on := q e.on }), guard := o.guard.map (fun g => (q g.1, g.2)) }
theorem perm_any {ops ops2 : Array Oper} {p q : Nat → Nat} (hsz : ops2.size = ops.size) (hq : ∀ i, ops2[q i]? = (ops[i]?).map (remap q)) (hp : ∀ k, k < ops.size → q (p k) = k) (hinj : ∀ i j, q i = q j → i = j)
    {Q : Exit → Act → World → Prop} : ∀ (fuel : Nat) (listed listed2 : Array Bool) (a : Act) (w : World), (∀ i, listed[i]? = listed2[q i]?) → listed.size = listed2.size → wpAny P .any ops2 Q fuel listed2 a w → wpAny P .any ops Q fuel listed a w := by
  have hbd : ∀ (e : Edge), Region.binds .any ({ e with on := q e.on } : Edge) = Region.binds .any e := fun e => rfl
  have hg : ∀ (listed listed2 : Array Bool), (∀ i, listed[i]? = listed2[q i]?) → ∀ i b, listed.getD i b = listed2.getD (q i) b := by
    intro listed listed2 h i b
    simp only [Array.getD_eq_getD_getElem?, h i]
  have hready : ∀ (listed listed2 : Array Bool), (∀ i, listed[i]? = listed2[q i]?) → ∀ i, i ∈ Region.ready .any ops listed ↔ q i ∈ Region.ready .any ops2 listed2 := by
    intro listed listed2 h i
    rw [mem_ready, mem_ready, hg listed listed2 h]
    constructor
    · rintro ⟨h1, o, ho, h2⟩
      refine ⟨h1, remap q o, by rw [hq, ho]; rfl, fun e he hb => ?_⟩
      obtain ⟨e0, he0, rfl⟩ := Array.mem_map.1 (show e ∈ o.after.map (fun e => ({ e with on := q e.on } : Edge)) from he)
      have := h2 e0 he0 hb
      rw [hg listed listed2 h] at this
      exact this
    · rintro ⟨h1, o, ho, h2⟩
      rw [hq] at ho
      obtain ⟨o0, ho0, rfl⟩ := Option.map_eq_some_iff.1 ho
      refine ⟨h1, o0, ho0, fun e he hb => ?_⟩
      rw [hg listed listed2 h]
      exact h2 { e with on := q e.on } (Array.mem_map.2 ⟨e, he, rfl⟩) hb
  have hnil : ∀ (listed listed2 : Array Bool), (∀ i, listed[i]? = listed2[q i]?) → Region.ready .any ops listed = [] → Region.ready .any ops2 listed2 = [] := by
    intro listed listed2 h hr
    cases hr2 : Region.ready .any ops2 listed2 with
    | nil => rfl
    | cons k r =>
      exfalso
      have hk : k ∈ Region.ready .any ops2 listed2 := by rw [hr2]; simp
      have hk2 := hk
      rw [mem_ready] at hk2
      obtain ⟨_, o, ho, _⟩ := hk2
      have hlt : k < ops.size := by rw [← hsz]; exact (Array.getElem?_eq_some_iff.1 ho).1
      have := (hready listed listed2 h (p k)).2 (by rw [hp k hlt]; exact hk)
      rw [hr] at this
      cases this
  have hy : ∀ (tm : Array Value) j, yielded ops2 tm (q j) = yielded ops tm j := by
    intro tm j
    unfold yielded
    rw [hq]
    cases ops[j]? <;> rfl
  have hw : ∀ (o : Oper) (tm : Array Value), Region.wanted (remap q o) (yielded ops2 tm) = Region.wanted o (yielded ops tm) := by
    intro o tm
    unfold Region.wanted remap
    cases hgd : o.guard with
    | none => rfl
    | some g => simp only [Option.map_some, hy]
  intro fuel
  induction fuel with
  | zero =>
    intro listed listed2 a w h hs h2
    have hnil2 : Region.ready .any ops listed = [] := by
      cases hr : Region.ready .any ops listed with
      | nil => rfl
      | cons i r =>
        have := (hready listed listed2 h i).1 (by rw [hr]; simp)
        rw [h2.1] at this
        cases this
    exact ⟨hnil2, h2.2⟩
  | succ fuel ih =>
    intro listed listed2 a w h hs h2
    refine ⟨fun hr => h2.1 (hnil listed listed2 h hr), fun i hi => ?_⟩
    have hi2 := (hready listed listed2 h i).1 hi
    have h3 := h2.2 (q i) hi2
    rw [mem_ready] at hi
    obtain ⟨_, o, ho, _⟩ := hi
    have hset : ∀ j, (listed.setIfInBounds i true)[j]? = (listed2.setIfInBounds (q i) true)[q j]? := by
      intro j
      simp only [Array.getElem?_setIfInBounds, h j]
      by_cases hij : i = j
      · subst hij
        have hl : i < listed.size ↔ q i < listed2.size := by
          have := h i
          constructor
          · intro hh
            rw [Array.getElem?_eq_getElem hh] at this
            exact (Array.getElem?_eq_some_iff.1 this.symm).1
          · intro hh
            rw [Array.getElem?_eq_getElem hh] at this
            exact (Array.getElem?_eq_some_iff.1 this).1
        simp only [if_true, hl]
      · rw [if_neg hij, if_neg (fun hh => hij (hinj _ _ hh))]
    have hK : ∀ a' w', wpAny P .any ops2 Q fuel (listed2.setIfInBounds (q i) true) a' w' → wpAny P .any ops Q fuel (listed.setIfInBounds i true) a' w' :=
      fun a' w' => ih _ _ a' w' hset (by simp [hs])
    unfold wpOp at h3 ⊢
    rw [hq, ho] at h3
    simp only [Option.map_some, hw] at h3
    rw [ho]
    simp only
    split at h3
    · rename_i hh
      rw [if_pos hh]
      rcases h3 with h3 | h3
      · exact .inl (Oper.wp_mono (o := o) hK h3)
      · exact .inr h3
    · rename_i hh
      rw [if_neg hh]
      exact hK _ _ h3
/-- An order in which each new block comes just ahead of what needs it. -/
def emit (afters : List (List Nat)) : Nat → Nat → List Nat → List Nat
  | 0, _, acc => acc
  | f + 1, j, acc => if acc.contains j then acc else j :: ((afters.getD j []).foldl (fun acc k => emit afters f k acc) acc)
def lateOrder (ops : Array Oper) (il : List IOper) : List Nat :=
  let n := ops.size
  let afters := ops.toList.map fun o => (o.after.toList.filter (Region.binds .any)).map (·.on)
  (((List.range n).filter fun j => match il[j]? with | some io => kindOf io.op != .a | none => false) ++ List.range n).foldl (fun acc j => emit afters n j acc) [] |>.reverse
def qOf (pl : List Nat) (n i : Nat) : Nat := if i < n then pl.idxOf i else i
def permOps (ops : Array Oper) (pl : List Nat) : Array Oper := match ops[0]? with
  | some d => (pl.map fun k => remap (qOf pl ops.size) ((ops[k]?).getD d)).toArray
  | none => #[]
def permOK (pl : List Nat) (n : Nat) : Bool := pl.length == n && (List.range n).all fun i => Nat.blt (pl.idxOf i) n && pl.getD (pl.idxOf i) 0 == i && Nat.blt (pl.getD i 0) n && pl.idxOf (pl.getD i 0) == i
theorem perm_sound {ops : Array Oper} {pl : List Nat} (hpl : permOK pl ops.size = true) {Q : Exit → Act → World → Prop} {a : Act} {w : World} (h : wpAny P .any (permOps ops pl) Q (permOps ops pl).size (Array.replicate (permOps ops pl).size false) a w) : wpAny P .any ops Q ops.size (Array.replicate ops.size false) a w := by
  unfold permOK at hpl
  simp only [Bool.and_eq_true, beq_iff_eq, List.all_eq_true, List.mem_range, Nat.blt_eq] at hpl
  obtain ⟨hlen, hall⟩ := hpl
  by_cases h0 : ops.size = 0
  · have : ops = #[] := Array.eq_empty_of_size_eq_zero h0
    subst this
    exact h
  obtain ⟨d, hd⟩ : ∃ d, ops[0]? = some d := ⟨_, Array.getElem?_eq_getElem (by omega)⟩
  have hsz : (permOps ops pl).size = ops.size := by
    unfold permOps
    rw [hd]
    simp [hlen]
  rw [hsz] at h
  refine perm_any (p := fun k => pl.getD k 0) (q := qOf pl ops.size) hsz ?_ ?_ ?_ ops.size _ _ a w ?_ (by simp) h
  · intro i
    unfold permOps
    rw [hd]
    simp only
    by_cases hi : i < ops.size
    · obtain ⟨⟨⟨h1, h2⟩, _⟩, _⟩ := hall i hi
      have hqi : qOf pl ops.size i = pl.idxOf i := if_pos hi
      have hpi : pl[pl.idxOf i]? = some i := by
        rw [List.getD_eq_getElem?_getD] at h2
        rw [List.getElem?_eq_getElem (by omega), Option.getD_some] at h2
        rw [List.getElem?_eq_getElem (by omega), h2]
      have e1 : ((pl.map fun k => remap (qOf pl ops.size) ((ops[k]?).getD d)).toArray)[pl.idxOf i]? = some (remap (qOf pl ops.size) ((ops[i]?).getD d)) := by
        rw [List.getElem?_toArray, List.getElem?_map, hpi]
        rfl
      rw [hqi]
      rw [e1, Array.getElem?_eq_getElem hi]
      rfl
    · have hqi : qOf pl ops.size i = i := if_neg hi
      rw [hqi, Array.getElem?_eq_none (by simp [hlen]; omega), Array.getElem?_eq_none (by omega)]
      rfl
  · intro k hk
    obtain ⟨⟨_, h3⟩, h4⟩ := hall k hk
    show qOf pl ops.size (pl.getD k 0) = k
    unfold qOf
    rw [if_pos h3, h4]
  · intro i j hij
    unfold qOf at hij
    by_cases hi : i < ops.size <;> by_cases hj : j < ops.size
    · rw [if_pos hi, if_pos hj] at hij
      have h1 := (hall i hi).1.1.2
      have h2 := (hall j hj).1.1.2
      rw [hij] at h1
      omega
    · rw [if_pos hi, if_neg hj] at hij
      have h1 := (hall i hi).1.1.1
      omega
    · rw [if_neg hi, if_pos hj] at hij
      have h1 := (hall j hj).1.1.1
      omega
    · rw [if_neg hi, if_neg hj] at hij
      exact hij
  · intro i
    unfold qOf
    by_cases hi : i < ops.size
    · have h1 := (hall i hi).1.1.1
      rw [if_pos hi, Array.getElem?_eq_getElem (by simpa using hi), Array.getElem?_eq_getElem (by simpa using h1)]
      simp
    · rw [if_neg hi, Array.getElem?_eq_none (show (Array.replicate ops.size false).size ≤ i by simp; omega)]
end
end Go.Proofs.Ytlpoolcdoecodaa.Eng
