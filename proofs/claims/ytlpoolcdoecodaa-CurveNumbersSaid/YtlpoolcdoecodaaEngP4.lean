/-
  THE ENGINE: a verified abstract run of the program. No statement of the program is proved here.
-/
import Derived.Test.YtlpoolcdoecodaaEngP3
set_option linter.unusedVariables false
set_option linter.unusedSimpArgs false
/- Part Eng13. -/
namespace Go.Proofs.Ytlpoolcdoecodaa.Eng
open Go.RowKit

/-- Code made plain. -/
inductive ICode where
  | skip
  | region (ops : List IOper)
  | regionB (mask : List Nat) (ops : List IOper)
  | seq (a b : ICode)
  | cond (c : Operand) (a b : ICode)
  | block (id : Nat) (b : ICode)
  | scope (b : ICode)
  | label (l : Nat)
  | goto (l : Nat)
  | jump (b rest : ICode)
  | loop (b : ICode)
  | exit (id : Nat)
  | ret
  | fail
inductive IRes where
  | tmp (t : Nat)
  | cell (t : Nat) (agg : Option Nat)
structure IFunc where
  code : ICode
  ntmps : Nat
  results : List IRes
  keep : Bool
inductive XR where
  | normal
  | exit (id : Nat)
  | goto (l : Nat)
  | ret
def XR.toExit : XR → Exit
  | .normal => .normal
  | .exit id => .exit id
  | .goto l => .goto l
  | .ret => .ret
/-- What comes behind a label. -/
def findI : ICode → Nat → Option ICode
  | .seq a b, l => match findI a l with
    | some rest => some (.seq rest b)
    | none => findI b l
  | .label l', l => if l' == l then some .skip else none
  | _, _ => none

def compC (P : Program) : Code → Option ICode
  | .skip => some .skip
  | .label l => some (.label l)
  | .goto l => some (.goto l)
  | .region _ ops draw => match compOps P ops ops.toList with
    | some il => if !draw || (P.follows .mixedOrders && simpleB false ops il) then some (.region il) else if P.follows .mixedOrders && simpleB true ops il then some (.regionB (Region.before ops).toList il) else
      if draw && P.follows .mixedOrders && permOK (lateOrder ops il) ops.size then match compOps P (permOps ops (lateOrder ops il)) (permOps ops (lateOrder ops il)).toList with
        | some il2 => if simpleB true (permOps ops (lateOrder ops il)) il2 then some (.regionB (Region.before (permOps ops (lateOrder ops il))).toList il2) else some .fail
        | none => some .fail
      else some .fail
    | none => some .fail
  | .seq a b => match compC P a, compC P b with
    | some x, some y => some (.seq x y)
    | _, _ => none
  | .cond c a b => match compC P a, compC P b with
    | some x, some y => some (.cond c x y)
    | _, _ => none
  | .block id b => (compC P b).map (.block id ·)
  | .loop b => (compC P b).map .loop
  | .scope b => (compC P b).map .scope
  | .exit id => some (.exit id)
  | .ret => some .ret
  | _ => some .fail

def resVal (T : List Value) (M : Mem) : IRes → Option Value
  | .tmp t => some (tget T t)
  | .cell t none => match tget T t with
    | .pointer (some ⟨id, off, none⟩) => match mget M id with
      | some B => B.cells[off]?
      | none => none
    | _ => none
  | .cell t (some n) => match tget T t with
    | .pointer (some ⟨id, off, none⟩) => match mget M id with
      | some B => if off + n ≤ B.cells.length then some (.agg ((B.cells.drop off).take n).toArray) else none
      | none => none
    | _ => none
def resVals (T : List Value) (M : Mem) : List IRes → Option (List Value)
  | [] => some []
  | r :: l => match resVal T M r, resVals T M l with
    | some v, some vs => some (v :: vs)
    | _, _ => none
def oneOf : List Value → Value
  | [v] => v
  | vs => .tuple vs.toArray
def compRes (P : Program) : List ResultVar → Option (List IRes)
  | [] => some []
  | .tmp t :: l => (compRes P l).map (.tmp t :: ·)
  | .cell t ty :: l => match P.underlying ty, sizeOfT P ty, compRes P l with
    | some d, some n, some r => some (.cell t (if aggD d then some n else none) :: r)
    | _, _, _ => none

/-- Blocks that are named in a value. -/
def refs : Value → List Nat
  | .pointer (some a) => [a.block]
  | .slice (some a) _ _ => [a.block]
  | .agg xs => xs.toList.flatMap fun | .pointer (some a) => [a.block] | .slice (some a) _ _ => [a.block] | _ => []
  | .tuple xs => xs.toList.flatMap fun
    | .pointer (some a) => [a.block]
    | .slice (some a) _ _ => [a.block]
    | .agg ys => ys.toList.flatMap fun | .pointer (some a) => [a.block] | .slice (some a) _ _ => [a.block] | _ => []
    | _ => []
  | _ => []
def isRef : Value → Bool
  | .pointer _ => true
  | .slice .. => true
  | _ => false
def cellRefs : List Value → List Nat
  | [] => []
  | .pointer (some a) :: r => a.block :: cellRefs r
  | .slice (some a) _ _ :: r => a.block :: cellRefs r
  | _ :: r => cellRefs r
def hasRef : List Value → Nat → Bool
  | _, 0 => false
  | [], _ => false
  | v :: r, n + 1 => isRef v || hasRef r n
/-- The blocks that are reached from these. -/
def reach (M : Mem) : Nat → List Nat → List Nat
  | 0, ids => ids
  | n + 1, ids => ids ++ reach M n (ids.flatMap fun id => match mget M id with
    | some B => if hasRef B.cells 8 then cellRefs B.cells else []
    | none => [])
/-- New blocks that the result does not reach are let go. -/
def trim (nx0 : Nat) (v : Value) (M : Mem) : Mem :=
  let ids := reach M 2 (refs v)
  M.filter fun p => p.1 < nx0 || ids.contains p.1
theorem mget_filter (p : Nat → Bool) (id : Nat) {B : Blk} : ∀ {M : Mem}, mget (M.filter fun q => p q.1) id = some B → mget M id = some B
  | [], h => h
  | (i, b) :: m, h => by
    rw [List.filter_cons] at h
    by_cases hp : p i = true
    · simp only [hp, if_true, mget_cons] at h ⊢
      split
      · rename_i hi; rw [if_pos hi] at h; exact h
      · rename_i hi; rw [if_neg hi] at h; exact mget_filter p id h
    · simp only [hp, Bool.false_eq_true, if_false] at h
      rw [mget_cons]
      split
      · rename_i hi
        subst hi
        -- no such block is left
        have : ∀ m : Mem, mget (m.filter fun q => p q.1) i = some B → p i = true := by
          intro m
          induction m with
          | nil => intro h; cases h
          | cons q m ih =>
            obtain ⟨j, c⟩ := q
            intro h
            rw [List.filter_cons] at h
            split at h
            · rename_i hq
              rw [mget_cons] at h
              split at h
              · rename_i hj; subst hj; exact hq
              · exact ih h
            · exact ih h
        exact absurd (this m h) hp
      · exact mget_filter p id h

def enter (IP : Nat → Option IFunc) (exn : ICode → XSt → Option (XR × XSt)) (f : Nat) (args : List Value) (M : Mem) (nx : Nat) : Option (Value × Mem × Nat) :=
  match IP f with
  | none => none
  | some fn =>
    match exn fn.code (args ++ List.replicate (fn.ntmps - args.length) undef, M, nx) with
    | some (.exit _, _) => none
    | some (.goto _, _) => none
    | some (_, s) => match resVals s.1 s.2.1 fn.results with
      | some vs => some (oneOf vs, if fn.keep then s.2.1 else trim nx (oneOf vs) s.2.1, s.2.2)
      | none => none
    | none => none
/-- Calls: by what is known of the function, or by its code. -/
structure Ov where
  fn : Nat → Option (List Value → Mem → Nat → Option (Value × Mem × Nat))
  xt : Nat → List Value → Option Value
def callI (IP : Nat → Option IFunc) (ov : Ov) (exn : ICode → XSt → Option (XR × XSt)) : CallF where
  app := fun f args M nx => match ov.fn f with
    | some g => match g args M nx with
      | some r => some r
      | none => enter IP exn f args M nx
    | none => enter IP exn f args M nx
  xt := ov.xt

def ex (P : Program) (IP : Nat → Option IFunc) (ov : Ov) : Nat → ICode → XSt → Option (XR × XSt)
  | 0, _, _ => none
  | n + 1, c, s =>
    match c with
    | .skip => some (.normal, s)
    | .region ops => match exOps P (callI IP ov (ex P IP ov n)) ops s with
      | some s' => some (.normal, s')
      | none => none
    | .regionB mask ops => match exOpsB P (callI IP ov (ex P IP ov n)) mask ops s with
      | some s' => some (.normal, s')
      | none => none
    | .seq a b => match ex P IP ov n a s with
      | some (.normal, s') => ex P IP ov n b s'
      | r => r
    | .cond c a b => match evalT s.1 c with
      | .bool true => ex P IP ov n a s
      | .bool false => ex P IP ov n b s
      | _ => none
    | .block id b => match ex P IP ov n b s with
      | some (.exit j, s') => if j = id then some (.normal, s') else some (.exit j, s')
      | r => r
    | .scope b => match ex P IP ov n b s with
      | some (.goto l, s') => match findI b l with
        | some rest => ex P IP ov n (.jump b rest) s'
        | none => none
      | r => r
    | .jump b rest => match ex P IP ov n rest s with
      | some (.goto l, s') => match findI b l with
        | some rest' => ex P IP ov n (.jump b rest') s'
        | none => none
      | r => r
    | .label _ => some (.normal, s)
    | .goto l => some (.goto l, s)
    | .loop b => match ex P IP ov n b s with
      | some (.normal, s') => ex P IP ov n (.loop b) s'
      | r => r
    | .exit id => some (.exit id, s)
    | .ret => some (.ret, s)
    | .fail => none

/-- What is known of functions is so. -/
structure OvOK (P : Program) (ov : Ov) : Prop where
  out : ∀ f g, ov.fn f = some g → CallOK P ⟨fun f' args M nx => if f' = f then g args M nx else none, fun _ _ => none⟩
  ext : ∀ (f : Nat) (args : List Value) (v : Value), ov.xt f args = some v → args.all flat = true → ∀ w, (callFunc f args.toArray).run P w = .ok (.value v) w
/-- The table is the program's. -/
structure TabOK (P : Program) (IP : Nat → Option IFunc) : Prop where
  out : ∀ f ifn, IP f = some ifn → ∃ fn c, P.funcs[f]? = some fn ∧ fn.body = some c ∧ (fn.name == "runtime.NumGoroutine") = false ∧ compC P c = some ifn.code ∧ fn.ntmps = ifn.ntmps ∧ compRes P fn.results.toList = some ifn.results

section
variable {P : Program} {Q : Exit → Act → World → Prop} {w0 : World} {W : Fr} {IP : Nat → Option IFunc} {ov : Ov}

/-- The results of a run of code. -/
def Post (w0 : World) (W : Fr) (e : Env) (x : XR) (s : XSt) : Exit → Act → World → Prop := fun x' a' w' => x' = x.toExit ∧ ∃ e', Ext e e' ∧ SimS w0 W e' s a' w'
theorem Post.ext {e e1 : Env} (h : Ext e e1) {x : XR} {s : XSt} {x' : Exit} {a' : Act} {w' : World} (hp : Post w0 W e1 x s x' a' w') : Post w0 W e x s x' a' w' :=
  let ⟨h1, e', h2, h3⟩ := hp
  ⟨h1, e', h.trans h2, h3⟩

/-- A loop, at the beginning of a round. -/
def LoopAt (P : Program) (c : Code) (Q : Exit → Act → World → Prop) (a : Act) (w : World) : Prop :=
  ∀ (b : Frame) (k : List Item) (cs : List Frame), ∃ e a' w', Q e a' w' ∧ Arrives P (lone (b.at a (.code c :: .inLoop c :: k)) cs w) b k cs e a' w'
theorem loop_of_at {c : Code} {a : Act} {w : World} (h : LoopAt P c Q a w) : (Code.loop c).wp P Q a w := by
  intro b k cs
  obtain ⟨e, a', w', hq, harr⟩ := h b k cs
  exact ⟨e, a', w', hq, .of_steps (.one step_loop) harr⟩
theorem at_of_body {c : Code} {a : Act} {w : World} (h : c.wp P (Exit.then (LoopAt P c Q) Q) a w) : LoopAt P c Q a w := by
  intro b k cs
  obtain ⟨e, a₁, w₁, hq, harr⟩ := h b (.inLoop c :: k) cs
  cases e with
  | normal =>
    obtain ⟨e₂, a₂, w₂, hq₂, harr₂⟩ := hq b k cs
    exact ⟨e₂, a₂, w₂, hq₂, .of_steps (Steps.trans harr (.one step_inLoop)) harr₂⟩
  | exit id => exact ⟨_, a₁, w₁, hq, .pass (x := .inLoop c) rfl (fun _ _ => .inl (by simp)) harr⟩
  | goto l => exact ⟨_, a₁, w₁, hq, .pass (x := .inLoop c) rfl (fun _ _ => .inl (by simp)) harr⟩
  | ret => exact ⟨_, a₁, w₁, hq, .pass (x := .inLoop c) rfl (fun _ _ => .inl (by simp)) harr⟩
  | panic ch => exact ⟨_, a₁, w₁, hq, .pass (x := .inLoop c) rfl (fun _ _ => .inl (by simp)) harr⟩
  | outgrown => exact ⟨_, a₁, w₁, hq, .pass (x := .inLoop c) rfl (fun _ _ => .inl (by simp)) harr⟩

/-- Behind a label of a scope. -/
def JumpAt (P : Program) (c rest : Code) (Q : Exit → Act → World → Prop) (a : Act) (w : World) : Prop :=
  ∀ (b : Frame) (k : List Item) (cs : List Frame), ∃ e a' w', Q e a' w' ∧ Arrives P (lone (b.at a (.code rest :: .inScope c :: k)) cs w) b k cs e a' w'
def HopPost (P : Program) (c : Code) (Q : Exit → Act → World → Prop) : Exit → Act → World → Prop
  | .goto l, a, w => ∃ rest, findLabel c l = some rest ∧ JumpAt P c rest Q a w
  | e, a, w => Q e a w
theorem jump_of_body {c rest : Code} {a : Act} {w : World} (h : rest.wp P (HopPost P c Q) a w) : JumpAt P c rest Q a w := by
  intro b k cs
  obtain ⟨e, a₁, w₁, hq, harr⟩ := h b (.inScope c :: k) cs
  cases e with
  | normal => exact ⟨.normal, a₁, w₁, hq, Steps.trans harr (.one step_inScope)⟩
  | exit id => exact ⟨.exit id, a₁, w₁, hq, fun k' hk => harr k' (by simp [exitTo, hk])⟩
  | goto l =>
    obtain ⟨rest', hf, hj⟩ := hq
    obtain ⟨e₂, a₂, w₂, hq₂, harr₂⟩ := hj b k cs
    exact ⟨e₂, a₂, w₂, hq₂, .of_steps (harr _ (by simp [gotoIn, hf])) harr₂⟩
  | ret => exact ⟨_, a₁, w₁, hq, harr⟩
  | panic ch => exact ⟨_, a₁, w₁, hq, harr⟩
  | outgrown => exact ⟨_, a₁, w₁, hq, harr⟩
theorem scope_of_body {c : Code} {a : Act} {w : World} (h : c.wp P (HopPost P c Q) a w) : (Code.scope c).wp P Q a w := by
  intro b k cs
  obtain ⟨e, a₁, w₁, hq, harr⟩ := jump_of_body (rest := c) h b k cs
  exact ⟨e, a₁, w₁, hq, .of_steps (.one step_scope) harr⟩
theorem find_comp {P : Program} {l : Nat} : ∀ (c : Code) {ic : ICode}, compC P c = some ic → (∀ rest, findLabel c l = some rest → ∃ ir, findI ic l = some ir ∧ compC P rest = some ir) ∧ (findLabel c l = none → findI ic l = none)
  | .seq p q, ic, hc => by
    simp only [compC] at hc
    split at hc
    · rename_i ip iq hp hq
      obtain rfl := Option.some.inj hc
      obtain ⟨p1, p2⟩ := find_comp (l := l) p hp
      obtain ⟨q1, q2⟩ := find_comp (l := l) q hq
      constructor
      · intro rest h
        simp only [findLabel] at h
        split at h
        · rename_i r hr
          obtain rfl := Option.some.inj h
          obtain ⟨ir, h1, h2⟩ := p1 r hr
          exact ⟨.seq ir iq, by simp only [findI, h1], by simp only [compC, h2, hq]⟩
        · rename_i hr
          obtain ⟨ir, h1, h2⟩ := q1 rest h
          exact ⟨ir, by simp only [findI, p2 hr, h1], h2⟩
      · intro h
        simp only [findLabel] at h
        split at h
        · cases h
        · rename_i hr
          simp only [findI, p2 hr, q2 h]
    · cases hc
  | .label l', ic, hc => by
    simp [compC] at hc; subst hc
    simp only [findLabel, findI]
    split
    · exact ⟨fun rest h => (by obtain rfl := Option.some.inj h; exact ⟨.skip, rfl, rfl⟩), fun h => (by cases h)⟩
    · exact ⟨fun rest h => (by cases h), fun _ => rfl⟩
  | .skip, ic, hc => by simp [compC] at hc; subst hc; simp [findLabel, findI]
  | .exit id, ic, hc => by simp [compC] at hc; subst hc; simp [findLabel, findI]
  | .goto l', ic, hc => by simp [compC] at hc; subst hc; simp [findLabel, findI]
  | .ret, ic, hc => by simp [compC] at hc; subst hc; simp [findLabel, findI]
  | .refuse y, ic, hc => by simp [compC] at hc; subst hc; simp [findLabel, findI]
  | .rangeFunc f ps as b, ic, hc => by simp [compC] at hc; subst hc; simp [findLabel, findI]
  | .region id ops draw, ic, hc => by
    refine ⟨fun rest h => by simp [findLabel] at h, fun _ => ?_⟩
    simp only [compC] at hc
    repeat' split at hc
    all_goals (obtain rfl := Option.some.inj hc; rfl)
  | .cond t p q, ic, hc => by
    refine ⟨fun rest h => by simp [findLabel] at h, fun _ => ?_⟩
    simp only [compC] at hc
    split at hc
    · obtain rfl := Option.some.inj hc; rfl
    · cases hc
  | .block id p, ic, hc => by
    refine ⟨fun rest h => by simp [findLabel] at h, fun _ => ?_⟩
    simp only [compC] at hc
    obtain ⟨ip, hp, rfl⟩ := Option.map_eq_some_iff.1 hc; rfl
  | .loop p, ic, hc => by
    refine ⟨fun rest h => by simp [findLabel] at h, fun _ => ?_⟩
    simp only [compC] at hc
    obtain ⟨ip, hp, rfl⟩ := Option.map_eq_some_iff.1 hc; rfl
  | .scope p, ic, hc => by
    refine ⟨fun rest h => by simp [findLabel] at h, fun _ => ?_⟩
    simp only [compC] at hc
    obtain ⟨ip, hp, rfl⟩ := Option.map_eq_some_iff.1 hc; rfl

/-- A result, as the model reads it. -/
def resM (tm : Array Value) : ResultVar → Sem Value
  | .tmp t => Pure.pure (tm.getD t undef)
  | .cell x t => do loadVar t (← asAddr (tm.getD x undef))
theorem resVals_sound {e : Env} {s : XSt} {a : Act} {w : World} (hs : SimS w0 W e s a w) : ∀ (rs : List ResultVar) {irs : List IRes}, compRes P rs = some irs → ∀ {vs : List Value}, resVals s.1 s.2.1 irs = some vs →
    ∃ vs', (rs.mapM (resM a.tmps)).run P w = .ok vs' w ∧ VRs e vs vs'
  | [], irs, hc, vs, h => by
    simp [compRes] at hc; subst hc
    simp [resVals] at h; subst h
    exact ⟨[], rfl, .nil⟩
  | .tmp t :: rs, irs, hc, vs, h => by
    obtain ⟨irs', h1, rfl⟩ := Option.map_eq_some_iff.1 hc
    simp only [resVals, resVal] at h
    split at h
    · rename_i v vs1 hv hvs
      obtain rfl := Option.some.inj h
      obtain rfl := Option.some.inj hv
      obtain ⟨vs', h2, h3⟩ := resVals_sound hs rs h1 hvs
      refine ⟨a.tmps.getD t undef :: vs', ?_, .cons _ _ _ _ (evalT_sound hs.tr (.tmp t)) h3⟩
      simp only [List.mapM_cons, resM, Sem.run_bind, Sem.run_pure, Result.andThen_ok, h2]
    · cases h
  | .cell x ty :: rs, irs, hc, vs, h => by
    simp only [compRes] at hc
    split at hc
    · rename_i d n r hd hn hr
      obtain rfl := Option.some.inj hc
      obtain ⟨j, hj, rfl⟩ := sizeOfT_sound hn
      simp only [resVals] at h
      split at h
      · rename_i v vs1 hv hvs
        obtain rfl := Option.some.inj h
        obtain ⟨vs', h2, h3⟩ := resVals_sound hs rs hr hvs
        have hx := evalT_sound hs.tr (.tmp x)
        simp only [evalT, Act.eval] at hx
        by_cases hag : aggD d = true
        · rw [if_pos hag] at hv
          simp only [resVal] at hv
          split at hv
          · rename_i id off hp
            split at hv
            · rename_i B hb
              split at hv
              · rename_i hle
                obtain rfl := Option.some.inj hv
                rw [hp] at hx
                obtain ⟨l, hl, hy⟩ := hx.ptr_inv
                obtain ⟨us, e1, e2⟩ := hs.ms.run_loads P hb hl hle
                refine ⟨.agg us.toArray :: vs', ?_, .cons _ _ _ _ (.agg _ _ e2) h3⟩
                have : (loadVar ty ⟨l.blk, l.base + off, none⟩).run P w = .ok (.agg us.toArray) w := by
                  cases d <;> first | (simp [aggD] at hag; done) | simp [loadVar, isAgg, run_underlying hd, sizeOf, typeInfo, hj, e1]
                simp only [List.mapM_cons, resM, Sem.run_bind, hy, asAddr, Sem.run_pure, Result.andThen_ok, this, h2]
              · cases hv
            · cases hv
          · cases hv
        · rw [if_neg hag] at hv
          simp only [resVal] at hv
          split at hv
          · rename_i id off hp
            split at hv
            · rename_i B hb
              rw [hp] at hx
              obtain ⟨l, hl, hy⟩ := hx.ptr_inv
              obtain ⟨u, e1, e2⟩ := hs.ms.cell hb hl hv
              refine ⟨u :: vs', ?_, .cons _ _ _ _ e2 h3⟩
              have : (loadVar ty ⟨l.blk, l.base + off, none⟩).run P w = .ok u w := by
                cases d <;> first | (simp [aggD] at hag; done) | simp [loadVar, isAgg, run_underlying hd, e1]
              simp only [List.mapM_cons, resM, Sem.run_bind, hy, asAddr, Sem.run_pure, Result.andThen_ok, this, h2]
            · cases hv
          · cases hv
      · cases h
    · cases hc
theorem results_sound {e : Env} {s : XSt} {a : Act} {w : World} (hs : SimS w0 W e s a w) {fn : Func} {irs : List IRes} (hc : compRes P fn.results.toList = some irs) {vs : List Value} (h : resVals s.1 s.2.1 irs = some vs) :
    ∃ v', (results fn a.tmps).run P w = .ok v' w ∧ VR e (oneOf vs) v' := by
  obtain ⟨vs', h1, h2⟩ := resVals_sound hs fn.results.toList hc h
  refine ⟨oneOf vs', ?_, ?_⟩
  · unfold results
    rw [Sem.run_bind, Array.mapM_eq_mapM_toList, Sem.run_map]
    generalize hg : (List.mapM _ fn.results.toList : Sem (List Value)) = m
    have hm : m = List.mapM (resM a.tmps) fn.results.toList := by
      rw [← hg]
      refine congrArg (fun f => List.mapM f fn.results.toList) ?_
      funext r
      cases r <;> rfl
    rw [hm, h1]
    simp only [Result.andThen_ok, Sem.run_pure]
    cases vs' with
    | nil => rfl
    | cons v r => cases r <;> simp [oneOf]
  · cases h2 with
    | nil => exact .tuple [] [] .nil
    | cons x y xs ys hx hs' =>
      cases hs' with
      | nil => exact hx
      | cons x2 y2 xs2 ys2 hx2 hs2 => exact .tuple _ _ (.cons _ _ _ _ hx (.cons _ _ _ _ hx2 hs2))

theorem enter_ok {exn : ICode → XSt → Option (XR × XSt)} (hIP : TabOK P IP) (hmono : ∀ (ic : ICode) (s : XSt) (x : XR) (s' : XSt), exn ic s = some (x, s') → s.2.2 ≤ s'.2.2) (hex : ∀ (c : Code) (ic : ICode), compC P c = some ic → ∀ (w0 : World) (W : Fr) (e : Env) (s : XSt) (x : XR) (s' : XSt) (a : Act) (w : World), SimS w0 W e s a w → s'.2.2 ≤ W.top → exn ic s = some (x, s') → c.wp P (Post w0 W e x s') a w) : CallOK P ⟨enter IP exn, fun _ _ => none⟩ := by
  refine ⟨fun f args M nx v M' nx' h => ?_, fun _ _ _ h => by cases h⟩
  simp only at h
  unfold enter at h
  split at h
  · cases h
  · rename_i ifn hf
    obtain ⟨fn, c, hfn, hb, hname, hcomp, hnt, hres⟩ := hIP.out f ifn hf
    refine ⟨?_, ⟨fn, hfn, hname, by simp [hb]⟩, fun w0 W e w args' hB hargs hM => ?_⟩
    · split at h
      · cases h
      · cases h
      · rename_i x s hne hng hxs
        split at h
        · simp only [Option.some.injEq, Prod.mk.injEq] at h
          have := hmono _ _ _ _ hxs
          simp only at this
          omega
        · cases h
      · cases h
    have hsim : SimS w0 W e (args ++ List.replicate (ifn.ntmps - args.length) undef, M, nx) { tmps := args'.toArray ++ Array.replicate (fn.ntmps - args'.toArray.size) undef, defers := [] } w := by
      refine ⟨?_, rfl, hM⟩
      have hl := hargs.length
      have hv : VRs e (args ++ List.replicate (ifn.ntmps - args.length) undef) (args' ++ List.replicate (fn.ntmps - args'.length) undef) := by
        rw [hl, hnt]
        exact VRs.append (VRs.replicate (.tuple [] [] .nil) _) hargs
      have harr : args'.toArray ++ Array.replicate (fn.ntmps - args'.toArray.size) undef = (args' ++ List.replicate (fn.ntmps - args'.length) undef).toArray := by
        apply Array.ext'
        simp
      rw [harr]
      refine ⟨?_, fun t u hu => ?_⟩
      · have := hv.length; simp only [List.size_toArray]; omega
      · obtain ⟨u', h1, h2⟩ := hv.get t u hu
        exact ⟨u', by simpa using h1, h2⟩
    have hfinish : ∀ (x : XR) (s : XSt), (x = .normal ∨ x = .ret) → exn ifn.code (args ++ List.replicate (ifn.ntmps - args.length) undef, M, nx) = some (x, s) → ∀ vs, resVals s.1 s.2.1 ifn.results = some vs → v = oneOf vs → M' = (if ifn.keep then s.2.1 else trim nx (oneOf vs) s.2.1) → nx' = s.2.2 →
        Calls P f args'.toArray w fun en w' => ∃ v' e', en = .returned v' ∧ Ext e e' ∧ VR e' v v' ∧ MS w0 W e' nx' M' w' := by
      intro x s hx hxs vs hvs hv hM' hnx'
      refine calls_of_wp hfn hb (wp_mono (hex c ifn.code hcomp w0 W e _ x s _ w hsim (by omega) hxs) ?_)
      rintro x' a' w' ⟨rfl, e', he, hs'⟩
      obtain ⟨v', hr, hvr⟩ := results_sound hs' hres hvs
      have hMfin : MS w0 W e' nx' M' w' := by
        rw [hM', hnx']
        split
        · exact hs'.ms
        · exact hs'.ms.weaken fun id B hb => mget_filter (fun i => decide (i < nx) || (reach s.2.1 2 (refs (oneOf vs))).contains i) id hb
      rcases hx with rfl | rfl
      · exact ⟨hs'.defers, v', hr, v', e', rfl, he, hv ▸ hvr, hMfin⟩
      · exact ⟨hs'.defers, v', hr, v', e', rfl, he, hv ▸ hvr, hMfin⟩
    split at h
    · cases h
    · cases h
    · rename_i x s hne hng hxs
      split at h
      · rename_i vs hvs
        simp only [Option.some.injEq, Prod.mk.injEq] at h
        obtain ⟨h1, h2, h3⟩ := h
        refine hfinish x s ?_ hxs vs hvs h1.symm h2.symm h3.symm
        cases x with
        | normal => exact .inl rfl
        | ret => exact .inr rfl
        | exit id => exact absurd rfl (hne id)
        | goto l => exact absurd rfl (hng l)
      · cases h
    · cases h
theorem callI_ok {exn : ICode → XSt → Option (XR × XSt)} (hov : OvOK P ov) (he : CallOK P ⟨enter IP exn, fun _ _ => none⟩) : CallOK P (callI IP ov exn) := by
  refine ⟨fun f args M nx v M' nx' h => ?_, hov.ext⟩
  simp only [callI] at h
  split at h
  · rename_i g hg
    split at h
    · rename_i r hr
      obtain rfl := Option.some.inj h
      exact (hov.out f g hg).out f args M nx v M' nx' (by simp only [if_true]; exact hr)
    · exact he.out f args M nx v M' nx' h
  · exact he.out f args M nx v M' nx' h

/-- A run of the abstract machine is one of the model's. -/
theorem ex_sound (hIP : TabOK P IP) (hov : OvOK P ov) : ∀ (n : Nat), (∀ (c : Code) (ic : ICode), compC P c = some ic → ∀ (w0 : World) (W : Fr) (e : Env) (s : XSt) (x : XR) (s' : XSt) (a : Act) (w : World), SimS w0 W e s a w → s'.2.2 ≤ W.top → ex P IP ov n ic s = some (x, s') → c.wp P (Post w0 W e x s') a w) ∧
    ((∀ (c : Code) (ic : ICode), compC P c = some ic → ∀ (w0 : World) (W : Fr) (e : Env) (s : XSt) (x : XR) (s' : XSt) (a : Act) (w : World), SimS w0 W e s a w → s'.2.2 ≤ W.top → ex P IP ov n (.loop ic) s = some (x, s') → LoopAt P c (Post w0 W e x s') a w) ∧
    (∀ (c : Code) (ic : ICode), compC P c = some ic → ∀ (rest : Code) (ir : ICode), compC P rest = some ir → ∀ (w0 : World) (W : Fr) (e : Env) (s : XSt) (x : XR) (s' : XSt) (a : Act) (w : World), SimS w0 W e s a w → s'.2.2 ≤ W.top → ex P IP ov n (.jump ic ir) s = some (x, s') → JumpAt P c rest (Post w0 W e x s') a w)) ∧
    (∀ (ic : ICode) (s : XSt) (x : XR) (s' : XSt), ex P IP ov n ic s = some (x, s') → s.2.2 ≤ s'.2.2)
  | 0 => ⟨fun _ _ _ _ _ _ _ _ _ _ _ _ _ h => by simp [ex] at h, ⟨fun _ _ _ _ _ _ _ _ _ _ _ _ _ h => by simp [ex] at h, fun _ _ _ _ _ _ _ _ _ _ _ _ _ _ _ _ h => by simp [ex] at h⟩, fun _ _ _ _ h => by simp [ex] at h⟩
  | n + 1 => by
    obtain ⟨ih, ⟨ihl, ihj⟩, ihm⟩ := ex_sound hIP hov n
    have hcall : CallOK P (callI IP ov (ex P IP ov n)) := callI_ok hov (enter_ok hIP ihm ih)
    have hloop : ∀ (c : Code) (ic : ICode), compC P c = some ic → ∀ (w0 : World) (W : Fr) (e : Env) (s : XSt) (x : XR) (s' : XSt) (a : Act) (w : World), SimS w0 W e s a w → s'.2.2 ≤ W.top → ex P IP ov (n + 1) (.loop ic) s = some (x, s') → LoopAt P c (Post w0 W e x s') a w := by
      intro c ic hc w0 W e s x s' a w hs hB h
      simp only [ex] at h
      apply at_of_body
      split at h
      · rename_i s1 h1
        refine wp_mono (ih c ic hc w0 W e s _ s1 a w hs (Nat.le_trans (ihm _ _ _ _ h) hB) h1) ?_
        rintro x' a' w' ⟨rfl, e', he, hs1⟩
        have := ihl c ic hc w0 W e' s1 x s' a' w' hs1 hB h
        intro b k cs
        obtain ⟨x2, a2, w2, hq, harr⟩ := this b k cs
        exact ⟨x2, a2, w2, hq.ext he, harr⟩
      · rename_i r hne
        refine wp_mono (ih c ic hc w0 W e s x s' a w hs hB h) ?_
        rintro x' a' w' ⟨rfl, e', he, hs1⟩
        cases x with
        | normal => exact absurd h (hne s')
        | exit id => exact ⟨rfl, e', he, hs1⟩
        | goto l => exact ⟨rfl, e', he, hs1⟩
        | ret => exact ⟨rfl, e', he, hs1⟩
    -- from a body, through its gotos
    have hhop : ∀ (c : Code) (ic : ICode), compC P c = some ic → ∀ (rest : Code) (ir : ICode), compC P rest = some ir → ∀ (w0 : World) (W : Fr) (e : Env) (s : XSt) (x : XR) (s' : XSt) (a : Act) (w : World), SimS w0 W e s a w → s'.2.2 ≤ W.top →
        (match ex P IP ov n ir s with
          | some (.goto l, s') => match findI ic l with
            | some rest' => ex P IP ov n (.jump ic rest') s'
            | none => none
          | r => r) = some (x, s') → rest.wp P (HopPost P c (Post w0 W e x s')) a w := by
      intro c ic hc rest ir hr w0 W e s x s' a w hs hB h
      split at h
      · rename_i l s1 h1
        split at h
        · rename_i ir' hf
          refine wp_mono (ih rest ir hr w0 W e s _ s1 a w hs (Nat.le_trans (ihm _ _ _ _ h) hB) h1) ?_
          rintro x' a' w' ⟨rfl, e', he, hs1⟩
          cases hfl : findLabel c l with
          | none => rw [(find_comp (l := l) c hc).2 hfl] at hf; cases hf
          | some rest' =>
            obtain ⟨ir2, hf2, hr2⟩ := (find_comp (l := l) c hc).1 rest' hfl
            rw [hf] at hf2
            obtain rfl := Option.some.inj hf2
            have := ihj c ic hc rest' ir' hr2 w0 W e' s1 x s' a' w' hs1 hB h
            refine ⟨rest', hfl, fun b k cs => ?_⟩
            obtain ⟨x2, a2, w2, hq, harr⟩ := this b k cs
            exact ⟨x2, a2, w2, hq.ext he, harr⟩
        · cases h
      · rename_i r hne
        refine wp_mono (ih rest ir hr w0 W e s x s' a w hs hB h) ?_
        rintro x' a' w' ⟨rfl, e', he, hs1⟩
        cases x with
        | normal => exact ⟨rfl, e', he, hs1⟩
        | exit id => exact ⟨rfl, e', he, hs1⟩
        | ret => exact ⟨rfl, e', he, hs1⟩
        | goto l => exact absurd h (hne l s')
    refine ⟨?_, ⟨hloop, fun c ic hc rest ir hr w0 W e s x s' a w hs hB h => jump_of_body (hhop c ic hc rest ir hr w0 W e s x s' a w hs hB (by simpa only [ex] using h))⟩, ?_⟩
    rotate_left
    · intro ic s x s' h
      cases ic <;> simp only [ex] at h
      case skip => simp only [Option.some.injEq, Prod.mk.injEq] at h; obtain ⟨_, rfl⟩ := h; exact Nat.le_refl _
      case region ops =>
        split at h
        · rename_i s1 hs1
          simp only [Option.some.injEq, Prod.mk.injEq] at h
          obtain ⟨_, rfl⟩ := h
          exact exOps_mono hcall ops hs1
        · cases h
      case regionB mask ops =>
        split at h
        · rename_i s1 hs1
          simp only [Option.some.injEq, Prod.mk.injEq] at h
          obtain ⟨_, rfl⟩ := h
          exact exOps_mono hcall ops (exOpsB_ops _ _ _ _ _ _ hs1)
        · cases h
      case seq p q =>
        split at h
        · rename_i s1 h1
          exact Nat.le_trans (ihm _ _ _ _ h1) (ihm _ _ _ _ h)
        · exact ihm _ _ _ _ h
      case cond t p q =>
        split at h
        · exact ihm _ _ _ _ h
        · exact ihm _ _ _ _ h
        · cases h
      case block id p =>
        split at h
        · rename_i j s1 h1
          have := ihm _ _ _ _ h1
          split at h <;> (simp only [Option.some.injEq, Prod.mk.injEq] at h; obtain ⟨_, rfl⟩ := h; exact this)
        · exact ihm _ _ _ _ h
      case scope p =>
        split at h
        · rename_i l s1 h1
          split at h
          · exact Nat.le_trans (ihm _ _ _ _ h1) (ihm _ _ _ _ h)
          · cases h
        · exact ihm _ _ _ _ h
      case jump p q =>
        split at h
        · rename_i l s1 h1
          split at h
          · exact Nat.le_trans (ihm _ _ _ _ h1) (ihm _ _ _ _ h)
          · cases h
        · exact ihm _ _ _ _ h
      case label l => simp only [Option.some.injEq, Prod.mk.injEq] at h; obtain ⟨_, rfl⟩ := h; exact Nat.le_refl _
      case goto l => simp only [Option.some.injEq, Prod.mk.injEq] at h; obtain ⟨_, rfl⟩ := h; exact Nat.le_refl _
      case loop p =>
        split at h
        · rename_i s1 h1
          exact Nat.le_trans (ihm _ _ _ _ h1) (ihm _ _ _ _ h)
        · exact ihm _ _ _ _ h
      case exit id => simp only [Option.some.injEq, Prod.mk.injEq] at h; obtain ⟨_, rfl⟩ := h; exact Nat.le_refl _
      case ret => simp only [Option.some.injEq, Prod.mk.injEq] at h; obtain ⟨_, rfl⟩ := h; exact Nat.le_refl _
      case fail => cases h
    intro c ic hc w0 W e s x s' a w hs hB h
    cases c with
    | skip =>
      simp [compC] at hc; subst hc
      simp only [ex, Option.some.injEq, Prod.mk.injEq] at h
      obtain ⟨rfl, rfl⟩ := h
      exact wp_skip ⟨rfl, e, Ext.refl e, hs⟩
    | label l =>
      simp [compC] at hc; subst hc
      simp only [ex, Option.some.injEq, Prod.mk.injEq] at h
      obtain ⟨rfl, rfl⟩ := h
      exact wp_label ⟨rfl, e, Ext.refl e, hs⟩
    | region id ops draw =>
      simp only [compC] at hc
      split at hc
      · rename_i il h1
        split at hc
        · rename_i hd
          obtain rfl := Option.some.inj hc
          simp only [ex] at h
          split at h
          · rename_i s1 hs1
            simp only [Option.some.injEq, Prod.mk.injEq] at h
            obtain ⟨rfl, rfl⟩ := h
            cases draw with
            | false => exact wp_region_list (exOps_sound hcall ops.toList h1 hs hB hs1 _ fun e' a' w' he hs' => ⟨rfl, e', he, hs'⟩)
            | true =>
              simp only [Bool.not_true, Bool.false_or, Bool.and_eq_true] at hd
              exact draw_sound hd.1 hcall h1 hd.2 hs hB hs1 (fun hh => by cases hh) fun e' a' w' he hs' => ⟨rfl, e', he, hs'⟩
          · cases h
        · split at hc
          · rename_i hd
            obtain rfl := Option.some.inj hc
            simp only [ex] at h
            split at h
            · rename_i s1 hs1
              simp only [Option.some.injEq, Prod.mk.injEq] at h
              obtain ⟨rfl, rfl⟩ := h
              have hs2 := exOpsB_ops _ _ _ _ _ _ hs1
              cases draw with
              | false => exact wp_region_list (exOps_sound hcall ops.toList h1 hs hB hs2 _ fun e' a' w' he hs' => ⟨rfl, e', he, hs'⟩)
              | true =>
                simp only [Bool.and_eq_true] at hd
                exact draw_sound hd.1 hcall h1 hd.2 hs hB hs2 (fun _ => hs1) fun e' a' w' he hs' => ⟨rfl, e', he, hs'⟩
            · cases h
          · split at hc
            · rename_i hd
              simp only [Bool.and_eq_true] at hd
              obtain ⟨⟨hdr, hm⟩, hpl⟩ := hd
              subst hdr
              split at hc
              · rename_i il2 h2
                split at hc
                · rename_i hsb
                  obtain rfl := Option.some.inj hc
                  simp only [ex] at h
                  split at h
                  · rename_i s1 hs1
                    simp only [Option.some.injEq, Prod.mk.injEq] at h
                    obtain ⟨rfl, rfl⟩ := h
                    exact wp_region_any hm (perm_sound hpl (draw_sound_any hcall h2 hsb hs hB (exOpsB_ops _ _ _ _ _ _ hs1) (fun _ => hs1) fun e' a' w' he hs' => ⟨rfl, e', he, hs'⟩))
                  · cases h
                · obtain rfl := Option.some.inj hc
                  simp [ex] at h
              · obtain rfl := Option.some.inj hc
                simp [ex] at h
            · obtain rfl := Option.some.inj hc
              simp [ex] at h
      · obtain rfl := Option.some.inj hc
        simp [ex] at h
    | seq p q =>
      simp only [compC] at hc
      split at hc
      · rename_i ip iq hp hq
        obtain rfl := Option.some.inj hc
        simp only [ex] at h
        apply wp_seq
        split at h
        · rename_i s1 h1
          refine wp_mono (ih p ip hp w0 W e s _ s1 a w hs (Nat.le_trans (ihm _ _ _ _ h) hB) h1) ?_
          rintro x' a' w' ⟨rfl, e', he, hs1⟩
          exact wp_mono (ih q iq hq w0 W e' s1 x s' a' w' hs1 hB h) fun _ _ _ hpst => hpst.ext he
        · rename_i r hne
          refine wp_mono (ih p ip hp w0 W e s x s' a w hs hB h) ?_
          rintro x' a' w' ⟨rfl, e', he, hs1⟩
          cases x with
          | normal => exact absurd h (hne s')
          | exit id => exact ⟨rfl, e', he, hs1⟩
          | goto l => exact ⟨rfl, e', he, hs1⟩
          | ret => exact ⟨rfl, e', he, hs1⟩
      · cases hc
    | cond t p q =>
      simp only [compC] at hc
      split at hc
      · rename_i ip iq hp hq
        obtain rfl := Option.some.inj hc
        simp only [ex] at h
        have ht := evalT_sound hs.tr t
        split at h
        · rename_i hb
          rw [hb] at ht
          exact wp_cond_true ht.bool (ih p ip hp w0 W e s x s' a w hs hB h)
        · rename_i hb
          rw [hb] at ht
          exact wp_cond_false ht.bool (ih q iq hq w0 W e s x s' a w hs hB h)
        · cases h
      · cases hc
    | block id p =>
      simp only [compC] at hc
      obtain ⟨ip, hp, rfl⟩ := Option.map_eq_some_iff.1 hc
      simp only [ex] at h
      apply wp_block
      split at h
      · rename_i j s1 h1
        refine wp_mono (ih p ip hp w0 W e s _ s1 a w hs (by split at h <;> (simp only [Option.some.injEq, Prod.mk.injEq] at h; obtain ⟨_, rfl⟩ := h; exact hB)) h1) ?_
        rintro x' a' w' ⟨rfl, e', he, hs1⟩
        split at h
        · rename_i hj
          simp only [Option.some.injEq, Prod.mk.injEq] at h
          obtain ⟨rfl, rfl⟩ := h
          simp only [XR.toExit, Exit.inBlock, hj, if_true]
          exact ⟨rfl, e', he, hs1⟩
        · rename_i hj
          simp only [Option.some.injEq, Prod.mk.injEq] at h
          obtain ⟨rfl, rfl⟩ := h
          simp only [XR.toExit, Exit.inBlock, hj, if_false]
          exact ⟨rfl, e', he, hs1⟩
      · rename_i r hne
        refine wp_mono (ih p ip hp w0 W e s x s' a w hs hB h) ?_
        rintro x' a' w' ⟨rfl, e', he, hs1⟩
        cases x with
        | normal => exact ⟨rfl, e', he, hs1⟩
        | exit j => exact absurd h (hne j s')
        | goto l => exact ⟨rfl, e', he, hs1⟩
        | ret => exact ⟨rfl, e', he, hs1⟩
    | loop p =>
      simp only [compC] at hc
      obtain ⟨ip, hp, rfl⟩ := Option.map_eq_some_iff.1 hc
      exact loop_of_at (hloop p ip hp w0 W e s x s' a w hs hB h)
    | rangeFunc f ps as b => simp [compC] at hc; subst hc; simp [ex] at h
    | exit id =>
      simp [compC] at hc; subst hc
      simp only [ex, Option.some.injEq, Prod.mk.injEq] at h
      obtain ⟨rfl, rfl⟩ := h
      exact wp_exit ⟨rfl, e, Ext.refl e, hs⟩
    | scope p =>
      simp only [compC] at hc
      obtain ⟨ip, hp, rfl⟩ := Option.map_eq_some_iff.1 hc
      simp only [ex] at h
      exact scope_of_body (hhop p ip hp p ip hp w0 W e s x s' a w hs hB h)
    | goto l =>
      simp [compC] at hc; subst hc
      simp only [ex, Option.some.injEq, Prod.mk.injEq] at h
      obtain ⟨rfl, rfl⟩ := h
      exact wp_goto ⟨rfl, e, Ext.refl e, hs⟩
    | ret =>
      simp [compC] at hc; subst hc
      simp only [ex, Option.some.injEq, Prod.mk.injEq] at h
      obtain ⟨rfl, rfl⟩ := h
      exact wp_ret ⟨rfl, e, Ext.refl e, hs⟩
    | refuse why => simp [compC] at hc; subst hc; simp [ex] at h
end
end Go.Proofs.Ytlpoolcdoecodaa.Eng

/- Part Eng14. -/
namespace Go.Proofs.Ytlpoolcdoecodaa.Eng
open Go.RowKit

/-- A function of the program, made plain. -/
def mkI (P : Program) (f : Nat) (keep : Bool) : Option IFunc :=
  match P.funcs[f]? with
  | some fn => if fn.name == "runtime.NumGoroutine" then none else match fn.body with
    | some c => match compC P c, compRes P fn.results.toList with
      | some ic, some rs => some ⟨ic, fn.ntmps, rs, keep⟩
      | _, _ => none
    | none => none
  | none => none
theorem mkI_sound {P : Program} {f : Nat} {keep : Bool} {ifn : IFunc} (h : mkI P f keep = some ifn) : ∃ fn c, P.funcs[f]? = some fn ∧ fn.body = some c ∧ (fn.name == "runtime.NumGoroutine") = false ∧ compC P c = some ifn.code ∧ fn.ntmps = ifn.ntmps ∧ compRes P fn.results.toList = some ifn.results := by
  unfold mkI at h
  split at h
  · rename_i fn hfn
    split at h
    · cases h
    · rename_i hname
      split at h
      · rename_i c hc
        split at h
        · rename_i ic rs h1 h2
          obtain rfl := Option.some.inj h
          exact ⟨fn, c, hfn, hc, by simpa using hname, h1, rfl, h2⟩
        · cases h
      · cases h
  · cases h
def look (tab : List (Nat × IFunc)) (f : Nat) : Option IFunc :=
  match tab with
  | [] => none
  | (g, i) :: r => if Nat.beq g f then some i else look r f
theorem look_ok {P : Program} : ∀ {tab : List (Nat × IFunc)}, (∀ p ∈ tab, mkI P p.1 p.2.keep = some p.2) → ∀ f ifn, look tab f = some ifn → mkI P f ifn.keep = some ifn
  | [], _, f, ifn, h => by simp [look] at h
  | (g, i) :: r, hall, f, ifn, h => by
    simp only [look] at h
    split at h
    · rename_i hg
      obtain rfl := Option.some.inj h
      have : g = f := Nat.eq_of_beq_eq_true hg
      subst this
      exact hall (g, i) (by simp)
    · exact look_ok (fun p hp => hall p (List.mem_cons_of_mem _ hp)) f ifn h
theorem tab_ok {P : Program} {tab : List (Nat × IFunc)} (h : ∀ p ∈ tab, mkI P p.1 p.2.keep = some p.2) : TabOK P (look tab) :=
  ⟨fun f ifn hf => mkI_sound (look_ok h f ifn hf)⟩

/-- No function is known beforehand. -/
def ov0 : Ov := ⟨fun _ => none, fun _ _ => none⟩
theorem ov0_ok (P : Program) : OvOK P ov0 := ⟨fun f g h => (by simp [ov0] at h), fun f args v h => (by simp [ov0] at h)⟩

/-- What a run comes to. -/
def resIs (p : Value → Bool) (r : Option (Value × Mem × Nat)) : Bool :=
  match r with
  | some (v, _, _) => p v
  | none => false
def isYes : Value → Bool
  | .bool b => b
  | _ => false
/-- A call without arguments that comes to 'true'. -/
theorem call_yes {P : Program} {IP : Nat → Option IFunc} {ov : Ov} (hIP : TabOK P IP) (hov : OvOK P ov) (n f : Nat) (h : resIs isYes (enter IP (ex P IP ov n) f [] [] 0) = true) (w : World) :
    Calls P f #[] w fun e w' => e = .returned (.bool true) ∧ Below w.heap.size w w' := by
  unfold resIs at h
  split at h
  · rename_i v M nx hr
    have hv : v = .bool true := by
      cases v <;> simp [isYes] at h
      rw [h]
    subst hv
    obtain ⟨ih, _, ihm⟩ := ex_sound hIP hov n
    have hok := enter_ok hIP ihm ih
    obtain ⟨_, _, hC⟩ := hok.out f [] [] 0 _ _ _ hr
    have hMS : MS w ⟨fun _ => False, 0, nx, fun _ => none⟩ (fun _ => none) 0 [] w :=
      { os := rfl, tape := rfl, output := rfl, size := Nat.le_refl _, frame := fun _ _ _ => rfl, low := Nat.le_refl _, base := fun _ _ => rfl, fresh := fun _ _ _ => rfl, blk := fun id B hb => (by cases hb), own := fun id B l hb => (by cases hb), inj := fun id id' B B' l l' hb => (by cases hb) }
    refine (hC w ⟨fun _ => False, 0, nx, fun _ => none⟩ (fun _ => none) w [] (Nat.le_refl _) .nil hMS).mono ?_
    rintro e w' ⟨v', e', rfl, _, hv, hM⟩
    refine ⟨by rw [hv.bool], ⟨hM.os, hM.tape, hM.output, hM.size, fun k hk => hM.frame k hk (fun h => h)⟩⟩
  · simp at h
end Go.Proofs.Ytlpoolcdoecodaa.Eng
