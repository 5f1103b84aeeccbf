/-
  A reckoner of programs and its soundness, part ExS: what it reckons is what 'Calls' says. No condition. By an AI agent.
-/
import Derived.Test.YtgefcokanfbpbaaDoorExJ2
import Derived.LoopN
import Derived.LoopNIn
import Derived.Recover
import Derived.RangeFuncIn
import Derived.RangeFuncLeaves
import Derived.RangeFuncRecord
import Derived.TacticsIn
import Derived.Carry
import Derived.WideShapes
import Derived.ChangeShapes
import Derived.OpenShut
import Derived.Laws.Strings
namespace Go.Ex
open Go.RowKit (Below)

inductive XE where
  | normal
  | ret
  | exit (id : Nat)
  | panic (s : SV)
def XE.Is (η : Env) (x : XE) (e : Exit) : Prop :=
  match x with
  | .normal => e = .normal
  | .ret => e = .ret
  | .exit id => e = .exit id
  | .panic s => ∃ v, R η s v ∧ e = .panic [{ v, recovered := false }]

structure Fin where
  e : XE
  tm : List SV
  hp : List SO

/-- What the reckoner is given: the program; contracts of functions; summaries of loops. -/
structure Cx where
  P : Program
  ct : FuncId → List SV → List SO → Option (SV × Option (List SO) × Cnd)
  lp : Code → List SV → List SO → List Bool → Option (Rr Fin)

/-! ### results -/
def resVar (P : Program) (tm : List SV) (hp : List SO) : ResultVar → Option SV
  | .tmp t => some (tm.getD t (.val undef))
  | .cell a t => match opLoad P hp t (tm.getD a (.val undef)) with
    | .pure s .tt => some s
    | _ => none
def resVars (P : Program) (tm : List SV) (hp : List SO) : List ResultVar → Option (List SV)
  | [] => some []
  | r :: l => match resVar P tm hp r, resVars P tm hp l with
    | some s, some m => some (s :: m)
    | _, _ => none
def resultsS (P : Program) (fn : Func) (tm : List SV) (hp : List SO) : Option SV :=
  match resVars P tm hp fn.results.toList with
  | some [s] => some s
  | some l => some (.tup l)
  | none => none

theorem resVars_ok {P : Program} {B : Nat} {η : Env} {hp : List SO} {w : World} (hr : HR B η hp w) {tm : List SV} {tmps : Array Value} (ht : Rs η tm tmps.toList) : ∀ (l : List ResultVar) (r : List SV), resVars P tm hp l = some r →
    ∃ vs, Rs η r vs ∧ (l.mapM (m := Sem) fun
      | .tmp t => pure (tmps.getD t undef)
      | .cell a t => do loadVar t (← asAddr (tmps.getD a undef))).run P w = .ok vs w
  | [], r, h => by simp [resVars] at h; subst h; exact ⟨[], Rs.nil, by simp⟩
  | x :: l, r, h => by
    simp only [resVars] at h
    split at h
    · rename_i s m hs hm
      simp at h; subst h
      obtain ⟨vs, hvs, hrun⟩ := resVars_ok hr ht l m hm
      have e : ∀ t, R η (tm.getD t (.val undef)) (tmps.getD t undef) := fun t => ev_R (a := ⟨tmps, []⟩) ht (.tmp t)
      cases x with
      | tmp t =>
        simp [resVar] at hs; subst hs
        refine ⟨tmps.getD t undef :: vs, Rs.cons (e t) hvs, ?_⟩
        simp only [List.mapM_cons, Sem.run_bind, Sem.run_pure, Result.andThen_ok, hrun]
      | cell a t =>
        simp only [resVar] at hs
        split at hs
        · rename_i s' hl
          simp at hs; subst hs
          have hok := opLoad_ok (P := P) (hp := hp) (ty := t) (e a)
          rw [hl] at hok
          obtain ⟨v, hR, hv⟩ := hok trivial B w hr
          refine ⟨v :: vs, Rs.cons hR hvs, ?_⟩
          have hload : (do loadVar t (← asAddr (tmps.getD a undef)) : Sem Value).run P w = .ok v w := by
            simp only [Instr.loadAt] at hv
            cases hx : tmps.getD a undef <;> simp [hx, Instr.sureAddr] at hv
            case pointer p =>
              cases p with
              | none => simp at hv
              | some p => simpa [asAddr] using hv
          simp only [List.mapM_cons, Sem.run_bind, Sem.run_pure] at hload ⊢
          rw [hload]
          simp only [Result.andThen_ok, hrun]
        · simp at hs
    · simp at h

theorem resultsS_ok {P : Program} {fn : Func} {B : Nat} {η : Env} {hp : List SO} {w : World} (hr : HR B η hp w) {tm : List SV} {tmps : Array Value} (ht : Rs η tm tmps.toList) {s : SV} (h : resultsS P fn tm hp = some s) :
    ∃ v, R η s v ∧ (results fn tmps).run P w = .ok v w := by
  unfold resultsS at h
  have key : ∀ l, resVars P tm hp fn.results.toList = some l → ∃ vs, Rs η l vs ∧ (fn.results.mapM (m := Sem) fun
      | .tmp t => pure (tmps.getD t undef)
      | .cell a t => do loadVar t (← asAddr (tmps.getD a undef))).run P w = .ok vs.toArray w := by
    intro l hl
    obtain ⟨vs, hvs, hrun⟩ := resVars_ok hr ht _ l hl
    refine ⟨vs, hvs, ?_⟩
    rw [Array.mapM_eq_mapM_toList]
    simp only [Sem.run_map, hrun, Result.andThen_ok]
  split at h
  · rename_i s' hl
    simp at h; subst h
    obtain ⟨vs, hvs, hrun⟩ := key _ hl
    obtain ⟨v, r, rfl, hv, hr'⟩ := hvs.cons_inv
    simp only [Rs] at hr'; subst hr'
    refine ⟨v, hv, ?_⟩
    unfold results
    refine (Sem.run_bind _ _ _ _).trans ((congrArg (fun q => Result.andThen q _) hrun).trans ?_)
    simp
  · rename_i l hne hl
    simp at h; subst h
    obtain ⟨vs, hvs, hrun⟩ := key _ hl
    refine ⟨.tuple vs.toArray, ⟨_, rfl, by simpa using hvs⟩, ?_⟩
    unfold results
    refine (Sem.run_bind _ _ _ _).trans ((congrArg (fun q => Result.andThen q _) hrun).trans ?_)
    have hlen := hvs.length
    have hn1 : ¬ vs.toArray.size = 1 := by
      intro h1
      simp at h1
      rw [h1] at hlen
      cases l with
      | nil => simp at hlen
      | cons a r => cases r with
        | nil => exact hne a rfl
        | cons b r => simp at hlen
    simp only [Result.andThen_ok, Sem.run_pure]
    rw [dif_neg hn1]
  · simp at h

/-! ### a call -/
mutual
/-- Without a word of the memory. -/
def SV.free : SV → Bool
  | .ptr .. | .slc .. | .sle .. | .pto .. | .slo .. | .hdl _ => false
  | .fnc _ a b => frees a && frees b
  | .agg l | .tup l => frees l
  | .ifc _ x => x.free
  | _ => true
def frees : List SV → Bool
  | [] => true
  | s :: l => s.free && frees l
end
mutual
theorem R.free {η μ : Env} : ∀ (s : SV) (v : Value), s.free = true → R η s v → R μ s v
  | .val _, _, _, h | .num _ _, _, _, h | .bol _, _, _, h | .bts _ _, _, _, h => by simp only [R] at h ⊢; exact h
  | .ptr .., _, hf, _ | .slc .., _, hf, _ | .sle .., _, hf, _ | .pto .., _, hf, _ | .slo .., _, hf, _ | .hdl _, _, hf, _ => by simp [SV.free] at hf
  | .fnc g a b, v, hf, h => by
    simp only [SV.free, Bool.and_eq_true] at hf
    obtain ⟨x, y, h1, h2, h3⟩ := h
    exact ⟨x, y, h1, Rs.free a _ hf.1 h2, Rs.free b _ hf.2 h3⟩
  | .agg l, v, hf, h => by
    simp only [SV.free] at hf
    obtain ⟨x, h1, h2⟩ := h
    exact ⟨x, h1, Rs.free l _ hf h2⟩
  | .tup l, v, hf, h => by
    simp only [SV.free] at hf
    obtain ⟨x, h1, h2⟩ := h
    exact ⟨x, h1, Rs.free l _ hf h2⟩
  | .ifc t s, v, hf, h => by
    simp only [SV.free] at hf
    obtain ⟨x, h1, h2⟩ := h
    exact ⟨x, h1, R.free s _ hf h2⟩
theorem Rs.free {η μ : Env} : ∀ (l : List SV) (vs : List Value), frees l = true → Rs η l vs → Rs μ l vs
  | [], vs, _, h => by simp only [Rs] at h ⊢; exact h
  | s :: l, vs, hf, h => by
    simp only [frees, Bool.and_eq_true] at hf
    obtain ⟨x, r, h1, h2, h3⟩ := h
    exact ⟨x, r, h1, R.free s _ hf.1 h2, Rs.free l _ hf.2 h3⟩
end

/-! ### panics, deferred calls -/
def panicAt (ops : Array Oper) : Option Operand :=
  match ops.toList.getLast? with
  | some o => match o.op, o.guard with
    | .panic x, none => some x
    | _, _ => none
  | none => none
/-- A region that ends in a panic. -/
def panicR (P : Program) (callf : CallF) (ops : Array Oper) (draw : Bool) (tm : List SV) (hp : List SO) (ans : List Bool) : Rr Fin :=
  if draw then .bad else
  match panicAt ops with
  | none => .bad
  | some x =>
    match opsR P callf ops false ops.toList.dropLast tm hp ans with
    | .ok (tm', hp') ans' c =>
      match ev tm' x with
      | .ifc ty y => .ok ⟨.panic (.ifc ty y), tm', hp'⟩ ans' c
      | _ => .bad
    | .ask b => .ask b
    | .bad => .bad
def deferAt (ops : Array Oper) : Option Tmp :=
  match ops.toList.getLast? with
  | some o => match o.op, o.guard, o.dst with
    | .defer ⟨.value (.tmp t), ⟨[]⟩, _⟩, none, none => some t
    | _, _, _ => none
  | none => none
/-- What was deferred. -/
structure Dfr where
  g : FuncId
  first : List SV
  caps : List SV
/-- A body that defers one call, on its way. -/
def dBody (X : Cx) (run : Code → List SV → List SO → List Bool → Rr Fin) : Code → List SV → List SO → List Bool → Rr (Fin × Dfr)
  | .seq x y, tm, hp, ans =>
    match (match x with | .region _ ops false => (deferAt ops).map fun t => (ops, t) | _ => none) with
    | some (ops, t) =>
      match opsR X.P noCall ops false ops.toList.dropLast tm hp ans with
      | .ok (tm2, hp2) ans2 c2 =>
        match tm2[t]? with
        | some (.fnc g first caps) =>
          match run y tm2 hp2 ans2 with
          | .ok r ans3 c3 => .ok (r, ⟨g, first, caps⟩) ans3 (c2.and c3)
          | .ask b => .ask b
          | .bad => .bad
        | _ => .bad
      | .ask b => .ask b
      | .bad => .bad
    | none =>
      match run x tm hp ans with
      | .ok r ans' c =>
        match r.e with
        | .normal => match dBody X run y r.tm r.hp ans' with
          | .ok z ans2 c2 => .ok z ans2 (c.and c2)
          | .ask b => .ask b
          | .bad => .bad
        | _ => .bad
      | .ask b => .ask b
      | .bad => .bad
  | _, _, _, _ => .bad
def isRecover (o : Oper) : Bool :=
  match o.op, o.guard with
  | .call ⟨.builtin .recover, ⟨[]⟩, _⟩, none => true
  | _, _ => false
/-- A deferred closure that asks 'recover' first. -/
def recR (X : Cx) (run : Code → List SV → List SO → List Bool → Rr Fin) (g : FuncId) (args : List SV) (rc : SV) (hp : List SO) (ans : List Bool) : Rr (List SO) :=
  match X.P.funcs[g]? with
  | none => .bad
  | some fn =>
    if fn.name == "runtime.NumGoroutine" then .bad else
    match fn.body with
    | some (.seq (.region _ ops false) y) =>
      match ops.toList with
      | [] => .bad
      | o :: rest =>
        if isRecover o then
          match opsR X.P noCall ops false rest (putS (args ++ List.replicate (fn.ntmps - args.length) (.val undef)) o.dst rc) hp ans with
          | .ok (tm1, hp1) ans1 c1 =>
            match run y tm1 hp1 ans1 with
            | .ok r ans2 c2 =>
              match r.e with
              | .exit _ => .bad
              | .panic _ => .bad
              | _ => match resultsS X.P fn r.tm r.hp with
                | some _ => .ok r.hp ans2 (c1.and c2)
                | none => .bad
            | .ask b => .ask b
            | .bad => .bad
          | .ask b => .ask b
          | .bad => .bad
        else .bad
    | _ => .bad
/-- A body that defers. -/
def dBodyR (X : Cx) (run : Code → List SV → List SO → List Bool → Rr Fin) (fn : Func) (c : Code) (args : List SV) (hp : List SO) (ans : List Bool) : Rr (SV × List SO) :=
  match dBody X run c (args ++ List.replicate (fn.ntmps - args.length) (.val undef)) hp ans with
  | .ok (r, d) ans1 c1 =>
    match (match r.e with | .normal | .ret => some (.val .nilIface) | .panic s => some s | .exit _ => none : Option SV) with
    | some rc =>
      match recR X run d.g (d.first ++ d.caps) rc r.hp ans1 with
      | .ok hp2 ans2 c2 =>
        match resultsS X.P fn r.tm hp2 with
        | some s => .ok (s, hp2) ans2 (c1.and c2)
        | none => .bad
      | .ask b => .ask b
      | .bad => .bad
    | none => .bad
  | .ask b => .ask b
  | .bad => .bad

/-! ### ranges over functions -/
def isLop : SO → Bool
  | .fx (.lop ..) => true
  | _ => false
def isDfb : SO → Bool
  | .fx .dfb => true
  | _ => false
def oneDfb (k : Nat) (hp : List SO) : Bool := (hp.zipIdx.all fun p => p.2 == k || !isDfb p.1)
/-- The only record. -/
def oneLop (k : Nat) (hp : List SO) : Bool := (hp.zipIdx.all fun p => p.2 == k || !isLop p.1)
def yieldOp (tm : List SV) (hp : List SO) (o : Oper) : Option (Nat × List SV × Array Tmp × Code × Code × List SV) :=
  match o.op, o.guard with
  | .call ⟨.value (.tmp t), as, _⟩, none =>
    match tm[t]? with
    | some (.hdl k) => match hp[k]? with
      | some (.fx (.lop true ts ps assign body)) => if as.size = ps.size then some (k, ts, ps, assign, body, as.toList.map (ev tm)) else none
      | _ => none
    | _ => none
  | _, _ => none
def setPs : List (Tmp × SV) → List SV → List SV
  | [], l => l
  | (t, s) :: r, l => setPs r (l.set t s)
def flip (k : Nat) (b : Bool) (hp : List SO) : Option (List SO) :=
  match hp[k]? with
  | some (.fx (.lop b0 ts ps as bd)) => if b0 = !b && oneLop k hp then some (hp.set k (.fx (.lop b ts ps as bd))) else none
  | _ => none
/-- One round. -/
def roundR (run : Code → List SV → List SO → List Bool → Rr Fin) (k : Nat) (ts : List SV) (ps : Array Tmp) (assign body : Code) (args : List SV) (hp : List SO) (ans : List Bool) : Rr (List SO) :=
  match run assign (setPs (ps.toList.zip args) ts) hp ans with
  | .ok r1 ans1 c1 =>
    match r1.e with
    | .normal =>
      match flip k false r1.hp with
      | some hp2 =>
        match run body r1.tm hp2 ans1 with
        | .ok r2 ans2 c2 =>
          match r2.e with
          | .normal => match flip k true r2.hp with
            | some hp3 => .ok hp3 ans2 (c1.and c2)
            | none => .bad
          | _ => .bad
        | .ask b => .ask b
        | .bad => .bad
      | none => .bad
    | _ => .bad
  | .ask b => .ask b
  | .bad => .bad
/-- Operations in their order, a call of 'yield' among them. -/
def opsY (P : Program) (callf : CallF) (run : Code → List SV → List SO → List Bool → Rr Fin) (ops : Array Oper) : List Oper → List SV → List SO → List Bool → Rr (List SV × List SO)
  | [], tm, hp, ans => .ok (tm, hp) ans .tt
  | o :: rest, tm, hp, ans =>
    match yieldOp tm hp o with
    | some (k, ts, ps, assign, body, args) =>
      match roundR run k ts ps assign body args hp ans with
      | .ok hp1 ans1 c1 =>
        match opsY P callf run ops rest (putS tm o.dst (.bol true)) hp1 ans1 with
        | .ok x ans2 c2 => .ok x ans2 (c1.and c2)
        | .ask b => .ask b
        | .bad => .bad
      | .ask b => .ask b
      | .bad => .bad
    | none =>
      match step1 P callf ops false o tm hp ans with
      | .ok (tm', hp') ans' c =>
        match opsY P callf run ops rest tm' hp' ans' with
        | .ok x ans'' c' => .ok x ans'' (c.and c')
        | .ask b => .ask b
        | .bad => .bad
      | .ask b => .ask b
      | .bad => .bad
def yieldR (P : Program) (callf : CallF) (run : Code → List SV → List SO → List Bool → Rr Fin) (ops : Array Oper) (draw : Bool) (tm : List SV) (hp : List SO) (ans : List Bool) : Rr Fin :=
  if draw then .bad else
  match opsY P callf run ops ops.toList tm hp ans with
  | .ok (tm', hp') ans' c => .ok ⟨.normal, tm', hp'⟩ ans' c
  | .ask b => .ask b
  | .bad => .bad
def hasRF : Code → Bool
  | .rangeFunc .. => true
  | .seq a b => hasRF a || hasRF b
  | .block _ b => hasRF b
  | _ => false
/-- A body that ranges over a function once, on its way; the mark that it leaves. -/
def mBody (X : Cx) (run : Code → List SV → List SO → List Bool → Rr Fin) (callf : CallF) : Code → List SV → List SO → List Bool → Rr (Fin × Nat)
  | .rangeFunc g ps assign body, tm, hp, ans =>
    match ev tm g with
    | .fnc f first caps =>
      if hp.all (fun o => !isLop o) then
        match callf f (first ++ [.hdl (hp.length + 1)] ++ caps) (hp ++ [.fx .dfb, .fx (.lop true tm ps assign body)]) ans with
        | .ok (_, some hp2) ans1 c1 =>
          match hp2[hp.length + 1]? with
          | some (.fx (.lop true _ _ _ _)) => if oneLop (hp.length + 1) hp2 then .ok (⟨.normal, tm, hp2.set (hp.length + 1) .dead⟩, hp.length) ans1 c1 else .bad
          | _ => .bad
        | .ok (_, none) _ _ => .bad
        | .ask b => .ask b
        | .bad => .bad
      else .bad
    | _ => .bad
  | .block id b, tm, hp, ans =>
    match mBody X run callf b tm hp ans with
    | .ok (r, k) ans1 c1 => match r.e with
      | .exit id' => if id' = id then .ok (⟨.normal, r.tm, r.hp⟩, k) ans1 c1 else .ok (r, k) ans1 c1
      | _ => .ok (r, k) ans1 c1
    | .ask b => .ask b
    | .bad => .bad
  | .seq x y, tm, hp, ans =>
    if hasRF x then
      match mBody X run callf x tm hp ans with
      | .ok (r, k) ans1 c1 => match r.e with
        | .normal => match run y r.tm r.hp ans1 with
          | .ok r2 ans2 c2 => .ok (r2, k) ans2 (c1.and c2)
          | .ask b => .ask b
          | .bad => .bad
        | _ => .bad
      | .ask b => .ask b
      | .bad => .bad
    else
      match run x tm hp ans with
      | .ok r ans1 c1 => match r.e with
        | .normal => match mBody X run callf y r.tm r.hp ans1 with
          | .ok z ans2 c2 => .ok z ans2 (c1.and c2)
          | .ask b => .ask b
          | .bad => .bad
        | _ => .bad
      | .ask b => .ask b
      | .bad => .bad
  | _, _, _, _ => .bad
def mBodyR (X : Cx) (run : Code → List SV → List SO → List Bool → Rr Fin) (callf : CallF) (fn : Func) (c : Code) (args : List SV) (hp : List SO) (ans : List Bool) : Rr (SV × List SO) :=
  if hasRF c then
    match mBody X run callf c (args ++ List.replicate (fn.ntmps - args.length) (.val undef)) hp ans with
    | .ok (r, k) ans1 c1 =>
      match r.e with
      | .exit _ => .bad
      | .panic _ => .bad
      | _ => match r.hp[k]? with
        | some (.fx .dfb) => if !oneDfb k r.hp then .bad else match resultsS X.P fn r.tm (r.hp.set k .dead) with
          | some s => .ok (s, r.hp.set k .dead) ans1 c1
          | none => .bad
        | _ => .bad
    | .ask b => .ask b
    | .bad => .bad
  else .bad

/-- A body, as a call. -/
def bodyR (X : Cx) (run : Code → List SV → List SO → List Bool → Rr Fin) (callf : CallF) (fn : Func) (c : Code) (args : List SV) (hp : List SO) (ans : List Bool) : Rr (SV × List SO) :=
  match run c (args ++ List.replicate (fn.ntmps - args.length) (.val undef)) hp ans with
  | .ok r ans' cc =>
    match r.e with
    | .exit _ => .bad
    | .panic _ => .bad
    | _ => match resultsS X.P fn r.tm r.hp with
      | some s => .ok (s, r.hp) ans' cc
      | none => .bad
  | .ask b => .ask b
  | .bad => match dBodyR X run fn c args hp ans with
    | .bad => mBodyR X run callf fn c args hp ans
    | r => r
def whole (x : Rr (SV × List SO)) : Rr (SV × Option (List SO)) :=
  match x with
  | .ok (s, hp) ans c => .ok (s, some hp) ans c
  | .ask b => .ask b
  | .bad => .bad
def callR' (X : Cx) (run : Code → List SV → List SO → List Bool → Rr Fin) (callf : CallF) : CallF := fun f args hp ans =>
  match X.P.funcs[f]? with
  | none => .bad
  | some fn =>
    if fn.name == "runtime.NumGoroutine" then .bad else
    match fn.body with
    | none => .bad
    | some c =>
      match X.ct f args hp with
      | some (s, ho, cc) => .ok (s, ho) ans cc
      | none =>
        if frees args then
          match bodyR X run callf fn c args [] ans with
          | .ok (s, _) ans' cc => if s.free then .ok (s, none) ans' cc else whole (bodyR X run callf fn c args hp ans)
          | .ask b => .ask b
          | .bad => whole (bodyR X run callf fn c args hp ans)
        else whole (bodyR X run callf fn c args hp ans)

/-- The reckoner of calls: what is ranged over is called by what is left of the depth. -/
def callR (X : Cx) (run : Code → List SV → List SO → List Bool → Rr Fin) : CallF := callR' X run (callR' X run noCall)

/-- Rounds of a loop. -/
def loopR (run : List SV → List SO → List Bool → Rr Fin) : Nat → List SV → List SO → List Bool → Rr Fin
  | 0, _, _, _ => .bad
  | m + 1, tm, hp, ans =>
    match run tm hp ans with
    | .ok r ans' c =>
      match r.e with
      | .normal => match loopR run m r.tm r.hp ans' with
        | .ok x ans'' c' => .ok x ans'' (c.and c')
        | .ask b => .ask b
        | .bad => .bad
      | _ => .ok r ans' c
    | .ask b => .ask b
    | .bad => .bad

/-- The reckoner. -/
def run (X : Cx) : Nat → Code → List SV → List SO → List Bool → Rr Fin
  | 0, _, _, _, _ => .bad
  | n + 1, c, tm, hp, ans =>
    match c with
    | .skip => .ok ⟨.normal, tm, hp⟩ ans .tt
    | .ret => .ok ⟨.ret, tm, hp⟩ ans .tt
    | .exit id => .ok ⟨.exit id, tm, hp⟩ ans .tt
    | .region _ ops draw =>
      if noDefer ops then
        match regionR X.P (callR X (run X n)) ops draw tm hp ans with
        | .ok (tm', hp') ans' c => .ok ⟨.normal, tm', hp'⟩ ans' c
        | .ask b => .ask b
        | .bad => match panicR X.P (callR X (run X n)) ops draw tm hp ans with
          | .bad => yieldR X.P (callR X (run X n)) (run X n) ops draw tm hp ans
          | r => r
      else .bad
    | .seq a b =>
      match run X n a tm hp ans with
      | .ok r ans' c =>
        match r.e with
        | .normal => match run X n b r.tm r.hp ans' with
          | .ok x ans'' c' => .ok x ans'' (c.and c')
          | .ask b => .ask b
          | .bad => .bad
        | _ => .ok r ans' c
      | .ask b => .ask b
      | .bad => .bad
    | .cond x a b =>
      match settle tm (match x with | .tmp t => some t | _ => none) ans with
      | .ok tm' ans' c =>
        match ev tm' x with
        | .bol true => match run X n a tm' hp ans' with
          | .ok r ans'' c' => .ok r ans'' (c.and c')
          | .ask b => .ask b
          | .bad => .bad
        | .bol false => match run X n b tm' hp ans' with
          | .ok r ans'' c' => .ok r ans'' (c.and c')
          | .ask b => .ask b
          | .bad => .bad
        | _ => .bad
      | .ask b => .ask b
      | .bad => .bad
    | .block id body =>
      match run X n body tm hp ans with
      | .ok r ans' c =>
        match r.e with
        | .exit id' => if id' = id then .ok ⟨.normal, r.tm, r.hp⟩ ans' c else .ok r ans' c
        | _ => .ok r ans' c
      | .ask b => .ask b
      | .bad => .bad
    | .loop body =>
      match X.lp body tm hp ans with
      | some r => r
      | none => loopR (run X n body) n tm hp ans
    | _ => .bad

/-- What is owed of the contracts. -/
def CtOk (X : Cx) : Prop :=
  ∀ f args hp s ho c, X.ct f args hp = some (s, ho, c) → c → ∀ B η w vs, HR B η hp w → B ≤ w.heap.size → Rs η args vs →
    Calls X.P f vs.toArray w (fun e w' => ∃ v μ, e = .returned v ∧ R (η ++ μ) s v ∧ HR B (η ++ μ) (ho.getD hp) w' ∧ Below B w w')
def WpOk (P : Program) (c : Code) (tm : List SV) (hp : List SO) (r : Fin) : Prop :=
  ∀ (ro : Option Nat) (ds : List Deferred) (B : Nat) (w₀ : World) (η : Env) (a : Act) (w : World), Sim ds B w₀ η tm hp a w → ∀ (Q : Exit → Act → World → Prop),
    (∀ μ a' w' ex, Sim ds B w₀ (η ++ μ) r.tm r.hp a' w' → r.e.Is (η ++ μ) ex → Q ex a' w') → c.wpIn (fen ro) 0 P Q a w
/-- What is owed of the summaries of loops. -/
def LpOk (X : Cx) : Prop := ∀ body tm hp ans r ans' c, X.lp body tm hp ans = some (.ok r ans' c) → c → WpOk X.P (.loop body) tm hp r

theorem loopR_exit {P : Program} {body : Code} {rn : List SV → List SO → List Bool → Rr Fin} (hrn : ∀ tm hp ans r ans' c, rn tm hp ans = .ok r ans' c → c → WpOk P body tm hp r) :
    ∀ (m : Nat) (tm : List SV) (hp : List SO) (ans : List Bool) (r : Fin) (ans' : List Bool) (c : Cnd), loopR rn m tm hp ans = .ok r ans' c → r.e ≠ .normal
  | 0, _, _, _, _, _, _, h => by simp [loopR] at h
  | m + 1, tm, hp, ans, r, ans', c, h => by
    simp only [loopR] at h
    split at h
    · split at h
      · split at h
        · rename_i h2
          obtain ⟨rfl, _, _⟩ := ok_inj h
          exact loopR_exit hrn m _ _ _ _ _ _ h2
        · simp at h
        · simp at h
      · rename_i hne
        obtain ⟨rfl, _, _⟩ := ok_inj h
        exact fun e => hne e
    · simp at h
    · simp at h
theorem loopR_ok {P : Program} {body : Code} {rn : List SV → List SO → List Bool → Rr Fin} (hrn : ∀ tm hp ans r ans' c, rn tm hp ans = .ok r ans' c → c → WpOk P body tm hp r) :
    ∀ (m : Nat) (tm : List SV) (hp : List SO) (ans : List Bool) (r : Fin) (ans' : List Bool) (c : Cnd), loopR rn m tm hp ans = .ok r ans' c → c →
    ∀ (ro : Option Nat) (ds : List Deferred) (B : Nat) (w₀ : World) (η : Env) (a : Act) (w : World), Sim ds B w₀ η tm hp a w → ∀ (Q : Exit → Act → World → Prop),
    (∀ μ a' w' ex, Sim ds B w₀ (η ++ μ) r.tm r.hp a' w' → r.e.Is (η ++ μ) ex → Q ex a' w') → Code.roundsIn (fen ro) 0 P body Q m a w
  | 0, _, _, _, _, _, _, h, _, _, _, _, _, _, _, _, _, _, _ => by simp [loopR] at h
  | m + 1, tm, hp, ans, r, ans', c, h, hc, ro, ds, B, w₀, η, a, w, hs, Q, hQ => by
    simp only [loopR] at h
    split at h
    · rename_i r1 ans1 c1 h1
      split at h
      · rename_i he
        split at h
        · rename_i x ans2 c2 h2
          obtain ⟨rfl, rfl, rfl⟩ := ok_inj h
          show body.wpIn (fen ro) 0 P (Exit.then (Code.roundsIn (fen ro) 0 P body Q m) Q) a w
          refine hrn _ _ _ _ _ _ h1 hc.l ro ds B w₀ η a w hs _ fun μ a' w' ex hs' hex => ?_
          rw [he] at hex
          simp only [XE.Is] at hex
          subst hex
          show Code.roundsIn (fen ro) 0 P body Q m a' w'
          exact loopR_ok hrn m _ _ _ _ _ _ h2 hc.r ro ds B w₀ _ a' w' hs' Q (fun μ' a'' w'' ex hs'' hx => hQ (μ ++ μ') a'' w'' ex (by simpa using hs'') (by simpa using hx))
        · simp at h
        · simp at h
      · rename_i hne
        obtain ⟨rfl, rfl, rfl⟩ := ok_inj h
        show body.wpIn (fen ro) 0 P (Exit.then (Code.roundsIn (fen ro) 0 P body Q m) Q) a w
        refine hrn _ _ _ _ _ _ h1 hc ro ds B w₀ η a w hs _ fun μ a' w' ex hs' hex => ?_
        have := hQ μ a' w' ex hs' hex
        cases he : r1.e with
        | normal => exact absurd he hne
        | ret => rw [he] at hex; simp only [XE.Is] at hex; subst hex; exact this
        | exit id => rw [he] at hex; simp only [XE.Is] at hex; subst hex; exact this
        | panic s => rw [he] at hex; obtain ⟨v, _, rfl⟩ := hex; exact this
    · simp at h
    · simp at h
end Go.Ex
namespace Go.Ex
open Go.RowKit (Below)

theorem noCall_ok (P : Program) : CallOk P noCall := fun f args hp ans s ho ans' c h => by simp [noCall] at h

/-- One operation more, behind a row of operations. -/
theorem wpList_concat {P : Program} {ops : Array Oper} {Q : Exit → Act → World → Prop} {K : Act → World → Prop} {m : List Oper} (hK : ∀ a w, K a w → wpList P ops Q m a w) : ∀ (l : List Oper) (a : Act) (w : World),
    wpList P ops (fun e a w => e = .normal ∧ K a w) l a w → wpList P ops Q (l ++ m) a w
  | [], a, w, h => hK a w h.2
  | o :: l, a, w, h => by
    simp only [wpList, List.cons_append] at h ⊢
    split
    · rename_i hw
      rw [if_pos hw] at h
      rcases h with h | h
      · left
        unfold Oper.wp at h ⊢
        generalize (execOp a.eval o).run P w = res at h ⊢
        cases res with
        | ok x w' =>
          cases x <;> simp only [Oper.upon] at h ⊢
          case value v => exact wpList_concat hK l _ _ h
          case skip => exact wpList_concat hK l _ _ h
          case defer d => exact wpList_concat hK l _ _ h
          case enter f args =>
            refine h.mono fun e w'' he => ?_
            cases e with
            | returned v => exact wpList_concat hK l _ _ he
            | panicked ch => exact absurd he.1 (by simp)
            | outgrown => obtain ⟨_, _, hx⟩ := he; exact absurd hx.1 (by simp)
          case row row args => exact h.mono fun v w'' he => wpList_concat hK l _ _ he
        | halt x w' => cases x <;> simp only [Oper.upon] at h ⊢ <;> exact absurd h.1 (by simp)
      · obtain ⟨_, _, _, hx⟩ := h
        exact absurd hx.1 (by simp)
    · rename_i hw
      rw [if_neg hw] at h
      exact wpList_concat hK l _ _ h

theorem getLast_split {l : List Oper} {o : Oper} (h : l.getLast? = some o) : l = l.dropLast ++ [o] := by
  have hne : l ≠ [] := by intro e; subst e; simp at h
  rw [List.getLast?_eq_some_getLast hne] at h
  have := List.dropLast_concat_getLast hne
  rw [← Option.some.inj h]; exact this.symm

theorem panicAt_last {ops : Array Oper} {x : Operand} (h : panicAt ops = some x) : ∃ o : Oper, ops.toList.getLast? = some o ∧ o.op = .panic x ∧ o.guard = none := by
  unfold panicAt at h
  split at h
  · rename_i o ho
    split at h
    · rename_i h1 h2
      simp only [Option.some.injEq] at h; subst h
      exact ⟨o, ho, h1, h2⟩
    · simp at h
  · simp at h

theorem panicR_ok {r : Option Nat} {P : Program} {callf : CallF} (hcf : CallOk P callf) {id : Nat} {ops : Array Oper} {draw : Bool} (hnd : noDefer ops = true) {tm : List SV} {hp : List SO} {ans ans' : List Bool} {c : Cnd} {f : Fin}
    (h : panicR P callf ops draw tm hp ans = .ok f ans' c) (hc : c) {ds : List Deferred} {B : Nat} {w₀ : World} {η : Env} {a : Act} {w : World} (hs : Sim ds B w₀ η tm hp a w) {Q : Exit → Act → World → Prop}
    (hQ : ∀ μ a' w' ex, Sim ds B w₀ (η ++ μ) f.tm f.hp a' w' → f.e.Is (η ++ μ) ex → Q ex a' w') : (Code.region id ops draw).wpIn (fen r) 0 P Q a w := by
  unfold panicR at h
  split at h
  · simp at h
  · rename_i hd
    have hd' : draw = false := by simpa using hd
    subst hd'
    split at h
    · simp at h
    · rename_i x hx
      obtain ⟨o, ho, hop, hg⟩ := panicAt_last hx
      split at h
      · rename_i tm' hp' ans1 c1 h1
        split at h
        · rename_i ty y hev
          obtain ⟨rfl, rfl, rfl⟩ := ok_inj h
          refine wpIn_mono (Q := fun e a w => (∃ ch, e = .panic ch) ∧ Q e a w) (reg_fen hnd (by rintro ⟨_, _, ⟨_, hq⟩, _⟩; cases hq) (regOk_list ?_)) fun e a w hq => hq.2
          rw [getLast_split ho]
          refine wpList_concat (K := fun a' w' => ∃ μ, Sim ds B w₀ (η ++ μ) tm' hp' a' w') ?_ _ a w (opsR_ok hcf _ h1 hc hs fun μ a' w' hs' => ⟨rfl, μ, hs'⟩)
          rintro a' w' ⟨μ, hs'⟩
          have hv := ev_R hs'.tm x
          rw [hev] at hv
          have hv' := hv
          obtain ⟨z, hz, _⟩ := hv'
          have hw : Region.wanted o (yielded ops a'.tmps) = true := by simp [Region.wanted, hg]
          simp only [wpList, hw, if_true]
          left
          have : (execOp a'.eval o).run P w' = .halt (.panic (a'.eval x)) w' := by
            unfold execOp
            simp only [hop, hz]
            rfl
          unfold Oper.wp
          rw [this]
          exact ⟨⟨_, rfl⟩, hQ μ a' w' _ hs' ⟨_, hv, rfl⟩⟩
        · simp at h
      · simp at h
      · simp at h

/-! ### deferred calls -/
theorem deferAt_last {ops : Array Oper} {t : Tmp} (h : deferAt ops = some t) : ∃ (o : Oper) (ts : Array TypeId), ops.toList.getLast? = some o ∧ o.op = .defer ⟨.value (.tmp t), #[], ts⟩ ∧ o.guard = none ∧ o.dst = none := by
  unfold deferAt at h
  split at h
  · rename_i o ho
    split at h
    · rename_i h1 h2 h3
      simp only [Option.some.injEq] at h; subst h
      exact ⟨o, _, ho, h1, h2, h3⟩
    · simp at h
  · simp at h

/-- What was deferred, as it is. -/
def Dfr.Is (η : Env) (d : Dfr) (x : Deferred) : Prop := ∃ fs cs : Array Value, x = { target := .fn (.func d.g) cs, args := fs ++ #[] } ∧ Rs η d.first fs.toList ∧ Rs η d.caps cs.toList
theorem Dfr.Is.ext {η μ : Env} {d : Dfr} {x : Deferred} (h : d.Is η x) : d.Is (η ++ μ) x := by
  obtain ⟨fs, cs, h1, h2, h3⟩ := h
  exact ⟨fs, cs, h1, h2.ext, h3.ext⟩

theorem dBody_ok {X : Cx} {rn : Code → List SV → List SO → List Bool → Rr Fin} (hrn : ∀ c tm hp ans r ans' cc, rn c tm hp ans = .ok r ans' cc → cc → WpOk X.P c tm hp r) :
    ∀ (c : Code) (tm : List SV) (hp : List SO) (ans : List Bool) (r : Fin) (d : Dfr) (ans' : List Bool) (cc : Cnd), dBody X rn c tm hp ans = .ok (r, d) ans' cc → cc.Is →
    ∀ (B : Nat) (w₀ : World) (η : Env) (a : Act) (w : World), Sim [] B w₀ η tm hp a w → ∀ (Q : Exit → Act → World → Prop),
    (∀ μ a' w' ex x, d.Is (η ++ μ) x → Sim [x] B w₀ (η ++ μ) r.tm r.hp a' w' → r.e.Is (η ++ μ) ex → Q ex a' w') → c.wpIn (fen none) 0 X.P Q a w := by
  intro c
  induction c with
  | seq x y ihx ihy =>
    clear ihx
    intro tm hp ans r d ans' cc h hc B w₀ η a w hs Q hQ
    simp only [dBody] at h
    split at h
    · rename_i ops t hx
      split at h
      · rename_i tm2 hp2 ans2 c2 h2
        split at h
        · rename_i g first caps htm
          split at h
          · rename_i r3 ans3 c3 h3
            obtain ⟨pe, rfl, rfl⟩ := ok_inj h
            obtain ⟨rfl, rfl⟩ := Prod.mk.inj pe
            cases x <;> try (simp at hx; done)
            rename_i id ops' dr
            cases dr <;> try (simp at hx; done)
            simp only [Option.map_eq_some_iff, Prod.mk.injEq] at hx
            obtain ⟨t', ht, rfl, rfl⟩ := hx
            obtain ⟨o, ts, ho, hop, hg, hdst⟩ := deferAt_last ht
            refine wpIn_seq ?_
            show (Code.region id ops' false).wpIn Fence.wide 0 X.P _ a w
            refine wpIn_wide.2 (wp_region_list ?_)
            rw [getLast_split ho]
            refine wpList_concat (K := fun a' w' => ∃ μ, Sim [] B w₀ (η ++ μ) tm2 hp2 a' w') ?_ _ a w (opsR_ok (noCall_ok X.P) _ h2 hc.l hs fun μ a' w' hs' => ⟨rfl, μ, hs'⟩)
            rintro a' w' ⟨μ, hs'⟩
            obtain ⟨v, hv, hR⟩ := hs'.tm.get htm
            obtain ⟨fs, cs, rfl, hf, hcs⟩ := hR
            have hw : Region.wanted o (yielded ops' a'.tmps) = true := by simp [Region.wanted, hg]
            simp only [wpList, hw, if_true]
            left
            have ev : a'.eval (.tmp t') = .func (.func g) fs cs := by
              simp only [Act.eval]
              have : a'.tmps[t']? = some (.func (.func g) fs cs) := by simpa using hv
              rw [Array.getD_eq_getD_getElem?, this]; rfl
            have : (execOp a'.eval o).run X.P w' = .ok (.defer { target := .fn (.func g) cs, args := fs ++ #[] }) w' := by
              unfold execOp
              simp [hop, resolve, ev, Deferred.ofValue]
            unfold Oper.wp
            rw [this]
            simp only [Oper.upon, Act.put, hdst]
            show y.wpIn (fen none) 0 X.P Q _ w'
            refine hrn _ _ _ _ _ _ _ h3 hc.r none [{ target := .fn (.func g) cs, args := fs ++ #[] }] B w₀ (η ++ μ) { tmps := a'.tmps, defers := _ :: a'.defers } w' ⟨hs'.tm, ?_, hs'.hr, hs'.below, hs'.hB⟩ Q fun μ' a'' w'' ex hs'' hex => ?_
            · simp [hs'.df]
            · exact hQ (μ ++ μ') a'' w'' ex _ ⟨fs, cs, rfl, by simpa using hf.ext (μ := μ'), by simpa using hcs.ext (μ := μ')⟩ (by simpa using hs'') (by simpa using hex)
          · simp at h
          · simp at h
        · simp at h
      · simp at h
      · simp at h
    · split at h
      · rename_i r1 ans1 c1 h1
        split at h
        · rename_i he
          split at h
          · rename_i z ans2 c2 h2
            obtain ⟨rfl, rfl, rfl⟩ := ok_inj h
            refine wpIn_seq (hrn _ _ _ _ _ _ _ h1 hc.l none [] B w₀ η a w hs _ fun μ a' w' ex hs' hex => ?_)
            rw [he] at hex
            simp only [XE.Is] at hex
            subst hex
            exact ihy _ _ _ _ _ _ _ h2 hc.r B w₀ (η ++ μ) a' w' hs' Q fun μ' a'' w'' ex x hx hs'' hex => hQ (μ ++ μ') a'' w'' ex x (by simpa using hx) (by simpa using hs'') (by simpa using hex)
          · simp at h
          · simp at h
        · simp at h
      · simp at h
      · simp at h
  | _ => intro tm hp ans r d ans' cc h; simp [dBody] at h

theorem wpOpsS_of {P : Program} {ops : Array Oper} {cs : List Frame} {Q : Exit → Act → List Frame → World → Prop} (hQ : ¬ LetsOut (fun e a w => Q e a cs w)) : ∀ (l : List Nat) (a : Act) (w : World),
    wpOps P ops (fun e a w => Q e a cs w) l a w → wpOpsS P ops Q l a cs w
  | [], a, w, h => h
  | i :: l, a, w, h => by
    simp only [wpOps] at h
    simp only [wpOpsS]
    cases ho : ops[i]? with
    | none =>
      simp only [ho] at h
      exact wpOpsS_of hQ l a w h
    | some o =>
      simp only [ho] at h ⊢
      by_cases hw : Region.wanted o (yielded ops a.tmps) = true
      · simp only [hw, if_true] at h ⊢
        rcases h with h | h
        · unfold Oper.wp at h
          generalize (execOp a.eval o).run P w = res at h
          cases res with
          | ok x w' =>
            cases x <;> simp only [Oper.upon] at h ⊢
            case value v => exact wpOpsS_of hQ l _ _ h
            case skip => exact wpOpsS_of hQ l _ _ h
            case defer d => exact wpOpsS_of hQ l _ _ h
            case enter f args =>
              refine h.mono fun e w'' he => ?_
              cases e with
              | returned v => exact wpOpsS_of hQ l _ _ he
              | panicked ch => exact he
              | outgrown => exact he
            case row row args => exact h.mono fun v w'' he => wpOpsS_of hQ l _ _ he
          | halt x w' => cases x <;> simp only [Oper.upon] at h ⊢ <;> exact h
        · exact absurd h.2 hQ
      · simp only [hw, if_false, Bool.false_eq_true] at h ⊢
        exact wpOpsS_of hQ l _ _ h

/-- The two ways in which a deferred call is come to. -/
inductive Came (η : Env) : SV → FrameMode → Prop where
  | returning : Came η (.val .nilIface) .returning
  | panicking {s : SV} {v : Value} : R η s v → Came η s (.panicking [{ v, recovered := false }])

theorem isRecover_op {o : Oper} (h : isRecover o = true) : o.guard = none ∧ ∃ ts, o.op = .call ⟨.builtin .recover, #[], ts⟩ := by
  unfold isRecover at h
  split at h
  · rename_i h1 h2; exact ⟨h2, _, h1⟩
  · simp at h

theorem Came.ext {η μ : Env} {s : SV} {u : FrameMode} (h : Came η s u) : Came (η ++ μ) s u := by
  cases h with
  | returning => exact .returning
  | panicking h => exact .panicking h.ext

theorem recR_ok {X : Cx} {rn : Code → List SV → List SO → List Bool → Rr Fin} (hrn : ∀ c tm hp ans r ans' cc, rn c tm hp ans = .ok r ans' cc → cc → WpOk X.P c tm hp r)
    {g : FuncId} {args : List SV} {rc : SV} {hp hp' : List SO} {ans ans' : List Bool} {c : Cnd} (h : recR X rn g args rc hp ans = .ok hp' ans' c) (hc : c.Is)
    {B : Nat} {η : Env} {w : World} {vs : List Value} (hr : HR B η hp w) (hB : B ≤ w.heap.size) (hargs : Rs η args vs) {u : FrameMode} (hu : Came η rc u) :
    (callFunc g vs.toArray).run X.P w = .ok (.enter g vs.toArray) w ∧
    CallsD X.P g vs.toArray u w (fun e u' w' => Go.settle u' = FrameMode.returning ∧ ∃ v μ, e = .returned v ∧ HR B (η ++ μ) hp' w' ∧ Below B w w') := by
  unfold recR at h
  split at h
  · simp at h
  · rename_i fn hf
    split at h
    · simp at h
    · rename_i hn
      split at h
      · rename_i id ops y hb
        split at h
        · simp at h
        · rename_i o rest hops
          split at h
          · rename_i hrec
            split at h
            · rename_i tm1 hp1 ans1 c1 h1
              split at h
              · rename_i r ans2 c2 h2
                have hrun : (callFunc g vs.toArray).run X.P w = .ok (.enter g vs.toArray) w := by
                  have hn' : (fn.name == "runtime.NumGoroutine") = false := by simpa using hn
                  simp only [callFunc, Sem.run_bind, run_program, Result.andThen_ok, hf, hn', Bool.false_eq_true, if_false, hb, Option.isNone_some, Sem.run_pure]
                refine ⟨hrun, ?_⟩
                have fin : ∃ z, (∀ id, r.e ≠ .exit id) ∧ (∀ s, r.e ≠ .panic s) ∧ resultsS X.P fn r.tm r.hp = some z ∧ hp' = r.hp ∧ c = c1.and c2 := by
                  split at h
                  · simp at h
                  · simp at h
                  · rename_i n1 n2
                    split at h
                    · rename_i z hz
                      obtain ⟨rfl, _, rfl⟩ := ok_inj h
                      exact ⟨z, fun id e => n1 id e, fun s e => n2 s e, hz, rfl, rfl⟩
                    · simp at h
                obtain ⟨z, n1, n2, hz, rfl, rfl⟩ := fin
                refine callsD_of_wpS hf hb fun c₀ cs hmode => ?_
                obtain ⟨hg, ts, hop⟩ := isRecover_op hrec
                have hl := hargs.length
                have tm0 : Rs η (args ++ List.replicate (fn.ntmps - args.length) (.val undef)) (vs.toArray ++ Array.replicate (fn.ntmps - vs.toArray.size) undef).toList := by
                  simp only [Array.toList_append, Array.toList_replicate, List.size_toArray]
                  rw [hl]
                  exact hargs.append (Rs.replicate _ (by simp only [R]))
                generalize htmps : (vs.toArray ++ Array.replicate (fn.ntmps - vs.toArray.size) undef) = tmps at tm0
                -- what 'recover' says
                have key : ∃ x cs', recoverD (c₀ :: cs) = x ∧ ((∃ v, x = some (v, cs') ∧ R η rc v) ∨ (x = none ∧ cs' = c₀ :: cs ∧ rc = .val .nilIface)) ∧ ∃ u', Go.settle u' = FrameMode.returning ∧ cs' = { c₀ with mode := u' } :: cs := by
                  cases hu with
                  | returning =>
                    refine ⟨none, c₀ :: cs, by simp [recoverD, hmode], .inr ⟨rfl, rfl, rfl⟩, .returning, rfl, by rw [← hmode]⟩
                  | panicking hv =>
                    rename_i v
                    refine ⟨some (v, { c₀ with mode := .panicking ({ v := v, recovered := true } :: []) } :: cs), _, by simp [recoverD, hmode], .inl ⟨v, rfl, hv⟩, .panicking [{ v := v, recovered := true }], rfl, rfl⟩
                obtain ⟨x, cs', hx, hcase, u', hset, hcs'⟩ := key
                refine wpS_seq ?_
                have rest_ok : ∀ v, R η rc v → wpOpsS X.P ops (Exit.thenS (y.wpS X.P (bodyPostS X.P fn c₀ cs fun e u' w' => Go.settle u' = FrameMode.returning ∧ ∃ v μ, e = .returned v ∧ HR B (η ++ μ) r.hp w' ∧ Below B w w')) (bodyPostS X.P fn c₀ cs fun e u' w' => Go.settle u' = FrameMode.returning ∧ ∃ v μ, e = .returned v ∧ HR B (η ++ μ) r.hp w' ∧ Below B w w'))
                    (List.range' 1 rest.length) (Act.put { tmps := tmps, defers := [] } o.dst v) cs' w := by
                  intro v hv
                  refine wpOpsS_of ?_ _ _ _ ?_
                  · rintro ⟨_, _, u'', hh, v, _, he, _⟩
                    cases he
                  rw [wpOps_eq_wpList (ops := ops) rest 1 (fun j => by rw [← Array.getElem?_toList, hops, Nat.add_comm]; rfl)]
                  refine opsR_ok (noCall_ok X.P) (ds := []) (B := B) (w₀ := w) (η := η) rest h1 hc.l ⟨putS_ok (a := { tmps := tmps, defers := [] }) o.dst tm0 hv, by rw [put_defers], hr, Below.refl _ _, hB⟩ fun μ a' w' hs' => ?_
                  show y.wpS X.P _ a' cs' w'
                  refine wpS_of_wp ((wpIn_wide (n := 0)).1 (hrn _ _ _ _ _ _ _ h2 hc.r none [] B w (η ++ μ) a' w' hs' _ fun μ' a'' w'' ex hs'' hex => ?_))
                  obtain ⟨z', hR, hzr⟩ := resultsS_ok hs''.hr hs''.tm hz
                  have done : a''.defers = [] ∧ ∃ u', cs' = { c₀ with mode := u' } :: cs ∧ ∃ v, (results fn a''.tmps).run X.P w'' = .ok v w'' ∧ (Go.settle u' = FrameMode.returning ∧ ∃ v_1 μ, Ending.returned v = .returned v_1 ∧ HR B (η ++ μ) r.hp w'' ∧ Below B w w'') :=
                    ⟨hs''.df, u', hcs', z', hzr, hset, z', μ ++ μ', rfl, by simpa using hs''.hr, hs''.below⟩
                  cases hre : r.e with
                  | normal => rw [hre] at hex; simp only [XE.Is] at hex; subst hex; exact done
                  | ret => rw [hre] at hex; simp only [XE.Is] at hex; subst hex; exact done
                  | exit id => exact absurd hre (n1 id)
                  | panic s => exact absurd hre (n2 s)
                refine wpS_region ?_
                have hsz : List.range ops.size = 0 :: List.range' 1 rest.length := by
                  rw [← Array.length_toList, hops, List.length_cons, List.range_eq_range', List.range'_succ]
                rw [hsz]
                have h0 : ops[0]? = some o := by rw [← Array.getElem?_toList, hops]; rfl
                simp only [wpOpsS, h0]
                have hw : Region.wanted o (yielded ops tmps) = true := by simp [Region.wanted, hg]
                rw [if_pos hw]
                have hexec : ∀ ρ : Operand → Value, (execOp ρ o).run X.P w = .ok .recover w := by
                  intro ρ
                  unfold execOp
                  simp only [hop]
                  rfl
                rw [hexec]
                simp only [hx]
                rcases hcase with ⟨v, rfl, hv⟩ | ⟨rfl, rfl, rfl⟩
                · exact rest_ok v hv
                · exact rest_ok .nilIface (by simp only [R])
              · simp at h
              · simp at h
            · simp at h
            · simp at h
          · simp at h
      · simp at h

theorem dBodyR_ok {X : Cx} {rn : Code → List SV → List SO → List Bool → Rr Fin} (hrn : ∀ c tm hp ans r ans' cc, rn c tm hp ans = .ok r ans' cc → cc → WpOk X.P c tm hp r)
    {f : FuncId} {fn : Func} {c : Code} (hf : X.P.funcs[f]? = some fn) (hb : fn.body = some c) {args : List SV} {hp hp' : List SO} {ans ans' : List Bool} {s : SV} {cc : Cnd}
    (h : dBodyR X rn fn c args hp ans = .ok (s, hp') ans' cc) (hc : cc) {B : Nat} {η : Env} {w : World} {vs : List Value} (hr : HR B η hp w) (hB : B ≤ w.heap.size) (hargs : Rs η args vs) :
    Calls X.P f vs.toArray w (fun e w' => ∃ v μ, e = .returned v ∧ R (η ++ μ) s v ∧ HR B (η ++ μ) hp' w' ∧ Below B w w') := by
  unfold dBodyR at h
  split at h
  · rename_i r d ans1 c1 h1
    split at h
    · rename_i rc hrc
      split at h
      · rename_i hp2 ans2 c2 h2
        split at h
        · rename_i s' hres
          obtain ⟨pe, rfl, rfl⟩ := ok_inj h
          obtain ⟨rfl, rfl⟩ := Prod.mk.inj pe
          refine calls_of_wp_defers hf hb ?_
          have hl := hargs.length
          refine (wpIn_wide (n := 0)).1 (dBody_ok hrn _ _ _ _ _ _ _ _ h1 hc.l B w η { tmps := vs.toArray ++ Array.replicate (fn.ntmps - vs.toArray.size) undef, defers := [] } w ⟨?_, rfl, hr, Below.refl _ _, hB⟩ _ fun μ a' w' ex x hx hs' hex => ?_)
          · simp only [Array.toList_append, Array.toList_replicate, List.size_toArray]
            rw [hl]
            exact hargs.append (Rs.replicate _ (by simp only [R]))
          · obtain ⟨fs, cs, rfl, hfs, hcs⟩ := hx
            have leave : ∀ u, Came (η ++ μ) rc u → u ≠ .run → Leaves X.P fn a'.tmps (fun e w' => ∃ v μ, e = .returned v ∧ R (η ++ μ) s' v ∧ HR B (η ++ μ) hp2 w' ∧ Below B w w') a'.defers u w' := by
              intro u hu hne
              obtain ⟨g1, g2⟩ := recR_ok hrn h2 hc.r hs'.hr hs'.size (hfs.append hcs) hu
              rw [hs'.df]
              refine leaves_cons (f := d.g) (args := (fs.toList ++ cs.toList).toArray) hne ?_ ?_
              · have : fs ++ #[] ++ cs = (fs.toList ++ cs.toList).toArray := by simp
                simp only [invoke, this]
                exact g1
              · intro c₀ cs₀ hm
                obtain ⟨e, u', w'', fr, ⟨hset, v, μ', rfl, hr', hb'⟩, hcm, hk, hgo⟩ := g2 c₀ cs₀ hm
                refine ⟨_, u', w'', fr, ?_, hcm, hk, hgo⟩
                show Leaves X.P fn a'.tmps _ [] (Go.settle u') w''
                rw [hset]
                obtain ⟨z, hR, hzr⟩ := resultsS_ok hr' (Rs.ext (μ := μ') hs'.tm) hres
                exact ⟨z, hzr, z, μ ++ μ', rfl, by simpa using hR, by simpa using hr', hs'.below.trans hb'⟩
            cases hre : r.e with
            | normal =>
              rw [hre] at hex hrc; simp only [XE.Is] at hex; subst hex
              simp only [Option.some.injEq] at hrc; subst hrc
              exact leave _ .returning (by simp)
            | ret =>
              rw [hre] at hex hrc; simp only [XE.Is] at hex; subst hex
              simp only [Option.some.injEq] at hrc; subst hrc
              exact leave _ .returning (by simp)
            | exit id => rw [hre] at hrc; simp at hrc
            | panic sp =>
              rw [hre] at hex hrc; obtain ⟨v, hv, rfl⟩ := hex
              simp only [Option.some.injEq] at hrc; subst hrc
              exact leave _ (.panicking hv) (by simp)
        · simp at h
      · simp at h
      · simp at h
    · simp at h
  · simp at h
  · simp at h
end Go.Ex
namespace Go.Ex
open Go.RowKit (Below)

theorem op_fen {r : Option Nat} {P : Program} {o : Oper} (hnd : ∀ c, o.op ≠ .defer c) {a : Act} {w : World} {next : Act → World → Prop} {Q : Exit → Act → World → Prop} (h : o.wp P a w next Q) : o.wpIn (fen r) 0 P a w next Q := by
  refine ⟨fun _ _ => trivial, ?_⟩
  rw [Oper.semAt_eq _ _ _ hnd]
  unfold Oper.wp at h
  generalize (execOp a.eval o).run P w = res at h
  cases res with
  | ok x w' =>
    cases x <;> simp only [Oper.upon, Oper.uponIn] at h ⊢
    case value v => exact h
    case skip => exact h
    case defer d => exact h
    case enter f args => exact ⟨fun hh => by simp [fen, Fence.wide] at hh, callsFen h⟩
    case row row args => exact ⟨fun hh => by simp [fen, Fence.wide] at hh, rowsFen h⟩
  | halt x w' => cases x <;> simp only [Oper.upon, Oper.uponIn] at h ⊢ <;> exact h

theorem Rs.setPs {η : Env} : ∀ {l : List (Tmp × SV)} {m : List (Tmp × Value)} {ts : List SV} {vs : Array Value}, l.map (·.1) = m.map (·.1) → Rs η (l.map (·.2)) (m.map (·.2)) → Rs η ts vs.toList →
    Rs η (setPs l ts) (m.foldl (fun t (x : Tmp × Value) => t.setIfInBounds x.1 x.2) vs).toList
  | [], [], ts, vs, _, _, h => h
  | [], _ :: _, _, _, h, _, _ => by simp at h
  | _ :: _, [], _, _, h, _, _ => by simp at h
  | (t, s) :: l, (t', v) :: m, ts, vs, h1, h2, h3 => by
    simp only [List.map_cons, List.cons.injEq] at h1
    obtain ⟨rfl, h1⟩ := h1
    obtain ⟨x, r, e, hx, hr⟩ := h2.cons_inv
    simp only [List.map_cons, List.cons.injEq] at e
    obtain ⟨rfl, rfl⟩ := e
    simp only [Go.Ex.setPs, List.foldl_cons]
    refine Rs.setPs h1 hr ?_
    rw [Array.toList_setIfInBounds]
    exact h3.set hx

theorem OwnIs.put {B : Nat} {η : Env} {w : World} {j r : Nat} {o : SO} {ob nob : Obj} (e3 : w.heap[r]? = some ob) (hob : isC ob = false) (hm : ∀ m c, ob ≠ .map m c) (hl : isLop o = true → ∀ x, ob ≠ .loop x)
    (hd : isDfb o = true → ∀ x, ob ≠ .deferred x) (h : OwnIs B η w j o) : OwnIs B η (w.putObj r nob) j o := by
  have same : ∀ b', b' ≠ r → (w.putObj r nob).heap[b']? = w.heap[b']? := fun b' hb => World.putObj_heap_other hb
  cases o with
  | otx e kc t =>
    obtain ⟨g, c, g1, g2, g3⟩ := h
    refine ⟨g, c, g1, g2, ownsZ_heap g3 (same g fun e => ?_)⟩
    subst e
    rcases g3.2 with ⟨t1, _⟩ | ⟨g', cap', cur', t1, _, ⟨fz3, t3, _⟩, _⟩
    · cases t1
    · injection t1 with t1 _ _
      injection t1 with t1
      injection t1 with t1
      subst t1
      rw [e3] at t3
      cases t3
      simp [isC] at hob
  | ows e sz nn kc L =>
    obtain ⟨g, c, g1, g2, g3⟩ := h
    refine ⟨g, c, g1, g2, ownsZ_heap g3 (same g fun e => ?_)⟩
    subst e
    rcases g3.2 with ⟨t1, _⟩ | ⟨g', cap', cur', t1, _, ⟨fz3, t3, _⟩, _⟩
    · cases t1
    · injection t1 with t1 _ _
      injection t1 with t1
      injection t1 with t1
      subst t1
      rw [e3] at t3
      cases t3
      simp [isC] at hob
  | own e s n kc l =>
    obtain ⟨g, c, xs, g1, g2, g3, g4, g5⟩ := h
    refine ⟨g, c, xs, g1, g2, ownsZ_heap g3 (same g fun e => ?_), g4, g5⟩
    subst e
    rcases g3.2 with ⟨t1, _⟩ | ⟨g', cap', cur', t1, _, ⟨fz3, t3, _⟩, _⟩
    · cases t1
    · injection t1 with t1 _ _
      injection t1 with t1
      injection t1 with t1
      subst t1
      rw [e3] at t3
      cases t3
      simp [isC] at hob
  | mp q e =>
    obtain ⟨r', arr, clock, q1, q2, q3, q4, q5⟩ := h
    refine ⟨r', arr, clock, q1, q2, ?_, q4, q5⟩
    rw [same r' (fun e => by subst e; rw [e3] at q3; exact hm _ _ (Option.some.inj q3))]; exact q3
  | glob g l => exact h
  | fx d =>
    cases d with
    | lop rdy ts ps as bd =>
      obtain ⟨r', fn, vts, D, g1, g2, g3, g4⟩ := h
      refine ⟨r', fn, vts, D, g1, g2, ?_, g4⟩
      rw [same r' (fun e => by subst e; rw [e3] at g3; exact hl rfl _ (Option.some.inj g3))]; exact g3
    | dfb =>
      obtain ⟨r', g1, g2, g3⟩ := h
      refine ⟨r', g1, g2, ?_⟩
      rw [same r' (fun e => by subst e; rw [e3] at g3; exact hd rfl _ (Option.some.inj g3))]; exact g3
  | _ => trivial
/-- Another object in the place of one that is no cells: whatever else is told stands. -/
theorem HR.swap {B : Nat} {η : Env} {hp : List SO} {w : World} (h : HR B η hp w) {k r : Nat} {ob nob : Obj} {so' : SO} (hkl : k < hp.length) (e3 : w.heap[r]? = some ob) (hob : isC ob = false) (hB : B ≤ r) (hrow' : so'.row = none)
    (hown : OwnIs B η (w.putObj r nob) k so') (hoth : ∀ (j : Nat) (o : SO), j ≠ k → hp[j]? = some o → OwnIs B η w j o → OwnIs B η (w.putObj r nob) j o) :
    HR B η (hp.set k so') (w.putObj r nob) ∧ Below B w (w.putObj r nob) := by
  have same : ∀ b', b' ≠ r → (w.putObj r nob).heap[b']? = w.heap[b']? := fun b' hb => World.putObj_heap_other hb
  have cellsNe : ∀ {j : Nat} {o : SO} {wr : Bool} {l : List SV} {b p : Nat}, hp[j]? = some o → o.row = some (wr, l) → η[j]? = some (.pointer (some ⟨b, p, none⟩)) → (∃ (n : Nat) (s : SV), l[n]? = some s) → b ≠ r := by
    intro j o wr l b p hj hro he ⟨n, s, hs⟩ e
    subst e
    obtain ⟨b', p', f1, _, _, f4⟩ := (h.blk j o hj).1 wr l hro
    rw [he] at f1
    simp at f1
    obtain ⟨rfl, rfl⟩ := f1
    obtain ⟨⟨u, hu', _⟩, _⟩ := f4 n s hs
    cases ob <;> first | (simp [World.cell?, e3] at hu'; done) | simp [isC] at hob
  have back : ∀ {j : Nat} {o : SO}, (hp.set k so')[j]? = some o → (j = k ∧ o = so') ∨ (j ≠ k ∧ hp[j]? = some o) := by
    intro j o hj
    by_cases hjk : k = j
    · subst hjk
      rw [List.getElem?_set_self hkl] at hj
      simp at hj
      exact .inl ⟨rfl, hj.symm⟩
    · rw [List.getElem?_set_ne hjk] at hj
      exact .inr ⟨fun e => hjk e.symm, hj⟩
  refine ⟨⟨by rw [List.length_set]; exact h.len, fun j o hj => ?_, ?_⟩, ⟨rfl, rfl, rfl, by simp, fun b' hb => same b' (by omega)⟩⟩
  · rcases back hj with ⟨rfl, rfl⟩ | ⟨hne, hj'⟩
    · exact ⟨fun wr l hro => (by rw [hrow'] at hro; cases hro), hown⟩
    · have hb := h.blk j o hj'
      refine ⟨fun wr l hro => ?_, hoth j o hne hj' hb.2⟩
      obtain ⟨b', p, f1, f2, f3, f4⟩ := hb.1 wr l hro
      refine ⟨b', p, f1, by simpa using f2, f3, fun n s hs => ?_⟩
      have hbr := cellsNe hj' hro f1 ⟨n, s, hs⟩
      obtain ⟨⟨u, u1, u2, u3⟩, u4⟩ := f4 n s hs
      have hsame := same b' hbr
      exact ⟨⟨u, by rw [World.cell?_of_block (w := w) hsame]; exact u1, u2, u3⟩, fun hw => by rw [World.frozen?_of_block (w := w) hsame]; exact u4 hw⟩
  · intro k₁ k₂ s₁ s₂ l₁ wr₂ l₂ b₁ o₁ b₂ o₂ h1 r1 h2 r2 hne e1 e2
    rcases back h1 with ⟨_, rfl⟩ | ⟨_, h1'⟩
    · rw [hrow'] at r1; cases r1
    rcases back h2 with ⟨_, rfl⟩ | ⟨_, h2'⟩
    · rw [hrow'] at r2; cases r2
    exact h.apart k₁ k₂ s₁ s₂ l₁ wr₂ l₂ b₁ o₁ b₂ o₂ h1' r1 h2' r2 hne e1 e2
theorem oneLop_other {k : Nat} {hp : List SO} (h : oneLop k hp = true) {j : Nat} {o : SO} (hne : j ≠ k) (hj : hp[j]? = some o) : isLop o = false := by
  have := List.all_eq_true.1 h (o, j) (by
    rw [List.mem_zipIdx_iff_getElem?]; simpa using hj)
  simp only [Bool.or_eq_true, beq_iff_eq, Bool.not_eq_true'] at this
  exact this.resolve_left hne
/-- Another word in the record: whatever else is told stands. -/
theorem HR.record {B : Nat} {η : Env} {hp : List SO} {w : World} (h : HR B η hp w) {k : Nat} {b0 : Bool} {ts : List SV} {ps : Array Tmp} {assign body : Code} (hk : hp[k]? = some (.fx (.lop b0 ts ps assign body))) (h1 : oneLop k hp = true) :
    ∃ (r : Nat) (fn : FuncId) (vts : Array Value) (D : Nat), η[k]? = some (.func (.yield r) #[] #[]) ∧
      w.heap[r]? = some (Obj.loop { state := if b0 then .ready else .busy, pending := none, fn := fn, tmps := vts, params := ps, assign := assign, body := body, defers := D }) ∧ Rs η ts vts.toList ∧ B ≤ r ∧
      (∀ (b : Bool), HR B η (hp.set k (.fx (.lop b ts ps assign body))) (w.putObj r (.loop { state := if b then .ready else .busy, pending := none, fn := fn, tmps := vts, params := ps, assign := assign, body := body, defers := D })) ∧
        Below B w (w.putObj r (.loop { state := if b then .ready else .busy, pending := none, fn := fn, tmps := vts, params := ps, assign := assign, body := body, defers := D }))) ∧
      ∀ nob, HR B η (hp.set k .dead) (w.putObj r nob) ∧ Below B w (w.putObj r nob) := by
  obtain ⟨r, fn, vts, D, e1, e2, e3, e4⟩ := (h.blk k _ hk).2
  have hkl : k < hp.length := (List.getElem?_eq_some_iff.1 hk).1
  have hrl : r < w.heap.size := (Array.getElem?_eq_some_iff.1 e3).1
  have oth : ∀ (nob : Obj) (j : Nat) (o : SO), j ≠ k → hp[j]? = some o → OwnIs B η w j o → OwnIs B η (w.putObj r nob) j o := fun nob j o hne hj ho =>
    OwnIs.put e3 rfl (fun _ _ e => by cases e) (fun e => by rw [oneLop_other h1 hne hj] at e; cases e) (fun _ x e => by cases e) ho
  refine ⟨r, fn, vts, D, e1, e3, e4, e2, fun b => ?_, fun nob => ?_⟩
  · exact h.swap hkl e3 rfl e2 rfl ⟨r, fn, vts, D, e1, e2, World.putObj_heap_same hrl, e4⟩ (oth _)
  · exact h.swap hkl e3 rfl e2 rfl trivial (oth _)

theorem flip_ok {k : Nat} {b : Bool} {hp hp' : List SO} (h : flip k b hp = some hp') : ∃ ts ps as bd, hp[k]? = some (.fx (.lop (!b) ts ps as bd)) ∧ oneLop k hp = true ∧ hp' = hp.set k (.fx (.lop b ts ps as bd)) := by
  unfold flip at h
  split at h
  · rename_i b0 ts ps as bd hk
    split at h
    · rename_i hc
      simp only [Bool.and_eq_true, decide_eq_true_eq, Option.some.injEq] at hc h
      obtain ⟨rfl, hc⟩ := hc
      exact ⟨ts, ps, as, bd, hk, hc, h.symm⟩
    · simp at h
  · simp at h

theorem yieldOp_ok {tm : List SV} {hp : List SO} {o : Oper} {k : Nat} {ts : List SV} {ps : Array Tmp} {assign body : Code} {args : List SV} (h : yieldOp tm hp o = some (k, ts, ps, assign, body, args)) :
    ∃ t as tys, o.op = .call ⟨.value (.tmp t), as, tys⟩ ∧ o.guard = none ∧ tm[t]? = some (.hdl k) ∧ hp[k]? = some (.fx (.lop true ts ps assign body)) ∧ as.size = ps.size ∧ args = as.toList.map (ev tm) := by
  unfold yieldOp at h
  split at h
  · rename_i t as tys h1 h2
    split at h
    · rename_i k' hk
      split at h
      · rename_i ts' ps' as' bd' hl
        split at h
        · rename_i hs
          simp only [Option.some.injEq, Prod.mk.injEq] at h
          obtain ⟨rfl, rfl, rfl, rfl, rfl, rfl⟩ := h
          exact ⟨t, as, tys, h1, h2, hk, hl, hs, rfl⟩
        · simp at h
      · simp at h
    · simp at h
  · simp at h

/-- **One round.** -/
theorem roundR_ok {P : Program} {rn : Code → List SV → List SO → List Bool → Rr Fin} (hrn : ∀ c tm hp ans r ans' cc, rn c tm hp ans = .ok r ans' cc → cc → WpOk P c tm hp r)
    {k : Nat} {ts : List SV} {ps : Array Tmp} {assign body : Code} {args : List SV} {hp hp' : List SO} {ans ans' : List Bool} {c : Cnd} (h : roundR rn k ts ps assign body args hp ans = .ok hp' ans' c) (hc : c.Is)
    {ro : Option Nat} {B : Nat} {w₀ : World} {η : Env} {w : World} (hr : HR B η hp w) (hb : Below B w₀ w) (hB : B ≤ w₀.heap.size) (hk : hp[k]? = some (.fx (.lop true ts ps assign body))) {vs : Array Value} (hvs : Rs η args vs.toList) (hsz : vs.size = ps.size) :
    ∃ (l : Nat) (f : FuncId) (vts : Array Value), η[k]? = some (.func (.yield l) #[] #[]) ∧ (Instr.yield l vs).run P w = .ok (.round l f ((ps.zip vs).foldl (fun tmps (t, a) => tmps.setIfInBounds t a) vts) assign body) w ∧
    RoundIn (fen ro) 0 P l f ((ps.zip vs).foldl (fun tmps (t, a) => tmps.setIfInBounds t a) vts) assign body w (fun e w' => e = .returned (.bool true) ∧ ∃ μ, HR B (η ++ μ) hp' w' ∧ Below B w₀ w') := by
  obtain ⟨l, f, vts, D, e1, e2, e3, e4⟩ := (hr.blk k _ hk).2
  refine ⟨l, f, vts, e1, ?_, ?_⟩
  · exact run_yield (r := { state := .ready, pending := none, fn := f, tmps := vts, params := ps, assign := assign, body := body, defers := D }) e3 hsz
  unfold roundR at h
  split at h
  · rename_i r1 ans1 c1 h1
    split at h
    · rename_i he1
      split at h
      · rename_i hp2 hfl
        split at h
        · rename_i r2 ans2 c2 h2
          split at h
          · rename_i he2
            split at h
            · rename_i hp3 hfl3
              obtain ⟨rfl, rfl, rfl⟩ := ok_inj h
              obtain ⟨ts1, ps1, as1, bd1, g1, g2, rfl⟩ := flip_ok hfl
              obtain ⟨ts3, ps3, as3, bd3, g3, g4, rfl⟩ := flip_ok hfl3
              refine roundIn_of_wpIn (F := fen ro) trivial ?_
              show assign.wpIn (fen (some l)) 0 P _ _ w
              have htm : Rs η (setPs (ps.toList.zip args) ts) ((ps.zip vs).foldl (fun tmps (t, a) => tmps.setIfInBounds t a) vts).toList := by
                have hl := hvs.length
                have : (ps.zip vs).foldl (fun tmps (t, a) => tmps.setIfInBounds t a) vts = (ps.toList.zip vs.toList).foldl (fun t (x : Tmp × Value) => t.setIfInBounds x.1 x.2) vts := by
                  rw [← Array.foldl_toList, Array.toList_zip]
                rw [this]
                have len1 : ps.toList.length = args.length := by rw [← hl]; simp [hsz]
                have len2 : ps.toList.length = vs.toList.length := by simp [hsz]
                refine Rs.setPs ?_ ?_ e4
                · rw [List.map_fst_zip (by omega), List.map_fst_zip (by omega)]
                · rw [List.map_snd_zip (by omega), List.map_snd_zip (by omega)]; exact hvs
              refine hrn _ _ _ _ _ _ _ h1 hc.l (some l) [] B w₀ η { tmps := (ps.zip vs).foldl (fun tmps (t, a) => tmps.setIfInBounds t a) vts, defers := [] } w ⟨htm, rfl, hr, hb, hB⟩ _ fun μ a1 w1 ex hs1 hex => ?_
              rw [he1] at hex
              simp only [XE.Is] at hex
              subst hex
              obtain ⟨r', f', vts', D', q1, q2, q3, q4, q5, _⟩ := HR.record hs1.hr g1 g2
              have hrl : r' = l := by
                rw [get_ext e1] at q1; simp at q1; exact q1.symm
              subst hrl
              obtain ⟨k1, k2⟩ := q5 false
              refine ⟨_, run_beginRound (r := { state := .ready, pending := none, fn := f', tmps := vts', params := ps1, assign := as1, body := bd1, defers := D' }) q2 rfl, ?_⟩
              refine hrn _ _ _ _ _ _ _ h2 hc.r (some r') [] B w₀ (η ++ μ) a1 _ ⟨hs1.tm, hs1.df, k1, hs1.below.trans k2, hB⟩ _ fun μ2 a2 w2 ex hs2 hex => ?_
              rw [he2] at hex
              simp only [XE.Is] at hex
              subst hex
              obtain ⟨r3, f3, vts3, D3, p1, p2, p3, p4, p5, _⟩ := HR.record hs2.hr g3 g4
              have hrl : r3 = r' := by
                rw [get_ext (get_ext e1)] at p1; simp at p1; exact p1.symm
              subst hrl
              obtain ⟨n1, n2⟩ := p5 true
              refine ⟨_, _, run_endRound (r := { state := .busy, pending := none, fn := f3, tmps := vts3, params := ps3, assign := as3, body := bd3, defers := D3 }) none p2, rfl, μ ++ μ2, by simpa using n1, hs2.below.trans n2⟩
            · simp at h
          · simp at h
        · simp at h
        · simp at h
      · simp at h
    · simp at h
  · simp at h
  · simp at h

theorem opsY_ok {P : Program} {callf : CallF} (hcf : CallOk P callf) {rn : Code → List SV → List SO → List Bool → Rr Fin} (hrn : ∀ c tm hp ans r ans' cc, rn c tm hp ans = .ok r ans' cc → cc → WpOk P c tm hp r)
    {ro : Option Nat} {ops : Array Oper} {Q : Exit → Act → World → Prop} : ∀ (l : List Oper) {tm tm' : List SV} {hp hp' : List SO} {ans ans' : List Bool} {c : Cnd}, (∀ o ∈ l, ∀ c, o.op ≠ .defer c) →
    opsY P callf rn ops l tm hp ans = .ok (tm', hp') ans' c → c → ∀ {ds : List Deferred} {B : Nat} {w₀ : World} {η : Env} {a : Act} {w : World}, Sim ds B w₀ η tm hp a w →
    (∀ μ a' w', Sim ds B w₀ (η ++ μ) tm' hp' a' w' → Q .normal a' w') → wpListIn (fen ro) 0 P ops Q l a w
  | [], tm, tm', hp, hp', ans, ans', c, hnd, h, hc, ds, B, w₀, η, a, w, hs, hQ => by
    simp [opsY] at h
    obtain ⟨⟨rfl, rfl⟩, _⟩ := h
    exact hQ [] a w (by simpa using hs)
  | o :: l, tm, tm', hp, hp', ans, ans', c, hnd, h, hc, ds, B, w₀, η, a, w, hs, hQ => by
    have hnd' : ∀ o ∈ l, ∀ c, o.op ≠ .defer c := fun o ho => hnd o (List.mem_cons_of_mem _ ho)
    simp only [opsY] at h
    split at h
    · rename_i k ts ps assign body args hy
      obtain ⟨t, as, tys, hop, hg, htm, hl, hsz, rfl⟩ := yieldOp_ok hy
      split at h
      · rename_i hp1 ans1 c1 h1
        split at h
        · rename_i x ans2 c2 h2
          obtain ⟨rfl, rfl, rfl⟩ := ok_inj h
          have hw : Region.wanted o (yielded ops a.tmps) = true := by simp [Region.wanted, hg]
          simp only [wpListIn, hw, if_true]
          obtain ⟨lp, f, vts, e1, e2, e3⟩ := roundR_ok (ro := ro) hrn h1 hc.l hs.hr hs.below hs.hB hl (vs := as.map a.eval) (by simpa using ev_Rs hs.tm as.toList) (by simpa using hsz)
          refine ⟨fun _ _ => trivial, ?_⟩
          rw [Oper.semAt_eq _ _ _ (hnd o (by simp))]
          have hexec : (execOp a.eval o).run P w = .ok (.round lp f ((ps.zip (as.map a.eval)).foldl (fun tmps (t, a) => tmps.setIfInBounds t a) vts) assign body) w := by
            obtain ⟨v, hv, hR⟩ := hs.tm.get htm
            simp only [R] at hR
            rw [e1] at hR
            simp only [Option.some.injEq] at hR
            subst hR
            have ev : a.eval (.tmp t) = .func (.yield lp) #[] #[] := by
              simp only [Act.eval]
              have : a.tmps[t]? = some (.func (.yield lp) #[] #[]) := by simpa using hv
              rw [Array.getD_eq_getD_getElem?, this]; rfl
            unfold execOp
            simp only [hop, resolve, ev, Deferred.ofValue, Sem.run_bind, Sem.run_pure, Result.andThen_ok, invoke, Array.empty_append]
            exact e2
          rw [hexec]
          refine ⟨fun hh => by simp [fen, Fence.wide] at hh, RoundIn.mono e3 fun e w' he => ?_⟩
          obtain ⟨rfl, μ, hr', hb'⟩ := he
          show wpListIn (fen ro) 0 P ops Q l (a.put o.dst (.bool true)) w'
          refine opsY_ok hcf hrn l hnd' h2 hc.r (ds := ds) (η := η ++ μ) (w₀ := w₀) (B := B) ⟨putS_ok o.dst hs.tm.ext (by simp only [R]), by rw [put_defers]; exact hs.df, hr', hb', hs.hB⟩ fun μ' a' w'' hsim => ?_
          exact hQ (μ ++ μ') a' w'' (by simpa using hsim)
        · simp at h
        · simp at h
      · simp at h
      · simp at h
    · split at h
      · rename_i tm1 hp1 ans1 c1 h1
        split at h
        · rename_i x ans2 c2 h2
          obtain ⟨rfl, rfl, rfl⟩ := ok_inj h
          have st := step1_ok hcf (P := P) (ops := ops) h1 hc.l hs.tm hs.hr hs.size (K := wpListIn (fen ro) 0 P ops Q l) (Q := Q) fun μ v w' e1 e2 e3 =>
            opsY_ok hcf hrn l hnd' h2 hc.r (ds := ds) (η := η ++ μ) (w₀ := w₀) (B := B) ⟨e1, by rw [put_defers]; exact hs.df, e2, hs.below.trans e3, hs.hB⟩ fun μ' a' w'' hsim => hQ (μ ++ μ') a' w'' (by simpa using hsim)
          simp only [wpListIn]
          split
          · rename_i hw
            rw [if_pos hw] at st
            exact op_fen (hnd o (by simp)) st
          · rename_i hw
            rw [if_neg hw] at st
            exact ⟨fun _ _ => trivial, st⟩
        · simp at h
        · simp at h
      · simp at h
      · simp at h

theorem yieldR_ok {r : Option Nat} {P : Program} {callf : CallF} (hcf : CallOk P callf) {rn : Code → List SV → List SO → List Bool → Rr Fin} (hrn : ∀ c tm hp ans r ans' cc, rn c tm hp ans = .ok r ans' cc → cc → WpOk P c tm hp r)
    {id : Nat} {ops : Array Oper} {draw : Bool} (hnd : noDefer ops = true) {tm : List SV} {hp : List SO} {ans ans' : List Bool} {c : Cnd} {f : Fin}
    (h : yieldR P callf rn ops draw tm hp ans = .ok f ans' c) (hc : c) {ds : List Deferred} {B : Nat} {w₀ : World} {η : Env} {a : Act} {w : World} (hs : Sim ds B w₀ η tm hp a w) {Q : Exit → Act → World → Prop}
    (hQ : ∀ μ a' w' ex, Sim ds B w₀ (η ++ μ) f.tm f.hp a' w' → f.e.Is (η ++ μ) ex → Q ex a' w') : (Code.region id ops draw).wpIn (fen r) 0 P Q a w := by
  unfold yieldR at h
  split at h
  · simp at h
  · rename_i hd
    have hd' : draw = false := by simpa using hd
    subst hd'
    split at h
    · rename_i tm' hp' ans1 c1 h1
      obtain ⟨rfl, rfl, rfl⟩ := ok_inj h
      refine wpIn_region_list (opsY_ok hcf hrn ops.toList ?_ h1 hc hs fun μ a' w' hs' => hQ μ a' w' _ hs' rfl)
      intro o ho cc
      obtain ⟨i, hi⟩ := List.getElem?_of_mem ho
      exact noDefer_at hnd (by rw [← Array.getElem?_toList]; exact hi) cc
    · simp at h
    · simp at h

theorem oneDfb_other {k : Nat} {hp : List SO} (h : oneDfb k hp = true) {j : Nat} {o : SO} (hne : j ≠ k) (hj : hp[j]? = some o) : isDfb o = false := by
  have := List.all_eq_true.1 h (o, j) (by
    rw [List.mem_zipIdx_iff_getElem?]; simpa using hj)
  simp only [Bool.or_eq_true, beq_iff_eq, Bool.not_eq_true'] at this
  exact this.resolve_left hne

/-- The mark that a range over a function leaves. -/
def markOf (d : Nat) : Deferred := { target := .collected d, args := #[] }

theorem mBody_ok {X : Cx} {rn : Code → List SV → List SO → List Bool → Rr Fin} (hrn : ∀ c tm hp ans r ans' cc, rn c tm hp ans = .ok r ans' cc → cc → WpOk X.P c tm hp r) {callf : CallF} (hcf : CallOk X.P callf) :
    ∀ (c : Code) (tm : List SV) (hp : List SO) (ans : List Bool) (r : Fin) (k : Nat) (ans' : List Bool) (cc : Cnd), mBody X rn callf c tm hp ans = .ok (r, k) ans' cc → cc.Is →
    ∀ (B : Nat) (w₀ : World) (η : Env) (a : Act) (w : World), Sim [] B w₀ η tm hp a w → ∀ (Q : Exit → Act → World → Prop),
    (∀ μ a' w' ex d, (η ++ μ)[k]? = some (.pointer (some ⟨d, 0, none⟩)) → Sim [markOf d] B w₀ (η ++ μ) r.tm r.hp a' w' → r.e.Is (η ++ μ) ex → Q ex a' w') → c.wpIn (fen none) 0 X.P Q a w := by
  intro c
  induction c with
  | rangeFunc g ps assign body _ _ =>
    intro tm hp ans r k ans' cc h hc B w₀ η a w hs Q hQ
    simp only [mBody] at h
    split at h
    · rename_i f first caps hev
      split at h
      · rename_i hnl
        split at h
        · rename_i s hp2 ans1 c1 h1
          split at h
          · rename_i ts2 ps2 as2 bd2 hk2
            split at h
            · rename_i h1l
              obtain ⟨pe, rfl, rfl⟩ := ok_inj h
              obtain ⟨rfl, rfl⟩ := Prod.mk.inj pe
              refine wpIn_rangeFunc fun fn _ => ?_
              have hg := ev_R hs.tm g
              rw [hev] at hg
              obtain ⟨fs, cs, eg, hfs, hcs⟩ := hg
              let w1 : World := (w.alloc (.deferred (some []))).alloc (.loop { state := .ready, pending := none, fn := fn, tmps := a.tmps, params := ps, assign := assign, body := body, defers := w.heap.size })
              have hb1 : Below w.heap.size w w1 := ((Below.refl _ _).alloc (Nat.le_refl _) _).alloc (by simp) _
              have hB := hs.size
              let p : Value := .pointer (some ⟨w.heap.size, 0, none⟩)
              let y : Value := .func (.yield (w.heap.size + 1)) #[] #[]
              have hlen := hs.hr.len
              have e0 : (η ++ [p, y])[hp.length]? = some p := by rw [← hlen]; simp
              have e1 : (η ++ [p, y])[hp.length + 1]? = some y := by rw [← hlen]; simp
              have hh0 : w1.heap[w.heap.size]? = some (.deferred (some [])) := by
                exact (Below.heap_alloc _ _ _ (by simp)).trans (World.alloc_heap_new w _)
              have hh1 : w1.heap[w.heap.size + 1]? = some (.loop { state := .ready, pending := none, fn := fn, tmps := a.tmps, params := ps, assign := assign, body := body, defers := w.heap.size }) := by
                have := World.alloc_heap_new (w.alloc (.deferred (some []))) (.loop { state := .ready, pending := none, fn := fn, tmps := a.tmps, params := ps, assign := assign, body := body, defers := w.heap.size })
                rwa [World.size_alloc] at this
              have q0 := (hs.hr.below hb1).pad (μ := [p, y])
              have q1 : HR B (η ++ [p, y]) ((hp ++ List.replicate [p, y].length SO.dead).set hp.length (.fx .dfb)) w1 :=
                q0.turn (so := SO.dead) (so' := .fx .dfb) (by simp) rfl ⟨w.heap.size, e0, hB, hh0⟩
              have q2 : HR B (η ++ [p, y]) (((hp ++ List.replicate [p, y].length SO.dead).set hp.length (.fx .dfb)).set (hp.length + 1) (.fx (.lop true tm ps assign body))) w1 :=
                q1.turn (so := SO.dead) (so' := .fx (.lop true tm ps assign body)) (by simp) rfl ⟨w.heap.size + 1, fn, a.tmps, w.heap.size, e1, by omega, hh1, hs.tm.ext⟩
              have hpe : ((hp ++ List.replicate [p, y].length SO.dead).set hp.length (.fx .dfb)).set (hp.length + 1) (.fx (.lop true tm ps assign body)) = hp ++ [.fx .dfb, .fx (.lop true tm ps assign body)] := by
                simp [List.replicate]
              rw [hpe] at q2
              have hargs : Rs (η ++ [p, y]) (first ++ [.hdl (hp.length + 1)] ++ caps) (fs.toList ++ [y] ++ cs.toList) :=
                (hfs.ext.append (Rs.cons (by simp only [R]; exact e1) Rs.nil)).append hcs.ext
              obtain ⟨g1, g2⟩ := hcf _ _ _ _ _ _ _ _ h1 hc B (η ++ [p, y]) w1 _ q2 (Nat.le_trans hB hb1.size) hargs
              refine ⟨w.heap.size + 1, [markOf w.heap.size], w1, { target := .fn (.func f) cs, args := fs ++ #[y] }, w1, f, (fs.toList ++ [y] ++ cs.toList).toArray, w1, run_enterLoop_outer _ _ _ _ _, ?_, fun _ _ => trivial, ?_, fun hh => by simp [fen, Fence.wide] at hh, callsFen (g2.mono fun e w' hq => ?_)⟩
              · simp only [resolve, eg, List.map_toArray, List.map_cons, List.map_nil, Deferred.ofValue]
                rfl
              · have : fs ++ #[y] ++ cs = (fs.toList ++ [y] ++ cs.toList).toArray := by simp
                simp only [invoke, this]
                exact g1
              · obtain ⟨v, μ, rfl, hR, hr', hb'⟩ := hq
                obtain ⟨rl, fn', vts, D, p1, p2, p3, p4, _, p6⟩ := HR.record hr' hk2 h1l
                have hrl : rl = w.heap.size + 1 := by
                  rw [get_ext e1] at p1; simp [y] at p1; exact p1.symm
                subst hrl
                refine ⟨none, _, run_endLoop (r := { state := .ready, pending := none, fn := fn', tmps := vts, params := ps2, assign := as2, body := bd2, defers := D }) p2 (by simp), ?_⟩
                obtain ⟨n1, n2⟩ := p6 (.loop { state := .exhausted, pending := none, fn := fn', tmps := vts, params := ps2, assign := as2, body := bd2, defers := D })
                refine hQ ([p, y] ++ μ) _ _ _ w.heap.size ?_ ⟨?_, ?_, by simpa using n1, (hs.below.trans (hb1.mono hB)).trans (hb'.trans n2), hs.hB⟩ rfl
                · rw [← List.append_assoc]; exact get_ext e0
                · simpa using hs.tm.ext (μ := [p, y] ++ μ)
                · show [markOf w.heap.size] ++ a.defers = _
                  rw [hs.df]; rfl
            · simp at h
          · simp at h
        · simp at h
        · simp at h
        · simp at h
      · simp at h
    · simp at h
  | block id b ih =>
    intro tm hp ans r k ans' cc h hc B w₀ η a w hs Q hQ
    simp only [mBody] at h
    split at h
    · rename_i r1 k1 ans1 c1 h1
      refine wpIn_block (ih _ _ _ _ _ _ _ h1 ?_ B w₀ η a w hs _ fun μ a' w' ex d hd hs' hex => ?_)
      · split at h
        · split at h
          · obtain ⟨_, _, rfl⟩ := ok_inj h; exact hc
          · obtain ⟨_, _, rfl⟩ := ok_inj h; exact hc
        · obtain ⟨_, _, rfl⟩ := ok_inj h; exact hc
      split at h
      · rename_i id' he
        rw [he] at hex
        simp only [XE.Is] at hex
        subst hex
        split at h
        · rename_i hid
          obtain ⟨pe, rfl, rfl⟩ := ok_inj h
          obtain ⟨rfl, rfl⟩ := Prod.mk.inj pe
          simp only [Exit.inBlock, hid, if_true]
          exact hQ μ a' w' _ d hd hs' rfl
        · rename_i hid
          obtain ⟨pe, rfl, rfl⟩ := ok_inj h
          obtain ⟨rfl, rfl⟩ := Prod.mk.inj pe
          simp only [Exit.inBlock, hid, if_false]
          exact hQ μ a' w' _ d hd hs' (by rw [he]; rfl)
      · rename_i hne
        obtain ⟨pe, rfl, rfl⟩ := ok_inj h
        obtain ⟨rfl, rfl⟩ := Prod.mk.inj pe
        have := hQ μ a' w' ex d hd hs' hex
        cases he : r1.e with
        | normal => rw [he] at hex; simp only [XE.Is] at hex; subst hex; exact this
        | ret => rw [he] at hex; simp only [XE.Is] at hex; subst hex; exact this
        | exit id => exact absurd he (hne id)
        | panic s => rw [he] at hex; obtain ⟨v, _, rfl⟩ := hex; exact this
    · simp at h
    · simp at h
  | seq x y ihx ihy =>
    intro tm hp ans r k ans' cc h hc B w₀ η a w hs Q hQ
    simp only [mBody] at h
    split at h
    · split at h
      · rename_i r1 k1 ans1 c1 h1
        split at h
        · rename_i he
          split at h
          · rename_i r2 ans2 c2 h2
            obtain ⟨pe, rfl, rfl⟩ := ok_inj h
            obtain ⟨rfl, rfl⟩ := Prod.mk.inj pe
            refine wpIn_seq (ihx _ _ _ _ _ _ _ h1 hc.l B w₀ η a w hs _ fun μ a' w' ex d hd hs' hex => ?_)
            rw [he] at hex
            simp only [XE.Is] at hex
            subst hex
            exact hrn _ _ _ _ _ _ _ h2 hc.r none [markOf d] B w₀ (η ++ μ) a' w' hs' _ fun μ' a'' w'' ex hs'' hex => hQ (μ ++ μ') a'' w'' ex d (by rw [← List.append_assoc]; exact get_ext hd) (by simpa using hs'') (by simpa using hex)
          · simp at h
          · simp at h
        · simp at h
      · simp at h
      · simp at h
    · split at h
      · rename_i r1 ans1 c1 h1
        split at h
        · rename_i he
          split at h
          · rename_i z ans2 c2 h2
            obtain ⟨rfl, rfl, rfl⟩ := ok_inj h
            refine wpIn_seq (hrn _ _ _ _ _ _ _ h1 hc.l none [] B w₀ η a w hs _ fun μ a' w' ex hs' hex => ?_)
            rw [he] at hex
            simp only [XE.Is] at hex
            subst hex
            exact ihy _ _ _ _ _ _ _ h2 hc.r B w₀ (η ++ μ) a' w' hs' Q fun μ' a'' w'' ex d hd hs'' hex => hQ (μ ++ μ') a'' w'' ex d (by rw [← List.append_assoc]; exact hd) (by simpa using hs'') (by simpa using hex)
          · simp at h
          · simp at h
        · simp at h
      · simp at h
      · simp at h
  | _ => intro tm hp ans r k ans' cc h; simp [mBody] at h

theorem mBodyR_ok {X : Cx} {rn : Code → List SV → List SO → List Bool → Rr Fin} (hrn : ∀ c tm hp ans r ans' cc, rn c tm hp ans = .ok r ans' cc → cc → WpOk X.P c tm hp r) {callf : CallF} (hcf : CallOk X.P callf)
    {f : FuncId} {fn : Func} {c : Code} (hf : X.P.funcs[f]? = some fn) (hb : fn.body = some c) {args : List SV} {hp hp' : List SO} {ans ans' : List Bool} {s : SV} {cc : Cnd}
    (h : mBodyR X rn callf fn c args hp ans = .ok (s, hp') ans' cc) (hc : cc) {B : Nat} {η : Env} {w : World} {vs : List Value} (hr : HR B η hp w) (hB : B ≤ w.heap.size) (hargs : Rs η args vs) :
    Calls X.P f vs.toArray w (fun e w' => ∃ v μ, e = .returned v ∧ R (η ++ μ) s v ∧ HR B (η ++ μ) hp' w' ∧ Below B w w') := by
  unfold mBodyR at h
  split at h
  · split at h
    · rename_i r k ans1 c1 h1
      have fin : ∃ z, (∀ id, r.e ≠ .exit id) ∧ (∀ s, r.e ≠ .panic s) ∧ r.hp[k]? = some (.fx .dfb) ∧ oneDfb k r.hp = true ∧ resultsS X.P fn r.tm (r.hp.set k .dead) = some z ∧ s = z ∧ hp' = r.hp.set k .dead ∧ cc = c1 := by
        split at h
        · simp at h
        · simp at h
        · rename_i n1 n2
          split at h
          · rename_i hk
            split at h
            · simp at h
            · rename_i hone
              split at h
              · rename_i z hz
                obtain ⟨pe, _, rfl⟩ := ok_inj h
                obtain ⟨rfl, rfl⟩ := Prod.mk.inj pe
                exact ⟨_, fun id e => n1 id e, fun s e => n2 s e, hk, by simpa using hone, hz, rfl, rfl, rfl⟩
              · simp at h
          · simp at h
      obtain ⟨z, n1, n2, hk, hone, hz, rfl, rfl, rfl⟩ := fin
      refine fen_calls (r := none) (n := 0) (callsIn_of_wp_marks (F := fen none) hf hb trivial ?_)
      have hl := hargs.length
      refine mBody_ok hrn hcf _ _ _ _ _ _ _ _ h1 hc B w η { tmps := vs.toArray ++ Array.replicate (fn.ntmps - vs.toArray.size) undef, defers := [] } w ⟨?_, rfl, hr, Below.refl _ _, hB⟩ _ fun μ a' w' ex d hd hs' hex => ?_
      · simp only [Array.toList_append, Array.toList_replicate, List.size_toArray]
        rw [hl]
        exact hargs.append (Rs.replicate _ (by simp only [R]))
      · obtain ⟨rd, g1, g2, g3⟩ := (hs'.hr.blk k _ hk).2
        have hrd : rd = d := by rw [hd] at g1; simp at g1; exact g1.symm
        subst hrd
        have hkl : k < r.hp.length := (List.getElem?_eq_some_iff.1 hk).1
        obtain ⟨k1, k2⟩ := hs'.hr.swap (so' := .dead) (nob := .deferred none) hkl g3 rfl g2 rfl trivial fun j o hne hj ho =>
          OwnIs.put g3 rfl (fun _ _ e => by cases e) (fun _ x e => by cases e) (fun e => by rw [oneDfb_other hone hne hj] at e; cases e) ho
        obtain ⟨v, hR, hv⟩ := resultsS_ok k1 hs'.tm hz
        have leave : LeavesInM (fen none) 0 X.P fn a'.tmps (fun e w' => ∃ v μ, e = .returned v ∧ R (η ++ μ) s v ∧ HR B (η ++ μ) (r.hp.set k .dead) w' ∧ Below B w w') a'.defers .returning w' := by
          rw [hs'.df]
          refine ⟨by simp, .inl ⟨rd, _, rfl, run_takeDeferred g3, ?_⟩⟩
          exact ⟨v, hv, v, μ, rfl, hR, k1, hs'.below.trans k2⟩
        cases hre : r.e with
        | normal => rw [hre] at hex; simp only [XE.Is] at hex; subst hex; exact leave
        | ret => rw [hre] at hex; simp only [XE.Is] at hex; subst hex; exact leave
        | exit id => exact absurd hre (n1 id)
        | panic s => exact absurd hre (n2 s)
    · simp at h
    · simp at h
  · simp at h
end Go.Ex
namespace Go.Ex
open Go.RowKit (Below)

/-- A body that is reckoned through, as a call. -/
theorem calls_of_body {P : Program} {f : FuncId} {fn : Func} {c : Code} (hf : P.funcs[f]? = some fn) (hb : fn.body = some c) {args : List SV} {hp : List SO} {r : Fin} {s : SV}
    (hwp : WpOk P c (args ++ List.replicate (fn.ntmps - args.length) (.val undef)) hp r) (he : ∀ id, r.e ≠ .exit id) (hep : ∀ s, r.e ≠ .panic s) (hres : resultsS P fn r.tm r.hp = some s)
    {B : Nat} {η : Env} {w : World} {vs : List Value} (hr : HR B η hp w) (hB : B ≤ w.heap.size) (hargs : Rs η args vs) :
    Calls P f vs.toArray w (fun e w' => ∃ v μ, e = .returned v ∧ R (η ++ μ) s v ∧ HR B (η ++ μ) r.hp w' ∧ Below B w w') := by
  refine calls_of_wp hf hb ?_
  have hl := hargs.length
  refine (wpIn_wide (n := 0)).1 (hwp none [] B w η { tmps := vs.toArray ++ Array.replicate (fn.ntmps - vs.toArray.size) undef, defers := [] } w ⟨?_, rfl, hr, Below.refl _ _, hB⟩ _ fun μ a' w' ex hs hex => ?_)
  · simp only [Array.toList_append, Array.toList_replicate, List.size_toArray]
    rw [hl]
    exact hargs.append (Rs.replicate _ (by simp only [R]))
  · obtain ⟨v, hR, hv⟩ := resultsS_ok hs.hr hs.tm hres
    cases hre : r.e with
    | normal => rw [hre] at hex; simp only [XE.Is] at hex; subst hex; exact ⟨hs.df, v, hv, v, μ, rfl, hR, hs.hr, hs.below⟩
    | ret => rw [hre] at hex; simp only [XE.Is] at hex; subst hex; exact ⟨hs.df, v, hv, v, μ, rfl, hR, hs.hr, hs.below⟩
    | exit id => exact absurd hre (he id)
    | panic s => exact absurd hre (hep s)

theorem bodyR_ok {X : Cx} {rn : Code → List SV → List SO → List Bool → Rr Fin} (hrn : ∀ c tm hp ans r ans' cc, rn c tm hp ans = .ok r ans' cc → cc → WpOk X.P c tm hp r) {callf : CallF} (hcf : CallOk X.P callf)
    {f : FuncId} {fn : Func} {c : Code} (hf : X.P.funcs[f]? = some fn) (hb : fn.body = some c) {args : List SV} {hp hp' : List SO} {ans ans' : List Bool} {s : SV} {cc : Cnd}
    (h : bodyR X rn callf fn c args hp ans = .ok (s, hp') ans' cc) (hc : cc) {B : Nat} {η : Env} {w : World} {vs : List Value} (hr : HR B η hp w) (hB : B ≤ w.heap.size) (hargs : Rs η args vs) :
    Calls X.P f vs.toArray w (fun e w' => ∃ v μ, e = .returned v ∧ R (η ++ μ) s v ∧ HR B (η ++ μ) hp' w' ∧ Below B w w') := by
  unfold bodyR at h
  split at h
  · rename_i r ans1 cc1 hrr
    split at h
    · simp at h
    · simp at h
    · rename_i hne hnp
      split at h
      · rename_i s' hs'
        obtain ⟨pe, rfl, rfl⟩ := ok_inj h
        obtain ⟨rfl, rfl⟩ := Prod.mk.inj pe
        exact calls_of_body hf hb (hrn _ _ _ _ _ _ _ hrr hc) (fun id e => hne id e) (fun s e => hnp s e) hs' hr hB hargs
      · simp at h
  · simp at h
  · split at h
    · exact mBodyR_ok hrn hcf hf hb h hc hr hB hargs
    · exact dBodyR_ok hrn hf hb h hc hr hB hargs

theorem HR.none (w : World) : HR w.heap.size [] [] w := ⟨rfl, fun k o h => by simp at h, fun k₁ k₂ s₁ s₂ l₁ wr₂ l₂ b₁ o₁ b₂ o₂ h => by simp at h⟩

theorem callR'_ok {X : Cx} (hct : CtOk X) {rn : Code → List SV → List SO → List Bool → Rr Fin} (hrn : ∀ c tm hp ans r ans' cc, rn c tm hp ans = .ok r ans' cc → cc → WpOk X.P c tm hp r) {callf : CallF} (hcf : CallOk X.P callf) : CallOk X.P (callR' X rn callf) := by
  intro f args hp ans s ho ans' c h hc B η w vs hr hB hargs
  unfold callR' at h
  split at h
  · simp at h
  · rename_i fn hf
    split at h
    · simp at h
    · rename_i hn
      split at h
      · simp at h
      · rename_i body hb
        have hrun : (callFunc f vs.toArray).run X.P w = .ok (.enter f vs.toArray) w := by
          have hn' : (fn.name == "runtime.NumGoroutine") = false := by simpa using hn
          simp only [callFunc, Sem.run_bind, run_program, Result.andThen_ok, hf, hn', Bool.false_eq_true, if_false, hb, Option.isNone_some, Sem.run_pure]
        refine ⟨hrun, ?_⟩
        have full : whole (bodyR X rn callf fn body args hp ans) = .ok (s, ho) ans' c → Calls X.P f vs.toArray w (fun e w' => ∃ v μ, e = .returned v ∧ R (η ++ μ) s v ∧ HR B (η ++ μ) (ho.getD hp) w' ∧ Below B w w') := by
          intro h
          unfold whole at h
          split at h
          · rename_i s1 hp1 ans1 c1 h1
            obtain ⟨pe, rfl, rfl⟩ := ok_inj h
            obtain ⟨rfl, rfl⟩ := Prod.mk.inj pe
            exact bodyR_ok hrn hcf hf hb h1 hc hr hB hargs
          · simp at h
          · simp at h
        split at h
        · rename_i s' ho' cc hcc
          obtain ⟨pe, rfl, rfl⟩ := ok_inj h
          obtain ⟨rfl, rfl⟩ := Prod.mk.inj pe
          exact hct f args hp s' ho' cc hcc hc B η w vs hr hB hargs
        · split at h
          · rename_i hfr
            split at h
            · rename_i s1 hp1 ans1 c1 h1
              split at h
              · rename_i hsf
                obtain ⟨pe, rfl, rfl⟩ := ok_inj h
                obtain ⟨rfl, rfl⟩ := Prod.mk.inj pe
                refine (bodyR_ok hrn hcf hf hb h1 hc (HR.none w) (Nat.le_refl _) (Rs.free _ _ hfr hargs)).mono fun e w' hq => ?_
                obtain ⟨v, μ, rfl, hR, _, hb'⟩ := hq
                exact ⟨v, [], rfl, R.free _ _ hsf hR, by simpa using hr.below hb', hb'.mono hB⟩
              · exact full h
            · simp at h
            · exact full h
          · exact full h

theorem callR_ok {X : Cx} (hct : CtOk X) {rn : Code → List SV → List SO → List Bool → Rr Fin} (hrn : ∀ c tm hp ans r ans' cc, rn c tm hp ans = .ok r ans' cc → cc → WpOk X.P c tm hp r) : CallOk X.P (callR X rn) :=
  callR'_ok hct hrn (callR'_ok hct hrn (noCall_ok X.P))

theorem run_ok {X : Cx} (hct : CtOk X) (hlp : LpOk X) : ∀ (n : Nat) (c : Code) (tm : List SV) (hp : List SO) (ans : List Bool) (r : Fin) (ans' : List Bool) (cc : Cnd),
    run X n c tm hp ans = .ok r ans' cc → cc → WpOk X.P c tm hp r
  | 0, c, tm, hp, ans, r, ans', cc, h, _ => by simp [run] at h
  | n + 1, c, tm, hp, ans, r, ans', cc, h, hc => by
    have ih := run_ok hct hlp n
    intro ro ds B w₀ η a w hs Q hQ
    have here : ∀ e, r.e.Is η e → r.tm = tm → r.hp = hp → Q e a w := by
      intro e he h1 h2
      exact hQ [] a w e (by rw [h1, h2]; simpa using hs) (by simpa using he)
    cases c with
    | skip =>
      simp only [run] at h
      obtain ⟨rfl, _, _⟩ := ok_inj h
      exact wpIn_skip (here .normal rfl rfl rfl)
    | ret =>
      simp only [run] at h
      obtain ⟨rfl, _, _⟩ := ok_inj h
      exact wpIn_ret (here .ret rfl rfl rfl)
    | exit id =>
      simp only [run] at h
      obtain ⟨rfl, _, _⟩ := ok_inj h
      exact wpIn_exit (here (.exit id) rfl rfl rfl)
    | region id ops draw =>
      simp only [run] at h
      split at h
      · rename_i hnd
        split at h
        · rename_i tm' hp' ans1 c1 h1
          obtain ⟨rfl, rfl, rfl⟩ := ok_inj h
          exact regionR_ok (callR_ok hct ih) hnd h1 hc hs fun μ a' w' hs' => hQ μ a' w' _ hs' rfl
        · simp at h
        · split at h
          · exact yieldR_ok (callR_ok hct ih) ih hnd h hc hs hQ
          · exact panicR_ok (callR_ok hct ih) hnd h hc hs hQ
      · simp at h
    | seq x y =>
      simp only [run] at h
      split at h
      · rename_i r1 ans1 c1 h1
        split at h
        · rename_i he
          split at h
          · rename_i x' ans2 c2 h2
            obtain ⟨rfl, rfl, rfl⟩ := ok_inj h
            refine wpIn_seq (ih _ _ _ _ _ _ _ h1 hc.l ro ds B w₀ η a w hs _ fun μ a' w' ex hs' hex => ?_)
            rw [he] at hex
            simp only [XE.Is] at hex
            subst hex
            exact ih _ _ _ _ _ _ _ h2 hc.r ro ds B w₀ (η ++ μ) a' w' hs' _ fun μ' a'' w'' ex hs'' hex => hQ (μ ++ μ') a'' w'' ex (by simpa using hs'') (by simpa using hex)
          · simp at h
          · simp at h
        · rename_i hne
          obtain ⟨rfl, rfl, rfl⟩ := ok_inj h
          refine wpIn_seq (ih _ _ _ _ _ _ _ h1 hc ro ds B w₀ η a w hs _ fun μ a' w' ex hs' hex => ?_)
          have := hQ μ a' w' ex hs' hex
          cases he : r1.e with
          | normal => exact absurd he hne
          | ret => rw [he] at hex; simp only [XE.Is] at hex; subst hex; exact this
          | exit id => rw [he] at hex; simp only [XE.Is] at hex; subst hex; exact this
          | panic s => rw [he] at hex; obtain ⟨v, _, rfl⟩ := hex; exact this
      · simp at h
      · simp at h
    | cond x y z =>
      simp only [run] at h
      split at h
      · rename_i tm' ans1 c1 h1
        have fin : ∀ (b : Bool) (z' : Code) (r' : Rr Fin), ev tm' x = .bol b → c1 → run X n z' tm' hp ans1 = r' → (if b then y else z) = z' → ∀ (r2 : Fin) ans2 c2, r' = .ok r2 ans2 c2 → c2 → r = r2 → (Code.cond x y z).wpIn (fen ro) 0 X.P Q a w := by
          intro b z' r' hev k1 hr' hz r2 ans2 c2 hr2 k2 hrr
          have e1 := settle_ok h1 k1 hs.tm
          have hx := ev_R e1 x
          rw [hev] at hx
          simp only [R] at hx
          refine wpIn_cond hx ?_
          rw [hz]
          subst hrr
          rw [hr2] at hr'
          exact ih _ _ _ _ _ _ _ hr' k2 ro ds B w₀ η a w ⟨e1, hs.df, hs.hr, hs.below, hs.hB⟩ Q hQ
        split at h
        · rename_i hev
          split at h
          · rename_i r2 ans2 c2 h2
            obtain ⟨rfl, rfl, rfl⟩ := ok_inj h
            exact fin true y _ hev hc.l rfl rfl r2 ans2 c2 h2 hc.r rfl
          · simp at h
          · simp at h
        · rename_i hev
          split at h
          · rename_i r2 ans2 c2 h2
            obtain ⟨rfl, rfl, rfl⟩ := ok_inj h
            exact fin false z _ hev hc.l rfl rfl r2 ans2 c2 h2 hc.r rfl
          · simp at h
          · simp at h
        · simp at h
      · simp at h
      · simp at h
    | block id body =>
      simp only [run] at h
      split at h
      · rename_i r1 ans1 c1 h1
        split at h
        · rename_i id' he
          split at h
          · rename_i hid
            obtain ⟨rfl, rfl, rfl⟩ := ok_inj h
            refine wpIn_block (ih _ _ _ _ _ _ _ h1 hc ro ds B w₀ η a w hs _ fun μ a' w' ex hs' hex => ?_)
            rw [he] at hex
            simp only [XE.Is] at hex
            subst hex
            simp only [Exit.inBlock, hid, if_true]
            exact hQ μ a' w' _ hs' rfl
          · rename_i hid
            obtain ⟨rfl, rfl, rfl⟩ := ok_inj h
            refine wpIn_block (ih _ _ _ _ _ _ _ h1 hc ro ds B w₀ η a w hs _ fun μ a' w' ex hs' hex => ?_)
            have := hQ μ a' w' ex hs' hex
            rw [he] at hex
            simp only [XE.Is] at hex
            subst hex
            simp only [Exit.inBlock, hid, if_false]
            exact this
        · rename_i hne
          obtain ⟨rfl, rfl, rfl⟩ := ok_inj h
          refine wpIn_block (ih _ _ _ _ _ _ _ h1 hc ro ds B w₀ η a w hs _ fun μ a' w' ex hs' hex => ?_)
          have := hQ μ a' w' ex hs' hex
          cases he : r1.e with
          | normal => rw [he] at hex; simp only [XE.Is] at hex; subst hex; exact this
          | ret => rw [he] at hex; simp only [XE.Is] at hex; subst hex; exact this
          | exit id => exact absurd he (hne id)
          | panic s => rw [he] at hex; obtain ⟨v, _, rfl⟩ := hex; exact this
      · simp at h
      · simp at h
    | loop body =>
      simp only [run] at h
      split at h
      · rename_i r' hl
        subst h
        exact hlp _ _ _ _ _ _ _ hl hc ro ds B w₀ η a w hs Q hQ
      · exact wpIn_loop_rounds n (loopR_ok (P := X.P) (body := body) (rn := run X n body) (fun tm hp ans r ans' c h1 h2 => ih _ _ _ _ _ _ _ h1 h2) n tm hp ans r ans' cc h hc ro ds B w₀ η a w hs Q hQ)
    | _ => simp [run] at h

/-- **A call, reckoned through.** -/
theorem call_ok {X : Cx} (hct : CtOk X) (hlp : LpOk X) (n : Nat) {f : FuncId} {fn : Func} {c : Code} (hf : X.P.funcs[f]? = some fn) (hb : fn.body = some c) {args : List SV} {hp : List SO} (ans : List Bool)
    {r : Fin} {cc : Cnd} {s : SV} (hrun : run X n c (args ++ List.replicate (fn.ntmps - args.length) (.val undef)) hp ans = .ok r [] cc) (hc : cc) (he : ∀ id, r.e ≠ .exit id) (hep : ∀ s, r.e ≠ .panic s)
    (hres : resultsS X.P fn r.tm r.hp = some s) {B : Nat} {η : Env} {w : World} {vs : List Value} (hr : HR B η hp w) (hB : B ≤ w.heap.size) (hargs : Rs η args vs) :
    Calls X.P f vs.toArray w (fun e w' => ∃ v μ, e = .returned v ∧ R (η ++ μ) s v ∧ HR B (η ++ μ) r.hp w' ∧ Below B w w') :=
  calls_of_body hf hb (run_ok hct hlp n _ _ _ _ _ _ _ hrun hc) he hep hres hr hB hargs
end Go.Ex
namespace Go.Ex
open Go.RowKit (Below)

/-- It comes to 'true', and nothing is left open. -/
def saysTrue (r : Rr (SV × Option (List SO))) : Bool :=
  match r with
  | .ok (.bol true, _) [] .tt => true
  | _ => false

/-- **A call that is reckoned through to 'true'.** -/
theorem call_true {X : Cx} (hct : CtOk X) (hlp : LpOk X) (n : Nat) {f : FuncId} {args : List SV} {ans : List Bool} (h : saysTrue (callR X (run X n) f args [] ans) = true)
    {w : World} {vs : List Value} (hargs : Rs [] args vs) :
    Calls X.P f vs.toArray w (fun e w' => e = .returned (.bool true) ∧ Below w.heap.size w w') := by
  unfold saysTrue at h
  split at h
  · rename_i ho heq
    refine (callR_ok hct (run_ok hct hlp n) f args [] ans _ _ _ _ heq trivial w.heap.size [] w vs (HR.none w) (Nat.le_refl _) hargs).2.mono fun e w' hq => ?_
    obtain ⟨v, μ, rfl, hR, _, hb⟩ := hq
    simp only [R] at hR
    subst hR
    exact ⟨rfl, hb⟩
  · simp at h

/-- Without contracts. -/
noncomputable def plain (P : Program) : Cx := ⟨P, fun _ _ _ => none, fun _ _ _ _ => none⟩
theorem plain_ct (P : Program) : CtOk (plain P) := fun _ _ _ _ _ _ h => by simp [plain] at h
theorem plain_lp (P : Program) : LpOk (plain P) := fun _ _ _ _ _ _ _ h => by simp [plain] at h

/-! ### a table of told calls -/
structure Told (P : Program) where
  f : FuncId
  args : List SV
  s : SV
  ok : ∀ (w : World) (vs : List Value), Rs [] args vs → Calls P f vs.toArray w (fun e w' => ∃ v, e = .returned v ∧ R [] s v ∧ Below w.heap.size w w')

def Cnd.isTT : Cnd → Bool
  | .tt => true
  | _ => false
theorem Cnd.isTT_is {c : Cnd} (h : c.isTT = true) : c.Is := by cases c <;> first | trivial | (simp [Cnd.isTT] at h)

def lookTold {P : Program} : List (Told P) → FuncId → List SV → Option SV
  | [], _, _ => none
  | t :: r, f, args => if t.f = f then (if (sameCs t.args args).isTT then some t.s else lookTold r f args) else lookTold r f args
theorem lookTold_ok {P : Program} : ∀ {T : List (Told P)} {f : FuncId} {args : List SV} {s : SV}, lookTold T f args = some s → ∃ t ∈ T, t.f = f ∧ t.args = args ∧ t.s = s
  | [], _, _, _, h => by simp [lookTold] at h
  | t :: r, f, args, s, h => by
    simp only [lookTold] at h
    have next : lookTold r f args = some s → ∃ t' ∈ t :: r, t'.f = f ∧ t'.args = args ∧ t'.s = s := fun h => by
      obtain ⟨t', h1, h2⟩ := lookTold_ok h
      exact ⟨t', by simp [h1], h2⟩
    split at h
    · rename_i hf
      split at h
      · rename_i hs
        exact ⟨t, by simp, hf, sameCs_ok _ _ (Cnd.isTT_is hs), Option.some.inj h⟩
      · exact next h
    · exact next h

/-- With a table of told calls. -/
noncomputable def tabled (P : Program) (T : List (Told P)) : Cx :=
  ⟨P, fun f args _ => if frees args then (match lookTold T f args with
    | some s => if s.free then some (s, none, .tt) else none
    | none => none) else none, fun _ _ _ _ => none⟩
theorem tabled_lp (P : Program) (T : List (Told P)) : LpOk (tabled P T) := fun _ _ _ _ _ _ _ h => by simp [tabled] at h
theorem tabled_ct (P : Program) (T : List (Told P)) : CtOk (tabled P T) := by
  intro f args hp s ho c h _ B η w vs hr hB hargs
  simp only [tabled] at h
  split at h
  · rename_i hfr
    split at h
    · rename_i s' hl
      split at h
      · rename_i hsf
        simp only [Option.some.injEq, Prod.mk.injEq] at h
        obtain ⟨rfl, rfl, rfl⟩ := h
        obtain ⟨t, _, rfl, rfl, rfl⟩ := lookTold_ok hl
        refine (t.ok w vs (Rs.free _ _ hfr hargs)).mono fun e w' hq => ?_
        obtain ⟨v, rfl, hR, hb⟩ := hq
        exact ⟨v, [], rfl, R.free _ _ hsf hR, by simpa using hr.below hb, hb.mono hB⟩
      · simp at h
    · simp at h
  · simp at h

theorem told_true {X : Cx} (hct : CtOk X) (hlp : LpOk X) (n : Nat) {f : FuncId} {args : List SV} {ans : List Bool} (h : saysTrue (callR X (run X n) f args [] ans) = true)
    (w : World) (vs : List Value) (hargs : Rs [] args vs) :
    Calls X.P f vs.toArray w (fun e w' => ∃ v, e = .returned v ∧ R [] (.bol true) v ∧ Below w.heap.size w w') :=
  (call_true hct hlp n h hargs).mono fun e w' ⟨h1, h2⟩ => ⟨_, h1, by simp only [R], h2⟩
end Go.Ex
namespace Go.Ex
open Go.RowKit (Below)

/-- Contracts: what a call gives, out of its arguments and what is in memory, and under which condition; memory stays. -/
structure Con (P : Program) where
  g : FuncId → List SV → List SO → Option (SV × Cnd)
  ok : ∀ f args hp s c, g f args hp = some (s, c) → c.Is → ∀ (B : Nat) (η : Env) (w : World) (vs : List Value), HR B η hp w → Rs η args vs →
    Calls P f vs.toArray w (fun e w' => ∃ v, e = .returned v ∧ R [] s v ∧ Below w.heap.size w w')

/-- One function's, that reads memory. -/
def Con.oneH {P : Program} (f : FuncId) (g : List SV → List SO → Option (SV × Cnd)) (ok : ∀ args hp s c, g args hp = some (s, c) → c.Is → ∀ (B : Nat) (η : Env) (w : World) (vs : List Value), HR B η hp w → Rs η args vs →
    Calls P f vs.toArray w (fun e w' => ∃ v, e = .returned v ∧ R [] s v ∧ Below w.heap.size w w')) : Con P :=
  ⟨fun f' args hp => if f' = f then g args hp else none, fun f' args hp s c h => by
    split at h
    · rename_i e; subst e; exact ok args hp s c h
    · simp at h⟩
/-- One function's. -/
def Con.one {P : Program} (f : FuncId) (g : List SV → Option (SV × Cnd)) (ok : ∀ args s c, g args = some (s, c) → c.Is → ∀ (w : World) (vs : List Value), Rs [] args vs →
    Calls P f vs.toArray w (fun e w' => ∃ v, e = .returned v ∧ R [] s v ∧ Below w.heap.size w w')) : Con P :=
  ⟨fun f' args _ => if f' = f then (if frees args then g args else none) else none, fun f' args hp s c h hc B η w vs _ hv => by
    split at h
    · rename_i e; subst e
      split at h
      · rename_i hfr
        exact ok args s c h hc w vs (Rs.free _ _ hfr hv)
      · simp at h
    · simp at h⟩
def Con.or {P : Program} (A B : Con P) : Con P :=
  ⟨fun f args hp => match A.g f args hp with | some r => some r | none => B.g f args hp, fun f args hp s c h => by
    split at h
    · rename_i r hr
      simp only [Option.some.injEq] at h; subst h
      exact A.ok f args hp s c hr
    · exact B.ok f args hp s c h⟩
def Con.nil {P : Program} : Con P := ⟨fun _ _ _ => none, fun _ _ _ _ _ h => by simp at h⟩
/-- A table of told calls. -/
def Con.told {P : Program} (T : List (Told P)) : Con P :=
  ⟨fun f args _ => if frees args then (match lookTold T f args with | some s => some (s, .tt) | none => none) else none, fun f args hp s c h _ B η w vs _ hv => by
    split at h
    · rename_i hfr
      split at h
      · rename_i s' hl
        simp only [Option.some.injEq, Prod.mk.injEq] at h
        obtain ⟨rfl, rfl⟩ := h
        obtain ⟨t, _, rfl, rfl, rfl⟩ := lookTold_ok hl
        exact t.ok w vs (Rs.free _ _ hfr hv)
      · simp at h
    · simp at h⟩

/-- With contracts. -/
noncomputable def conned {P : Program} (C : Con P) : Cx :=
  ⟨P, fun f args hp => match C.g f args hp with
    | some (s, c) => if s.free then some (s, none, c) else none
    | none => none, fun _ _ _ _ => none⟩
theorem conned_lp {P : Program} (C : Con P) : LpOk (conned C) := fun _ _ _ _ _ _ _ h => by simp [conned] at h
theorem conned_ct {P : Program} (C : Con P) : CtOk (conned C) := by
  intro f args hp s ho c h hc B η w vs hr hB hargs
  simp only [conned] at h
  split at h
  · rename_i s' c' hl
    split at h
    · rename_i hsf
      simp only [Option.some.injEq, Prod.mk.injEq] at h
      obtain ⟨rfl, rfl, rfl⟩ := h
      refine (C.ok f args hp _ _ hl hc B η w vs hr hargs).mono fun e w' hq => ?_
      obtain ⟨v, rfl, hR, hb⟩ := hq
      exact ⟨v, [], rfl, R.free _ _ hsf hR, by simpa using hr.below hb, hb.mono hB⟩
    · simp at h
  · simp at h

/-- **A call of a function, reckoned through on an empty heap: what it gives.** -/
theorem con_of {P : Program} (C : Con P) (n : Nat) {f : FuncId} {args : List SV} (ans : List Bool) {s : SV} {ho : Option (List SO)} {c : Cnd}
    (h : callR (conned C) (run (conned C) n) f args [] ans = .ok (s, ho) [] c) (hc : c.Is) (hs : s.free = true) {w : World} {vs : List Value} (hargs : Rs [] args vs) :
    Calls P f vs.toArray w (fun e w' => ∃ v, e = .returned v ∧ R [] s v ∧ Below w.heap.size w w') := by
  refine (callR_ok (conned_ct C) (run_ok (conned_ct C) (conned_lp C) n) f args [] ans _ _ _ _ h hc w.heap.size [] w vs (HR.none w) (Nat.le_refl _) hargs).2.mono fun e w' hq => ?_
  obtain ⟨v, μ, rfl, hR, _, hb⟩ := hq
  exact ⟨v, rfl, R.free _ _ hs hR, hb⟩

/-- The result, the answers used up, what is left to show; and what is owed of sameness. -/
def outc (r : Rr (SV × Option (List SO))) (s : SV) (L : List Prop) : Option (SV × List Prop × List SV) × Option (SV × List Prop × List SV) :=
  match r with
  | .ok (s', _) [] c => (some (s', c.props [], c.lefts []), some (s, L, c.rights []))
  | _ => (none, some (s, L, []))
def gives (r : Rr (SV × Option (List SO))) (s : SV) (L : List Prop) : Prop := (outc r s L).1 = (outc r s L).2
theorem con_gives {P : Program} (C : Con P) (n : Nat) {f : FuncId} {args : List SV} (ans : List Bool) {s : SV} {L : List Prop}
    (h : gives (callR (conned C) (run (conned C) n) f args [] ans) s L) (hc : AllP L) (hs : s.free = true) {w : World} {vs : List Value} (hargs : Rs [] args vs) :
    Calls P f vs.toArray w (fun e w' => ∃ v, e = .returned v ∧ R [] s v ∧ Below w.heap.size w w') := by
  unfold gives at h
  generalize hr : callR (conned C) (run (conned C) n) f args [] ans = r at h
  unfold outc at h
  split at h
  · rename_i s' ho c'
    simp only [Option.some.injEq, Prod.mk.injEq] at h
    obtain ⟨rfl, rfl, h3⟩ := h
    exact con_of C n ans hr (Cnd.is_of c' [] [] [] hc h3 rfl).1 hs hargs
  · simp at h
end Go.Ex
namespace Go.Ex
open Go.RowKit (Below)

/-- Behind a call that leaves all below alone the arguments read as they did. -/
theorem trodAll_below {H : Type} {enc : TypeId × Value → H} {P : Program} (hl : laidOutB P = true) {W W' : World} (hb : Below W.heap.size W W') :
    ∀ {ts : List TypeId} {vs : List Value} {ds : List (DataW H)} {ps : List MemPlace}, (ts.all fun t => P.readableRec t && decide (t < P.types.size)) = true →
    DataW.TrodAll enc P W 0 (fun _ => true) true ts vs ds ps → DataW.TrodAll enc P W' 0 (fun b => decide (b < W.heap.size)) true ts vs ds ps
  | [], [], [], _, _, h => h
  | [], [], _ :: _, _, _, h => h.elim
  | [], _ :: _, _, _, _, h => h.elim
  | _ :: _, [], _, _, _, h => h.elim
  | _ :: _, _ :: _, [], _, _, h => h.elim
  | t :: ts, v :: vs, d :: ds, ps, ht, h => by
    obtain ⟨p, q, h1, h2, rfl⟩ := h
    simp only [List.all_cons, Bool.and_eq_true, decide_eq_true_eq] at ht
    have lt : ∀ x ∈ p, x.block < W.heap.size := by
      obtain ⟨m, hm⟩ := h1
      exact DataW.trod_lt m _ _ _ hm
    exact ⟨p, q, Below.trod hl ht.1.1 ht.1.2 h1 hb lt, trodAll_below hl hb ht.2 h2, rfl⟩

/-- Cells, one behind the other. -/
def CellsAre (P : Program) (W : World) (base : Nat) : List TypeId → List Value → Prop
  | [], cs => cs = []
  | u :: us, cs => ∃ x r, cs = x :: r ∧ Cell.okWide P W .any base u x ∧ CellsAre P W base us r
theorem CellsAre.of {P : Program} {W : World} {base : Nat} : ∀ (ts : List TypeId) (cs : List Value), cs.length = ts.length →
    (∀ (i : Nat) (u : TypeId) (v : Value), ts[i]? = some u → cs[i]? = some v → Cell.okWide P W .any base u v) → CellsAre P W base ts cs
  | [], cs, hl, _ => by simpa [CellsAre] using hl
  | u :: us, [], hl, _ => by simp at hl
  | u :: us, x :: r, hl, h => ⟨x, r, rfl, h 0 u x rfl rfl, CellsAre.of us r (by simpa using hl) fun i u' v h1 h2 => h (i + 1) u' v (by simpa using h1) (by simpa using h2)⟩

theorem cells_of {P : Program} {W : World} {base : Nat} {t : TypeId} {ts : List TypeId} {v : Value} (hts : P.cellTypes P.depth t = some ts) (hn : P.cellsOf t = ts.length) (ha : tagg P t = some true)
    (h : Value.okWide P W .any base t v) : ∃ cs : Array Value, v = .agg cs ∧ CellsAre P W base ts cs.toList := by
  have key : ∃ cs, v = .agg cs ∧ cs.size = P.cellsOf t ∧ Row.okWide P W .any base t cs := by
    unfold Value.okWide at h
    unfold tagg at ha
    split at h
    · exact h
    · exact h
    · rename_i n1 n2
      cases hu : P.underlying t with
      | none => simp [hu] at ha
      | some d => cases d <;> simp_all
  obtain ⟨cs, rfl, hs, ts', hts', _, hrow⟩ := key
  rw [hts] at hts'
  obtain rfl := Option.some.inj hts'
  refine ⟨cs, rfl, CellsAre.of ts cs.toList (by simp [hs, hn]) fun i u x hu hx => ?_⟩
  obtain ⟨u', hu', hc⟩ := hrow i x (by simpa using hx)
  have hlt : i < ts.length := (List.getElem?_eq_some_iff.1 hu).1
  rw [Nat.mod_eq_of_lt hlt, hu] at hu'
  obtain rfl := Option.some.inj hu'
  exact hc

theorem cell_int {P : Program} {W : World} {base : Nat} {u : TypeId} {k : IntKind} {x : Value} (hu : P.underlying u = some (.int k)) (h : Cell.okWide P W .any base u x) : ∃ z, x = .int k z ∧ k.has z := by
  simp only [Cell.okWide, hu] at h
  cases x <;> simp_all [Cell.ok]
theorem cell_bool {P : Program} {W : World} {base : Nat} {u : TypeId} {x : Value} (hu : P.underlying u = some .bool) (h : Cell.okWide P W .any base u x) : ∃ b, x = .bool b := by
  simp only [Cell.okWide, hu] at h
  cases x <;> simp_all [Cell.ok]
theorem cell_string {P : Program} {W : World} {base : Nat} {u : TypeId} {x : Value} (hu : P.underlying u = some .string) (h : Cell.okWide P W .any base u x) : ∃ s, x = .string s ∧ (s.size : Int) ≤ IntKind.i64.max := by
  simp only [Cell.okWide, hu] at h
  cases x <;> simp_all [Cell.ok]
/-- An argument of one cell. -/
theorem val_cell {P : Program} {W : World} {base : Nat} {t : TypeId} {v : Value} (ha : tagg P t = some false) (h : Value.okWide P W .any base t v) : Cell.okWide P W .any base t v := by
  unfold Value.okWide at h
  unfold tagg at ha
  split at h
  · rename_i fs hu; simp [hu] at ha
  · rename_i n e hu; simp [hu] at ha
  · exact h
end Go.Ex
namespace Go.Ex

/-! ### plain facts on numbers and bytes -/
theorem wu8 (x : Int) : IntKind.u8.wrap x = x % 256 := by
  simp [IntKind.wrap, IntKind.bits, IntKind.signed]
theorem wu16 (x : Int) : IntKind.u16.wrap x = x % 65536 := by
  simp [IntKind.wrap, IntKind.bits, IntKind.signed]
theorem wu32 (x : Int) : IntKind.u32.wrap x = x % 4294967296 := by
  simp [IntKind.wrap, IntKind.bits, IntKind.signed]
theorem wu64 (x : Int) : IntKind.u64.wrap x = x % 18446744073709551616 := by
  simp [IntKind.wrap, IntKind.bits, IntKind.signed]
theorem wi64 (x : Int) : IntKind.i64.wrap x = (x + 9223372036854775808) % 18446744073709551616 - 9223372036854775808 := by
  simp only [IntKind.wrap, IntKind.bits, IntKind.signed, Bool.true_and]
  simp only [Nat.add_one_sub_one, Int.reducePow]
  split
  · rename_i h
    have h := of_decide_eq_true h
    omega
  · rename_i h
    have h : ¬ (x % 18446744073709551616 ≥ 9223372036854775808) := fun e => h (decide_eq_true e)
    omega
theorem fd (x b : Int) (hb : 0 ≤ b) : x.fdiv b = x / b := Int.fdiv_eq_ediv_of_nonneg x hb
theorem td (x b : Int) (hx : 0 ≤ x) : x.tdiv b = x / b := Int.tdiv_eq_ediv_of_nonneg hx
theorem tm (x b : Int) (hx : 0 ≤ x) : x.tmod b = x % b := Int.tmod_eq_emod_of_nonneg hx

theorem ba_beq (a b : ByteArray) : (a == b) = decide (a = b) := by
  have e : (a == b) = (a.data == b.data) := by cases a; cases b; rfl
  rw [e]
  by_cases h : a = b
  · subst h; simp
  · have : a.data ≠ b.data := fun e => h (ByteArray.ext e)
    rw [beq_eq_false_iff_ne.2 this]; simp [h]
theorem ba_toList_beq (a b : ByteArray) : (a.toList == b.toList) = decide (a = b) := by
  rw [ByteArray.toList_eq, ByteArray.toList_eq]
  by_cases h : a = b
  · subst h; simp
  · have : a.data.toList ≠ b.data.toList := fun e => h (ByteArray.ext (Array.toList_inj.1 e))
    rw [beq_eq_false_iff_ne.2 this]; simp [h]
theorem ba_none (a : ByteArray) : a = ByteArray.mk #[] ↔ a.size = 0 := by
  refine ⟨fun h => by rw [h]; rfl, fun h => ?_⟩
  apply ByteArray.ext
  apply Array.eq_empty_of_size_eq_zero
  exact h
theorem byteAt_eq (s : ByteArray) (i : Nat) (h : i < s.size) : byteAt s (i : Int) = ((bAt s i).toNat : Int) := by
  have h' : i < s.data.size := h
  simp only [byteAt, bAt, Int.toNat_natCast, h, dif_pos, Array.getElem?_eq_getElem h', Option.getD_some]
  rfl
theorem byte_lt (b : UInt8) : b.toNat < 256 := b.toNat_lt
/-- one byte more, by shift and or -/
theorem orB (x b : Nat) (hx : x < 72057594037927936) (hb : b < 256) : (BitVec.ofInt 64 ((x : Int) * 256) ||| BitVec.ofInt 64 (b : Int)).toNat = x * 256 + b := by
  have e1 : BitVec.ofInt 64 ((x : Int) * 256) = BitVec.ofNat 64 (x * 256) := by
    rw [show ((x : Int) * 256) = ((x * 256 : Nat) : Int) by omega, BitVec.ofInt_natCast]
  rw [e1, BitVec.ofInt_natCast, BitVec.toNat_or, BitVec.toNat_ofNat, BitVec.toNat_ofNat, Nat.mod_eq_of_lt (by omega), Nat.mod_eq_of_lt (by omega)]
  have := Nat.shiftLeft_add_eq_or_of_lt (i := 8) (b := b) (by simpa using hb) x
  rw [Nat.shiftLeft_eq] at this
  rw [← this]
theorem orI (x b : Int) (hx0 : 0 ≤ x) (hx : x < 72057594037927936) (hb0 : 0 ≤ b) (hb : b < 256) : ((BitVec.ofInt 64 (x * 256) ||| BitVec.ofInt 64 b).toNat : Int) = x * 256 + b := by
  obtain ⟨y, rfl⟩ := Int.eq_ofNat_of_zero_le hx0
  obtain ⟨c, rfl⟩ := Int.eq_ofNat_of_zero_le hb0
  have := orB y c (by omega) (by omega)
  omega
theorem or0 (b : Int) (hb0 : 0 ≤ b) (hb : b < 256) : ((BitVec.ofInt 64 0 ||| BitVec.ofInt 64 b).toNat : Int) = b := by
  have := orI 0 b (by omega) (by omega) hb0 hb
  simpa using this
/-- A byte of a number. -/
def u8 (x : Int) : UInt8 := UInt8.ofNat x.toNat
theorem u8_of {x y : Int} (h : x = y) : UInt8.ofNat x.toNat = u8 y := by rw [h, u8]
theorem u8_toNat (x : Int) (h0 : 0 ≤ x) (h : x < 256) : ((u8 x).toNat : Int) = x := by
  obtain ⟨y, rfl⟩ := Int.eq_ofNat_of_zero_le h0
  simp only [u8, Int.toNat_natCast] at *
  simp
  omega
/-- numbers, of bytes -/
theorem wub (a : UInt8) : IntKind.u64.wrap (a.toNat : Int) = a.toNat := by
  have := a.toNat_lt
  rw [wu64]; omega
theorem firstOr (b : UInt8) : ((BitVec.ofInt 64 (0 : Int) ||| BitVec.ofInt 64 (IntKind.u64.wrap (b.toNat : Int))).toNat : Int) = b.toNat := by
  have := b.toNat_lt
  rw [wub, or0 _ (by omega) (by omega)]
theorem stepOr (x : Int) (b : UInt8) (h0 : 0 ≤ x) (h : x < 72057594037927936) :
    ((BitVec.ofInt 64 (IntKind.u64.wrap (IntKind.u64.wrap x * 256)) ||| BitVec.ofInt 64 (IntKind.u64.wrap (b.toNat : Int))).toNat : Int) = x * 256 + b.toNat := by
  have := b.toNat_lt
  rw [wub, wu64 x, Int.emod_eq_of_lt h0 (by omega), wu64, Int.emod_eq_of_lt (by omega) (by omega), orI x _ h0 h (by omega) (by omega)]
def n2 (a b : UInt8) : Int := (a.toNat : Int) * 256 + b.toNat
def n4 (a b c d : UInt8) : Int := (((a.toNat : Int) * 256 + b.toNat) * 256 + c.toNat) * 256 + d.toNat
def n8 (a b c d e f g h : UInt8) : Int := (((((((a.toNat : Int) * 256 + b.toNat) * 256 + c.toNat) * 256 + d.toNat) * 256 + e.toNat) * 256 + f.toNat) * 256 + g.toNat) * 256 + h.toNat
theorem n4_range (a b c d : UInt8) : 0 ≤ n4 a b c d ∧ n4 a b c d < 4294967296 := by
  have := a.toNat_lt; have := b.toNat_lt; have := c.toNat_lt; have := d.toNat_lt
  unfold n4; omega
theorem n2_range (a b : UInt8) : 0 ≤ n2 a b ∧ n2 a b < 65536 := by
  have := a.toNat_lt; have := b.toNat_lt
  unfold n2; omega
theorem or2 (a b : UInt8) : ((BitVec.ofInt 64 (IntKind.u64.wrap (IntKind.u64.wrap ((BitVec.ofInt 64 (0 : Int) ||| BitVec.ofInt 64 (IntKind.u64.wrap (a.toNat : Int))).toNat : Int) * 256)) ||| BitVec.ofInt 64 (IntKind.u64.wrap (b.toNat : Int))).toNat : Int) = n2 a b := by
  have := a.toNat_lt
  rw [firstOr, stepOr _ b (by omega) (by omega), n2]
theorem or4 (a b c d : UInt8) : ((BitVec.ofInt 64 (IntKind.u64.wrap (IntKind.u64.wrap ((BitVec.ofInt 64 (IntKind.u64.wrap (IntKind.u64.wrap ((BitVec.ofInt 64 (IntKind.u64.wrap (IntKind.u64.wrap ((BitVec.ofInt 64 (0 : Int) ||| BitVec.ofInt 64 (IntKind.u64.wrap (a.toNat : Int))).toNat : Int) * 256)) ||| BitVec.ofInt 64 (IntKind.u64.wrap (b.toNat : Int))).toNat : Int) * 256)) ||| BitVec.ofInt 64 (IntKind.u64.wrap (c.toNat : Int))).toNat : Int) * 256)) ||| BitVec.ofInt 64 (IntKind.u64.wrap (d.toNat : Int))).toNat : Int) = n4 a b c d := by
  have := a.toNat_lt; have := b.toNat_lt; have := c.toNat_lt
  rw [firstOr, stepOr _ b (by omega) (by omega), stepOr _ c (by omega) (by omega), stepOr _ d (by omega) (by omega), n4]
theorem or8 (a b c d e f g h : UInt8) : ((BitVec.ofInt 64 (IntKind.u64.wrap (IntKind.u64.wrap ((BitVec.ofInt 64 (IntKind.u64.wrap (IntKind.u64.wrap ((BitVec.ofInt 64 (IntKind.u64.wrap (IntKind.u64.wrap ((BitVec.ofInt 64 (IntKind.u64.wrap (IntKind.u64.wrap ((BitVec.ofInt 64 (IntKind.u64.wrap (IntKind.u64.wrap ((BitVec.ofInt 64 (IntKind.u64.wrap (IntKind.u64.wrap ((BitVec.ofInt 64 (IntKind.u64.wrap (IntKind.u64.wrap ((BitVec.ofInt 64 (0 : Int) ||| BitVec.ofInt 64 (IntKind.u64.wrap (a.toNat : Int))).toNat : Int) * 256)) ||| BitVec.ofInt 64 (IntKind.u64.wrap (b.toNat : Int))).toNat : Int) * 256)) ||| BitVec.ofInt 64 (IntKind.u64.wrap (c.toNat : Int))).toNat : Int) * 256)) ||| BitVec.ofInt 64 (IntKind.u64.wrap (d.toNat : Int))).toNat : Int) * 256)) ||| BitVec.ofInt 64 (IntKind.u64.wrap (e.toNat : Int))).toNat : Int) * 256)) ||| BitVec.ofInt 64 (IntKind.u64.wrap (f.toNat : Int))).toNat : Int) * 256)) ||| BitVec.ofInt 64 (IntKind.u64.wrap (g.toNat : Int))).toNat : Int) * 256)) ||| BitVec.ofInt 64 (IntKind.u64.wrap (h.toNat : Int))).toNat : Int) = n8 a b c d e f g h := by
  have := a.toNat_lt; have := b.toNat_lt; have := c.toNat_lt; have := d.toNat_lt; have := e.toNat_lt; have := f.toNat_lt; have := g.toNat_lt
  rw [firstOr, stepOr _ b (by omega) (by omega), stepOr _ c (by omega) (by omega), stepOr _ d (by omega) (by omega), stepOr _ e (by omega) (by omega), stepOr _ f (by omega) (by omega), stepOr _ g (by omega) (by omega), stepOr _ h (by omega) (by omega), n8]
theorem and1 (a : UInt8) : ((BitVec.ofInt 8 (a.toNat : Int) &&& BitVec.ofInt 8 1).toNat : Int) = (a.toNat : Int) % 2 := by
  have := a.toNat_lt
  rw [BitVec.ofInt_natCast, BitVec.toNat_and, BitVec.toNat_ofNat, Nat.mod_eq_of_lt (by omega)]
  show ((a.toNat &&& 1 : Nat) : Int) = _
  rw [Nat.and_one_is_mod]
  omega
theorem w8b (a : UInt8) : IntKind.u8.wrap (a.toNat : Int) = a.toNat := by
  have := a.toNat_lt
  rw [wu8]; omega
theorem fd256 (x : Int) : x.fdiv 256 = x / 256 := fd x 256 (by decide)
theorem fd16 (x : Int) : x.fdiv 16 = x / 16 := fd x 16 (by decide)
theorem tdB (a : UInt8) (k : Int) : (a.toNat : Int).tdiv k = (a.toNat : Int) / k := td _ k (by omega)
theorem tmB (a : UInt8) (k : Int) : (a.toNat : Int).tmod k = (a.toNat : Int) % k := tm _ k (by omega)
theorem wib (a : UInt8) : IntKind.i64.wrap (a.toNat : Int) = a.toNat := by
  have := a.toNat_lt
  rw [wi64]; omega
theorem w64n4 (a b c d : UInt8) : IntKind.u64.wrap (n4 a b c d) = n4 a b c d := by
  have := n4_range a b c d
  rw [wu64]; omega
theorem w32n4 (a b c d : UInt8) : IntKind.u32.wrap (n4 a b c d) = n4 a b c d := by
  have := n4_range a b c d
  rw [wu32]; omega
theorem w64n2 (a b : UInt8) : IntKind.u64.wrap (n2 a b) = n2 a b := by
  have := n2_range a b
  rw [wu64]; omega
theorem w16n2 (a b : UInt8) : IntKind.u16.wrap (n2 a b) = n2 a b := by
  have := n2_range a b
  rw [wu16]; omega
theorem n8_range (a b c d e f g h : UInt8) : 0 ≤ n8 a b c d e f g h ∧ n8 a b c d e f g h < 18446744073709551616 := by
  have := a.toNat_lt; have := b.toNat_lt; have := c.toNat_lt; have := d.toNat_lt; have := e.toNat_lt; have := f.toNat_lt; have := g.toNat_lt; have := h.toNat_lt
  unfold n8; omega
theorem w64n8 (a b c d e f g h : UInt8) : IntKind.u64.wrap (n8 a b c d e f g h) = n8 a b c d e f g h := by
  have := n8_range a b c d e f g h
  rw [wu64]; omega
theorem ref1 (a : UInt8) : IntKind.u64.wrap ((0 : Int) + IntKind.u64.wrap (a.toNat : Int)) = a.toNat := by
  have := a.toNat_lt
  simp only [wub, Int.zero_add]
theorem refStep (x : Int) (b : UInt8) (h0 : 0 ≤ x) (h : x < 72057594037927936) : IntKind.u64.wrap (IntKind.u64.wrap (x * 256) + IntKind.u64.wrap (b.toNat : Int)) = x * 256 + b.toNat := by
  have := b.toNat_lt
  rw [wub, wu64 (x * 256), Int.emod_eq_of_lt (by omega) (by omega), wu64]; omega
theorem ref2 (a b : UInt8) : IntKind.u64.wrap (IntKind.u64.wrap (IntKind.u64.wrap ((0 : Int) + IntKind.u64.wrap (a.toNat : Int)) * 256) + IntKind.u64.wrap (b.toNat : Int)) = n2 a b := by
  have := a.toNat_lt
  rw [ref1, refStep _ b (by omega) (by omega), n2]
theorem ref4 (a b c d : UInt8) : IntKind.u64.wrap (IntKind.u64.wrap (IntKind.u64.wrap (IntKind.u64.wrap (IntKind.u64.wrap (IntKind.u64.wrap (IntKind.u64.wrap ((0 : Int) + IntKind.u64.wrap (a.toNat : Int)) * 256) + IntKind.u64.wrap (b.toNat : Int)) * 256) + IntKind.u64.wrap (c.toNat : Int)) * 256) + IntKind.u64.wrap (d.toNat : Int)) = n4 a b c d := by
  have := a.toNat_lt; have := b.toNat_lt; have := c.toNat_lt
  rw [ref1, refStep _ b (by omega) (by omega), refStep _ c (by omega) (by omega), refStep _ d (by omega) (by omega), n4]
/-- A text of so many bytes, spelled. -/
theorem spelled (s : ByteArray) {n : Nat} (h : s.size = n) : s = ⟨(cutL s 0 n).toArray⟩ := by
  have := cutL_eq (s := s) (i := 0) (j := n) (Nat.zero_le _) (by omega)
  rw [Nat.sub_zero] at this
  rw [this, ← h, ByteArray.extract_zero_size]
theorem size_mk (l : List UInt8) : (ByteArray.mk l.toArray).size = l.length := by simp [ByteArray.size]

/-- The byte of a number that counts so much. -/
def byK (k n : Int) : UInt8 := u8 (n / k % 256)
theorem byK_of {x k n : Int} (h : x = n / k % 256) : UInt8.ofNat x.toNat = byK k n := u8_of h
theorem u64_in {n : Int} (h0 : 0 ≤ n) (h : n < 18446744073709551616) : IntKind.u64.wrap n = n := by rw [wu64]; omega
theorem tdw {n : Int} (h0 : 0 ≤ n) (h : n < 18446744073709551616) : IntKind.u64.wrap (n.tdiv 256) = n / 256 := by rw [td _ _ h0, wu64]; omega
theorem pe0 {n : Int} (h0 : 0 ≤ n) (h : n < 18446744073709551616) : UInt8.ofNat (IntKind.u8.wrap (IntKind.u64.wrap n)).toNat = byK 1 n := by
  apply byK_of; rw [u64_in h0 h, wu8, Int.ediv_one]
theorem pr0 {n : Int} (h0 : 0 ≤ n) (h : n < 18446744073709551616) : UInt8.ofNat (IntKind.u8.wrap ((IntKind.u64.wrap n).tmod 256)).toNat = byK 1 n := by
  apply byK_of; rw [u64_in h0 h]; rw [tm _ _ (by omega), wu8] <;> omega
theorem pe1 {n : Int} (h0 : 0 ≤ n) (h : n < 18446744073709551616) : UInt8.ofNat (IntKind.u8.wrap ((IntKind.u64.wrap n).fdiv 256)).toNat = byK 256 n := by
  apply byK_of; rw [u64_in h0 h, wu8]; simp only [fd256] <;> omega
theorem pr1 {n : Int} (h0 : 0 ≤ n) (h : n < 18446744073709551616) : UInt8.ofNat (IntKind.u8.wrap ((IntKind.u64.wrap ((IntKind.u64.wrap n).tdiv 256)).tmod 256)).toNat = byK 256 n := by
  apply byK_of; rw [u64_in h0 h]; rw [tdw (n := n) (by omega) (by omega)]; rw [tm _ _ (by omega), wu8] <;> omega
theorem pe2 {n : Int} (h0 : 0 ≤ n) (h : n < 18446744073709551616) : UInt8.ofNat (IntKind.u8.wrap (((IntKind.u64.wrap n).fdiv 256).fdiv 256)).toNat = byK 65536 n := by
  apply byK_of; rw [u64_in h0 h, wu8]; simp only [fd256] <;> omega
theorem pr2 {n : Int} (h0 : 0 ≤ n) (h : n < 18446744073709551616) : UInt8.ofNat (IntKind.u8.wrap ((IntKind.u64.wrap ((IntKind.u64.wrap ((IntKind.u64.wrap n).tdiv 256)).tdiv 256)).tmod 256)).toNat = byK 65536 n := by
  apply byK_of; rw [u64_in h0 h]; rw [tdw (n := n) (by omega) (by omega)]; rw [tdw (n := n / 256) (by omega) (by omega)]; rw [tm _ _ (by omega), wu8] <;> omega
theorem pe3 {n : Int} (h0 : 0 ≤ n) (h : n < 18446744073709551616) : UInt8.ofNat (IntKind.u8.wrap ((((IntKind.u64.wrap n).fdiv 256).fdiv 256).fdiv 256)).toNat = byK 16777216 n := by
  apply byK_of; rw [u64_in h0 h, wu8]; simp only [fd256] <;> omega
theorem pr3 {n : Int} (h0 : 0 ≤ n) (h : n < 18446744073709551616) : UInt8.ofNat (IntKind.u8.wrap ((IntKind.u64.wrap ((IntKind.u64.wrap ((IntKind.u64.wrap ((IntKind.u64.wrap n).tdiv 256)).tdiv 256)).tdiv 256)).tmod 256)).toNat = byK 16777216 n := by
  apply byK_of; rw [u64_in h0 h]; rw [tdw (n := n) (by omega) (by omega)]; rw [tdw (n := n / 256) (by omega) (by omega)]; rw [tdw (n := n / 256 / 256) (by omega) (by omega)]; rw [tm _ _ (by omega), wu8] <;> omega
theorem pe4 {n : Int} (h0 : 0 ≤ n) (h : n < 18446744073709551616) : UInt8.ofNat (IntKind.u8.wrap (((((IntKind.u64.wrap n).fdiv 256).fdiv 256).fdiv 256).fdiv 256)).toNat = byK 4294967296 n := by
  apply byK_of; rw [u64_in h0 h, wu8]; simp only [fd256] <;> omega
theorem pr4 {n : Int} (h0 : 0 ≤ n) (h : n < 18446744073709551616) : UInt8.ofNat (IntKind.u8.wrap ((IntKind.u64.wrap ((IntKind.u64.wrap ((IntKind.u64.wrap ((IntKind.u64.wrap ((IntKind.u64.wrap n).tdiv 256)).tdiv 256)).tdiv 256)).tdiv 256)).tmod 256)).toNat = byK 4294967296 n := by
  apply byK_of; rw [u64_in h0 h]; rw [tdw (n := n) (by omega) (by omega)]; rw [tdw (n := n / 256) (by omega) (by omega)]; rw [tdw (n := n / 256 / 256) (by omega) (by omega)]; rw [tdw (n := n / 256 / 256 / 256) (by omega) (by omega)]; rw [tm _ _ (by omega), wu8] <;> omega
theorem pe5 {n : Int} (h0 : 0 ≤ n) (h : n < 18446744073709551616) : UInt8.ofNat (IntKind.u8.wrap ((((((IntKind.u64.wrap n).fdiv 256).fdiv 256).fdiv 256).fdiv 256).fdiv 256)).toNat = byK 1099511627776 n := by
  apply byK_of; rw [u64_in h0 h, wu8]; simp only [fd256] <;> omega
theorem pr5 {n : Int} (h0 : 0 ≤ n) (h : n < 18446744073709551616) : UInt8.ofNat (IntKind.u8.wrap ((IntKind.u64.wrap ((IntKind.u64.wrap ((IntKind.u64.wrap ((IntKind.u64.wrap ((IntKind.u64.wrap ((IntKind.u64.wrap n).tdiv 256)).tdiv 256)).tdiv 256)).tdiv 256)).tdiv 256)).tmod 256)).toNat = byK 1099511627776 n := by
  apply byK_of; rw [u64_in h0 h]; rw [tdw (n := n) (by omega) (by omega)]; rw [tdw (n := n / 256) (by omega) (by omega)]; rw [tdw (n := n / 256 / 256) (by omega) (by omega)]; rw [tdw (n := n / 256 / 256 / 256) (by omega) (by omega)]; rw [tdw (n := n / 256 / 256 / 256 / 256) (by omega) (by omega)]; rw [tm _ _ (by omega), wu8] <;> omega
theorem pe6 {n : Int} (h0 : 0 ≤ n) (h : n < 18446744073709551616) : UInt8.ofNat (IntKind.u8.wrap (((((((IntKind.u64.wrap n).fdiv 256).fdiv 256).fdiv 256).fdiv 256).fdiv 256).fdiv 256)).toNat = byK 281474976710656 n := by
  apply byK_of; rw [u64_in h0 h, wu8]; simp only [fd256] <;> omega
theorem pr6 {n : Int} (h0 : 0 ≤ n) (h : n < 18446744073709551616) : UInt8.ofNat (IntKind.u8.wrap ((IntKind.u64.wrap ((IntKind.u64.wrap ((IntKind.u64.wrap ((IntKind.u64.wrap ((IntKind.u64.wrap ((IntKind.u64.wrap ((IntKind.u64.wrap n).tdiv 256)).tdiv 256)).tdiv 256)).tdiv 256)).tdiv 256)).tdiv 256)).tmod 256)).toNat = byK 281474976710656 n := by
  apply byK_of; rw [u64_in h0 h]; rw [tdw (n := n) (by omega) (by omega)]; rw [tdw (n := n / 256) (by omega) (by omega)]; rw [tdw (n := n / 256 / 256) (by omega) (by omega)]; rw [tdw (n := n / 256 / 256 / 256) (by omega) (by omega)]; rw [tdw (n := n / 256 / 256 / 256 / 256) (by omega) (by omega)]; rw [tdw (n := n / 256 / 256 / 256 / 256 / 256) (by omega) (by omega)]; rw [tm _ _ (by omega), wu8] <;> omega
theorem pe7 {n : Int} (h0 : 0 ≤ n) (h : n < 18446744073709551616) : UInt8.ofNat (IntKind.u8.wrap ((((((((IntKind.u64.wrap n).fdiv 256).fdiv 256).fdiv 256).fdiv 256).fdiv 256).fdiv 256).fdiv 256)).toNat = byK 72057594037927936 n := by
  apply byK_of; rw [u64_in h0 h, wu8]; simp only [fd256] <;> omega
theorem pr7 {n : Int} (h0 : 0 ≤ n) (h : n < 18446744073709551616) : UInt8.ofNat (IntKind.u8.wrap ((IntKind.u64.wrap ((IntKind.u64.wrap ((IntKind.u64.wrap ((IntKind.u64.wrap ((IntKind.u64.wrap ((IntKind.u64.wrap ((IntKind.u64.wrap ((IntKind.u64.wrap n).tdiv 256)).tdiv 256)).tdiv 256)).tdiv 256)).tdiv 256)).tdiv 256)).tdiv 256)).tmod 256)).toNat = byK 72057594037927936 n := by
  apply byK_of; rw [u64_in h0 h]; rw [tdw (n := n) (by omega) (by omega)]; rw [tdw (n := n / 256) (by omega) (by omega)]; rw [tdw (n := n / 256 / 256) (by omega) (by omega)]; rw [tdw (n := n / 256 / 256 / 256) (by omega) (by omega)]; rw [tdw (n := n / 256 / 256 / 256 / 256) (by omega) (by omega)]; rw [tdw (n := n / 256 / 256 / 256 / 256 / 256) (by omega) (by omega)]; rw [tdw (n := n / 256 / 256 / 256 / 256 / 256 / 256) (by omega) (by omega)]; rw [tm _ _ (by omega), wu8] <;> omega
theorem pid {n : Int} : UInt8.ofNat (IntKind.u8.wrap (IntKind.u64.wrap (IntKind.u8.wrap n))).toNat = byK 1 n := by
  apply byK_of; rw [wu8 n, wu64, wu8]; omega
theorem byK_toNat (k n : Int) : ((byK k n).toNat : Int) = n / k % 256 := u8_toNat _ (by have := Int.emod_nonneg (n / k) (show (256 : Int) ≠ 0 by decide); omega) (by have := Int.emod_lt_of_pos (n / k) (show (0 : Int) < 256 by decide); omega)

/-! ### what is told, as a value -/
mutual
def SV.toV : SV → Value
  | .val v => v
  | .num k z => .int k z
  | .bol b => .bool b
  | .bts _ l => .string ⟨l.toArray⟩
  | .agg l => .agg (toVs l).toArray
  | .tup l => .tuple (toVs l).toArray
  | .ifc t x => .iface t x.toV
  | _ => undef
def toVs : List SV → List Value
  | [] => []
  | s :: l => s.toV :: toVs l
end
mutual
def SV.pln : SV → Bool
  | .val _ | .num .. | .bol _ | .bts .. => true
  | .agg l | .tup l => plns l
  | .ifc _ x => x.pln
  | _ => false
def plns : List SV → Bool
  | [] => true
  | s :: l => s.pln && plns l
end
mutual
theorem R.toV {η : Env} : ∀ (s : SV) (v : Value), s.pln = true → R η s v → v = s.toV
  | .val _, _, _, h | .num _ _, _, _, h | .bol _, _, _, h | .bts _ _, _, _, h => by simp only [R] at h; simp only [SV.toV]; exact h
  | .ptr .., _, hf, _ | .slc .., _, hf, _ | .sle .., _, hf, _ | .pto .., _, hf, _ | .slo .., _, hf, _ | .hdl _, _, hf, _ | .fnc .., _, hf, _ => by simp [SV.pln] at hf
  | .agg l, v, hf, h => by
    simp only [SV.pln] at hf
    obtain ⟨x, rfl, h2⟩ := h
    simp only [SV.toV]; rw [← Rs.toVs l _ hf h2]
  | .tup l, v, hf, h => by
    simp only [SV.pln] at hf
    obtain ⟨x, rfl, h2⟩ := h
    simp only [SV.toV]; rw [← Rs.toVs l _ hf h2]
  | .ifc t s, v, hf, h => by
    simp only [SV.pln] at hf
    obtain ⟨x, rfl, h2⟩ := h
    simp only [SV.toV]; rw [← R.toV s _ hf h2]
theorem Rs.toVs {η : Env} : ∀ (l : List SV) (vs : List Value), plns l = true → Rs η l vs → vs = toVs l
  | [], vs, _, h => by simp only [Rs] at h; simp only [Go.Ex.toVs]; exact h
  | s :: l, vs, hf, h => by
    simp only [plns, Bool.and_eq_true] at hf
    obtain ⟨x, r, rfl, h2, h3⟩ := h
    simp only [Go.Ex.toVs]; rw [← R.toV s _ hf.1 h2, ← Rs.toVs l _ hf.2 h3]
end
mutual
theorem R.ofV {η : Env} : ∀ (s : SV), s.pln = true → R η s s.toV
  | .val _, _ | .num _ _, _ | .bol _, _ | .bts _ _, _ => by simp only [R, SV.toV]
  | .ptr .., hf | .slc .., hf | .sle .., hf | .pto .., hf | .slo .., hf | .hdl _, hf | .fnc .., hf => by simp [SV.pln] at hf
  | .agg l, hf => by simp only [SV.pln] at hf; exact ⟨_, rfl, by simpa using Rs.ofVs l hf⟩
  | .tup l, hf => by simp only [SV.pln] at hf; exact ⟨_, rfl, by simpa using Rs.ofVs l hf⟩
  | .ifc t s, hf => by simp only [SV.pln] at hf; exact ⟨_, rfl, R.ofV s hf⟩
theorem Rs.ofVs {η : Env} : ∀ (l : List SV), plns l = true → Rs η l (toVs l)
  | [], _ => Rs.nil
  | s :: l, hf => by
    simp only [plns, Bool.and_eq_true] at hf
    exact Rs.cons (R.ofV s hf.1) (Rs.ofVs l hf.2)
end
/-- What a way gives, as a value. -/
theorem leaf {P : Program} {C : Con P} {n : Nat} {f : FuncId} {args : List SV} {ans : List Bool} {s : SV} {L : List Prop}
    (h : gives (callR (conned C) (run (conned C) n) f args [] ans) s L) (hc : AllP L) (hs : s.pln = true) {w : World} {vs : List Value} (hargs : Rs [] args vs) {x : Value} (hx : s.toV = x) (hf : s.free = true) :
    Calls P f vs.toArray w (fun e w' => e = .returned x ∧ Go.RowKit.Below w.heap.size w w') :=
  (con_gives C n ans h hc hf hargs).mono fun e w' ⟨v, h1, h2, h3⟩ => ⟨by rw [h1, R.toV s v hs h2, hx], h3⟩
/-- One function's contract, by values. -/
def Con.ofVals {P : Program} (f : FuncId) (g : List SV → Option (SV × Prop)) (ok : ∀ args s p, g args = some (s, p) → p → s.pln = true ∧ ∀ (w : World) (vs : List Value), Rs [] args vs →
    Calls P f vs.toArray w (fun e w' => e = .returned s.toV ∧ Go.RowKit.Below w.heap.size w w')) : Con P :=
  Con.one f (fun args => match g args with | some (s, p) => some (s, .pr p) | none => none) fun args s c h hc w vs hv => by
    cases hg : g args with
    | none => simp [hg] at h
    | some r =>
      obtain ⟨s', p⟩ := r
      simp only [hg, Option.some.injEq, Prod.mk.injEq] at h
      obtain ⟨rfl, rfl⟩ := h
      obtain ⟨h1, h2⟩ := ok args s' p hg hc
      exact (h2 w vs hv).mono fun e w' ⟨e1, e2⟩ => ⟨_, e1, R.ofV _ h1, e2⟩
/-! ### bounds of arguments -/
theorem has_u8 {z : Int} (h : IntKind.u8.has z) : 0 ≤ z ∧ z < 256 := by
  simp only [IntKind.has, IntKind.min, IntKind.max, IntKind.signed, IntKind.bits] at h
  simp at h
  omega
theorem has_u16 {z : Int} (h : IntKind.u16.has z) : 0 ≤ z ∧ z < 65536 := by
  simp only [IntKind.has, IntKind.min, IntKind.max, IntKind.signed, IntKind.bits] at h
  simp at h
  omega
theorem has_u32 {z : Int} (h : IntKind.u32.has z) : 0 ≤ z ∧ z < 4294967296 := by
  simp only [IntKind.has, IntKind.min, IntKind.max, IntKind.signed, IntKind.bits] at h
  simp at h
  omega
theorem has_u64 {z : Int} (h : IntKind.u64.has z) : 0 ≤ z ∧ z < 18446744073709551616 := by
  simp only [IntKind.has, IntKind.min, IntKind.max, IntKind.signed, IntKind.bits] at h
  simp at h
  omega
theorem has_i64 {z : Int} (h : IntKind.i64.has z) : -9223372036854775808 ≤ z ∧ z < 9223372036854775808 := by
  simp only [IntKind.has, IntKind.min, IntKind.max, IntKind.signed, IntKind.bits] at h
  simp at h
  omega
theorem has_str {s : ByteArray} (h : (s.size : Int) ≤ IntKind.i64.max) : s.size ≤ 9223372036854775807 := by
  simp only [IntKind.max, IntKind.signed, IntKind.bits] at h
  simp at h
  omega
end Go.Ex
namespace Go.Ex
open Go.RowKit (Below)

/-! ### a state, cut to what is still of use -/
mutual
theorem R.renOn {η η' : Env} {π : Nat → Nat} : ∀ (s : SV) (v : Value), (∀ k ∈ s.idxs, ∀ x, η[k]? = some x → η'[π k]? = some x) → R η s v → R η' (s.ren π) v
  | .val _, _, _, hR | .num _ _, _, _, hR | .bol _, _, _, hR | .bts _ _, _, _, hR => by simp only [SV.ren, R] at hR ⊢; exact hR
  | .ptr k o, v, h, hR => by
    obtain ⟨b, o', h1, h2⟩ := hR
    exact ⟨b, o', h _ (by simp [SV.idxs]) _ h1, h2⟩
  | .slc k o l c, v, h, hR => by
    obtain ⟨b, o', h1, h2⟩ := hR
    exact ⟨b, o', h _ (by simp [SV.idxs]) _ h1, h2⟩
  | .sle k o l kc, v, h, hR => by
    obtain ⟨b, o', c, h1, h2, h3, h4⟩ := hR
    exact ⟨b, o', c, h _ (by simp [SV.idxs]) _ h1, h _ (by simp [SV.idxs]) _ h2, h3, h4⟩
  | .pto k i, v, h, hR => by
    obtain ⟨b, o', h1, h2⟩ := hR
    exact ⟨b, o', h _ (by simp [SV.idxs]) _ h1, h2⟩
  | .slo k n kc, v, h, hR => by
    obtain ⟨b, o', c, h1, h2, h3, h4⟩ := hR
    exact ⟨b, o', c, h _ (by simp [SV.idxs]) _ h1, h _ (by simp [SV.idxs]) _ h2, h3, h4⟩
  | .fnc g a b, v, h, hR => by
    obtain ⟨x, y, h1, h2, h3⟩ := hR
    exact ⟨x, y, h1, Rs.renOn a _ (fun k hk => h k (by simp [SV.idxs, hk])) h2, Rs.renOn b _ (fun k hk => h k (by simp [SV.idxs, hk])) h3⟩
  | .agg l, v, h, hR => by
    obtain ⟨x, h1, h2⟩ := hR
    exact ⟨x, h1, Rs.renOn l _ (fun k hk => h k (by simpa [SV.idxs] using hk)) h2⟩
  | .tup l, v, h, hR => by
    obtain ⟨x, h1, h2⟩ := hR
    exact ⟨x, h1, Rs.renOn l _ (fun k hk => h k (by simpa [SV.idxs] using hk)) h2⟩
  | .ifc t s, v, h, hR => by
    obtain ⟨x, h1, h2⟩ := hR
    exact ⟨x, h1, R.renOn s _ (fun k hk => h k (by simpa [SV.idxs] using hk)) h2⟩
  | .hdl k, v, h, hR => by
    simp only [SV.ren, R] at hR ⊢
    exact h _ (by simp [SV.idxs]) _ hR
theorem Rs.renOn {η η' : Env} {π : Nat → Nat} : ∀ (l : List SV) (vs : List Value), (∀ k ∈ idxss l, ∀ x, η[k]? = some x → η'[π k]? = some x) → Rs η l vs → Rs η' (rens π l) vs
  | [], vs, _, hR => by simp only [rens, Rs] at hR ⊢; exact hR
  | s :: l, vs, h, hR => by
    obtain ⟨x, r, h1, h2, h3⟩ := hR
    exact ⟨x, r, h1, R.renOn s _ (fun k hk => h k (by simp [idxss, hk])) h2, Rs.renOn l _ (fun k hk => h k (by simp [idxss, hk])) h3⟩
end
def SO.idxs : SO → List Nat
  | .cells _ l => idxss l
  | .own _ _ _ kc l => kc :: idxss l
  | .otx _ kc _ => [kc]
  | .ows _ _ _ kc _ => [kc]
  | .mp _ es => idxss (es.map (·.2))
  | .glob _ l => idxss l
  | .fx (.lop _ ts _ _ _) => idxss ts
  | _ => []
theorem idxss_get : ∀ {l : List SV} {i : Nat} {s : SV}, l[i]? = some s → ∀ k ∈ s.idxs, k ∈ idxss l
  | [], i, s, h, k, hk => by simp at h
  | x :: l, 0, s, h, k, hk => by
    simp at h; subst h; simp [idxss, hk]
  | x :: l, i + 1, s, h, k, hk => by
    simp at h; simp [idxss, idxss_get h k hk]
theorem textCells_idxs (t : ByteArray) : idxss (textCells t) = [] := by
  unfold textCells
  induction t.data.toList with
  | nil => rfl
  | cons b l ih => simp only [List.map_cons, idxss, ih]; rfl
theorem vals_idxs : ∀ L : List Value, idxss (L.map SV.val) = []
  | [] => rfl
  | v :: L => by simp only [List.map_cons, idxss, vals_idxs L]; rfl
theorem BR.renOn {B : Nat} {η η' : Env} {π : Nat → Nat} {w : World} {k k' : Nat} {o : SO} (h : ∀ k ∈ o.idxs, ∀ x, η[k]? = some x → η'[π k]? = some x) (hk : ∀ x, η[k]? = some x → η'[k']? = some x) (hb : BR B η w k o) : BR B η' w k' (o.ren π) := by
  refine ⟨?_, ?_⟩
  rotate_left
  · cases o with
    | own e s n kc l =>
      obtain ⟨g, c, xs, q1, q2, q3, q4, q5⟩ := hb.2
      exact ⟨g, c, xs, hk _ q1, h _ (by simp [SO.idxs]) _ q2, q3, Rs.renOn _ _ (fun k hk => h k (by simp [SO.idxs, hk])) q4, q5⟩
    | otx e kc t =>
      obtain ⟨g, c, q1, q2, q3⟩ := hb.2
      exact ⟨g, c, hk _ q1, h _ (by simp [SO.idxs]) _ q2, q3⟩
    | ows e sz nn kc L =>
      obtain ⟨g, c, q1, q2, q3⟩ := hb.2
      exact ⟨g, c, hk _ q1, h _ (by simp [SO.idxs]) _ q2, q3⟩
    | mp kk es =>
      obtain ⟨r, arr, clock, q1, q2, q3, q4, q5⟩ := hb.2
      refine ⟨r, arr, clock, hk _ q1, q2, q3, by simpa [List.map_map, Function.comp_def] using q4, ?_⟩
      have := Rs.renOn (π := π) (η' := η') _ _ (fun k hk => h k (by simpa [SO.idxs] using hk)) q5
      rw [rens_map] at this
      simpa [List.map_map, Function.comp_def] using this
    | glob g l => exact hk _ hb.2
    | fx d =>
      cases d with
      | lop rdy ts ps as bd =>
        obtain ⟨r, fn, vts, D, q1, q2, q3, q4⟩ := hb.2
        exact ⟨r, fn, vts, D, hk _ q1, q2, q3, Rs.renOn _ _ (fun k hk => h k (by simpa [SO.idxs] using hk)) q4⟩
      | dfb =>
        obtain ⟨r, q1, q2, q3⟩ := hb.2
        exact ⟨r, hk _ q1, q2, q3⟩
    | _ => trivial
  intro wr l' hrow
  rw [row_ren] at hrow
  obtain ⟨⟨wr0, l⟩, hrow0, he⟩ := Option.map_eq_some_iff.1 hrow
  simp only [Prod.mk.injEq] at he
  obtain ⟨rfl, rfl⟩ := he
  obtain ⟨b, p, h1, h2, h3, h4⟩ := hb.1 wr0 l hrow0
  have sub : ∀ k ∈ idxss l, k ∈ o.idxs := by
    intro k hk
    cases o with
    | cells wr m => simp only [SO.row, Option.some.injEq, Prod.mk.injEq] at hrow0; obtain ⟨_, rfl⟩ := hrow0; exact hk
    | dead => simp [SO.row] at hrow0
    | txt t => simp only [SO.row, Option.some.injEq, Prod.mk.injEq] at hrow0; obtain ⟨_, rfl⟩ := hrow0; rw [textCells_idxs] at hk; simp at hk
    | otx e kc t => simp only [SO.row, Option.some.injEq, Prod.mk.injEq] at hrow0; obtain ⟨_, rfl⟩ := hrow0; rw [textCells_idxs] at hk; simp at hk
    | ows e sz nn kc L => simp only [SO.row, Option.some.injEq, Prod.mk.injEq] at hrow0; obtain ⟨_, rfl⟩ := hrow0; rw [vals_idxs] at hk; simp at hk
    | own e s n kc m => simp only [SO.row, Option.some.injEq, Prod.mk.injEq] at hrow0; obtain ⟨_, rfl⟩ := hrow0; simp [SO.idxs, hk]
    | mp kk es => simp [SO.row] at hrow0
    | glob g m => simp only [SO.row, Option.some.injEq, Prod.mk.injEq] at hrow0; obtain ⟨_, rfl⟩ := hrow0; exact hk
    | fx d => simp [SO.row] at hrow0
    | fns L => simp only [SO.row, Option.some.injEq, Prod.mk.injEq] at hrow0; obtain ⟨_, rfl⟩ := hrow0; rw [vals_idxs] at hk; simp at hk
  refine ⟨b, p, hk _ h1, h2, h3, fun i s hi => ?_⟩
  rw [rens_get] at hi
  obtain ⟨s0, hs0, rfl⟩ := Option.map_eq_some_iff.1 hi
  obtain ⟨⟨v, g1, g2, g3⟩, g4⟩ := h4 i s0 hs0
  exact ⟨⟨v, g1, R.renOn s0 v (fun k hk => h k (sub k (idxss_get hs0 k hk))) g2, g3⟩, g4⟩

theorem Rs.of_get {η : Env} : ∀ {l : List SV} {vs : List Value}, vs.length = l.length → (∀ (i : Nat) (s : SV) (v : Value), l[i]? = some s → vs[i]? = some v → R η s v) → Rs η l vs
  | [], vs, hl, _ => by simp only [Rs]; simpa using hl
  | s :: l, [], hl, _ => by simp at hl
  | s :: l, v :: vs, hl, h => Rs.cons (h 0 s v rfl rfl) (Rs.of_get (by simpa using hl) fun i s' v' h1 h2 => h (i + 1) s' v' (by simpa using h1) (by simpa using h2))

structure St where
  tm : List SV
  hp : List SO
/-- The temporaries: those of 'fg' are handles from 'n' on, the others are numbered anew. -/
def cutTm (π : Nat → Nat) (n : Nat) (fg : List Nat) : Nat → List SV → List SV
  | _, [] => []
  | i, s :: l => (if fg.contains i then .hdl (n + fg.idxOf i) else s.ren π) :: cutTm π n fg (i + 1) l
theorem cutTm_length (π : Nat → Nat) (n : Nat) (fg : List Nat) : ∀ (l : List SV) (i : Nat), (cutTm π n fg i l).length = l.length
  | [], _ => rfl
  | s :: l, i => by simp [cutTm, cutTm_length π n fg l]
theorem cutTm_get (π : Nat → Nat) (n : Nat) (fg : List Nat) : ∀ (l : List SV) (i j : Nat), (cutTm π n fg i l)[j]? = (l[j]?).map fun s => if fg.contains (i + j) then .hdl (n + fg.idxOf (i + j)) else s.ren π
  | [], i, j => by simp [cutTm]
  | s :: l, i, 0 => by simp [cutTm]
  | s :: l, i, j + 1 => by
    simp only [cutTm, List.getElem?_cons_succ, cutTm_get π n fg l (i + 1) j]
    rw [show i + 1 + j = i + (j + 1) by omega]
def fitTm (keep fg : List Nat) : Nat → List SV → Bool
  | _, [] => true
  | i, s :: l => (fg.contains i || s.idxs.all keep.contains) && fitTm keep fg (i + 1) l
theorem fitTm_get {keep fg : List Nat} : ∀ {l : List SV} {i j : Nat} {s : SV}, fitTm keep fg i l = true → l[j]? = some s → fg.contains (i + j) = true ∨ ∀ k ∈ s.idxs, k ∈ keep
  | [], i, j, s, _, h => by simp at h
  | x :: l, i, 0, s, hf, h => by
    simp at h; subst h
    simp only [fitTm, Bool.and_eq_true, Bool.or_eq_true, List.all_eq_true, List.contains_iff_mem] at hf
    rcases hf.1 with h | h
    · left; simpa using h
    · exact .inr h
  | x :: l, i, j + 1, s, hf, h => by
    simp only [fitTm, Bool.and_eq_true] at hf
    have := fitTm_get (i := i + 1) (j := j) hf.2 (by simpa using h)
    rwa [show i + 1 + j = i + (j + 1) by omega] at this
/-- May it be cut so? -/
def cutB (n0 : Nat) (keep fg : List Nat) (s : St) : Bool :=
  (keep.take n0 == List.range n0) && decide (keep.length = keep.eraseDups.length) && fitTm keep fg 0 s.tm && fg.all (fun i => decide (i < s.tm.length)) &&
  keep.all fun k => match s.hp[k]? with | some o => o.idxs.all keep.contains | none => false
def cutS (keep fg : List Nat) (s : St) : St :=
  ⟨cutTm (fun k => keep.idxOf k) keep.length fg 0 s.tm, keep.map (fun k => (s.hp.getD k .dead).ren (fun k => keep.idxOf k)) ++ List.replicate fg.length .dead⟩
def Weak (n0 : Nat) (s t : St) : Prop :=
  ∀ {ds : List Deferred} {B : Nat} {w₀ : World} {η μ : Env} {a : Act} {w : World}, η.length = n0 → Sim ds B w₀ (η ++ μ) s.tm s.hp a w → ∃ μ', Sim ds B w₀ (η ++ μ') t.tm t.hp a w
theorem Weak.refl (n0 : Nat) (s : St) : Weak n0 s s := fun _ h => ⟨_, h⟩
theorem Weak.trans {n0 : Nat} {s t u : St} (h : Weak n0 s t) (k : Weak n0 t u) : Weak n0 s u := fun hn hs => by
  obtain ⟨μ', h'⟩ := h hn hs
  exact k hn h'
theorem nodup_at {l : List Nat} (h : l.length = l.eraseDups.length) {i j : Nat} {k : Nat} (hi : l[i]? = some k) (hj : l[j]? = some k) : i = j := by
  have hnd : l.Nodup := by
    have sub : ∀ (l : List Nat), l.eraseDups.length ≤ l.length ∧ (l.eraseDups.length = l.length → l.Nodup) := by
      intro l
      induction hn : l.length using Nat.strongRecOn generalizing l with
      | _ n ih =>
        cases l with
        | nil => simp
        | cons a r =>
          rw [List.eraseDups_cons]
          have hlen : (r.filter fun b => !b == a).length ≤ r.length := List.length_filter_le _ _
          have := ih (r.filter fun b => !b == a).length (by simp at hn; omega) _ rfl
          simp only [List.length_cons] at hn ⊢
          refine ⟨by omega, fun e => ?_⟩
          have e1 : (r.filter fun b => !b == a).length = r.length := by omega
          have e2 : r.filter (fun b => !b == a) = r := List.filter_sublist.eq_of_length e1
          rw [e2] at this
          refine List.nodup_cons.2 ⟨fun hm => ?_, this.2 (by rw [e2] at e; omega)⟩
          rw [← e2] at hm
          simp at hm
    exact (sub l).2 h.symm
  have h1 := (List.getElem?_eq_some_iff.1 hi)
  have h2 := (List.getElem?_eq_some_iff.1 hj)
  obtain ⟨p1, e1⟩ := h1
  obtain ⟨p2, e2⟩ := h2
  have pw := List.pairwise_iff_getElem.1 hnd
  rcases Nat.lt_trichotomy i j with h | h | h
  · exact absurd (e1.trans e2.symm) (pw i j p1 p2 h)
  · exact h
  · exact absurd (e2.trans e1.symm) (pw j i p2 p1 h)

theorem Weak.cut {n0 : Nat} {keep fg : List Nat} {s : St} (h : cutB n0 keep fg s = true) : Weak n0 s (cutS keep fg s) := by
  intro ds B w₀ η μ a w hn hs
  simp only [cutB, Bool.and_eq_true, beq_iff_eq, decide_eq_true_eq, List.all_eq_true] at h
  obtain ⟨⟨⟨⟨h1, h2⟩, h3⟩, h4⟩, h5⟩ := h
  have hE := hs.hr.len
  let val : Nat → Value := fun k => ((η ++ μ)[k]?).getD undef
  let dv : Nat → Value := fun i => (a.tmps[i]?).getD undef
  have kept : ∀ k ∈ keep, ∃ o, s.hp[k]? = some o ∧ ∀ j ∈ o.idxs, j ∈ keep := by
    intro k hk
    have := h5 k hk
    split at this
    · rename_i o ho
      refine ⟨o, ho, fun j hj => ?_⟩
      have := List.all_eq_true.1 this j hj
      simpa using this
    · simp at this
  have hval : ∀ k ∈ keep, (η ++ μ)[k]? = some (val k) := by
    intro k hk
    obtain ⟨o, ho, _⟩ := kept k hk
    have : k < (η ++ μ).length := by rw [hE]; exact (List.getElem?_eq_some_iff.1 ho).1
    simp only [val, List.getElem?_eq_getElem this, Option.getD_some]
  have hn0 : n0 ≤ keep.length := by
    have := congrArg List.length h1
    simp at this; omega
  have hsplit : keep.map val = η ++ (keep.drop n0).map val := by
    conv => lhs; rw [← List.take_append_drop n0 keep, List.map_append]
    congr 1
    rw [h1]
    apply List.ext_getElem?
    intro i
    rw [List.getElem?_map]
    by_cases hi : i < n0
    · rw [List.getElem?_range hi]
      simp only [Option.map_some]
      have := hval i (by
        have : (keep.take n0)[i]? = some i := by rw [h1]; exact List.getElem?_range hi
        exact List.mem_of_mem_take (List.mem_of_getElem? this))
      rw [← this, List.getElem?_append_left (by omega)]
    · rw [List.getElem?_eq_none (by simp; omega), List.getElem?_eq_none (by omega)]; rfl
  refine ⟨(keep.drop n0).map val ++ fg.map dv, ?_⟩
  rw [← List.append_assoc, ← hsplit]
  have at1 : ∀ (j k : Nat), keep[j]? = some k → (keep.map val ++ fg.map dv)[j]? = some (val k) := by
    intro j k hk
    have hj := (List.getElem?_eq_some_iff.1 hk).1
    rw [List.getElem?_append_left (by simpa using hj), List.getElem?_map, hk]; rfl
  have idx : ∀ k ∈ keep, keep[keep.idxOf k]? = some k := by
    intro k hk
    have hlt := List.idxOf_lt_length_of_mem hk
    rw [List.getElem?_eq_getElem hlt, List.getElem_idxOf hlt]
  have key : ∀ k ∈ keep, ∀ x, (η ++ μ)[k]? = some x → (keep.map val ++ fg.map dv)[keep.idxOf k]? = some x := by
    intro k hk x hx
    rw [at1 _ _ (idx k hk)]
    rw [hval k hk] at hx
    exact hx
  refine ⟨?_, hs.df, ⟨?_, ?_, ?_⟩, hs.below, hs.hB⟩
  · have hl := hs.tm.length
    refine Rs.of_get (by show _ = (cutTm _ _ _ _ _).length; rw [cutTm_length]; exact hl) fun i x v hx hv => ?_
    have hx' : (cutTm (fun k => keep.idxOf k) keep.length fg 0 s.tm)[i]? = some x := hx
    rw [cutTm_get] at hx'
    obtain ⟨y, hy, he⟩ := Option.map_eq_some_iff.1 hx'
    rw [Nat.zero_add] at he
    have hv' : a.tmps[i]? = some v := by simpa using hv
    split at he
    · rename_i hc
      subst he
      simp only [R]
      have hm : i ∈ fg := by simpa using hc
      have hlt := List.idxOf_lt_length_of_mem hm
      rw [List.getElem?_append_right (by simp), List.length_map, Nat.add_sub_cancel_left, List.getElem?_map, List.getElem?_eq_getElem hlt, List.getElem_idxOf hlt]
      simp only [Option.map_some, dv, hv', Option.getD_some]
    · rename_i hc
      subst he
      obtain ⟨v', hv2, hR⟩ := hs.tm.get hy
      have : v' = v := by
        have e : (a.tmps.toList)[i]? = some v := hv
        rw [hv2] at e; exact Option.some.inj e
      subst this
      have hft := fitTm_get h3 hy
      rw [Nat.zero_add] at hft
      rcases hft with h | h
      · exact absurd h hc
      · exact R.renOn y v' (fun k hk => key k (h k hk)) hR
  · show (keep.map val ++ fg.map dv).length = (keep.map (fun k => (s.hp.getD k .dead).ren (fun k => keep.idxOf k)) ++ List.replicate fg.length SO.dead).length
    simp
  · intro j o ho
    have ho' : (keep.map (fun k => (s.hp.getD k .dead).ren (fun k => keep.idxOf k)) ++ List.replicate fg.length SO.dead)[j]? = some o := ho
    by_cases hj : j < keep.length
    · rw [List.getElem?_append_left (by simpa using hj), List.getElem?_map, List.getElem?_eq_getElem hj] at ho'
      simp only [Option.map_some, Option.some.injEq] at ho'
      subst ho'
      obtain ⟨o0, e0, e1⟩ := kept keep[j] (List.getElem_mem hj)
      rw [show s.hp.getD keep[j] .dead = o0 by rw [List.getD_eq_getElem?_getD, e0]; rfl]
      refine BR.renOn (fun k hk => key k (e1 k hk)) (fun x hx => ?_) (hs.hr.blk _ o0 e0)
      rw [at1 j keep[j] (List.getElem?_eq_getElem hj)]
      rw [hval _ (List.getElem_mem hj)] at hx
      exact hx
    · rw [List.getElem?_append_right (by simpa using Nat.le_of_not_lt hj)] at ho'
      have := List.mem_of_getElem? ho'
      obtain rfl := List.eq_of_mem_replicate this
      exact ⟨fun wr l hrow => by simp [SO.row] at hrow, trivial⟩
  · intro k₁ k₂ s₁ s₂ l₁ wr₂ l₂ b₁ o₁ b₂ o₂ hk1 r1 hk2 r2 hne e1 e2
    have back : ∀ (k : Nat) (o : SO) (wr : Bool) (l : List SV) (b p : Nat), (cutS keep fg s).hp[k]? = some o → o.row = some (wr, l) → (keep.map val ++ fg.map dv)[k]? = some (Value.pointer (some ⟨b, p, none⟩)) →
        ∃ (k0 : Nat) (o0 : SO) (l0 : List SV), s.hp[k0]? = some o0 ∧ o0.row = some (wr, l0) ∧ (η ++ μ)[k0]? = some (Value.pointer (some ⟨b, p, none⟩)) ∧ keep[k]? = some k0 := by
      intro k o wr l b p hk hrow he
      have hk' : (keep.map (fun k => (s.hp.getD k .dead).ren (fun k => keep.idxOf k)) ++ List.replicate fg.length SO.dead)[k]? = some o := hk
      by_cases hj : k < keep.length
      · rw [List.getElem?_append_left (by simpa using hj), List.getElem?_map, List.getElem?_eq_getElem hj] at hk'
        simp only [Option.map_some, Option.some.injEq] at hk'
        subst hk'
        obtain ⟨o0, e0, _⟩ := kept keep[k] (List.getElem_mem hj)
        rw [show s.hp.getD keep[k] .dead = o0 by rw [List.getD_eq_getElem?_getD, e0]; rfl, row_ren] at hrow
        obtain ⟨⟨wr0, l'⟩, hrow0, hq⟩ := Option.map_eq_some_iff.1 hrow
        simp only [Prod.mk.injEq] at hq
        obtain ⟨rfl, _⟩ := hq
        rw [at1 k keep[k] (List.getElem?_eq_getElem hj)] at he
        refine ⟨keep[k], o0, l', e0, hrow0, ?_, List.getElem?_eq_getElem hj⟩
        rw [hval _ (List.getElem_mem hj)]; exact he
      · rw [List.getElem?_append_right (by simpa using Nat.le_of_not_lt hj)] at hk'
        have := List.mem_of_getElem? hk'
        obtain rfl := List.eq_of_mem_replicate this
        simp [SO.row] at hrow
    obtain ⟨c1, q1, m1, a1, z1, a2, a3⟩ := back _ _ _ _ _ _ hk1 r1 e1
    obtain ⟨c2, q2, m2, d1, z2, d2, d3⟩ := back _ _ _ _ _ _ hk2 r2 e2
    exact hs.hr.apart c1 c2 q1 q2 m1 wr₂ m2 b₁ o₁ b₂ o₂ a1 z1 d1 z2 (fun e => hne (by subst e; exact nodup_at h2 a3 d3)) a2 d2

/-- As a text that is not told. -/
def SV.vague : SV → SV
  | .bts _ l => .val (.string ⟨l.toArray⟩)
  | .num k z => .val (.int k z)
  | .bol b => .val (.bool b)
  | s => s
theorem SV.vague_R {η : Env} {s : SV} {v : Value} (h : R η s v) : R η s.vague v := by
  cases s <;> simpa only [SV.vague, R] using h
/-- The same values, told in another way. -/
def SV.alike (s t : SV) : Prop := ∀ (η : Env) (v : Value), R η s v → R η t v
theorem Weak.tm {n0 : Nat} {s t : St} (hh : t.hp = s.hp) (hl : t.tm.length = s.tm.length) (h : ∀ (i : Nat) (x y : SV), s.tm[i]? = some x → t.tm[i]? = some y → x.alike y) : Weak n0 s t := by
  intro ds B w₀ η μ a w hn hs
  refine ⟨μ, ?_, hs.df, by rw [hh]; exact hs.hr, hs.below, hs.hB⟩
  refine Rs.of_get (by rw [hl]; exact hs.tm.length) fun i y v hy hv => ?_
  have hi : i < s.tm.length := by rw [← hl]; exact (List.getElem?_eq_some_iff.1 hy).1
  obtain ⟨v', hv', hR⟩ := hs.tm.get (List.getElem?_eq_getElem hi)
  have : v' = v := by rw [hv'] at hv; exact Option.some.inj hv
  subst this
  exact h i _ y (List.getElem?_eq_getElem hi) hy _ _ hR

/-! ### codes, by what they may end in -/
def WpE (P : Program) (c : Code) (n0 : Nat) (s : St) (F : Fin → Prop) : Prop :=
  ∀ (ro : Option Nat) (ds : List Deferred) (B : Nat) (w₀ : World) (η μ : Env) (a : Act) (w : World), η.length = n0 → Sim ds B w₀ (η ++ μ) s.tm s.hp a w → ∀ (Q : Exit → Act → World → Prop),
    (∀ (r : Fin), F r → ∀ (μ' : Env) (a' : Act) (w' : World) (ex : Exit), Sim ds B w₀ (η ++ μ') r.tm r.hp a' w' → r.e.Is (η ++ μ') ex → Q ex a' w') → c.wpIn (fen ro) 0 P Q a w
def Fin.st (r : Fin) : St := ⟨r.tm, r.hp⟩
theorem WpE.of_wp {P : Program} {c : Code} {n0 : Nat} {s : St} {r : Fin} {F : Fin → Prop} (h : WpOk P c s.tm s.hp r) (hF : F r) : WpE P c n0 s F :=
  fun ro ds B w₀ η μ a w _ hs Q hQ => h ro ds B w₀ (η ++ μ) a w hs Q fun μ' a' w' ex hs' hex => hQ r hF (μ ++ μ') a' w' ex (by simpa using hs') (by simpa using hex)
theorem WpE.weak {P : Program} {c : Code} {n0 : Nat} {s t : St} {F : Fin → Prop} (hw : Weak n0 s t) (h : WpE P c n0 t F) : WpE P c n0 s F :=
  fun ro ds B w₀ η μ a w hn hs Q hQ => by
    obtain ⟨μ', hs'⟩ := hw hn hs
    exact h ro ds B w₀ η μ' a w hn hs' Q hQ
/-- No value stands in it. -/
def XE.bare : XE → Prop
  | .panic _ => False
  | _ => True
theorem XE.Is.bare {η η' : Env} {x : XE} {e : Exit} (hb : x.bare) (h : x.Is η e) : x.Is η' e := by
  cases x <;> first | exact h | exact hb.elim
theorem WpE.post {P : Program} {c : Code} {n0 : Nat} {s : St} {F G : Fin → Prop} (h : WpE P c n0 s F) (hp : ∀ r, F r → r.e.bare ∧ ∃ r', G r' ∧ r'.e = r.e ∧ Weak n0 r.st r'.st) : WpE P c n0 s G :=
  fun ro ds B w₀ η μ a w hn hs Q hQ => h ro ds B w₀ η μ a w hn hs Q fun r hr μ' a' w' ex hs' hex => by
    obtain ⟨hb, r', hG, he, hw⟩ := hp r hr
    obtain ⟨μ'', hs''⟩ := hw hn hs'
    exact hQ r' hG μ'' a' w' ex hs'' (by rw [he]; exact hex.bare hb)
theorem WpE.mono {P : Program} {c : Code} {n0 : Nat} {s : St} {F G : Fin → Prop} (h : WpE P c n0 s F) (hp : ∀ r, F r → G r) : WpE P c n0 s G :=
  fun ro ds B w₀ η μ a w hn hs Q hQ => h ro ds B w₀ η μ a w hn hs Q fun r hr => hQ r (hp r hr)
theorem WpE.seq {P : Program} {x y : Code} {n0 : Nat} {s : St} {F G : Fin → Prop} (h : WpE P x n0 s F) (hn : ∀ r, F r → r.e = .normal → WpE P y n0 r.st G) (ho : ∀ r, F r → r.e ≠ .normal → G r) : WpE P (.seq x y) n0 s G :=
  fun ro ds B w₀ η μ a w hl hs Q hQ => by
    refine wpIn_seq (h ro ds B w₀ η μ a w hl hs _ fun r hr μ' a' w' ex hs' hex => ?_)
    cases he : r.e with
    | normal =>
      rw [he] at hex; simp only [XE.Is] at hex; subst hex
      exact hn r hr he ro ds B w₀ η μ' a' w' hl hs' Q hQ
    | ret => have := hQ r (ho r hr (by rw [he]; simp)) μ' a' w' ex hs' hex; rw [he] at hex; simp only [XE.Is] at hex; subst hex; exact this
    | exit id => have := hQ r (ho r hr (by rw [he]; simp)) μ' a' w' ex hs' hex; rw [he] at hex; simp only [XE.Is] at hex; subst hex; exact this
    | panic sv => have := hQ r (ho r hr (by rw [he]; simp)) μ' a' w' ex hs' hex; rw [he] at hex; obtain ⟨v, _, rfl⟩ := hex; exact this
def Fin.unblock (id : Nat) (r : Fin) : Fin := match r.e with
  | .exit id' => if id' = id then ⟨.normal, r.tm, r.hp⟩ else r
  | _ => r
theorem WpE.block {P : Program} {id : Nat} {c : Code} {n0 : Nat} {s : St} {F G : Fin → Prop} (h : WpE P c n0 s F) (hG : ∀ r, F r → G (r.unblock id)) : WpE P (.block id c) n0 s G :=
  fun ro ds B w₀ η μ a w hl hs Q hQ => by
    refine wpIn_block (h ro ds B w₀ η μ a w hl hs _ fun r hr μ' a' w' ex hs' hex => ?_)
    have hq := hQ _ (hG r hr) μ' a' w'
    unfold Fin.unblock at hq
    cases he : r.e with
    | normal => simp only [he] at hq; rw [he] at hex; have := hq ex hs' hex; simp only [XE.Is] at hex; subst hex; exact this
    | ret => simp only [he] at hq; rw [he] at hex; have := hq ex hs' hex; simp only [XE.Is] at hex; subst hex; exact this
    | exit id' =>
      simp only [he] at hq
      rw [he] at hex; simp only [XE.Is] at hex; subst hex
      by_cases hid : id' = id
      · simp only [hid, if_true] at hq
        simp only [Exit.inBlock, hid, if_true]
        exact hq .normal hs' rfl
      · simp only [hid, if_false] at hq
        simp only [Exit.inBlock, hid, if_false]
        exact hq _ hs' (by rw [he]; rfl)
    | panic sv => simp only [he] at hq; rw [he] at hex; have := hq ex hs' hex; obtain ⟨v, _, rfl⟩ := hex; exact this
theorem WpE.cond {P : Program} {x : Operand} {y z : Code} {n0 : Nat} {s : St} {F : Fin → Prop} {b : Bool} (hb : ev s.tm x = .bol b) (h : WpE P (if b then y else z) n0 s F) : WpE P (.cond x y z) n0 s F :=
  fun ro ds B w₀ η μ a w hl hs Q hQ => by
    have hx := ev_R hs.tm x
    rw [hb] at hx
    simp only [R] at hx
    exact wpIn_cond hx (h ro ds B w₀ η μ a w hl hs Q hQ)
/-- **A loop, by a measure.** -/
theorem WpE.loop {P : Program} {c : Code} {n0 : Nat} {γ : Type} (S : γ → St) (m : γ → Nat) {F : Fin → Prop}
    (h : ∀ g, WpE P c n0 (S g) (fun r => (r.e = .normal ∧ ∃ g', m g' < m g ∧ r.st = S g') ∨ (r.e ≠ .normal ∧ F r))) (g : γ) : WpE P (.loop c) n0 (S g) F := by
  intro ro ds B w₀ η μ a w hl hs Q hQ
  refine wpIn_loop_rounds (m g + 1) ?_
  have key : ∀ (k : Nat) (g : γ) (μ : Env) (a : Act) (w : World), m g < k → Sim ds B w₀ (η ++ μ) (S g).tm (S g).hp a w → Code.roundsIn (fen ro) 0 P c Q k a w := by
    intro k
    induction k with
    | zero => intro g μ a w hk; omega
    | succ k ih =>
      intro g μ a w hk hs
      show c.wpIn (fen ro) 0 P (Exit.then (Code.roundsIn (fen ro) 0 P c Q k) Q) a w
      refine h g ro ds B w₀ η μ a w hl hs _ fun r hr μ' a' w' ex hs' hex => ?_
      rcases hr with ⟨he, g', hm, hst⟩ | ⟨hne, hF⟩
      · rw [he] at hex; simp only [XE.Is] at hex; subst hex
        have hs2 : Sim ds B w₀ (η ++ μ') (S g').tm (S g').hp a' w' := by rw [← hst]; exact hs'
        exact ih g' μ' a' w' (by omega) hs2
      · have := hQ r hF μ' a' w' ex hs' hex
        cases he : r.e with
        | normal => exact absurd he hne
        | ret => rw [he] at hex; simp only [XE.Is] at hex; subst hex; exact this
        | exit id => rw [he] at hex; simp only [XE.Is] at hex; subst hex; exact this
        | panic sv => rw [he] at hex; obtain ⟨v, _, rfl⟩ := hex; exact this
  exact key _ g μ a w (Nat.lt_succ_self _) hs
/-- A function, by what its body may end in. -/
theorem calls_of_wpE {P : Program} {f : FuncId} {fn : Func} {c : Code} (hf : P.funcs[f]? = some fn) (hb : fn.body = some c) {args : List SV} {hp : List SO} {F : Fin → Prop} {G : SV → List SO → Prop}
    (h : WpE P c hp.length ⟨args ++ List.replicate (fn.ntmps - args.length) (.val undef), hp⟩ F) (hF : ∀ r, F r → (r.e = .normal ∨ r.e = .ret) ∧ ∃ s, resultsS P fn r.tm r.hp = some s ∧ G s r.hp)
    {B : Nat} {η : Env} {w : World} {vs : List Value} (hr : HR B η hp w) (hB : B ≤ w.heap.size) (hargs : Rs η args vs) :
    Calls P f vs.toArray w (fun e w' => ∃ v μ s hp', e = .returned v ∧ R (η ++ μ) s v ∧ HR B (η ++ μ) hp' w' ∧ Below B w w' ∧ G s hp') := by
  refine calls_of_wp hf hb ?_
  have hl := hargs.length
  refine (wpIn_wide (n := 0)).1 (h none [] B w η [] { tmps := vs.toArray ++ Array.replicate (fn.ntmps - vs.toArray.size) undef, defers := [] } w hr.len ⟨?_, rfl, by simpa using hr, Below.refl _ _, hB⟩ _ fun r hr μ a' w' ex hs hex => ?_)
  · simp only [Array.toList_append, Array.toList_replicate, List.size_toArray]
    rw [hl, List.append_nil]
    exact hargs.append (Rs.replicate _ (by simp only [R]))
  · obtain ⟨he, s, hres, hG⟩ := hF r hr
    obtain ⟨v, hR, hv⟩ := resultsS_ok hs.hr hs.tm hres
    rcases he with he | he <;> rw [he] at hex <;> simp only [XE.Is] at hex <;> subst hex <;> exact ⟨hs.df, v, hv, v, μ, s, r.hp, rfl, hR, hs.hr, hs.below, hG⟩

mutual
theorem SV.ren_id : ∀ s : SV, s.ren (fun k => k) = s
  | .val _ | .num _ _ | .bol _ | .bts _ _ | .ptr _ _ | .slc .. | .sle .. | .pto .. | .slo .. | .hdl _ => rfl
  | .fnc g a b => by simp only [SV.ren, rens_id a, rens_id b]
  | .agg l => by simp only [SV.ren, rens_id l]
  | .tup l => by simp only [SV.ren, rens_id l]
  | .ifc t x => by simp only [SV.ren, SV.ren_id x]
theorem rens_id : ∀ l : List SV, rens (fun k => k) l = l
  | [] => rfl
  | s :: l => by simp only [rens, SV.ren_id s, rens_id l]
end
theorem SO.ren_id : ∀ o : SO, o.ren (fun k => k) = o
  | .cells wr l => by simp only [SO.ren, rens_id]
  | .dead | .txt _ | .fns _ => rfl
  | .otx e kc t => rfl
  | .ows e sz nn kc L => rfl
  | .own e s n kc l => by simp only [SO.ren, rens_id]
  | .mp kk es => by
    simp only [SO.ren, SV.ren_id]
    congr 1
    induction es with
    | nil => rfl
    | cons e r ih => simp only [List.map_cons, ih]
  | .glob g l => by simp only [SO.ren, rens_id]
  | .fx (.lop rdy ts ps as bd) => by simp only [SO.ren, rens_id]
  | .fx .dfb => rfl
mutual
theorem SV.idxs_ren {π : Nat → Nat} : ∀ {s : SV} {j : Nat}, j ∈ (s.ren π).idxs → ∃ i ∈ s.idxs, π i = j
  | .val _, j, h | .num _ _, j, h | .bol _, j, h | .bts _ _, j, h => by simp [SV.ren, SV.idxs] at h
  | .ptr k o, j, h => by simp [SV.ren, SV.idxs] at h ⊢; exact h.symm
  | .slc k o l c, j, h => by simp [SV.ren, SV.idxs] at h ⊢; exact h.symm
  | .sle k o l kc, j, h => by simp [SV.ren, SV.idxs] at h ⊢; exact h.imp Eq.symm Eq.symm
  | .pto k i, j, h => by simp [SV.ren, SV.idxs] at h ⊢; exact h.symm
  | .slo k n kc, j, h => by simp [SV.ren, SV.idxs] at h ⊢; exact h.imp Eq.symm Eq.symm
  | .hdl k, j, h => by simp [SV.ren, SV.idxs] at h ⊢; exact h.symm
  | .fnc g a b, j, h => by
    simp only [SV.ren, SV.idxs, List.mem_append] at h ⊢
    rcases h with h | h
    · obtain ⟨i, h1, h2⟩ := idxss_ren h; exact ⟨i, .inl h1, h2⟩
    · obtain ⟨i, h1, h2⟩ := idxss_ren h; exact ⟨i, .inr h1, h2⟩
  | .agg l, j, h => by simp only [SV.ren, SV.idxs] at h ⊢; exact idxss_ren h
  | .tup l, j, h => by simp only [SV.ren, SV.idxs] at h ⊢; exact idxss_ren h
  | .ifc t x, j, h => by simp only [SV.ren, SV.idxs] at h ⊢; exact SV.idxs_ren h
theorem idxss_ren {π : Nat → Nat} : ∀ {l : List SV} {j : Nat}, j ∈ idxss (rens π l) → ∃ i ∈ idxss l, π i = j
  | [], j, h => by simp [rens, idxss] at h
  | s :: l, j, h => by
    simp only [rens, idxss, List.mem_append] at h ⊢
    rcases h with h | h
    · obtain ⟨i, h1, h2⟩ := SV.idxs_ren h; exact ⟨i, .inl h1, h2⟩
    · obtain ⟨i, h1, h2⟩ := idxss_ren h; exact ⟨i, .inr h1, h2⟩
end
theorem SO.idxs_ren {π : Nat → Nat} : ∀ {o : SO} {j : Nat}, j ∈ (o.ren π).idxs → ∃ i ∈ o.idxs, π i = j
  | .cells wr l, j, h => by simp only [SO.ren, SO.idxs] at h ⊢; exact idxss_ren h
  | .dead, j, h => by simp [SO.ren, SO.idxs] at h
  | .txt _, j, h => by simp [SO.ren, SO.idxs] at h
  | .fns _, j, h => by simp [SO.ren, SO.idxs] at h
  | .otx e kc t, j, h => by
    simp only [SO.ren, SO.idxs, List.mem_cons, List.not_mem_nil, or_false] at h ⊢
    exact ⟨kc, rfl, h.symm⟩
  | .ows e sz nn kc L, j, h => by
    simp only [SO.ren, SO.idxs, List.mem_cons, List.not_mem_nil, or_false] at h ⊢
    exact ⟨kc, rfl, h.symm⟩
  | .own e s n kc l, j, h => by
    simp only [SO.ren, SO.idxs, List.mem_cons] at h ⊢
    rcases h with h | h
    · exact ⟨kc, .inl rfl, h.symm⟩
    · obtain ⟨i, h1, h2⟩ := idxss_ren h; exact ⟨i, .inr h1, h2⟩
  | .mp kk es, j, h => by
    simp only [SO.ren, SO.idxs, List.map_map] at h ⊢
    have e : (es.map ((fun x => x.2) ∘ fun e => (e.1, e.2.ren π))) = rens π (es.map (·.2)) := by
      rw [rens_map, List.map_map]; rfl
    rw [e] at h
    exact idxss_ren h
  | .glob g l, j, h => by simp only [SO.ren, SO.idxs] at h ⊢; exact idxss_ren h
  | .fx (.lop rdy ts ps as bd), j, h => by simp only [SO.ren, SO.idxs] at h ⊢; exact idxss_ren h
  | .fx .dfb, j, h => by simp [SO.ren, SO.idxs] at h

/-! ### a state, cut; what is of no use is whatever it is -/
def cutTmV (π : Nat → Nat) (d : Nat → Value) (fg : List Nat) : Nat → List SV → List SV
  | _, [] => []
  | i, s :: l => (if fg.contains i then .val (d i) else s.ren π) :: cutTmV π d fg (i + 1) l
theorem cutTmV_length (π : Nat → Nat) (d : Nat → Value) (fg : List Nat) : ∀ (l : List SV) (i : Nat), (cutTmV π d fg i l).length = l.length
  | [], _ => rfl
  | s :: l, i => by simp [cutTmV, cutTmV_length π d fg l]
theorem cutTmV_get (π : Nat → Nat) (d : Nat → Value) (fg : List Nat) : ∀ (l : List SV) (i j : Nat), (cutTmV π d fg i l)[j]? = (l[j]?).map fun s => if fg.contains (i + j) then .val (d (i + j)) else s.ren π
  | [], i, j => by simp [cutTmV]
  | s :: l, i, 0 => by simp [cutTmV]
  | s :: l, i, j + 1 => by
    simp only [cutTmV, List.getElem?_cons_succ, cutTmV_get π d fg l (i + 1) j]
    rw [show i + 1 + j = i + (j + 1) by omega]
def cutV (keep fg : List Nat) (s : St) (d : Nat → Value) : St :=
  ⟨cutTmV (fun k => keep.idxOf k) d fg 0 s.tm, keep.map (fun k => (s.hp.getD k .dead).ren (fun k => keep.idxOf k))⟩
/-- Whatever it is, it is one of these. -/
def WeakF (n0 : Nat) (s : St) (T : (Nat → Value) → St) : Prop :=
  ∀ {ds : List Deferred} {B : Nat} {w₀ : World} {η μ : Env} {a : Act} {w : World}, η.length = n0 → Sim ds B w₀ (η ++ μ) s.tm s.hp a w → ∃ d μ', Sim ds B w₀ (η ++ μ') (T d).tm (T d).hp a w
theorem WeakF.cut {n0 : Nat} {keep fg : List Nat} {s : St} (h : cutB n0 keep fg s = true) : WeakF n0 s (cutV keep fg s) := by
  intro ds B w₀ η μ a w hn hs
  have hn0 : n0 ≤ keep.length := by
    simp only [cutB, Bool.and_eq_true, beq_iff_eq] at h
    have := congrArg List.length h.1.1.1.1
    simp at this; omega
  obtain ⟨μ', hs'⟩ := Weak.cut h hn hs
  refine ⟨fun i => (a.tmps[i]?).getD undef, μ'.take (keep.length - n0), ?_⟩
  -- the dead ones off the end
  have hlen := hs'.hr.len
  have hfull : (η ++ μ').length = keep.length + fg.length := by
    rw [hlen]
    show (_ ++ _ : List SO).length = _
    simp
  have hsplit : η ++ μ' = (η ++ μ'.take (keep.length - n0)) ++ μ'.drop (keep.length - n0) := by
    rw [List.append_assoc, List.take_append_drop]
  have hl1 : (η ++ μ'.take (keep.length - n0)).length = keep.length := by
    simp at hfull ⊢; omega
  have key : ∀ k, k < keep.length → ∀ x, (η ++ μ')[k]? = some x → (η ++ μ'.take (keep.length - n0))[k]? = some x := by
    intro k hk x hx
    rw [hsplit, List.getElem?_append_left (by omega)] at hx
    exact hx
  have mem_lt : ∀ (s : List Nat) (k : Nat), k ∈ keep → keep.idxOf k < keep.length := fun _ k hk => List.idxOf_lt_length_of_mem hk
  simp only [cutB, Bool.and_eq_true, beq_iff_eq, decide_eq_true_eq, List.all_eq_true] at h
  obtain ⟨⟨⟨⟨h1, h2⟩, h3⟩, h4⟩, h5⟩ := h
  have hpv : (cutV keep fg s (fun i => (a.tmps[i]?).getD undef)).hp = (cutS keep fg s).hp.take keep.length := by
    show keep.map _ = (keep.map _ ++ List.replicate fg.length SO.dead).take keep.length
    rw [List.take_left' (by simp)]
  have at' : ∀ (k : Nat) (o : SO), (cutV keep fg s (fun i => (a.tmps[i]?).getD undef)).hp[k]? = some o → k < keep.length ∧ (cutS keep fg s).hp[k]? = some o := by
    intro k o hk
    rw [hpv] at hk
    have hlt : k < keep.length := by
      have := (List.getElem?_eq_some_iff.1 hk).1
      simp at this; omega
    rw [List.getElem?_take_of_lt hlt] at hk
    exact ⟨hlt, hk⟩
  have renRefs : ∀ (k : Nat) (o : SO), (cutV keep fg s (fun i => (a.tmps[i]?).getD undef)).hp[k]? = some o → ∀ j ∈ o.idxs, j < keep.length := by
    intro k o hk j hj
    have hk' : (keep.map (fun k => (s.hp.getD k .dead).ren (fun k => keep.idxOf k)))[k]? = some o := hk
    rw [List.getElem?_map] at hk'
    obtain ⟨k0, e0, rfl⟩ := Option.map_eq_some_iff.1 hk'
    have hm := List.mem_of_getElem? e0
    have := h5 k0 hm
    split at this
    · rename_i o0 ho0
      rw [show s.hp.getD k0 .dead = o0 by rw [List.getD_eq_getElem?_getD, ho0]; rfl] at hj
      obtain ⟨i, hi, rfl⟩ := SO.idxs_ren hj
      have := List.all_eq_true.1 this i hi
      exact List.idxOf_lt_length_of_mem (by simpa using this)
    · simp at this
  refine ⟨?_, hs'.df, ⟨?_, ?_, ?_⟩, hs'.below, hs'.hB⟩
  · have hl := hs'.tm.length
    refine Rs.of_get (by show _ = (cutTmV _ _ _ _ _).length; rw [cutTmV_length]; rw [hl]; show (cutTm _ _ _ _ _).length = _; rw [cutTm_length]) fun i x v hx hv => ?_
    have hx' : (cutTmV (fun k => keep.idxOf k) (fun i => (a.tmps[i]?).getD undef) fg 0 s.tm)[i]? = some x := hx
    rw [cutTmV_get] at hx'
    obtain ⟨y, hy, he⟩ := Option.map_eq_some_iff.1 hx'
    rw [Nat.zero_add] at he
    split at he
    · subst he
      have : a.tmps[i]? = some v := by simpa using hv
      simp only [R, this, Option.getD_some]
    · rename_i hc
      subst he
      have hold : (cutS keep fg s).tm[i]? = some (y.ren fun k => keep.idxOf k) := by
        show (cutTm _ _ _ _ _)[i]? = _
        rw [cutTm_get, hy]
        simp only [Option.map_some, Nat.zero_add, hc, if_false, Bool.false_eq_true]
      obtain ⟨v', hv', hR⟩ := hs'.tm.get hold
      have : v' = v := by rw [hv'] at hv; exact Option.some.inj hv
      subst this
      have hft := fitTm_get h3 hy
      rw [Nat.zero_add] at hft
      have hin := hft.resolve_left hc
      have e := R.renOn (η := η ++ μ') (η' := η ++ μ'.take (keep.length - n0)) (π := fun k => k) _ v' (fun k hk => ?_) hR
      · rwa [SV.ren_id] at e
      · obtain ⟨i', hi', rfl⟩ := SV.idxs_ren hk
        exact key _ (List.idxOf_lt_length_of_mem (hin i' hi'))
  · rw [hl1]; show _ = (keep.map _).length; simp
  · intro k o hk
    obtain ⟨hlt, hk'⟩ := at' k o hk
    have e := BR.renOn (η := η ++ μ') (η' := η ++ μ'.take (keep.length - n0)) (π := fun k => k) (k' := k) (fun j hj => key j (renRefs k o hk j hj)) (key k hlt) (hs'.hr.blk k o hk')
    rwa [SO.ren_id] at e
  · intro k₁ k₂ s₁ s₂ l₁ wr₂ l₂ b₁ o₁ b₂ o₂ hk1 r1 hk2 r2 hne e1 e2
    obtain ⟨p1, q1⟩ := at' _ _ hk1
    obtain ⟨p2, q2⟩ := at' _ _ hk2
    refine hs'.hr.apart k₁ k₂ s₁ s₂ l₁ wr₂ l₂ b₁ o₁ b₂ o₂ q1 r1 q2 r2 hne ?_ ?_
    · rw [hsplit]; exact get_ext e1
    · rw [hsplit]; exact get_ext e2
/-- **A loop, by a measure; what is of no use is whatever it is.** -/
theorem WpE.loopF {P : Program} {c : Code} {n0 : Nat} {γ : Type} (S : γ → St) (m : γ → Nat) {F : Fin → Prop}
    (h : ∀ g, WpE P c n0 (S g) (fun r => (r.e = .normal ∧ ∃ T, WeakF n0 r.st T ∧ ∀ d, ∃ g', m g' < m g ∧ T d = S g') ∨ (r.e ≠ .normal ∧ F r))) (g : γ) : WpE P (.loop c) n0 (S g) F := by
  intro ro ds B w₀ η μ a w hl hs Q hQ
  refine wpIn_loop_rounds (m g + 1) ?_
  have key : ∀ (k : Nat) (g : γ) (μ : Env) (a : Act) (w : World), m g < k → Sim ds B w₀ (η ++ μ) (S g).tm (S g).hp a w → Code.roundsIn (fen ro) 0 P c Q k a w := by
    intro k
    induction k with
    | zero => intro g μ a w hk; omega
    | succ k ih =>
      intro g μ a w hk hs
      show c.wpIn (fen ro) 0 P (Exit.then (Code.roundsIn (fen ro) 0 P c Q k) Q) a w
      refine h g ro ds B w₀ η μ a w hl hs _ fun r hr μ' a' w' ex hs' hex => ?_
      rcases hr with ⟨he, T, hw, hT⟩ | ⟨hne, hF⟩
      · rw [he] at hex; simp only [XE.Is] at hex; subst hex
        obtain ⟨d, μ'', hs2⟩ := hw hl hs'
        obtain ⟨g', hm, e⟩ := hT d
        rw [e] at hs2
        exact ih g' μ'' a' w' (by omega) hs2
      · have := hQ r hF μ' a' w' ex hs' hex
        cases he : r.e with
        | normal => exact absurd he hne
        | ret => rw [he] at hex; simp only [XE.Is] at hex; subst hex; exact this
        | exit id => rw [he] at hex; simp only [XE.Is] at hex; subst hex; exact this
        | panic sv => rw [he] at hex; obtain ⟨v, _, rfl⟩ := hex; exact this
  exact key _ g μ a w (Nat.lt_succ_self _) hs
end Go.Ex
namespace Go.Ex
open Go.RowKit (Below)
set_option linter.unusedVariables false
/-! ### a call that changes one block: the others are set aside -/
mutual
theorem SV.ren_ren (π ρ : Nat → Nat) : ∀ s : SV, (s.ren ρ).ren π = s.ren (fun k => π (ρ k))
  | .val _ | .num _ _ | .bol _ | .bts _ _ | .ptr _ _ | .slc .. | .sle .. | .pto .. | .slo .. | .hdl _ => rfl
  | .fnc g a b => by simp only [SV.ren, rens_rens π ρ a, rens_rens π ρ b]
  | .agg l => by simp only [SV.ren, rens_rens π ρ l]
  | .tup l => by simp only [SV.ren, rens_rens π ρ l]
  | .ifc t x => by simp only [SV.ren, SV.ren_ren π ρ x]
theorem rens_rens (π ρ : Nat → Nat) : ∀ l : List SV, rens π (rens ρ l) = rens (fun k => π (ρ k)) l
  | [] => rfl
  | s :: l => by simp only [rens, SV.ren_ren π ρ s, rens_rens π ρ l]
end
theorem SO.ren_ren (π ρ : Nat → Nat) : ∀ o : SO, (o.ren ρ).ren π = o.ren (fun k => π (ρ k))
  | .cells wr l => by simp only [SO.ren, rens_rens]
  | .dead | .txt _ | .fns _ => rfl
  | .otx e kc t => rfl
  | .ows e sz nn kc L => rfl
  | .own e s n kc l => by simp only [SO.ren, rens_rens]
  | .mp kk es => by simp only [SO.ren, List.map_map, Function.comp_def, SV.ren_ren]
  | .glob g l => by simp only [SO.ren, rens_rens]
  | .fx (.lop rdy ts ps as bd) => by simp only [SO.ren, rens_rens]
  | .fx .dfb => rfl
def up3 (k : Nat) : Nat := k + 3
def dn3 (k : Nat) : Nat := k - 3
theorem SO.up_dn (o : SO) : (o.ren up3).ren dn3 = o := by
  rw [SO.ren_ren]
  exact SO.ren_id o
/-- The heap, one block set ahead. -/
def ahead (o0 o1 : SO) (k : Nat) (hp : List SO) : List SO := o0 :: o1 :: .dead :: (hp.set k .dead).map (SO.ren up3)
theorem ahead_get {o0 o1 : SO} {k : Nat} {hp : List SO} {j : Nat} (hne : j ≠ k) : (ahead o0 o1 k hp)[j + 3]? = (hp[j]?).map (SO.ren up3) := by
  simp only [ahead, List.getElem?_cons_succ, List.getElem?_map, List.getElem?_set_ne (Ne.symm hne)]
theorem ahead_cases {o0 o1 : SO} {k : Nat} {hp : List SO} {i : Nat} {o : SO} (h : (ahead o0 o1 k hp)[i]? = some o) :
    (i = 0 ∧ o = o0) ∨ (i = 1 ∧ o = o1) ∨ o = .dead ∨ ∃ j o', i = j + 3 ∧ j ≠ k ∧ hp[j]? = some o' ∧ o = o'.ren up3 := by
  match i with
  | 0 => simp [ahead] at h; exact .inl ⟨rfl, h.symm⟩
  | 1 => simp [ahead] at h; exact .inr (.inl ⟨rfl, h.symm⟩)
  | 2 => simp [ahead] at h; exact .inr (.inr (.inl h.symm))
  | j + 3 =>
    simp only [ahead, List.getElem?_cons_succ, List.getElem?_map] at h
    obtain ⟨o', h', rfl⟩ := Option.map_eq_some_iff.1 h
    by_cases e : j = k
    · subst e
      right; right; left
      by_cases hlt : j < hp.length
      · rw [List.getElem?_set_self hlt] at h'
        rw [← Option.some.inj h']; rfl
      · rw [List.getElem?_eq_none (by simp; omega)] at h'
        cases h'
    · rw [List.getElem?_set_ne (Ne.symm e)] at h'
      exact .inr (.inr (.inr ⟨j, o', rfl, e, h', rfl⟩))
theorem frees_get : ∀ {l : List SV} {i : Nat} {s : SV}, frees l = true → l[i]? = some s → s.free = true
  | [], i, s, _, h => by simp at h
  | x :: l, 0, s, hf, h => by
    simp only [frees, Bool.and_eq_true] at hf
    simp at h; subst h; exact hf.1
  | x :: l, i + 1, s, hf, h => by
    simp only [frees, Bool.and_eq_true] at hf
    exact frees_get hf.2 (by simpa using h)
/-- A block of free cells stands by itself. -/
theorem BR.cells_at {B : Nat} {η η' : Env} {w : World} {k k' : Nat} {wr : Bool} {l : List SV} (hf : frees l = true) (hk : ∀ x, η[k]? = some x → η'[k']? = some x) (hb : BR B η w k (.cells wr l)) : BR B η' w k' (.cells wr l) := by
  refine ⟨fun wr' l' hro => ?_, trivial⟩
  obtain ⟨b, p, e1, e2, e3, e4⟩ := hb.1 wr' l' hro
  simp only [SO.row, Option.some.injEq, Prod.mk.injEq] at hro
  obtain ⟨rfl, rfl⟩ := hro
  refine ⟨b, p, hk _ e1, e2, e3, fun i s hi => ?_⟩
  obtain ⟨⟨v, v1, v2, v3⟩, v4⟩ := e4 i s hi
  exact ⟨⟨v, v1, (R.free s v (frees_get hf hi) v2).ext (η := []), v3⟩, v4⟩
theorem BR.glob_at {B : Nat} {η η' : Env} {w : World} {k k' g : Nat} {l : List SV} (hf : frees l = true) (hk : ∀ x, η[k]? = some x → η'[k']? = some x) (hb : BR B η w k (.glob g l)) : BR B η' w k' (.glob g l) := by
  refine ⟨fun wr' l' hro => ?_, hk _ hb.2⟩
  obtain ⟨b, p, e1, e2, e3, e4⟩ := hb.1 wr' l' hro
  simp only [SO.row, Option.some.injEq, Prod.mk.injEq] at hro
  obtain ⟨rfl, rfl⟩ := hro
  refine ⟨b, p, hk _ e1, e2, e3, fun i s hi => ?_⟩
  obtain ⟨⟨v, v1, v2, v3⟩, v4⟩ := e4 i s hi
  exact ⟨⟨v, v1, (R.free s v (frees_get hf hi) v2).ext (η := []), v3⟩, v4⟩
theorem hr_ahead {B : Nat} {η : Env} {hp : List SO} {w : World} (h : HR B η hp w) {k0 k g : Nat} {gl l : List SV} (h0 : hp[k0]? = some (.glob g gl)) (hk : hp[k]? = some (.cells true l)) (hgf : frees gl = true) (hf : frees l = true) {v0 v1 : Value} (e0 : η[k0]? = some v0) (e1 : η[k]? = some v1) :
    HR B (v0 :: v1 :: undef :: η) (ahead (.glob g gl) (.cells true l) k hp) w := by
  have here : ∀ (j : Nat) (x : Value), η[j]? = some x → (v0 :: v1 :: undef :: η)[up3 j]? = some x := fun j x hx => by simpa [up3] using hx
  -- whence a row comes
  have src : ∀ (i : Nat) (o : SO) (wr : Bool) (m : List SV), (Go.Ex.ahead (.glob g gl) (.cells true l) k hp)[i]? = some o → o.row = some (wr, m) →
      ∃ j o' m', hp[j]? = some o' ∧ o'.row = some (wr, m') ∧ η[j]? = (v0 :: v1 :: undef :: η)[i]? ∧ ((i = 0 ∧ wr = false) ∨ (i = 1 ∧ j = k) ∨ (i = j + 3 ∧ j ≠ k)) := by
    intro i o wr m hi hr
    rcases ahead_cases hi with ⟨rfl, rfl⟩ | ⟨rfl, rfl⟩ | rfl | ⟨j, o', rfl, hne, ho, rfl⟩
    · simp only [SO.row, Option.some.injEq, Prod.mk.injEq] at hr
      obtain ⟨rfl, rfl⟩ := hr
      exact ⟨k0, _, _, h0, rfl, by rw [e0]; rfl, .inl ⟨rfl, rfl⟩⟩
    · simp only [SO.row, Option.some.injEq, Prod.mk.injEq] at hr
      obtain ⟨rfl, rfl⟩ := hr
      exact ⟨k, _, _, hk, rfl, by rw [e1]; rfl, .inr (.inl ⟨rfl, rfl⟩)⟩
    · simp [SO.row] at hr
    · rw [row_ren] at hr
      obtain ⟨⟨wr0, l0⟩, hr0, he⟩ := Option.map_eq_some_iff.1 hr
      simp only [Prod.mk.injEq] at he
      obtain ⟨rfl, rfl⟩ := he
      exact ⟨j, o', _, ho, hr0, by simp, .inr (.inr ⟨rfl, hne⟩)⟩
  refine ⟨by simp [Go.Ex.ahead, h.len], fun i o hi => ?_, ?_⟩
  · rcases ahead_cases hi with ⟨rfl, rfl⟩ | ⟨rfl, rfl⟩ | rfl | ⟨j, o', rfl, hne, ho, rfl⟩
    · exact BR.glob_at hgf (fun x hx => by rw [e0] at hx; simpa using hx) (h.blk k0 _ h0)
    · exact BR.cells_at hf (fun x hx => by rw [e1] at hx; simpa using hx) (h.blk k _ hk)
    · exact ⟨fun wr l hr => by simp [SO.row] at hr, trivial⟩
    · exact BR.renOn (π := up3) (k' := j + 3) (fun i hi x hx => here i x hx) (fun x hx => here j x hx) (h.blk j o' ho)
  · intro k₁ k₂ s₁ s₂ l₁ wr₂ l₂ b₁ o₁ b₂ o₂ h1 r1 h2 r2 hne q1 q2
    obtain ⟨j1, p1, m1, a1, b1, c1, d1⟩ := src _ _ _ _ h1 r1
    obtain ⟨j2, p2, m2, a2, b2, c2, d2⟩ := src _ _ _ _ h2 r2
    by_cases hj : j1 = j2
    · subst hj
      -- the same block twice: only the package's variable is
      have : p1 = p2 := by rw [a1] at a2; exact Option.some.inj a2
      subst this
      rw [b1] at b2
      simp only [Option.some.injEq, Prod.mk.injEq] at b2
      rcases d1 with ⟨_, e⟩ | ⟨e, f⟩ | ⟨e, f⟩
      · cases e
      · rcases d2 with ⟨_, e'⟩ | ⟨e', f'⟩ | ⟨e', f'⟩
        · rw [e'] at b2; exact absurd b2.1 (by decide)
        · omega
        · omega
      · rcases d2 with ⟨_, e'⟩ | ⟨e', f'⟩ | ⟨e', f'⟩
        · rw [e'] at b2; exact absurd b2.1 (by decide)
        · omega
        · omega
    · exact h.apart j1 j2 p1 p2 m1 wr₂ m2 b₁ o₁ b₂ o₂ a1 b1 a2 b2 hj (by rw [c1]; exact q1) (by rw [c2]; exact q2)
/-- And back. -/
theorem hr_back {B : Nat} {η : Env} {hp : List SO} {w w' : World} (h : HR B η hp w) {k : Nat} {o0 : SO} {l l' : List SV} (hk : hp[k]? = some (.cells true l)) (hf : frees l' = true) {v0 v1 : Value} (e1 : η[k]? = some v1) {μ : Env}
    (h' : HR B (v0 :: v1 :: undef :: η ++ μ) (ahead o0 (.cells true l') k hp) w') : HR B η (hp.set k (.cells true l')) w' := by
  have hμ : μ = [] := by
    have := h'.len
    simp [Go.Ex.ahead, h.len] at this
    exact this
  subst hμ
  have hlt : k < hp.length := (List.getElem?_eq_some_iff.1 hk).1
  have get : ∀ (j : Nat) (o : SO), (hp.set k (.cells true l'))[j]? = some o → (j = k ∧ o = .cells true l') ∨ (j ≠ k ∧ hp[j]? = some o) := by
    intro j o hj
    by_cases e : j = k
    · subst e
      rw [List.getElem?_set_self hlt] at hj
      exact .inl ⟨rfl, (Option.some.inj hj).symm⟩
    · rw [List.getElem?_set_ne (Ne.symm e)] at hj
      exact .inr ⟨e, hj⟩
  have src : ∀ (j : Nat) (o : SO) (wr : Bool) (m : List SV), (hp.set k (.cells true l'))[j]? = some o → o.row = some (wr, m) →
      ∃ i o' m', (ahead o0 (.cells true l') k hp)[i]? = some o' ∧ o'.row = some (wr, m') ∧ η[j]? = (v0 :: v1 :: undef :: η ++ [])[i]? ∧ ((i = 1 ∧ j = k) ∨ (i = j + 3 ∧ j ≠ k)) := by
    intro j o wr m hj hr
    rcases get j o hj with ⟨rfl, rfl⟩ | ⟨hne, ho⟩
    · exact ⟨1, _, _, rfl, hr, by rw [e1]; rfl, .inl ⟨rfl, rfl⟩⟩
    · refine ⟨j + 3, o.ren up3, _, by rw [ahead_get hne, ho]; rfl, by rw [row_ren, hr]; rfl, by simp, .inr ⟨rfl, hne⟩⟩
  refine ⟨by rw [h.len]; simp, fun j o hj => ?_, ?_⟩
  · rcases get j o hj with ⟨rfl, rfl⟩ | ⟨hne, ho⟩
    · exact BR.cells_at hf (fun x hx => by rw [e1]; simpa using hx) (h'.blk 1 _ rfl)
    · have hb := h'.blk (j + 3) _ (by rw [ahead_get hne, ho]; rfl)
      have := BR.renOn (π := dn3) (η' := η) (k' := j) (fun i hi x hx => ?_) (fun x hx => by simpa using hx) hb
      · rwa [SO.up_dn] at this
      · obtain ⟨i0, _, rfl⟩ := SO.idxs_ren hi
        simpa [up3, dn3] using hx
  · intro k₁ k₂ s₁ s₂ l₁ wr₂ l₂ b₁ o₁ b₂ o₂ h1 r1 h2 r2 hne q1 q2
    obtain ⟨j1, p1, m1, a1, b1, c1, d1⟩ := src _ _ _ _ h1 r1
    obtain ⟨j2, p2, m2, a2, b2, c2, d2⟩ := src _ _ _ _ h2 r2
    exact h'.apart j1 j2 p1 p2 m1 wr₂ m2 b₁ o₁ b₂ o₂ a1 b1 a2 b2 (by omega) (by rw [← c1]; exact q1) (by rw [← c2]; exact q2)
end Go.Ex
namespace Go.Ex
open Go.RowKit (Below)
set_option linter.unusedVariables false
/-! ### a call at the top: with memory at once -/
def topR (X : Cx) (run : Code → List SV → List SO → List Bool → Rr Fin) (f : FuncId) (args : List SV) (hp : List SO) (ans : List Bool) : Rr (SV × Option (List SO)) :=
  match X.P.funcs[f]? with
  | none => .bad
  | some fn =>
    match fn.body with
    | none => .bad
    | some c => whole (bodyR X run (callR' X run noCall) fn c args hp ans)
theorem topR_ok {X : Cx} (hct : CtOk X) (hlp : LpOk X) (n : Nat) {f : FuncId} {args : List SV} {hp : List SO} {ans ans' : List Bool} {s : SV} {ho : Option (List SO)} {c : Cnd} (h : topR X (run X n) f args hp ans = .ok (s, ho) ans' c) (hc : c.Is) {B : Nat} {η : Env} {w : World} {vs : List Value} (hr : HR B η hp w) (hB : B ≤ w.heap.size) (hargs : Rs η args vs) :
    Calls X.P f vs.toArray w (fun e w' => ∃ v μ, e = .returned v ∧ R (η ++ μ) s v ∧ HR B (η ++ μ) (ho.getD hp) w' ∧ Below B w w') := by
  unfold topR at h
  split at h
  · simp at h
  · rename_i fn hf
    split at h
    · simp at h
    · rename_i body hb
      unfold whole at h
      split at h
      · rename_i s1 hp1 ans1 c1 h1
        simp only [Rr.ok.injEq, Prod.mk.injEq] at h
        obtain ⟨⟨rfl, rfl⟩, rfl, rfl⟩ := h
        exact bodyR_ok (run_ok hct hlp n) (callR'_ok hct (run_ok hct hlp n) (noCall_ok X.P)) hf hb h1 hc hr hB hargs
      · simp at h
      · simp at h
end Go.Ex
