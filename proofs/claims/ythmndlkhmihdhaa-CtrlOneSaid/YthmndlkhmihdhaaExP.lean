/-
  A reckoner of programs and its soundness, part ExP: what it reckons is what 'Calls' says. No condition. By an AI agent.
-/
import Derived.Test.YthmndlkhmihdhaaExJ2
import Derived.LoopN
import Derived.LoopNIn
import Derived.Recover
import Derived.Carry
import Derived.WideShapes
import Derived.ChangeShapes
import Derived.OpenShut
import Derived.Laws.Strings
namespace Go.Ex
open Go.RowKit (Below)

inductive XE where
  | normal
  | ret
  | exit (id : Nat)
  | panic (s : SV)
def XE.Is (η : Env) (x : XE) (e : Exit) : Prop :=
  match x with
  | .normal => e = .normal
  | .ret => e = .ret
  | .exit id => e = .exit id
  | .panic s => ∃ v, R η s v ∧ e = .panic [{ v, recovered := false }]

structure Fin where
  e : XE
  tm : List SV
  hp : List SO

/-- What the reckoner is given: the program; contracts of functions; summaries of loops. -/
structure Cx where
  P : Program
  ct : FuncId → List SV → List SO → Option (SV × Option (List SO) × Cnd)
  lp : Code → List SV → List SO → List Bool → Option (Rr Fin)

/-! ### results -/
def resVar (P : Program) (tm : List SV) (hp : List SO) : ResultVar → Option SV
  | .tmp t => some (tm.getD t (.val undef))
  | .cell a t => match opLoad P hp t (tm.getD a (.val undef)) with
    | .pure s .tt => some s
    | _ => none
def resVars (P : Program) (tm : List SV) (hp : List SO) : List ResultVar → Option (List SV)
  | [] => some []
  | r :: l => match resVar P tm hp r, resVars P tm hp l with
    | some s, some m => some (s :: m)
    | _, _ => none
def resultsS (P : Program) (fn : Func) (tm : List SV) (hp : List SO) : Option SV :=
  match resVars P tm hp fn.results.toList with
  | some [s] => some s
  | some l => some (.tup l)
  | none => none

theorem resVars_ok {P : Program} {B : Nat} {η : Env} {hp : List SO} {w : World} (hr : HR B η hp w) {tm : List SV} {tmps : Array Value} (ht : Rs η tm tmps.toList) : ∀ (l : List ResultVar) (r : List SV), resVars P tm hp l = some r →
    ∃ vs, Rs η r vs ∧ (l.mapM (m := Sem) fun
      | .tmp t => pure (tmps.getD t undef)
      | .cell a t => do loadVar t (← asAddr (tmps.getD a undef))).run P w = .ok vs w
  | [], r, h => by simp [resVars] at h; subst h; exact ⟨[], Rs.nil, by simp⟩
  | x :: l, r, h => by
    simp only [resVars] at h
    split at h
    · rename_i s m hs hm
      simp at h; subst h
      obtain ⟨vs, hvs, hrun⟩ := resVars_ok hr ht l m hm
      have e : ∀ t, R η (tm.getD t (.val undef)) (tmps.getD t undef) := fun t => ev_R (a := ⟨tmps, []⟩) ht (.tmp t)
      cases x with
      | tmp t =>
        simp [resVar] at hs; subst hs
        refine ⟨tmps.getD t undef :: vs, Rs.cons (e t) hvs, ?_⟩
        simp only [List.mapM_cons, Sem.run_bind, Sem.run_pure, Result.andThen_ok, hrun]
      | cell a t =>
        simp only [resVar] at hs
        split at hs
        · rename_i s' hl
          simp at hs; subst hs
          have hok := opLoad_ok (P := P) (hp := hp) (ty := t) (e a)
          rw [hl] at hok
          obtain ⟨v, hR, hv⟩ := hok trivial B w hr
          refine ⟨v :: vs, Rs.cons hR hvs, ?_⟩
          have hload : (do loadVar t (← asAddr (tmps.getD a undef)) : Sem Value).run P w = .ok v w := by
            simp only [Instr.loadAt] at hv
            cases hx : tmps.getD a undef <;> simp [hx, Instr.sureAddr] at hv
            case pointer p =>
              cases p with
              | none => simp at hv
              | some p => simpa [asAddr] using hv
          simp only [List.mapM_cons, Sem.run_bind, Sem.run_pure] at hload ⊢
          rw [hload]
          simp only [Result.andThen_ok, hrun]
        · simp at hs
    · simp at h

theorem resultsS_ok {P : Program} {fn : Func} {B : Nat} {η : Env} {hp : List SO} {w : World} (hr : HR B η hp w) {tm : List SV} {tmps : Array Value} (ht : Rs η tm tmps.toList) {s : SV} (h : resultsS P fn tm hp = some s) :
    ∃ v, R η s v ∧ (results fn tmps).run P w = .ok v w := by
  unfold resultsS at h
  have key : ∀ l, resVars P tm hp fn.results.toList = some l → ∃ vs, Rs η l vs ∧ (fn.results.mapM (m := Sem) fun
      | .tmp t => pure (tmps.getD t undef)
      | .cell a t => do loadVar t (← asAddr (tmps.getD a undef))).run P w = .ok vs.toArray w := by
    intro l hl
    obtain ⟨vs, hvs, hrun⟩ := resVars_ok hr ht _ l hl
    refine ⟨vs, hvs, ?_⟩
    rw [Array.mapM_eq_mapM_toList]
    simp only [Sem.run_map, hrun, Result.andThen_ok]
  split at h
  · rename_i s' hl
    simp at h; subst h
    obtain ⟨vs, hvs, hrun⟩ := key _ hl
    obtain ⟨v, r, rfl, hv, hr'⟩ := hvs.cons_inv
    simp only [Rs] at hr'; subst hr'
    refine ⟨v, hv, ?_⟩
    unfold results
    refine (Sem.run_bind _ _ _ _).trans ((congrArg (fun q => Result.andThen q _) hrun).trans ?_)
    simp
  · rename_i l hne hl
    simp at h; subst h
    obtain ⟨vs, hvs, hrun⟩ := key _ hl
    refine ⟨.tuple vs.toArray, ⟨_, rfl, by simpa using hvs⟩, ?_⟩
    unfold results
    refine (Sem.run_bind _ _ _ _).trans ((congrArg (fun q => Result.andThen q _) hrun).trans ?_)
    have hlen := hvs.length
    have hn1 : ¬ vs.toArray.size = 1 := by
      intro h1
      simp at h1
      rw [h1] at hlen
      cases l with
      | nil => simp at hlen
      | cons a r => cases r with
        | nil => exact hne a rfl
        | cons b r => simp at hlen
    simp only [Result.andThen_ok, Sem.run_pure]
    rw [dif_neg hn1]
  · simp at h

/-! ### a call -/
mutual
/-- Without a word of the memory. -/
def SV.free : SV → Bool
  | .ptr .. | .slc .. | .sle .. | .pto .. | .slo .. | .hdl _ => false
  | .fnc _ a b => frees a && frees b
  | .agg l | .tup l => frees l
  | .ifc _ x => x.free
  | _ => true
def frees : List SV → Bool
  | [] => true
  | s :: l => s.free && frees l
end
mutual
theorem R.free {η μ : Env} : ∀ (s : SV) (v : Value), s.free = true → R η s v → R μ s v
  | .val _, _, _, h | .num _ _, _, _, h | .bol _, _, _, h | .bts _ _, _, _, h => by simp only [R] at h ⊢; exact h
  | .ptr .., _, hf, _ | .slc .., _, hf, _ | .sle .., _, hf, _ | .pto .., _, hf, _ | .slo .., _, hf, _ | .hdl _, _, hf, _ => by simp [SV.free] at hf
  | .fnc g a b, v, hf, h => by
    simp only [SV.free, Bool.and_eq_true] at hf
    obtain ⟨x, y, h1, h2, h3⟩ := h
    exact ⟨x, y, h1, Rs.free a _ hf.1 h2, Rs.free b _ hf.2 h3⟩
  | .agg l, v, hf, h => by
    simp only [SV.free] at hf
    obtain ⟨x, h1, h2⟩ := h
    exact ⟨x, h1, Rs.free l _ hf h2⟩
  | .tup l, v, hf, h => by
    simp only [SV.free] at hf
    obtain ⟨x, h1, h2⟩ := h
    exact ⟨x, h1, Rs.free l _ hf h2⟩
  | .ifc t s, v, hf, h => by
    simp only [SV.free] at hf
    obtain ⟨x, h1, h2⟩ := h
    exact ⟨x, h1, R.free s _ hf h2⟩
theorem Rs.free {η μ : Env} : ∀ (l : List SV) (vs : List Value), frees l = true → Rs η l vs → Rs μ l vs
  | [], vs, _, h => by simp only [Rs] at h ⊢; exact h
  | s :: l, vs, hf, h => by
    simp only [frees, Bool.and_eq_true] at hf
    obtain ⟨x, r, h1, h2, h3⟩ := h
    exact ⟨x, r, h1, R.free s _ hf.1 h2, Rs.free l _ hf.2 h3⟩
end

/-! ### panics, deferred calls -/
def panicAt (ops : Array Oper) : Option Operand :=
  match ops.toList.getLast? with
  | some o => match o.op, o.guard with
    | .panic x, none => some x
    | _, _ => none
  | none => none
/-- A region that ends in a panic. -/
def panicR (P : Program) (callf : CallF) (ops : Array Oper) (draw : Bool) (tm : List SV) (hp : List SO) (ans : List Bool) : Rr Fin :=
  if draw then .bad else
  match panicAt ops with
  | none => .bad
  | some x =>
    match opsR P callf ops false ops.toList.dropLast tm hp ans with
    | .ok (tm', hp') ans' c =>
      match ev tm' x with
      | .ifc ty y => .ok ⟨.panic (.ifc ty y), tm', hp'⟩ ans' c
      | _ => .bad
    | .ask b => .ask b
    | .bad => .bad
def deferAt (ops : Array Oper) : Option Tmp :=
  match ops.toList.getLast? with
  | some o => match o.op, o.guard, o.dst with
    | .defer ⟨.value (.tmp t), ⟨[]⟩, _⟩, none, none => some t
    | _, _, _ => none
  | none => none
/-- What was deferred. -/
structure Dfr where
  g : FuncId
  first : List SV
  caps : List SV
/-- A body that defers one call, on its way. -/
def dBody (X : Cx) (run : Code → List SV → List SO → List Bool → Rr Fin) : Code → List SV → List SO → List Bool → Rr (Fin × Dfr)
  | .seq x y, tm, hp, ans =>
    match (match x with | .region _ ops false => (deferAt ops).map fun t => (ops, t) | _ => none) with
    | some (ops, t) =>
      match opsR X.P noCall ops false ops.toList.dropLast tm hp ans with
      | .ok (tm2, hp2) ans2 c2 =>
        match tm2[t]? with
        | some (.fnc g first caps) =>
          match run y tm2 hp2 ans2 with
          | .ok r ans3 c3 => .ok (r, ⟨g, first, caps⟩) ans3 (c2.and c3)
          | .ask b => .ask b
          | .bad => .bad
        | _ => .bad
      | .ask b => .ask b
      | .bad => .bad
    | none =>
      match run x tm hp ans with
      | .ok r ans' c =>
        match r.e with
        | .normal => match dBody X run y r.tm r.hp ans' with
          | .ok z ans2 c2 => .ok z ans2 (c.and c2)
          | .ask b => .ask b
          | .bad => .bad
        | _ => .bad
      | .ask b => .ask b
      | .bad => .bad
  | _, _, _, _ => .bad
def isRecover (o : Oper) : Bool :=
  match o.op, o.guard with
  | .call ⟨.builtin .recover, ⟨[]⟩, _⟩, none => true
  | _, _ => false
/-- A deferred closure that asks 'recover' first. -/
def recR (X : Cx) (run : Code → List SV → List SO → List Bool → Rr Fin) (g : FuncId) (args : List SV) (rc : SV) (hp : List SO) (ans : List Bool) : Rr (List SO) :=
  match X.P.funcs[g]? with
  | none => .bad
  | some fn =>
    if fn.name == "runtime.NumGoroutine" then .bad else
    match fn.body with
    | some (.seq (.region _ ops false) y) =>
      match ops.toList with
      | [] => .bad
      | o :: rest =>
        if isRecover o then
          match opsR X.P noCall ops false rest (putS (args ++ List.replicate (fn.ntmps - args.length) (.val undef)) o.dst rc) hp ans with
          | .ok (tm1, hp1) ans1 c1 =>
            match run y tm1 hp1 ans1 with
            | .ok r ans2 c2 =>
              match r.e with
              | .exit _ => .bad
              | .panic _ => .bad
              | _ => match resultsS X.P fn r.tm r.hp with
                | some _ => .ok r.hp ans2 (c1.and c2)
                | none => .bad
            | .ask b => .ask b
            | .bad => .bad
          | .ask b => .ask b
          | .bad => .bad
        else .bad
    | _ => .bad
/-- A body that defers. -/
def dBodyR (X : Cx) (run : Code → List SV → List SO → List Bool → Rr Fin) (fn : Func) (c : Code) (args : List SV) (hp : List SO) (ans : List Bool) : Rr (SV × List SO) :=
  match dBody X run c (args ++ List.replicate (fn.ntmps - args.length) (.val undef)) hp ans with
  | .ok (r, d) ans1 c1 =>
    match (match r.e with | .normal | .ret => some (.val .nilIface) | .panic s => some s | .exit _ => none : Option SV) with
    | some rc =>
      match recR X run d.g (d.first ++ d.caps) rc r.hp ans1 with
      | .ok hp2 ans2 c2 =>
        match resultsS X.P fn r.tm hp2 with
        | some s => .ok (s, hp2) ans2 (c1.and c2)
        | none => .bad
      | .ask b => .ask b
      | .bad => .bad
    | none => .bad
  | .ask b => .ask b
  | .bad => .bad

/-- A body, as a call. -/
def bodyR (X : Cx) (run : Code → List SV → List SO → List Bool → Rr Fin) (fn : Func) (c : Code) (args : List SV) (hp : List SO) (ans : List Bool) : Rr (SV × List SO) :=
  match run c (args ++ List.replicate (fn.ntmps - args.length) (.val undef)) hp ans with
  | .ok r ans' cc =>
    match r.e with
    | .exit _ => .bad
    | .panic _ => .bad
    | _ => match resultsS X.P fn r.tm r.hp with
      | some s => .ok (s, r.hp) ans' cc
      | none => .bad
  | .ask b => .ask b
  | .bad => dBodyR X run fn c args hp ans
def whole (x : Rr (SV × List SO)) : Rr (SV × Option (List SO)) :=
  match x with
  | .ok (s, hp) ans c => .ok (s, some hp) ans c
  | .ask b => .ask b
  | .bad => .bad
def callR (X : Cx) (run : Code → List SV → List SO → List Bool → Rr Fin) : CallF := fun f args hp ans =>
  match X.P.funcs[f]? with
  | none => .bad
  | some fn =>
    if fn.name == "runtime.NumGoroutine" then .bad else
    match fn.body with
    | none => .bad
    | some c =>
      match X.ct f args hp with
      | some (s, ho, cc) => .ok (s, ho) ans cc
      | none =>
        if frees args then
          match bodyR X run fn c args [] ans with
          | .ok (s, _) ans' cc => if s.free then .ok (s, none) ans' cc else whole (bodyR X run fn c args hp ans)
          | .ask b => .ask b
          | .bad => .bad
        else whole (bodyR X run fn c args hp ans)

/-- Rounds of a loop. -/
def loopR (run : List SV → List SO → List Bool → Rr Fin) : Nat → List SV → List SO → List Bool → Rr Fin
  | 0, _, _, _ => .bad
  | m + 1, tm, hp, ans =>
    match run tm hp ans with
    | .ok r ans' c =>
      match r.e with
      | .normal => match loopR run m r.tm r.hp ans' with
        | .ok x ans'' c' => .ok x ans'' (c.and c')
        | .ask b => .ask b
        | .bad => .bad
      | _ => .ok r ans' c
    | .ask b => .ask b
    | .bad => .bad

/-- The reckoner. -/
def run (X : Cx) : Nat → Code → List SV → List SO → List Bool → Rr Fin
  | 0, _, _, _, _ => .bad
  | n + 1, c, tm, hp, ans =>
    match c with
    | .skip => .ok ⟨.normal, tm, hp⟩ ans .tt
    | .ret => .ok ⟨.ret, tm, hp⟩ ans .tt
    | .exit id => .ok ⟨.exit id, tm, hp⟩ ans .tt
    | .region _ ops draw =>
      if noDefer ops then
        match regionR X.P (callR X (run X n)) ops draw tm hp ans with
        | .ok (tm', hp') ans' c => .ok ⟨.normal, tm', hp'⟩ ans' c
        | .ask b => .ask b
        | .bad => panicR X.P (callR X (run X n)) ops draw tm hp ans
      else .bad
    | .seq a b =>
      match run X n a tm hp ans with
      | .ok r ans' c =>
        match r.e with
        | .normal => match run X n b r.tm r.hp ans' with
          | .ok x ans'' c' => .ok x ans'' (c.and c')
          | .ask b => .ask b
          | .bad => .bad
        | _ => .ok r ans' c
      | .ask b => .ask b
      | .bad => .bad
    | .cond x a b =>
      match settle tm (match x with | .tmp t => some t | _ => none) ans with
      | .ok tm' ans' c =>
        match ev tm' x with
        | .bol true => match run X n a tm' hp ans' with
          | .ok r ans'' c' => .ok r ans'' (c.and c')
          | .ask b => .ask b
          | .bad => .bad
        | .bol false => match run X n b tm' hp ans' with
          | .ok r ans'' c' => .ok r ans'' (c.and c')
          | .ask b => .ask b
          | .bad => .bad
        | _ => .bad
      | .ask b => .ask b
      | .bad => .bad
    | .block id body =>
      match run X n body tm hp ans with
      | .ok r ans' c =>
        match r.e with
        | .exit id' => if id' = id then .ok ⟨.normal, r.tm, r.hp⟩ ans' c else .ok r ans' c
        | _ => .ok r ans' c
      | .ask b => .ask b
      | .bad => .bad
    | .loop body =>
      match X.lp body tm hp ans with
      | some r => r
      | none => loopR (run X n body) n tm hp ans
    | _ => .bad

/-- What is owed of the contracts. -/
def CtOk (X : Cx) : Prop :=
  ∀ f args hp s ho c, X.ct f args hp = some (s, ho, c) → c → ∀ B η w vs, HR B η hp w → B ≤ w.heap.size → Rs η args vs →
    Calls X.P f vs.toArray w (fun e w' => ∃ v μ, e = .returned v ∧ R (η ++ μ) s v ∧ HR B (η ++ μ) (ho.getD hp) w' ∧ Below B w w')
def WpOk (P : Program) (c : Code) (tm : List SV) (hp : List SO) (r : Fin) : Prop :=
  ∀ (ro : Option Nat) (ds : List Deferred) (B : Nat) (w₀ : World) (η : Env) (a : Act) (w : World), Sim ds B w₀ η tm hp a w → ∀ (Q : Exit → Act → World → Prop),
    (∀ μ a' w' ex, Sim ds B w₀ (η ++ μ) r.tm r.hp a' w' → r.e.Is (η ++ μ) ex → Q ex a' w') → c.wpIn (fen ro) 0 P Q a w
/-- What is owed of the summaries of loops. -/
def LpOk (X : Cx) : Prop := ∀ body tm hp ans r ans' c, X.lp body tm hp ans = some (.ok r ans' c) → c → WpOk X.P (.loop body) tm hp r

theorem loopR_exit {P : Program} {body : Code} {rn : List SV → List SO → List Bool → Rr Fin} (hrn : ∀ tm hp ans r ans' c, rn tm hp ans = .ok r ans' c → c → WpOk P body tm hp r) :
    ∀ (m : Nat) (tm : List SV) (hp : List SO) (ans : List Bool) (r : Fin) (ans' : List Bool) (c : Cnd), loopR rn m tm hp ans = .ok r ans' c → r.e ≠ .normal
  | 0, _, _, _, _, _, _, h => by simp [loopR] at h
  | m + 1, tm, hp, ans, r, ans', c, h => by
    simp only [loopR] at h
    split at h
    · split at h
      · split at h
        · rename_i h2
          obtain ⟨rfl, _, _⟩ := ok_inj h
          exact loopR_exit hrn m _ _ _ _ _ _ h2
        · simp at h
        · simp at h
      · rename_i hne
        obtain ⟨rfl, _, _⟩ := ok_inj h
        exact fun e => hne e
    · simp at h
    · simp at h
theorem loopR_ok {P : Program} {body : Code} {rn : List SV → List SO → List Bool → Rr Fin} (hrn : ∀ tm hp ans r ans' c, rn tm hp ans = .ok r ans' c → c → WpOk P body tm hp r) :
    ∀ (m : Nat) (tm : List SV) (hp : List SO) (ans : List Bool) (r : Fin) (ans' : List Bool) (c : Cnd), loopR rn m tm hp ans = .ok r ans' c → c →
    ∀ (ro : Option Nat) (ds : List Deferred) (B : Nat) (w₀ : World) (η : Env) (a : Act) (w : World), Sim ds B w₀ η tm hp a w → ∀ (Q : Exit → Act → World → Prop),
    (∀ μ a' w' ex, Sim ds B w₀ (η ++ μ) r.tm r.hp a' w' → r.e.Is (η ++ μ) ex → Q ex a' w') → Code.roundsIn (fen ro) 0 P body Q m a w
  | 0, _, _, _, _, _, _, h, _, _, _, _, _, _, _, _, _, _, _ => by simp [loopR] at h
  | m + 1, tm, hp, ans, r, ans', c, h, hc, ro, ds, B, w₀, η, a, w, hs, Q, hQ => by
    simp only [loopR] at h
    split at h
    · rename_i r1 ans1 c1 h1
      split at h
      · rename_i he
        split at h
        · rename_i x ans2 c2 h2
          obtain ⟨rfl, rfl, rfl⟩ := ok_inj h
          show body.wpIn (fen ro) 0 P (Exit.then (Code.roundsIn (fen ro) 0 P body Q m) Q) a w
          refine hrn _ _ _ _ _ _ h1 hc.l ro ds B w₀ η a w hs _ fun μ a' w' ex hs' hex => ?_
          rw [he] at hex
          simp only [XE.Is] at hex
          subst hex
          show Code.roundsIn (fen ro) 0 P body Q m a' w'
          exact loopR_ok hrn m _ _ _ _ _ _ h2 hc.r ro ds B w₀ _ a' w' hs' Q (fun μ' a'' w'' ex hs'' hx => hQ (μ ++ μ') a'' w'' ex (by simpa using hs'') (by simpa using hx))
        · simp at h
        · simp at h
      · rename_i hne
        obtain ⟨rfl, rfl, rfl⟩ := ok_inj h
        show body.wpIn (fen ro) 0 P (Exit.then (Code.roundsIn (fen ro) 0 P body Q m) Q) a w
        refine hrn _ _ _ _ _ _ h1 hc ro ds B w₀ η a w hs _ fun μ a' w' ex hs' hex => ?_
        have := hQ μ a' w' ex hs' hex
        cases he : r1.e with
        | normal => exact absurd he hne
        | ret => rw [he] at hex; simp only [XE.Is] at hex; subst hex; exact this
        | exit id => rw [he] at hex; simp only [XE.Is] at hex; subst hex; exact this
        | panic s => rw [he] at hex; obtain ⟨v, _, rfl⟩ := hex; exact this
    · simp at h
    · simp at h
end Go.Ex
namespace Go.Ex
open Go.RowKit (Below)

theorem noCall_ok (P : Program) : CallOk P noCall := fun f args hp ans s ho ans' c h => by simp [noCall] at h

/-- One operation more, behind a row of operations. -/
theorem wpList_concat {P : Program} {ops : Array Oper} {Q : Exit → Act → World → Prop} {K : Act → World → Prop} {m : List Oper} (hK : ∀ a w, K a w → wpList P ops Q m a w) : ∀ (l : List Oper) (a : Act) (w : World),
    wpList P ops (fun e a w => e = .normal ∧ K a w) l a w → wpList P ops Q (l ++ m) a w
  | [], a, w, h => hK a w h.2
  | o :: l, a, w, h => by
    simp only [wpList, List.cons_append] at h ⊢
    split
    · rename_i hw
      rw [if_pos hw] at h
      rcases h with h | h
      · left
        unfold Oper.wp at h ⊢
        generalize (execOp a.eval o).run P w = res at h ⊢
        cases res with
        | ok x w' =>
          cases x <;> simp only [Oper.upon] at h ⊢
          case value v => exact wpList_concat hK l _ _ h
          case skip => exact wpList_concat hK l _ _ h
          case defer d => exact wpList_concat hK l _ _ h
          case enter f args =>
            refine h.mono fun e w'' he => ?_
            cases e with
            | returned v => exact wpList_concat hK l _ _ he
            | panicked ch => exact absurd he.1 (by simp)
            | outgrown => obtain ⟨_, _, hx⟩ := he; exact absurd hx.1 (by simp)
          case row row args => exact h.mono fun v w'' he => wpList_concat hK l _ _ he
        | halt x w' => cases x <;> simp only [Oper.upon] at h ⊢ <;> exact absurd h.1 (by simp)
      · obtain ⟨_, _, _, hx⟩ := h
        exact absurd hx.1 (by simp)
    · rename_i hw
      rw [if_neg hw] at h
      exact wpList_concat hK l _ _ h

theorem getLast_split {l : List Oper} {o : Oper} (h : l.getLast? = some o) : l = l.dropLast ++ [o] := by
  have hne : l ≠ [] := by intro e; subst e; simp at h
  rw [List.getLast?_eq_some_getLast hne] at h
  have := List.dropLast_concat_getLast hne
  rw [← Option.some.inj h]; exact this.symm

theorem panicAt_last {ops : Array Oper} {x : Operand} (h : panicAt ops = some x) : ∃ o : Oper, ops.toList.getLast? = some o ∧ o.op = .panic x ∧ o.guard = none := by
  unfold panicAt at h
  split at h
  · rename_i o ho
    split at h
    · rename_i h1 h2
      simp only [Option.some.injEq] at h; subst h
      exact ⟨o, ho, h1, h2⟩
    · simp at h
  · simp at h

theorem panicR_ok {r : Option Nat} {P : Program} {callf : CallF} (hcf : CallOk P callf) {id : Nat} {ops : Array Oper} {draw : Bool} (hnd : noDefer ops = true) {tm : List SV} {hp : List SO} {ans ans' : List Bool} {c : Cnd} {f : Fin}
    (h : panicR P callf ops draw tm hp ans = .ok f ans' c) (hc : c) {ds : List Deferred} {B : Nat} {w₀ : World} {η : Env} {a : Act} {w : World} (hs : Sim ds B w₀ η tm hp a w) {Q : Exit → Act → World → Prop}
    (hQ : ∀ μ a' w' ex, Sim ds B w₀ (η ++ μ) f.tm f.hp a' w' → f.e.Is (η ++ μ) ex → Q ex a' w') : (Code.region id ops draw).wpIn (fen r) 0 P Q a w := by
  unfold panicR at h
  split at h
  · simp at h
  · rename_i hd
    have hd' : draw = false := by simpa using hd
    subst hd'
    split at h
    · simp at h
    · rename_i x hx
      obtain ⟨o, ho, hop, hg⟩ := panicAt_last hx
      split at h
      · rename_i tm' hp' ans1 c1 h1
        split at h
        · rename_i ty y hev
          obtain ⟨rfl, rfl, rfl⟩ := ok_inj h
          refine wpIn_mono (Q := fun e a w => (∃ ch, e = .panic ch) ∧ Q e a w) (reg_fen hnd (by rintro ⟨_, _, ⟨_, hq⟩, _⟩; cases hq) (regOk_list ?_)) fun e a w hq => hq.2
          rw [getLast_split ho]
          refine wpList_concat (K := fun a' w' => ∃ μ, Sim ds B w₀ (η ++ μ) tm' hp' a' w') ?_ _ a w (opsR_ok hcf _ h1 hc hs fun μ a' w' hs' => ⟨rfl, μ, hs'⟩)
          rintro a' w' ⟨μ, hs'⟩
          have hv := ev_R hs'.tm x
          rw [hev] at hv
          have hv' := hv
          obtain ⟨z, hz, _⟩ := hv'
          have hw : Region.wanted o (yielded ops a'.tmps) = true := by simp [Region.wanted, hg]
          simp only [wpList, hw, if_true]
          left
          have : (execOp a'.eval o).run P w' = .halt (.panic (a'.eval x)) w' := by
            unfold execOp
            simp only [hop, hz]
            rfl
          unfold Oper.wp
          rw [this]
          exact ⟨⟨_, rfl⟩, hQ μ a' w' _ hs' ⟨_, hv, rfl⟩⟩
        · simp at h
      · simp at h
      · simp at h

/-! ### deferred calls -/
theorem deferAt_last {ops : Array Oper} {t : Tmp} (h : deferAt ops = some t) : ∃ (o : Oper) (ts : Array TypeId), ops.toList.getLast? = some o ∧ o.op = .defer ⟨.value (.tmp t), #[], ts⟩ ∧ o.guard = none ∧ o.dst = none := by
  unfold deferAt at h
  split at h
  · rename_i o ho
    split at h
    · rename_i h1 h2 h3
      simp only [Option.some.injEq] at h; subst h
      exact ⟨o, _, ho, h1, h2, h3⟩
    · simp at h
  · simp at h

/-- What was deferred, as it is. -/
def Dfr.Is (η : Env) (d : Dfr) (x : Deferred) : Prop := ∃ fs cs : Array Value, x = { target := .fn (.func d.g) cs, args := fs ++ #[] } ∧ Rs η d.first fs.toList ∧ Rs η d.caps cs.toList
theorem Dfr.Is.ext {η μ : Env} {d : Dfr} {x : Deferred} (h : d.Is η x) : d.Is (η ++ μ) x := by
  obtain ⟨fs, cs, h1, h2, h3⟩ := h
  exact ⟨fs, cs, h1, h2.ext, h3.ext⟩

theorem dBody_ok {X : Cx} {rn : Code → List SV → List SO → List Bool → Rr Fin} (hrn : ∀ c tm hp ans r ans' cc, rn c tm hp ans = .ok r ans' cc → cc → WpOk X.P c tm hp r) :
    ∀ (c : Code) (tm : List SV) (hp : List SO) (ans : List Bool) (r : Fin) (d : Dfr) (ans' : List Bool) (cc : Cnd), dBody X rn c tm hp ans = .ok (r, d) ans' cc → cc.Is →
    ∀ (B : Nat) (w₀ : World) (η : Env) (a : Act) (w : World), Sim [] B w₀ η tm hp a w → ∀ (Q : Exit → Act → World → Prop),
    (∀ μ a' w' ex x, d.Is (η ++ μ) x → Sim [x] B w₀ (η ++ μ) r.tm r.hp a' w' → r.e.Is (η ++ μ) ex → Q ex a' w') → c.wpIn (fen none) 0 X.P Q a w := by
  intro c
  induction c with
  | seq x y ihx ihy =>
    clear ihx
    intro tm hp ans r d ans' cc h hc B w₀ η a w hs Q hQ
    simp only [dBody] at h
    split at h
    · rename_i ops t hx
      split at h
      · rename_i tm2 hp2 ans2 c2 h2
        split at h
        · rename_i g first caps htm
          split at h
          · rename_i r3 ans3 c3 h3
            obtain ⟨pe, rfl, rfl⟩ := ok_inj h
            obtain ⟨rfl, rfl⟩ := Prod.mk.inj pe
            cases x <;> try (simp at hx; done)
            rename_i id ops' dr
            cases dr <;> try (simp at hx; done)
            simp only [Option.map_eq_some_iff, Prod.mk.injEq] at hx
            obtain ⟨t', ht, rfl, rfl⟩ := hx
            obtain ⟨o, ts, ho, hop, hg, hdst⟩ := deferAt_last ht
            refine wpIn_seq ?_
            show (Code.region id ops' false).wpIn Fence.wide 0 X.P _ a w
            refine wpIn_wide.2 (wp_region_list ?_)
            rw [getLast_split ho]
            refine wpList_concat (K := fun a' w' => ∃ μ, Sim [] B w₀ (η ++ μ) tm2 hp2 a' w') ?_ _ a w (opsR_ok (noCall_ok X.P) _ h2 hc.l hs fun μ a' w' hs' => ⟨rfl, μ, hs'⟩)
            rintro a' w' ⟨μ, hs'⟩
            obtain ⟨v, hv, hR⟩ := hs'.tm.get htm
            obtain ⟨fs, cs, rfl, hf, hcs⟩ := hR
            have hw : Region.wanted o (yielded ops' a'.tmps) = true := by simp [Region.wanted, hg]
            simp only [wpList, hw, if_true]
            left
            have ev : a'.eval (.tmp t') = .func (.func g) fs cs := by
              simp only [Act.eval]
              have : a'.tmps[t']? = some (.func (.func g) fs cs) := by simpa using hv
              rw [Array.getD_eq_getD_getElem?, this]; rfl
            have : (execOp a'.eval o).run X.P w' = .ok (.defer { target := .fn (.func g) cs, args := fs ++ #[] }) w' := by
              unfold execOp
              simp [hop, resolve, ev, Deferred.ofValue]
            unfold Oper.wp
            rw [this]
            simp only [Oper.upon, Act.put, hdst]
            show y.wpIn (fen none) 0 X.P Q _ w'
            refine hrn _ _ _ _ _ _ _ h3 hc.r none [{ target := .fn (.func g) cs, args := fs ++ #[] }] B w₀ (η ++ μ) { tmps := a'.tmps, defers := _ :: a'.defers } w' ⟨hs'.tm, ?_, hs'.hr, hs'.below, hs'.hB⟩ Q fun μ' a'' w'' ex hs'' hex => ?_
            · simp [hs'.df]
            · exact hQ (μ ++ μ') a'' w'' ex _ ⟨fs, cs, rfl, by simpa using hf.ext (μ := μ'), by simpa using hcs.ext (μ := μ')⟩ (by simpa using hs'') (by simpa using hex)
          · simp at h
          · simp at h
        · simp at h
      · simp at h
      · simp at h
    · split at h
      · rename_i r1 ans1 c1 h1
        split at h
        · rename_i he
          split at h
          · rename_i z ans2 c2 h2
            obtain ⟨rfl, rfl, rfl⟩ := ok_inj h
            refine wpIn_seq (hrn _ _ _ _ _ _ _ h1 hc.l none [] B w₀ η a w hs _ fun μ a' w' ex hs' hex => ?_)
            rw [he] at hex
            simp only [XE.Is] at hex
            subst hex
            exact ihy _ _ _ _ _ _ _ h2 hc.r B w₀ (η ++ μ) a' w' hs' Q fun μ' a'' w'' ex x hx hs'' hex => hQ (μ ++ μ') a'' w'' ex x (by simpa using hx) (by simpa using hs'') (by simpa using hex)
          · simp at h
          · simp at h
        · simp at h
      · simp at h
      · simp at h
  | _ => intro tm hp ans r d ans' cc h; simp [dBody] at h

theorem wpOpsS_of {P : Program} {ops : Array Oper} {cs : List Frame} {Q : Exit → Act → List Frame → World → Prop} (hQ : ¬ LetsOut (fun e a w => Q e a cs w)) : ∀ (l : List Nat) (a : Act) (w : World),
    wpOps P ops (fun e a w => Q e a cs w) l a w → wpOpsS P ops Q l a cs w
  | [], a, w, h => h
  | i :: l, a, w, h => by
    simp only [wpOps] at h
    simp only [wpOpsS]
    cases ho : ops[i]? with
    | none =>
      simp only [ho] at h
      exact wpOpsS_of hQ l a w h
    | some o =>
      simp only [ho] at h ⊢
      by_cases hw : Region.wanted o (yielded ops a.tmps) = true
      · simp only [hw, if_true] at h ⊢
        rcases h with h | h
        · unfold Oper.wp at h
          generalize (execOp a.eval o).run P w = res at h
          cases res with
          | ok x w' =>
            cases x <;> simp only [Oper.upon] at h ⊢
            case value v => exact wpOpsS_of hQ l _ _ h
            case skip => exact wpOpsS_of hQ l _ _ h
            case defer d => exact wpOpsS_of hQ l _ _ h
            case enter f args =>
              refine h.mono fun e w'' he => ?_
              cases e with
              | returned v => exact wpOpsS_of hQ l _ _ he
              | panicked ch => exact he
              | outgrown => exact he
            case row row args => exact h.mono fun v w'' he => wpOpsS_of hQ l _ _ he
          | halt x w' => cases x <;> simp only [Oper.upon] at h ⊢ <;> exact h
        · exact absurd h.2 hQ
      · simp only [hw, if_false, Bool.false_eq_true] at h ⊢
        exact wpOpsS_of hQ l _ _ h

/-- The two ways in which a deferred call is come to. -/
inductive Came (η : Env) : SV → FrameMode → Prop where
  | returning : Came η (.val .nilIface) .returning
  | panicking {s : SV} {v : Value} : R η s v → Came η s (.panicking [{ v, recovered := false }])

theorem isRecover_op {o : Oper} (h : isRecover o = true) : o.guard = none ∧ ∃ ts, o.op = .call ⟨.builtin .recover, #[], ts⟩ := by
  unfold isRecover at h
  split at h
  · rename_i h1 h2; exact ⟨h2, _, h1⟩
  · simp at h

theorem Came.ext {η μ : Env} {s : SV} {u : FrameMode} (h : Came η s u) : Came (η ++ μ) s u := by
  cases h with
  | returning => exact .returning
  | panicking h => exact .panicking h.ext

theorem recR_ok {X : Cx} {rn : Code → List SV → List SO → List Bool → Rr Fin} (hrn : ∀ c tm hp ans r ans' cc, rn c tm hp ans = .ok r ans' cc → cc → WpOk X.P c tm hp r)
    {g : FuncId} {args : List SV} {rc : SV} {hp hp' : List SO} {ans ans' : List Bool} {c : Cnd} (h : recR X rn g args rc hp ans = .ok hp' ans' c) (hc : c.Is)
    {B : Nat} {η : Env} {w : World} {vs : List Value} (hr : HR B η hp w) (hB : B ≤ w.heap.size) (hargs : Rs η args vs) {u : FrameMode} (hu : Came η rc u) :
    (callFunc g vs.toArray).run X.P w = .ok (.enter g vs.toArray) w ∧
    CallsD X.P g vs.toArray u w (fun e u' w' => Go.settle u' = FrameMode.returning ∧ ∃ v μ, e = .returned v ∧ HR B (η ++ μ) hp' w' ∧ Below B w w') := by
  unfold recR at h
  split at h
  · simp at h
  · rename_i fn hf
    split at h
    · simp at h
    · rename_i hn
      split at h
      · rename_i id ops y hb
        split at h
        · simp at h
        · rename_i o rest hops
          split at h
          · rename_i hrec
            split at h
            · rename_i tm1 hp1 ans1 c1 h1
              split at h
              · rename_i r ans2 c2 h2
                have hrun : (callFunc g vs.toArray).run X.P w = .ok (.enter g vs.toArray) w := by
                  have hn' : (fn.name == "runtime.NumGoroutine") = false := by simpa using hn
                  simp only [callFunc, Sem.run_bind, run_program, Result.andThen_ok, hf, hn', Bool.false_eq_true, if_false, hb, Option.isNone_some, Sem.run_pure]
                refine ⟨hrun, ?_⟩
                have fin : ∃ z, (∀ id, r.e ≠ .exit id) ∧ (∀ s, r.e ≠ .panic s) ∧ resultsS X.P fn r.tm r.hp = some z ∧ hp' = r.hp ∧ c = c1.and c2 := by
                  split at h
                  · simp at h
                  · simp at h
                  · rename_i n1 n2
                    split at h
                    · rename_i z hz
                      obtain ⟨rfl, _, rfl⟩ := ok_inj h
                      exact ⟨z, fun id e => n1 id e, fun s e => n2 s e, hz, rfl, rfl⟩
                    · simp at h
                obtain ⟨z, n1, n2, hz, rfl, rfl⟩ := fin
                refine callsD_of_wpS hf hb fun c₀ cs hmode => ?_
                obtain ⟨hg, ts, hop⟩ := isRecover_op hrec
                have hl := hargs.length
                have tm0 : Rs η (args ++ List.replicate (fn.ntmps - args.length) (.val undef)) (vs.toArray ++ Array.replicate (fn.ntmps - vs.toArray.size) undef).toList := by
                  simp only [Array.toList_append, Array.toList_replicate, List.size_toArray]
                  rw [hl]
                  exact hargs.append (Rs.replicate _ (by simp only [R]))
                generalize htmps : (vs.toArray ++ Array.replicate (fn.ntmps - vs.toArray.size) undef) = tmps at tm0
                -- what 'recover' says
                have key : ∃ x cs', recoverD (c₀ :: cs) = x ∧ ((∃ v, x = some (v, cs') ∧ R η rc v) ∨ (x = none ∧ cs' = c₀ :: cs ∧ rc = .val .nilIface)) ∧ ∃ u', Go.settle u' = FrameMode.returning ∧ cs' = { c₀ with mode := u' } :: cs := by
                  cases hu with
                  | returning =>
                    refine ⟨none, c₀ :: cs, by simp [recoverD, hmode], .inr ⟨rfl, rfl, rfl⟩, .returning, rfl, by rw [← hmode]⟩
                  | panicking hv =>
                    rename_i v
                    refine ⟨some (v, { c₀ with mode := .panicking ({ v := v, recovered := true } :: []) } :: cs), _, by simp [recoverD, hmode], .inl ⟨v, rfl, hv⟩, .panicking [{ v := v, recovered := true }], rfl, rfl⟩
                obtain ⟨x, cs', hx, hcase, u', hset, hcs'⟩ := key
                refine wpS_seq ?_
                have rest_ok : ∀ v, R η rc v → wpOpsS X.P ops (Exit.thenS (y.wpS X.P (bodyPostS X.P fn c₀ cs fun e u' w' => Go.settle u' = FrameMode.returning ∧ ∃ v μ, e = .returned v ∧ HR B (η ++ μ) r.hp w' ∧ Below B w w')) (bodyPostS X.P fn c₀ cs fun e u' w' => Go.settle u' = FrameMode.returning ∧ ∃ v μ, e = .returned v ∧ HR B (η ++ μ) r.hp w' ∧ Below B w w'))
                    (List.range' 1 rest.length) (Act.put { tmps := tmps, defers := [] } o.dst v) cs' w := by
                  intro v hv
                  refine wpOpsS_of ?_ _ _ _ ?_
                  · rintro ⟨_, _, u'', hh, v, _, he, _⟩
                    cases he
                  rw [wpOps_eq_wpList (ops := ops) rest 1 (fun j => by rw [← Array.getElem?_toList, hops, Nat.add_comm]; rfl)]
                  refine opsR_ok (noCall_ok X.P) (ds := []) (B := B) (w₀ := w) (η := η) rest h1 hc.l ⟨putS_ok (a := { tmps := tmps, defers := [] }) o.dst tm0 hv, by rw [put_defers], hr, Below.refl _ _, hB⟩ fun μ a' w' hs' => ?_
                  show y.wpS X.P _ a' cs' w'
                  refine wpS_of_wp ((wpIn_wide (n := 0)).1 (hrn _ _ _ _ _ _ _ h2 hc.r none [] B w (η ++ μ) a' w' hs' _ fun μ' a'' w'' ex hs'' hex => ?_))
                  obtain ⟨z', hR, hzr⟩ := resultsS_ok hs''.hr hs''.tm hz
                  have done : a''.defers = [] ∧ ∃ u', cs' = { c₀ with mode := u' } :: cs ∧ ∃ v, (results fn a''.tmps).run X.P w'' = .ok v w'' ∧ (Go.settle u' = FrameMode.returning ∧ ∃ v_1 μ, Ending.returned v = .returned v_1 ∧ HR B (η ++ μ) r.hp w'' ∧ Below B w w'') :=
                    ⟨hs''.df, u', hcs', z', hzr, hset, z', μ ++ μ', rfl, by simpa using hs''.hr, hs''.below⟩
                  cases hre : r.e with
                  | normal => rw [hre] at hex; simp only [XE.Is] at hex; subst hex; exact done
                  | ret => rw [hre] at hex; simp only [XE.Is] at hex; subst hex; exact done
                  | exit id => exact absurd hre (n1 id)
                  | panic s => exact absurd hre (n2 s)
                refine wpS_region ?_
                have hsz : List.range ops.size = 0 :: List.range' 1 rest.length := by
                  rw [← Array.length_toList, hops, List.length_cons, List.range_eq_range', List.range'_succ]
                rw [hsz]
                have h0 : ops[0]? = some o := by rw [← Array.getElem?_toList, hops]; rfl
                simp only [wpOpsS, h0]
                have hw : Region.wanted o (yielded ops tmps) = true := by simp [Region.wanted, hg]
                rw [if_pos hw]
                have hexec : ∀ ρ : Operand → Value, (execOp ρ o).run X.P w = .ok .recover w := by
                  intro ρ
                  unfold execOp
                  simp only [hop]
                  rfl
                rw [hexec]
                simp only [hx]
                rcases hcase with ⟨v, rfl, hv⟩ | ⟨rfl, rfl, rfl⟩
                · exact rest_ok v hv
                · exact rest_ok .nilIface (by simp only [R])
              · simp at h
              · simp at h
            · simp at h
            · simp at h
          · simp at h
      · simp at h

theorem dBodyR_ok {X : Cx} {rn : Code → List SV → List SO → List Bool → Rr Fin} (hrn : ∀ c tm hp ans r ans' cc, rn c tm hp ans = .ok r ans' cc → cc → WpOk X.P c tm hp r)
    {f : FuncId} {fn : Func} {c : Code} (hf : X.P.funcs[f]? = some fn) (hb : fn.body = some c) {args : List SV} {hp hp' : List SO} {ans ans' : List Bool} {s : SV} {cc : Cnd}
    (h : dBodyR X rn fn c args hp ans = .ok (s, hp') ans' cc) (hc : cc) {B : Nat} {η : Env} {w : World} {vs : List Value} (hr : HR B η hp w) (hB : B ≤ w.heap.size) (hargs : Rs η args vs) :
    Calls X.P f vs.toArray w (fun e w' => ∃ v μ, e = .returned v ∧ R (η ++ μ) s v ∧ HR B (η ++ μ) hp' w' ∧ Below B w w') := by
  unfold dBodyR at h
  split at h
  · rename_i r d ans1 c1 h1
    split at h
    · rename_i rc hrc
      split at h
      · rename_i hp2 ans2 c2 h2
        split at h
        · rename_i s' hres
          obtain ⟨pe, rfl, rfl⟩ := ok_inj h
          obtain ⟨rfl, rfl⟩ := Prod.mk.inj pe
          refine calls_of_wp_defers hf hb ?_
          have hl := hargs.length
          refine (wpIn_wide (n := 0)).1 (dBody_ok hrn _ _ _ _ _ _ _ _ h1 hc.l B w η { tmps := vs.toArray ++ Array.replicate (fn.ntmps - vs.toArray.size) undef, defers := [] } w ⟨?_, rfl, hr, Below.refl _ _, hB⟩ _ fun μ a' w' ex x hx hs' hex => ?_)
          · simp only [Array.toList_append, Array.toList_replicate, List.size_toArray]
            rw [hl]
            exact hargs.append (Rs.replicate _ (by simp only [R]))
          · obtain ⟨fs, cs, rfl, hfs, hcs⟩ := hx
            have leave : ∀ u, Came (η ++ μ) rc u → u ≠ .run → Leaves X.P fn a'.tmps (fun e w' => ∃ v μ, e = .returned v ∧ R (η ++ μ) s' v ∧ HR B (η ++ μ) hp2 w' ∧ Below B w w') a'.defers u w' := by
              intro u hu hne
              obtain ⟨g1, g2⟩ := recR_ok hrn h2 hc.r hs'.hr hs'.size (hfs.append hcs) hu
              rw [hs'.df]
              refine leaves_cons (f := d.g) (args := (fs.toList ++ cs.toList).toArray) hne ?_ ?_
              · have : fs ++ #[] ++ cs = (fs.toList ++ cs.toList).toArray := by simp
                simp only [invoke, this]
                exact g1
              · intro c₀ cs₀ hm
                obtain ⟨e, u', w'', fr, ⟨hset, v, μ', rfl, hr', hb'⟩, hcm, hk, hgo⟩ := g2 c₀ cs₀ hm
                refine ⟨_, u', w'', fr, ?_, hcm, hk, hgo⟩
                show Leaves X.P fn a'.tmps _ [] (Go.settle u') w''
                rw [hset]
                obtain ⟨z, hR, hzr⟩ := resultsS_ok hr' (Rs.ext (μ := μ') hs'.tm) hres
                exact ⟨z, hzr, z, μ ++ μ', rfl, by simpa using hR, by simpa using hr', hs'.below.trans hb'⟩
            cases hre : r.e with
            | normal =>
              rw [hre] at hex hrc; simp only [XE.Is] at hex; subst hex
              simp only [Option.some.injEq] at hrc; subst hrc
              exact leave _ .returning (by simp)
            | ret =>
              rw [hre] at hex hrc; simp only [XE.Is] at hex; subst hex
              simp only [Option.some.injEq] at hrc; subst hrc
              exact leave _ .returning (by simp)
            | exit id => rw [hre] at hrc; simp at hrc
            | panic sp =>
              rw [hre] at hex hrc; obtain ⟨v, hv, rfl⟩ := hex
              simp only [Option.some.injEq] at hrc; subst hrc
              exact leave _ (.panicking hv) (by simp)
        · simp at h
      · simp at h
      · simp at h
    · simp at h
  · simp at h
  · simp at h
end Go.Ex
namespace Go.Ex
open Go.RowKit (Below)

/-- A body that is reckoned through, as a call. -/
theorem calls_of_body {P : Program} {f : FuncId} {fn : Func} {c : Code} (hf : P.funcs[f]? = some fn) (hb : fn.body = some c) {args : List SV} {hp : List SO} {r : Fin} {s : SV}
    (hwp : WpOk P c (args ++ List.replicate (fn.ntmps - args.length) (.val undef)) hp r) (he : ∀ id, r.e ≠ .exit id) (hep : ∀ s, r.e ≠ .panic s) (hres : resultsS P fn r.tm r.hp = some s)
    {B : Nat} {η : Env} {w : World} {vs : List Value} (hr : HR B η hp w) (hB : B ≤ w.heap.size) (hargs : Rs η args vs) :
    Calls P f vs.toArray w (fun e w' => ∃ v μ, e = .returned v ∧ R (η ++ μ) s v ∧ HR B (η ++ μ) r.hp w' ∧ Below B w w') := by
  refine calls_of_wp hf hb ?_
  have hl := hargs.length
  refine (wpIn_wide (n := 0)).1 (hwp none [] B w η { tmps := vs.toArray ++ Array.replicate (fn.ntmps - vs.toArray.size) undef, defers := [] } w ⟨?_, rfl, hr, Below.refl _ _, hB⟩ _ fun μ a' w' ex hs hex => ?_)
  · simp only [Array.toList_append, Array.toList_replicate, List.size_toArray]
    rw [hl]
    exact hargs.append (Rs.replicate _ (by simp only [R]))
  · obtain ⟨v, hR, hv⟩ := resultsS_ok hs.hr hs.tm hres
    cases hre : r.e with
    | normal => rw [hre] at hex; simp only [XE.Is] at hex; subst hex; exact ⟨hs.df, v, hv, v, μ, rfl, hR, hs.hr, hs.below⟩
    | ret => rw [hre] at hex; simp only [XE.Is] at hex; subst hex; exact ⟨hs.df, v, hv, v, μ, rfl, hR, hs.hr, hs.below⟩
    | exit id => exact absurd hre (he id)
    | panic s => exact absurd hre (hep s)

theorem bodyR_ok {X : Cx} {rn : Code → List SV → List SO → List Bool → Rr Fin} (hrn : ∀ c tm hp ans r ans' cc, rn c tm hp ans = .ok r ans' cc → cc → WpOk X.P c tm hp r)
    {f : FuncId} {fn : Func} {c : Code} (hf : X.P.funcs[f]? = some fn) (hb : fn.body = some c) {args : List SV} {hp hp' : List SO} {ans ans' : List Bool} {s : SV} {cc : Cnd}
    (h : bodyR X rn fn c args hp ans = .ok (s, hp') ans' cc) (hc : cc) {B : Nat} {η : Env} {w : World} {vs : List Value} (hr : HR B η hp w) (hB : B ≤ w.heap.size) (hargs : Rs η args vs) :
    Calls X.P f vs.toArray w (fun e w' => ∃ v μ, e = .returned v ∧ R (η ++ μ) s v ∧ HR B (η ++ μ) hp' w' ∧ Below B w w') := by
  unfold bodyR at h
  split at h
  · rename_i r ans1 cc1 hrr
    split at h
    · simp at h
    · simp at h
    · rename_i hne hnp
      split at h
      · rename_i s' hs'
        obtain ⟨pe, rfl, rfl⟩ := ok_inj h
        obtain ⟨rfl, rfl⟩ := Prod.mk.inj pe
        exact calls_of_body hf hb (hrn _ _ _ _ _ _ _ hrr hc) (fun id e => hne id e) (fun s e => hnp s e) hs' hr hB hargs
      · simp at h
  · simp at h
  · exact dBodyR_ok hrn hf hb h hc hr hB hargs

theorem HR.none (w : World) : HR w.heap.size [] [] w := ⟨rfl, fun k o h => by simp at h, fun k₁ k₂ s₁ s₂ l₁ wr₂ l₂ b₁ o₁ b₂ o₂ h => by simp at h⟩

theorem callR_ok {X : Cx} (hct : CtOk X) {rn : Code → List SV → List SO → List Bool → Rr Fin} (hrn : ∀ c tm hp ans r ans' cc, rn c tm hp ans = .ok r ans' cc → cc → WpOk X.P c tm hp r) : CallOk X.P (callR X rn) := by
  intro f args hp ans s ho ans' c h hc B η w vs hr hB hargs
  unfold callR at h
  split at h
  · simp at h
  · rename_i fn hf
    split at h
    · simp at h
    · rename_i hn
      split at h
      · simp at h
      · rename_i body hb
        have hrun : (callFunc f vs.toArray).run X.P w = .ok (.enter f vs.toArray) w := by
          have hn' : (fn.name == "runtime.NumGoroutine") = false := by simpa using hn
          simp only [callFunc, Sem.run_bind, run_program, Result.andThen_ok, hf, hn', Bool.false_eq_true, if_false, hb, Option.isNone_some, Sem.run_pure]
        refine ⟨hrun, ?_⟩
        have full : whole (bodyR X rn fn body args hp ans) = .ok (s, ho) ans' c → Calls X.P f vs.toArray w (fun e w' => ∃ v μ, e = .returned v ∧ R (η ++ μ) s v ∧ HR B (η ++ μ) (ho.getD hp) w' ∧ Below B w w') := by
          intro h
          unfold whole at h
          split at h
          · rename_i s1 hp1 ans1 c1 h1
            obtain ⟨pe, rfl, rfl⟩ := ok_inj h
            obtain ⟨rfl, rfl⟩ := Prod.mk.inj pe
            exact bodyR_ok hrn hf hb h1 hc hr hB hargs
          · simp at h
          · simp at h
        split at h
        · rename_i s' ho' cc hcc
          obtain ⟨pe, rfl, rfl⟩ := ok_inj h
          obtain ⟨rfl, rfl⟩ := Prod.mk.inj pe
          exact hct f args hp s' ho' cc hcc hc B η w vs hr hB hargs
        · split at h
          · rename_i hfr
            split at h
            · rename_i s1 hp1 ans1 c1 h1
              split at h
              · rename_i hsf
                obtain ⟨pe, rfl, rfl⟩ := ok_inj h
                obtain ⟨rfl, rfl⟩ := Prod.mk.inj pe
                refine (bodyR_ok hrn hf hb h1 hc (HR.none w) (Nat.le_refl _) (Rs.free _ _ hfr hargs)).mono fun e w' hq => ?_
                obtain ⟨v, μ, rfl, hR, _, hb'⟩ := hq
                exact ⟨v, [], rfl, R.free _ _ hsf hR, by simpa using hr.below hb', hb'.mono hB⟩
              · exact full h
            · simp at h
            · simp at h
          · exact full h

theorem run_ok {X : Cx} (hct : CtOk X) (hlp : LpOk X) : ∀ (n : Nat) (c : Code) (tm : List SV) (hp : List SO) (ans : List Bool) (r : Fin) (ans' : List Bool) (cc : Cnd),
    run X n c tm hp ans = .ok r ans' cc → cc → WpOk X.P c tm hp r
  | 0, c, tm, hp, ans, r, ans', cc, h, _ => by simp [run] at h
  | n + 1, c, tm, hp, ans, r, ans', cc, h, hc => by
    have ih := run_ok hct hlp n
    intro ro ds B w₀ η a w hs Q hQ
    have here : ∀ e, r.e.Is η e → r.tm = tm → r.hp = hp → Q e a w := by
      intro e he h1 h2
      exact hQ [] a w e (by rw [h1, h2]; simpa using hs) (by simpa using he)
    cases c with
    | skip =>
      simp only [run] at h
      obtain ⟨rfl, _, _⟩ := ok_inj h
      exact wpIn_skip (here .normal rfl rfl rfl)
    | ret =>
      simp only [run] at h
      obtain ⟨rfl, _, _⟩ := ok_inj h
      exact wpIn_ret (here .ret rfl rfl rfl)
    | exit id =>
      simp only [run] at h
      obtain ⟨rfl, _, _⟩ := ok_inj h
      exact wpIn_exit (here (.exit id) rfl rfl rfl)
    | region id ops draw =>
      simp only [run] at h
      split at h
      · rename_i hnd
        split at h
        · rename_i tm' hp' ans1 c1 h1
          obtain ⟨rfl, rfl, rfl⟩ := ok_inj h
          exact regionR_ok (callR_ok hct ih) hnd h1 hc hs fun μ a' w' hs' => hQ μ a' w' _ hs' rfl
        · simp at h
        · exact panicR_ok (callR_ok hct ih) hnd h hc hs hQ
      · simp at h
    | seq x y =>
      simp only [run] at h
      split at h
      · rename_i r1 ans1 c1 h1
        split at h
        · rename_i he
          split at h
          · rename_i x' ans2 c2 h2
            obtain ⟨rfl, rfl, rfl⟩ := ok_inj h
            refine wpIn_seq (ih _ _ _ _ _ _ _ h1 hc.l ro ds B w₀ η a w hs _ fun μ a' w' ex hs' hex => ?_)
            rw [he] at hex
            simp only [XE.Is] at hex
            subst hex
            exact ih _ _ _ _ _ _ _ h2 hc.r ro ds B w₀ (η ++ μ) a' w' hs' _ fun μ' a'' w'' ex hs'' hex => hQ (μ ++ μ') a'' w'' ex (by simpa using hs'') (by simpa using hex)
          · simp at h
          · simp at h
        · rename_i hne
          obtain ⟨rfl, rfl, rfl⟩ := ok_inj h
          refine wpIn_seq (ih _ _ _ _ _ _ _ h1 hc ro ds B w₀ η a w hs _ fun μ a' w' ex hs' hex => ?_)
          have := hQ μ a' w' ex hs' hex
          cases he : r1.e with
          | normal => exact absurd he hne
          | ret => rw [he] at hex; simp only [XE.Is] at hex; subst hex; exact this
          | exit id => rw [he] at hex; simp only [XE.Is] at hex; subst hex; exact this
          | panic s => rw [he] at hex; obtain ⟨v, _, rfl⟩ := hex; exact this
      · simp at h
      · simp at h
    | cond x y z =>
      simp only [run] at h
      split at h
      · rename_i tm' ans1 c1 h1
        have fin : ∀ (b : Bool) (z' : Code) (r' : Rr Fin), ev tm' x = .bol b → c1 → run X n z' tm' hp ans1 = r' → (if b then y else z) = z' → ∀ (r2 : Fin) ans2 c2, r' = .ok r2 ans2 c2 → c2 → r = r2 → (Code.cond x y z).wpIn (fen ro) 0 X.P Q a w := by
          intro b z' r' hev k1 hr' hz r2 ans2 c2 hr2 k2 hrr
          have e1 := settle_ok h1 k1 hs.tm
          have hx := ev_R e1 x
          rw [hev] at hx
          simp only [R] at hx
          refine wpIn_cond hx ?_
          rw [hz]
          subst hrr
          rw [hr2] at hr'
          exact ih _ _ _ _ _ _ _ hr' k2 ro ds B w₀ η a w ⟨e1, hs.df, hs.hr, hs.below, hs.hB⟩ Q hQ
        split at h
        · rename_i hev
          split at h
          · rename_i r2 ans2 c2 h2
            obtain ⟨rfl, rfl, rfl⟩ := ok_inj h
            exact fin true y _ hev hc.l rfl rfl r2 ans2 c2 h2 hc.r rfl
          · simp at h
          · simp at h
        · rename_i hev
          split at h
          · rename_i r2 ans2 c2 h2
            obtain ⟨rfl, rfl, rfl⟩ := ok_inj h
            exact fin false z _ hev hc.l rfl rfl r2 ans2 c2 h2 hc.r rfl
          · simp at h
          · simp at h
        · simp at h
      · simp at h
      · simp at h
    | block id body =>
      simp only [run] at h
      split at h
      · rename_i r1 ans1 c1 h1
        split at h
        · rename_i id' he
          split at h
          · rename_i hid
            obtain ⟨rfl, rfl, rfl⟩ := ok_inj h
            refine wpIn_block (ih _ _ _ _ _ _ _ h1 hc ro ds B w₀ η a w hs _ fun μ a' w' ex hs' hex => ?_)
            rw [he] at hex
            simp only [XE.Is] at hex
            subst hex
            simp only [Exit.inBlock, hid, if_true]
            exact hQ μ a' w' _ hs' rfl
          · rename_i hid
            obtain ⟨rfl, rfl, rfl⟩ := ok_inj h
            refine wpIn_block (ih _ _ _ _ _ _ _ h1 hc ro ds B w₀ η a w hs _ fun μ a' w' ex hs' hex => ?_)
            have := hQ μ a' w' ex hs' hex
            rw [he] at hex
            simp only [XE.Is] at hex
            subst hex
            simp only [Exit.inBlock, hid, if_false]
            exact this
        · rename_i hne
          obtain ⟨rfl, rfl, rfl⟩ := ok_inj h
          refine wpIn_block (ih _ _ _ _ _ _ _ h1 hc ro ds B w₀ η a w hs _ fun μ a' w' ex hs' hex => ?_)
          have := hQ μ a' w' ex hs' hex
          cases he : r1.e with
          | normal => rw [he] at hex; simp only [XE.Is] at hex; subst hex; exact this
          | ret => rw [he] at hex; simp only [XE.Is] at hex; subst hex; exact this
          | exit id => exact absurd he (hne id)
          | panic s => rw [he] at hex; obtain ⟨v, _, rfl⟩ := hex; exact this
      · simp at h
      · simp at h
    | loop body =>
      simp only [run] at h
      split at h
      · rename_i r' hl
        subst h
        exact hlp _ _ _ _ _ _ _ hl hc ro ds B w₀ η a w hs Q hQ
      · exact wpIn_loop_rounds n (loopR_ok (P := X.P) (body := body) (rn := run X n body) (fun tm hp ans r ans' c h1 h2 => ih _ _ _ _ _ _ _ h1 h2) n tm hp ans r ans' cc h hc ro ds B w₀ η a w hs Q hQ)
    | _ => simp [run] at h

/-- **A call, reckoned through.** -/
theorem call_ok {X : Cx} (hct : CtOk X) (hlp : LpOk X) (n : Nat) {f : FuncId} {fn : Func} {c : Code} (hf : X.P.funcs[f]? = some fn) (hb : fn.body = some c) {args : List SV} {hp : List SO} (ans : List Bool)
    {r : Fin} {cc : Cnd} {s : SV} (hrun : run X n c (args ++ List.replicate (fn.ntmps - args.length) (.val undef)) hp ans = .ok r [] cc) (hc : cc) (he : ∀ id, r.e ≠ .exit id) (hep : ∀ s, r.e ≠ .panic s)
    (hres : resultsS X.P fn r.tm r.hp = some s) {B : Nat} {η : Env} {w : World} {vs : List Value} (hr : HR B η hp w) (hB : B ≤ w.heap.size) (hargs : Rs η args vs) :
    Calls X.P f vs.toArray w (fun e w' => ∃ v μ, e = .returned v ∧ R (η ++ μ) s v ∧ HR B (η ++ μ) r.hp w' ∧ Below B w w') :=
  calls_of_body hf hb (run_ok hct hlp n _ _ _ _ _ _ _ hrun hc) he hep hres hr hB hargs
end Go.Ex
namespace Go.Ex
open Go.RowKit (Below)

/-- It comes to 'true', and nothing is left open. -/
def saysTrue (r : Rr (SV × Option (List SO))) : Bool :=
  match r with
  | .ok (.bol true, _) [] .tt => true
  | _ => false

/-- **A call that is reckoned through to 'true'.** -/
theorem call_true {X : Cx} (hct : CtOk X) (hlp : LpOk X) (n : Nat) {f : FuncId} {args : List SV} {ans : List Bool} (h : saysTrue (callR X (run X n) f args [] ans) = true)
    {w : World} {vs : List Value} (hargs : Rs [] args vs) :
    Calls X.P f vs.toArray w (fun e w' => e = .returned (.bool true) ∧ Below w.heap.size w w') := by
  unfold saysTrue at h
  split at h
  · rename_i ho heq
    refine (callR_ok hct (run_ok hct hlp n) f args [] ans _ _ _ _ heq trivial w.heap.size [] w vs (HR.none w) (Nat.le_refl _) hargs).2.mono fun e w' hq => ?_
    obtain ⟨v, μ, rfl, hR, _, hb⟩ := hq
    simp only [R] at hR
    subst hR
    exact ⟨rfl, hb⟩
  · simp at h

/-- Without contracts. -/
noncomputable def plain (P : Program) : Cx := ⟨P, fun _ _ _ => none, fun _ _ _ _ => none⟩
theorem plain_ct (P : Program) : CtOk (plain P) := fun _ _ _ _ _ _ h => by simp [plain] at h
theorem plain_lp (P : Program) : LpOk (plain P) := fun _ _ _ _ _ _ _ h => by simp [plain] at h

/-! ### a table of told calls -/
structure Told (P : Program) where
  f : FuncId
  args : List SV
  s : SV
  ok : ∀ (w : World) (vs : List Value), Rs [] args vs → Calls P f vs.toArray w (fun e w' => ∃ v, e = .returned v ∧ R [] s v ∧ Below w.heap.size w w')

def Cnd.isTT : Cnd → Bool
  | .tt => true
  | _ => false
theorem Cnd.isTT_is {c : Cnd} (h : c.isTT = true) : c.Is := by cases c <;> first | trivial | (simp [Cnd.isTT] at h)

def lookTold {P : Program} : List (Told P) → FuncId → List SV → Option SV
  | [], _, _ => none
  | t :: r, f, args => if t.f = f then (if (sameCs t.args args).isTT then some t.s else lookTold r f args) else lookTold r f args
theorem lookTold_ok {P : Program} : ∀ {T : List (Told P)} {f : FuncId} {args : List SV} {s : SV}, lookTold T f args = some s → ∃ t ∈ T, t.f = f ∧ t.args = args ∧ t.s = s
  | [], _, _, _, h => by simp [lookTold] at h
  | t :: r, f, args, s, h => by
    simp only [lookTold] at h
    have next : lookTold r f args = some s → ∃ t' ∈ t :: r, t'.f = f ∧ t'.args = args ∧ t'.s = s := fun h => by
      obtain ⟨t', h1, h2⟩ := lookTold_ok h
      exact ⟨t', by simp [h1], h2⟩
    split at h
    · rename_i hf
      split at h
      · rename_i hs
        exact ⟨t, by simp, hf, sameCs_ok _ _ (Cnd.isTT_is hs), Option.some.inj h⟩
      · exact next h
    · exact next h

/-- With a table of told calls. -/
noncomputable def tabled (P : Program) (T : List (Told P)) : Cx :=
  ⟨P, fun f args _ => if frees args then (match lookTold T f args with
    | some s => if s.free then some (s, none, .tt) else none
    | none => none) else none, fun _ _ _ _ => none⟩
theorem tabled_lp (P : Program) (T : List (Told P)) : LpOk (tabled P T) := fun _ _ _ _ _ _ _ h => by simp [tabled] at h
theorem tabled_ct (P : Program) (T : List (Told P)) : CtOk (tabled P T) := by
  intro f args hp s ho c h _ B η w vs hr hB hargs
  simp only [tabled] at h
  split at h
  · rename_i hfr
    split at h
    · rename_i s' hl
      split at h
      · rename_i hsf
        simp only [Option.some.injEq, Prod.mk.injEq] at h
        obtain ⟨rfl, rfl, rfl⟩ := h
        obtain ⟨t, _, rfl, rfl, rfl⟩ := lookTold_ok hl
        refine (t.ok w vs (Rs.free _ _ hfr hargs)).mono fun e w' hq => ?_
        obtain ⟨v, rfl, hR, hb⟩ := hq
        exact ⟨v, [], rfl, R.free _ _ hsf hR, by simpa using hr.below hb, hb.mono hB⟩
      · simp at h
    · simp at h
  · simp at h

theorem told_true {X : Cx} (hct : CtOk X) (hlp : LpOk X) (n : Nat) {f : FuncId} {args : List SV} {ans : List Bool} (h : saysTrue (callR X (run X n) f args [] ans) = true)
    (w : World) (vs : List Value) (hargs : Rs [] args vs) :
    Calls X.P f vs.toArray w (fun e w' => ∃ v, e = .returned v ∧ R [] (.bol true) v ∧ Below w.heap.size w w') :=
  (call_true hct hlp n h hargs).mono fun e w' ⟨h1, h2⟩ => ⟨_, h1, by simp only [R], h2⟩
end Go.Ex
namespace Go.Ex
open Go.RowKit (Below)

/-- Contracts: what a call gives, out of its arguments and what is in memory, and under which condition; memory stays. -/
structure Con (P : Program) where
  g : FuncId → List SV → List SO → Option (SV × Cnd)
  ok : ∀ f args hp s c, g f args hp = some (s, c) → c.Is → ∀ (B : Nat) (η : Env) (w : World) (vs : List Value), HR B η hp w → Rs η args vs →
    Calls P f vs.toArray w (fun e w' => ∃ v, e = .returned v ∧ R [] s v ∧ Below w.heap.size w w')

/-- One function's, that reads memory. -/
def Con.oneH {P : Program} (f : FuncId) (g : List SV → List SO → Option (SV × Cnd)) (ok : ∀ args hp s c, g args hp = some (s, c) → c.Is → ∀ (B : Nat) (η : Env) (w : World) (vs : List Value), HR B η hp w → Rs η args vs →
    Calls P f vs.toArray w (fun e w' => ∃ v, e = .returned v ∧ R [] s v ∧ Below w.heap.size w w')) : Con P :=
  ⟨fun f' args hp => if f' = f then g args hp else none, fun f' args hp s c h => by
    split at h
    · rename_i e; subst e; exact ok args hp s c h
    · simp at h⟩
/-- One function's. -/
def Con.one {P : Program} (f : FuncId) (g : List SV → Option (SV × Cnd)) (ok : ∀ args s c, g args = some (s, c) → c.Is → ∀ (w : World) (vs : List Value), Rs [] args vs →
    Calls P f vs.toArray w (fun e w' => ∃ v, e = .returned v ∧ R [] s v ∧ Below w.heap.size w w')) : Con P :=
  ⟨fun f' args _ => if f' = f then (if frees args then g args else none) else none, fun f' args hp s c h hc B η w vs _ hv => by
    split at h
    · rename_i e; subst e
      split at h
      · rename_i hfr
        exact ok args s c h hc w vs (Rs.free _ _ hfr hv)
      · simp at h
    · simp at h⟩
def Con.or {P : Program} (A B : Con P) : Con P :=
  ⟨fun f args hp => match A.g f args hp with | some r => some r | none => B.g f args hp, fun f args hp s c h => by
    split at h
    · rename_i r hr
      simp only [Option.some.injEq] at h; subst h
      exact A.ok f args hp s c hr
    · exact B.ok f args hp s c h⟩
def Con.nil {P : Program} : Con P := ⟨fun _ _ _ => none, fun _ _ _ _ _ h => by simp at h⟩
/-- A table of told calls. -/
def Con.told {P : Program} (T : List (Told P)) : Con P :=
  ⟨fun f args _ => if frees args then (match lookTold T f args with | some s => some (s, .tt) | none => none) else none, fun f args hp s c h _ B η w vs _ hv => by
    split at h
    · rename_i hfr
      split at h
      · rename_i s' hl
        simp only [Option.some.injEq, Prod.mk.injEq] at h
        obtain ⟨rfl, rfl⟩ := h
        obtain ⟨t, _, rfl, rfl, rfl⟩ := lookTold_ok hl
        exact t.ok w vs (Rs.free _ _ hfr hv)
      · simp at h
    · simp at h⟩

/-- With contracts. -/
noncomputable def conned {P : Program} (C : Con P) : Cx :=
  ⟨P, fun f args hp => match C.g f args hp with
    | some (s, c) => if s.free then some (s, none, c) else none
    | none => none, fun _ _ _ _ => none⟩
theorem conned_lp {P : Program} (C : Con P) : LpOk (conned C) := fun _ _ _ _ _ _ _ h => by simp [conned] at h
theorem conned_ct {P : Program} (C : Con P) : CtOk (conned C) := by
  intro f args hp s ho c h hc B η w vs hr hB hargs
  simp only [conned] at h
  split at h
  · rename_i s' c' hl
    split at h
    · rename_i hsf
      simp only [Option.some.injEq, Prod.mk.injEq] at h
      obtain ⟨rfl, rfl, rfl⟩ := h
      refine (C.ok f args hp _ _ hl hc B η w vs hr hargs).mono fun e w' hq => ?_
      obtain ⟨v, rfl, hR, hb⟩ := hq
      exact ⟨v, [], rfl, R.free _ _ hsf hR, by simpa using hr.below hb, hb.mono hB⟩
    · simp at h
  · simp at h

/-- **A call of a function, reckoned through on an empty heap: what it gives.** -/
theorem con_of {P : Program} (C : Con P) (n : Nat) {f : FuncId} {args : List SV} (ans : List Bool) {s : SV} {ho : Option (List SO)} {c : Cnd}
    (h : callR (conned C) (run (conned C) n) f args [] ans = .ok (s, ho) [] c) (hc : c.Is) (hs : s.free = true) {w : World} {vs : List Value} (hargs : Rs [] args vs) :
    Calls P f vs.toArray w (fun e w' => ∃ v, e = .returned v ∧ R [] s v ∧ Below w.heap.size w w') := by
  refine (callR_ok (conned_ct C) (run_ok (conned_ct C) (conned_lp C) n) f args [] ans _ _ _ _ h hc w.heap.size [] w vs (HR.none w) (Nat.le_refl _) hargs).2.mono fun e w' hq => ?_
  obtain ⟨v, μ, rfl, hR, _, hb⟩ := hq
  exact ⟨v, rfl, R.free _ _ hs hR, hb⟩

/-- The result, the answers used up, what is left to show; and what is owed of sameness. -/
def outc (r : Rr (SV × Option (List SO))) (s : SV) (L : List Prop) : Option (SV × List Prop × List SV) × Option (SV × List Prop × List SV) :=
  match r with
  | .ok (s', _) [] c => (some (s', c.props [], c.lefts []), some (s, L, c.rights []))
  | _ => (none, some (s, L, []))
def gives (r : Rr (SV × Option (List SO))) (s : SV) (L : List Prop) : Prop := (outc r s L).1 = (outc r s L).2
theorem con_gives {P : Program} (C : Con P) (n : Nat) {f : FuncId} {args : List SV} (ans : List Bool) {s : SV} {L : List Prop}
    (h : gives (callR (conned C) (run (conned C) n) f args [] ans) s L) (hc : AllP L) (hs : s.free = true) {w : World} {vs : List Value} (hargs : Rs [] args vs) :
    Calls P f vs.toArray w (fun e w' => ∃ v, e = .returned v ∧ R [] s v ∧ Below w.heap.size w w') := by
  unfold gives at h
  generalize hr : callR (conned C) (run (conned C) n) f args [] ans = r at h
  unfold outc at h
  split at h
  · rename_i s' ho c'
    simp only [Option.some.injEq, Prod.mk.injEq] at h
    obtain ⟨rfl, rfl, h3⟩ := h
    exact con_of C n ans hr (Cnd.is_of c' [] [] [] hc h3 rfl).1 hs hargs
  · simp at h
end Go.Ex
namespace Go.Ex
open Go.RowKit (Below)

/-- Behind a call that leaves all below alone the arguments read as they did. -/
theorem trodAll_below {H : Type} {enc : TypeId × Value → H} {P : Program} (hl : laidOutB P = true) {W W' : World} (hb : Below W.heap.size W W') :
    ∀ {ts : List TypeId} {vs : List Value} {ds : List (DataW H)} {ps : List MemPlace}, (ts.all fun t => P.readableRec t && decide (t < P.types.size)) = true →
    DataW.TrodAll enc P W 0 (fun _ => true) true ts vs ds ps → DataW.TrodAll enc P W' 0 (fun b => decide (b < W.heap.size)) true ts vs ds ps
  | [], [], [], _, _, h => h
  | [], [], _ :: _, _, _, h => h.elim
  | [], _ :: _, _, _, _, h => h.elim
  | _ :: _, [], _, _, _, h => h.elim
  | _ :: _, _ :: _, [], _, _, h => h.elim
  | t :: ts, v :: vs, d :: ds, ps, ht, h => by
    obtain ⟨p, q, h1, h2, rfl⟩ := h
    simp only [List.all_cons, Bool.and_eq_true, decide_eq_true_eq] at ht
    have lt : ∀ x ∈ p, x.block < W.heap.size := by
      obtain ⟨m, hm⟩ := h1
      exact DataW.trod_lt m _ _ _ hm
    exact ⟨p, q, Below.trod hl ht.1.1 ht.1.2 h1 hb lt, trodAll_below hl hb ht.2 h2, rfl⟩

/-- Cells, one behind the other. -/
def CellsAre (P : Program) (W : World) (base : Nat) : List TypeId → List Value → Prop
  | [], cs => cs = []
  | u :: us, cs => ∃ x r, cs = x :: r ∧ Cell.okWide P W .any base u x ∧ CellsAre P W base us r
theorem CellsAre.of {P : Program} {W : World} {base : Nat} : ∀ (ts : List TypeId) (cs : List Value), cs.length = ts.length →
    (∀ (i : Nat) (u : TypeId) (v : Value), ts[i]? = some u → cs[i]? = some v → Cell.okWide P W .any base u v) → CellsAre P W base ts cs
  | [], cs, hl, _ => by simpa [CellsAre] using hl
  | u :: us, [], hl, _ => by simp at hl
  | u :: us, x :: r, hl, h => ⟨x, r, rfl, h 0 u x rfl rfl, CellsAre.of us r (by simpa using hl) fun i u' v h1 h2 => h (i + 1) u' v (by simpa using h1) (by simpa using h2)⟩

theorem cells_of {P : Program} {W : World} {base : Nat} {t : TypeId} {ts : List TypeId} {v : Value} (hts : P.cellTypes P.depth t = some ts) (hn : P.cellsOf t = ts.length) (ha : tagg P t = some true)
    (h : Value.okWide P W .any base t v) : ∃ cs : Array Value, v = .agg cs ∧ CellsAre P W base ts cs.toList := by
  have key : ∃ cs, v = .agg cs ∧ cs.size = P.cellsOf t ∧ Row.okWide P W .any base t cs := by
    unfold Value.okWide at h
    unfold tagg at ha
    split at h
    · exact h
    · exact h
    · rename_i n1 n2
      cases hu : P.underlying t with
      | none => simp [hu] at ha
      | some d => cases d <;> simp_all
  obtain ⟨cs, rfl, hs, ts', hts', _, hrow⟩ := key
  rw [hts] at hts'
  obtain rfl := Option.some.inj hts'
  refine ⟨cs, rfl, CellsAre.of ts cs.toList (by simp [hs, hn]) fun i u x hu hx => ?_⟩
  obtain ⟨u', hu', hc⟩ := hrow i x (by simpa using hx)
  have hlt : i < ts.length := (List.getElem?_eq_some_iff.1 hu).1
  rw [Nat.mod_eq_of_lt hlt, hu] at hu'
  obtain rfl := Option.some.inj hu'
  exact hc

theorem cell_int {P : Program} {W : World} {base : Nat} {u : TypeId} {k : IntKind} {x : Value} (hu : P.underlying u = some (.int k)) (h : Cell.okWide P W .any base u x) : ∃ z, x = .int k z ∧ k.has z := by
  simp only [Cell.okWide, hu] at h
  cases x <;> simp_all [Cell.ok]
theorem cell_bool {P : Program} {W : World} {base : Nat} {u : TypeId} {x : Value} (hu : P.underlying u = some .bool) (h : Cell.okWide P W .any base u x) : ∃ b, x = .bool b := by
  simp only [Cell.okWide, hu] at h
  cases x <;> simp_all [Cell.ok]
theorem cell_string {P : Program} {W : World} {base : Nat} {u : TypeId} {x : Value} (hu : P.underlying u = some .string) (h : Cell.okWide P W .any base u x) : ∃ s, x = .string s ∧ (s.size : Int) ≤ IntKind.i64.max := by
  simp only [Cell.okWide, hu] at h
  cases x <;> simp_all [Cell.ok]
/-- An argument of one cell. -/
theorem val_cell {P : Program} {W : World} {base : Nat} {t : TypeId} {v : Value} (ha : tagg P t = some false) (h : Value.okWide P W .any base t v) : Cell.okWide P W .any base t v := by
  unfold Value.okWide at h
  unfold tagg at ha
  split at h
  · rename_i fs hu; simp [hu] at ha
  · rename_i n e hu; simp [hu] at ha
  · exact h
end Go.Ex
namespace Go.Ex

/-! ### plain facts on numbers and bytes -/
theorem wu8 (x : Int) : IntKind.u8.wrap x = x % 256 := by
  simp [IntKind.wrap, IntKind.bits, IntKind.signed]
theorem wu16 (x : Int) : IntKind.u16.wrap x = x % 65536 := by
  simp [IntKind.wrap, IntKind.bits, IntKind.signed]
theorem wu32 (x : Int) : IntKind.u32.wrap x = x % 4294967296 := by
  simp [IntKind.wrap, IntKind.bits, IntKind.signed]
theorem wu64 (x : Int) : IntKind.u64.wrap x = x % 18446744073709551616 := by
  simp [IntKind.wrap, IntKind.bits, IntKind.signed]
theorem wi64 (x : Int) : IntKind.i64.wrap x = (x + 9223372036854775808) % 18446744073709551616 - 9223372036854775808 := by
  simp only [IntKind.wrap, IntKind.bits, IntKind.signed, Bool.true_and]
  simp only [Nat.add_one_sub_one, Int.reducePow]
  split
  · rename_i h
    have h := of_decide_eq_true h
    omega
  · rename_i h
    have h : ¬ (x % 18446744073709551616 ≥ 9223372036854775808) := fun e => h (decide_eq_true e)
    omega
theorem fd (x b : Int) (hb : 0 ≤ b) : x.fdiv b = x / b := Int.fdiv_eq_ediv_of_nonneg x hb
theorem td (x b : Int) (hx : 0 ≤ x) : x.tdiv b = x / b := Int.tdiv_eq_ediv_of_nonneg hx
theorem tm (x b : Int) (hx : 0 ≤ x) : x.tmod b = x % b := Int.tmod_eq_emod_of_nonneg hx

theorem ba_beq (a b : ByteArray) : (a == b) = decide (a = b) := by
  have e : (a == b) = (a.data == b.data) := by cases a; cases b; rfl
  rw [e]
  by_cases h : a = b
  · subst h; simp
  · have : a.data ≠ b.data := fun e => h (ByteArray.ext e)
    rw [beq_eq_false_iff_ne.2 this]; simp [h]
theorem ba_toList_beq (a b : ByteArray) : (a.toList == b.toList) = decide (a = b) := by
  rw [ByteArray.toList_eq, ByteArray.toList_eq]
  by_cases h : a = b
  · subst h; simp
  · have : a.data.toList ≠ b.data.toList := fun e => h (ByteArray.ext (Array.toList_inj.1 e))
    rw [beq_eq_false_iff_ne.2 this]; simp [h]
theorem ba_none (a : ByteArray) : a = ByteArray.mk #[] ↔ a.size = 0 := by
  refine ⟨fun h => by rw [h]; rfl, fun h => ?_⟩
  apply ByteArray.ext
  apply Array.eq_empty_of_size_eq_zero
  exact h
theorem byteAt_eq (s : ByteArray) (i : Nat) (h : i < s.size) : byteAt s (i : Int) = ((bAt s i).toNat : Int) := by
  have h' : i < s.data.size := h
  simp only [byteAt, bAt, Int.toNat_natCast, h, dif_pos, Array.getElem?_eq_getElem h', Option.getD_some]
  rfl
theorem byte_lt (b : UInt8) : b.toNat < 256 := b.toNat_lt
/-- one byte more, by shift and or -/
theorem orB (x b : Nat) (hx : x < 72057594037927936) (hb : b < 256) : (BitVec.ofInt 64 ((x : Int) * 256) ||| BitVec.ofInt 64 (b : Int)).toNat = x * 256 + b := by
  have e1 : BitVec.ofInt 64 ((x : Int) * 256) = BitVec.ofNat 64 (x * 256) := by
    rw [show ((x : Int) * 256) = ((x * 256 : Nat) : Int) by omega, BitVec.ofInt_natCast]
  rw [e1, BitVec.ofInt_natCast, BitVec.toNat_or, BitVec.toNat_ofNat, BitVec.toNat_ofNat, Nat.mod_eq_of_lt (by omega), Nat.mod_eq_of_lt (by omega)]
  have := Nat.shiftLeft_add_eq_or_of_lt (i := 8) (b := b) (by simpa using hb) x
  rw [Nat.shiftLeft_eq] at this
  rw [← this]
theorem orI (x b : Int) (hx0 : 0 ≤ x) (hx : x < 72057594037927936) (hb0 : 0 ≤ b) (hb : b < 256) : ((BitVec.ofInt 64 (x * 256) ||| BitVec.ofInt 64 b).toNat : Int) = x * 256 + b := by
  obtain ⟨y, rfl⟩ := Int.eq_ofNat_of_zero_le hx0
  obtain ⟨c, rfl⟩ := Int.eq_ofNat_of_zero_le hb0
  have := orB y c (by omega) (by omega)
  omega
theorem or0 (b : Int) (hb0 : 0 ≤ b) (hb : b < 256) : ((BitVec.ofInt 64 0 ||| BitVec.ofInt 64 b).toNat : Int) = b := by
  have := orI 0 b (by omega) (by omega) hb0 hb
  simpa using this
/-- A byte of a number. -/
def u8 (x : Int) : UInt8 := UInt8.ofNat x.toNat
theorem u8_of {x y : Int} (h : x = y) : UInt8.ofNat x.toNat = u8 y := by rw [h, u8]
theorem u8_toNat (x : Int) (h0 : 0 ≤ x) (h : x < 256) : ((u8 x).toNat : Int) = x := by
  obtain ⟨y, rfl⟩ := Int.eq_ofNat_of_zero_le h0
  simp only [u8, Int.toNat_natCast] at *
  simp
  omega
/-- numbers, of bytes -/
theorem wub (a : UInt8) : IntKind.u64.wrap (a.toNat : Int) = a.toNat := by
  have := a.toNat_lt
  rw [wu64]; omega
theorem firstOr (b : UInt8) : ((BitVec.ofInt 64 (0 : Int) ||| BitVec.ofInt 64 (IntKind.u64.wrap (b.toNat : Int))).toNat : Int) = b.toNat := by
  have := b.toNat_lt
  rw [wub, or0 _ (by omega) (by omega)]
theorem stepOr (x : Int) (b : UInt8) (h0 : 0 ≤ x) (h : x < 72057594037927936) :
    ((BitVec.ofInt 64 (IntKind.u64.wrap (IntKind.u64.wrap x * 256)) ||| BitVec.ofInt 64 (IntKind.u64.wrap (b.toNat : Int))).toNat : Int) = x * 256 + b.toNat := by
  have := b.toNat_lt
  rw [wub, wu64 x, Int.emod_eq_of_lt h0 (by omega), wu64, Int.emod_eq_of_lt (by omega) (by omega), orI x _ h0 h (by omega) (by omega)]
def n2 (a b : UInt8) : Int := (a.toNat : Int) * 256 + b.toNat
def n4 (a b c d : UInt8) : Int := (((a.toNat : Int) * 256 + b.toNat) * 256 + c.toNat) * 256 + d.toNat
def n8 (a b c d e f g h : UInt8) : Int := (((((((a.toNat : Int) * 256 + b.toNat) * 256 + c.toNat) * 256 + d.toNat) * 256 + e.toNat) * 256 + f.toNat) * 256 + g.toNat) * 256 + h.toNat
theorem n4_range (a b c d : UInt8) : 0 ≤ n4 a b c d ∧ n4 a b c d < 4294967296 := by
  have := a.toNat_lt; have := b.toNat_lt; have := c.toNat_lt; have := d.toNat_lt
  unfold n4; omega
theorem n2_range (a b : UInt8) : 0 ≤ n2 a b ∧ n2 a b < 65536 := by
  have := a.toNat_lt; have := b.toNat_lt
  unfold n2; omega
theorem or2 (a b : UInt8) : ((BitVec.ofInt 64 (IntKind.u64.wrap (IntKind.u64.wrap ((BitVec.ofInt 64 (0 : Int) ||| BitVec.ofInt 64 (IntKind.u64.wrap (a.toNat : Int))).toNat : Int) * 256)) ||| BitVec.ofInt 64 (IntKind.u64.wrap (b.toNat : Int))).toNat : Int) = n2 a b := by
  have := a.toNat_lt
  rw [firstOr, stepOr _ b (by omega) (by omega), n2]
theorem or4 (a b c d : UInt8) : ((BitVec.ofInt 64 (IntKind.u64.wrap (IntKind.u64.wrap ((BitVec.ofInt 64 (IntKind.u64.wrap (IntKind.u64.wrap ((BitVec.ofInt 64 (IntKind.u64.wrap (IntKind.u64.wrap ((BitVec.ofInt 64 (0 : Int) ||| BitVec.ofInt 64 (IntKind.u64.wrap (a.toNat : Int))).toNat : Int) * 256)) ||| BitVec.ofInt 64 (IntKind.u64.wrap (b.toNat : Int))).toNat : Int) * 256)) ||| BitVec.ofInt 64 (IntKind.u64.wrap (c.toNat : Int))).toNat : Int) * 256)) ||| BitVec.ofInt 64 (IntKind.u64.wrap (d.toNat : Int))).toNat : Int) = n4 a b c d := by
  have := a.toNat_lt; have := b.toNat_lt; have := c.toNat_lt
  rw [firstOr, stepOr _ b (by omega) (by omega), stepOr _ c (by omega) (by omega), stepOr _ d (by omega) (by omega), n4]
theorem or8 (a b c d e f g h : UInt8) : ((BitVec.ofInt 64 (IntKind.u64.wrap (IntKind.u64.wrap ((BitVec.ofInt 64 (IntKind.u64.wrap (IntKind.u64.wrap ((BitVec.ofInt 64 (IntKind.u64.wrap (IntKind.u64.wrap ((BitVec.ofInt 64 (IntKind.u64.wrap (IntKind.u64.wrap ((BitVec.ofInt 64 (IntKind.u64.wrap (IntKind.u64.wrap ((BitVec.ofInt 64 (IntKind.u64.wrap (IntKind.u64.wrap ((BitVec.ofInt 64 (IntKind.u64.wrap (IntKind.u64.wrap ((BitVec.ofInt 64 (0 : Int) ||| BitVec.ofInt 64 (IntKind.u64.wrap (a.toNat : Int))).toNat : Int) * 256)) ||| BitVec.ofInt 64 (IntKind.u64.wrap (b.toNat : Int))).toNat : Int) * 256)) ||| BitVec.ofInt 64 (IntKind.u64.wrap (c.toNat : Int))).toNat : Int) * 256)) ||| BitVec.ofInt 64 (IntKind.u64.wrap (d.toNat : Int))).toNat : Int) * 256)) ||| BitVec.ofInt 64 (IntKind.u64.wrap (e.toNat : Int))).toNat : Int) * 256)) ||| BitVec.ofInt 64 (IntKind.u64.wrap (f.toNat : Int))).toNat : Int) * 256)) ||| BitVec.ofInt 64 (IntKind.u64.wrap (g.toNat : Int))).toNat : Int) * 256)) ||| BitVec.ofInt 64 (IntKind.u64.wrap (h.toNat : Int))).toNat : Int) = n8 a b c d e f g h := by
  have := a.toNat_lt; have := b.toNat_lt; have := c.toNat_lt; have := d.toNat_lt; have := e.toNat_lt; have := f.toNat_lt; have := g.toNat_lt
  rw [firstOr, stepOr _ b (by omega) (by omega), stepOr _ c (by omega) (by omega), stepOr _ d (by omega) (by omega), stepOr _ e (by omega) (by omega), stepOr _ f (by omega) (by omega), stepOr _ g (by omega) (by omega), stepOr _ h (by omega) (by omega), n8]
theorem and1 (a : UInt8) : ((BitVec.ofInt 8 (a.toNat : Int) &&& BitVec.ofInt 8 1).toNat : Int) = (a.toNat : Int) % 2 := by
  have := a.toNat_lt
  rw [BitVec.ofInt_natCast, BitVec.toNat_and, BitVec.toNat_ofNat, Nat.mod_eq_of_lt (by omega)]
  show ((a.toNat &&& 1 : Nat) : Int) = _
  rw [Nat.and_one_is_mod]
  omega
theorem w8b (a : UInt8) : IntKind.u8.wrap (a.toNat : Int) = a.toNat := by
  have := a.toNat_lt
  rw [wu8]; omega
theorem fd256 (x : Int) : x.fdiv 256 = x / 256 := fd x 256 (by decide)
theorem fd16 (x : Int) : x.fdiv 16 = x / 16 := fd x 16 (by decide)
theorem tdB (a : UInt8) (k : Int) : (a.toNat : Int).tdiv k = (a.toNat : Int) / k := td _ k (by omega)
theorem tmB (a : UInt8) (k : Int) : (a.toNat : Int).tmod k = (a.toNat : Int) % k := tm _ k (by omega)
theorem wib (a : UInt8) : IntKind.i64.wrap (a.toNat : Int) = a.toNat := by
  have := a.toNat_lt
  rw [wi64]; omega
theorem w64n4 (a b c d : UInt8) : IntKind.u64.wrap (n4 a b c d) = n4 a b c d := by
  have := n4_range a b c d
  rw [wu64]; omega
theorem w32n4 (a b c d : UInt8) : IntKind.u32.wrap (n4 a b c d) = n4 a b c d := by
  have := n4_range a b c d
  rw [wu32]; omega
theorem w64n2 (a b : UInt8) : IntKind.u64.wrap (n2 a b) = n2 a b := by
  have := n2_range a b
  rw [wu64]; omega
theorem w16n2 (a b : UInt8) : IntKind.u16.wrap (n2 a b) = n2 a b := by
  have := n2_range a b
  rw [wu16]; omega
theorem n8_range (a b c d e f g h : UInt8) : 0 ≤ n8 a b c d e f g h ∧ n8 a b c d e f g h < 18446744073709551616 := by
  have := a.toNat_lt; have := b.toNat_lt; have := c.toNat_lt; have := d.toNat_lt; have := e.toNat_lt; have := f.toNat_lt; have := g.toNat_lt; have := h.toNat_lt
  unfold n8; omega
theorem w64n8 (a b c d e f g h : UInt8) : IntKind.u64.wrap (n8 a b c d e f g h) = n8 a b c d e f g h := by
  have := n8_range a b c d e f g h
  rw [wu64]; omega
theorem ref1 (a : UInt8) : IntKind.u64.wrap ((0 : Int) + IntKind.u64.wrap (a.toNat : Int)) = a.toNat := by
  have := a.toNat_lt
  simp only [wub, Int.zero_add]
theorem refStep (x : Int) (b : UInt8) (h0 : 0 ≤ x) (h : x < 72057594037927936) : IntKind.u64.wrap (IntKind.u64.wrap (x * 256) + IntKind.u64.wrap (b.toNat : Int)) = x * 256 + b.toNat := by
  have := b.toNat_lt
  rw [wub, wu64 (x * 256), Int.emod_eq_of_lt (by omega) (by omega), wu64]; omega
theorem ref2 (a b : UInt8) : IntKind.u64.wrap (IntKind.u64.wrap (IntKind.u64.wrap ((0 : Int) + IntKind.u64.wrap (a.toNat : Int)) * 256) + IntKind.u64.wrap (b.toNat : Int)) = n2 a b := by
  have := a.toNat_lt
  rw [ref1, refStep _ b (by omega) (by omega), n2]
theorem ref4 (a b c d : UInt8) : IntKind.u64.wrap (IntKind.u64.wrap (IntKind.u64.wrap (IntKind.u64.wrap (IntKind.u64.wrap (IntKind.u64.wrap (IntKind.u64.wrap ((0 : Int) + IntKind.u64.wrap (a.toNat : Int)) * 256) + IntKind.u64.wrap (b.toNat : Int)) * 256) + IntKind.u64.wrap (c.toNat : Int)) * 256) + IntKind.u64.wrap (d.toNat : Int)) = n4 a b c d := by
  have := a.toNat_lt; have := b.toNat_lt; have := c.toNat_lt
  rw [ref1, refStep _ b (by omega) (by omega), refStep _ c (by omega) (by omega), refStep _ d (by omega) (by omega), n4]
/-- A text of so many bytes, spelled. -/
theorem spelled (s : ByteArray) {n : Nat} (h : s.size = n) : s = ⟨(cutL s 0 n).toArray⟩ := by
  have := cutL_eq (s := s) (i := 0) (j := n) (Nat.zero_le _) (by omega)
  rw [Nat.sub_zero] at this
  rw [this, ← h, ByteArray.extract_zero_size]
theorem size_mk (l : List UInt8) : (ByteArray.mk l.toArray).size = l.length := by simp [ByteArray.size]

/-- The byte of a number that counts so much. -/
def byK (k n : Int) : UInt8 := u8 (n / k % 256)
theorem byK_of {x k n : Int} (h : x = n / k % 256) : UInt8.ofNat x.toNat = byK k n := u8_of h
theorem u64_in {n : Int} (h0 : 0 ≤ n) (h : n < 18446744073709551616) : IntKind.u64.wrap n = n := by rw [wu64]; omega
theorem tdw {n : Int} (h0 : 0 ≤ n) (h : n < 18446744073709551616) : IntKind.u64.wrap (n.tdiv 256) = n / 256 := by rw [td _ _ h0, wu64]; omega
theorem pe0 {n : Int} (h0 : 0 ≤ n) (h : n < 18446744073709551616) : UInt8.ofNat (IntKind.u8.wrap (IntKind.u64.wrap n)).toNat = byK 1 n := by
  apply byK_of; rw [u64_in h0 h, wu8, Int.ediv_one]
theorem pr0 {n : Int} (h0 : 0 ≤ n) (h : n < 18446744073709551616) : UInt8.ofNat (IntKind.u8.wrap ((IntKind.u64.wrap n).tmod 256)).toNat = byK 1 n := by
  apply byK_of; rw [u64_in h0 h]; rw [tm _ _ (by omega), wu8] <;> omega
theorem pe1 {n : Int} (h0 : 0 ≤ n) (h : n < 18446744073709551616) : UInt8.ofNat (IntKind.u8.wrap ((IntKind.u64.wrap n).fdiv 256)).toNat = byK 256 n := by
  apply byK_of; rw [u64_in h0 h, wu8]; simp only [fd256] <;> omega
theorem pr1 {n : Int} (h0 : 0 ≤ n) (h : n < 18446744073709551616) : UInt8.ofNat (IntKind.u8.wrap ((IntKind.u64.wrap ((IntKind.u64.wrap n).tdiv 256)).tmod 256)).toNat = byK 256 n := by
  apply byK_of; rw [u64_in h0 h]; rw [tdw (n := n) (by omega) (by omega)]; rw [tm _ _ (by omega), wu8] <;> omega
theorem pe2 {n : Int} (h0 : 0 ≤ n) (h : n < 18446744073709551616) : UInt8.ofNat (IntKind.u8.wrap (((IntKind.u64.wrap n).fdiv 256).fdiv 256)).toNat = byK 65536 n := by
  apply byK_of; rw [u64_in h0 h, wu8]; simp only [fd256] <;> omega
theorem pr2 {n : Int} (h0 : 0 ≤ n) (h : n < 18446744073709551616) : UInt8.ofNat (IntKind.u8.wrap ((IntKind.u64.wrap ((IntKind.u64.wrap ((IntKind.u64.wrap n).tdiv 256)).tdiv 256)).tmod 256)).toNat = byK 65536 n := by
  apply byK_of; rw [u64_in h0 h]; rw [tdw (n := n) (by omega) (by omega)]; rw [tdw (n := n / 256) (by omega) (by omega)]; rw [tm _ _ (by omega), wu8] <;> omega
theorem pe3 {n : Int} (h0 : 0 ≤ n) (h : n < 18446744073709551616) : UInt8.ofNat (IntKind.u8.wrap ((((IntKind.u64.wrap n).fdiv 256).fdiv 256).fdiv 256)).toNat = byK 16777216 n := by
  apply byK_of; rw [u64_in h0 h, wu8]; simp only [fd256] <;> omega
theorem pr3 {n : Int} (h0 : 0 ≤ n) (h : n < 18446744073709551616) : UInt8.ofNat (IntKind.u8.wrap ((IntKind.u64.wrap ((IntKind.u64.wrap ((IntKind.u64.wrap ((IntKind.u64.wrap n).tdiv 256)).tdiv 256)).tdiv 256)).tmod 256)).toNat = byK 16777216 n := by
  apply byK_of; rw [u64_in h0 h]; rw [tdw (n := n) (by omega) (by omega)]; rw [tdw (n := n / 256) (by omega) (by omega)]; rw [tdw (n := n / 256 / 256) (by omega) (by omega)]; rw [tm _ _ (by omega), wu8] <;> omega
theorem pe4 {n : Int} (h0 : 0 ≤ n) (h : n < 18446744073709551616) : UInt8.ofNat (IntKind.u8.wrap (((((IntKind.u64.wrap n).fdiv 256).fdiv 256).fdiv 256).fdiv 256)).toNat = byK 4294967296 n := by
  apply byK_of; rw [u64_in h0 h, wu8]; simp only [fd256] <;> omega
theorem pr4 {n : Int} (h0 : 0 ≤ n) (h : n < 18446744073709551616) : UInt8.ofNat (IntKind.u8.wrap ((IntKind.u64.wrap ((IntKind.u64.wrap ((IntKind.u64.wrap ((IntKind.u64.wrap ((IntKind.u64.wrap n).tdiv 256)).tdiv 256)).tdiv 256)).tdiv 256)).tmod 256)).toNat = byK 4294967296 n := by
  apply byK_of; rw [u64_in h0 h]; rw [tdw (n := n) (by omega) (by omega)]; rw [tdw (n := n / 256) (by omega) (by omega)]; rw [tdw (n := n / 256 / 256) (by omega) (by omega)]; rw [tdw (n := n / 256 / 256 / 256) (by omega) (by omega)]; rw [tm _ _ (by omega), wu8] <;> omega
theorem pe5 {n : Int} (h0 : 0 ≤ n) (h : n < 18446744073709551616) : UInt8.ofNat (IntKind.u8.wrap ((((((IntKind.u64.wrap n).fdiv 256).fdiv 256).fdiv 256).fdiv 256).fdiv 256)).toNat = byK 1099511627776 n := by
  apply byK_of; rw [u64_in h0 h, wu8]; simp only [fd256] <;> omega
theorem pr5 {n : Int} (h0 : 0 ≤ n) (h : n < 18446744073709551616) : UInt8.ofNat (IntKind.u8.wrap ((IntKind.u64.wrap ((IntKind.u64.wrap ((IntKind.u64.wrap ((IntKind.u64.wrap ((IntKind.u64.wrap ((IntKind.u64.wrap n).tdiv 256)).tdiv 256)).tdiv 256)).tdiv 256)).tdiv 256)).tmod 256)).toNat = byK 1099511627776 n := by
  apply byK_of; rw [u64_in h0 h]; rw [tdw (n := n) (by omega) (by omega)]; rw [tdw (n := n / 256) (by omega) (by omega)]; rw [tdw (n := n / 256 / 256) (by omega) (by omega)]; rw [tdw (n := n / 256 / 256 / 256) (by omega) (by omega)]; rw [tdw (n := n / 256 / 256 / 256 / 256) (by omega) (by omega)]; rw [tm _ _ (by omega), wu8] <;> omega
theorem pe6 {n : Int} (h0 : 0 ≤ n) (h : n < 18446744073709551616) : UInt8.ofNat (IntKind.u8.wrap (((((((IntKind.u64.wrap n).fdiv 256).fdiv 256).fdiv 256).fdiv 256).fdiv 256).fdiv 256)).toNat = byK 281474976710656 n := by
  apply byK_of; rw [u64_in h0 h, wu8]; simp only [fd256] <;> omega
theorem pr6 {n : Int} (h0 : 0 ≤ n) (h : n < 18446744073709551616) : UInt8.ofNat (IntKind.u8.wrap ((IntKind.u64.wrap ((IntKind.u64.wrap ((IntKind.u64.wrap ((IntKind.u64.wrap ((IntKind.u64.wrap ((IntKind.u64.wrap ((IntKind.u64.wrap n).tdiv 256)).tdiv 256)).tdiv 256)).tdiv 256)).tdiv 256)).tdiv 256)).tmod 256)).toNat = byK 281474976710656 n := by
  apply byK_of; rw [u64_in h0 h]; rw [tdw (n := n) (by omega) (by omega)]; rw [tdw (n := n / 256) (by omega) (by omega)]; rw [tdw (n := n / 256 / 256) (by omega) (by omega)]; rw [tdw (n := n / 256 / 256 / 256) (by omega) (by omega)]; rw [tdw (n := n / 256 / 256 / 256 / 256) (by omega) (by omega)]; rw [tdw (n := n / 256 / 256 / 256 / 256 / 256) (by omega) (by omega)]; rw [tm _ _ (by omega), wu8] <;> omega
theorem pe7 {n : Int} (h0 : 0 ≤ n) (h : n < 18446744073709551616) : UInt8.ofNat (IntKind.u8.wrap ((((((((IntKind.u64.wrap n).fdiv 256).fdiv 256).fdiv 256).fdiv 256).fdiv 256).fdiv 256).fdiv 256)).toNat = byK 72057594037927936 n := by
  apply byK_of; rw [u64_in h0 h, wu8]; simp only [fd256] <;> omega
theorem pr7 {n : Int} (h0 : 0 ≤ n) (h : n < 18446744073709551616) : UInt8.ofNat (IntKind.u8.wrap ((IntKind.u64.wrap ((IntKind.u64.wrap ((IntKind.u64.wrap ((IntKind.u64.wrap ((IntKind.u64.wrap ((IntKind.u64.wrap ((IntKind.u64.wrap ((IntKind.u64.wrap n).tdiv 256)).tdiv 256)).tdiv 256)).tdiv 256)).tdiv 256)).tdiv 256)).tdiv 256)).tmod 256)).toNat = byK 72057594037927936 n := by
  apply byK_of; rw [u64_in h0 h]; rw [tdw (n := n) (by omega) (by omega)]; rw [tdw (n := n / 256) (by omega) (by omega)]; rw [tdw (n := n / 256 / 256) (by omega) (by omega)]; rw [tdw (n := n / 256 / 256 / 256) (by omega) (by omega)]; rw [tdw (n := n / 256 / 256 / 256 / 256) (by omega) (by omega)]; rw [tdw (n := n / 256 / 256 / 256 / 256 / 256) (by omega) (by omega)]; rw [tdw (n := n / 256 / 256 / 256 / 256 / 256 / 256) (by omega) (by omega)]; rw [tm _ _ (by omega), wu8] <;> omega
theorem pid {n : Int} : UInt8.ofNat (IntKind.u8.wrap (IntKind.u64.wrap (IntKind.u8.wrap n))).toNat = byK 1 n := by
  apply byK_of; rw [wu8 n, wu64, wu8]; omega
theorem byK_toNat (k n : Int) : ((byK k n).toNat : Int) = n / k % 256 := u8_toNat _ (by have := Int.emod_nonneg (n / k) (show (256 : Int) ≠ 0 by decide); omega) (by have := Int.emod_lt_of_pos (n / k) (show (0 : Int) < 256 by decide); omega)

/-! ### what is told, as a value -/
mutual
def SV.toV : SV → Value
  | .val v => v
  | .num k z => .int k z
  | .bol b => .bool b
  | .bts _ l => .string ⟨l.toArray⟩
  | .agg l => .agg (toVs l).toArray
  | .tup l => .tuple (toVs l).toArray
  | .ifc t x => .iface t x.toV
  | _ => undef
def toVs : List SV → List Value
  | [] => []
  | s :: l => s.toV :: toVs l
end
mutual
def SV.pln : SV → Bool
  | .val _ | .num .. | .bol _ | .bts .. => true
  | .agg l | .tup l => plns l
  | .ifc _ x => x.pln
  | _ => false
def plns : List SV → Bool
  | [] => true
  | s :: l => s.pln && plns l
end
mutual
theorem R.toV {η : Env} : ∀ (s : SV) (v : Value), s.pln = true → R η s v → v = s.toV
  | .val _, _, _, h | .num _ _, _, _, h | .bol _, _, _, h | .bts _ _, _, _, h => by simp only [R] at h; simp only [SV.toV]; exact h
  | .ptr .., _, hf, _ | .slc .., _, hf, _ | .sle .., _, hf, _ | .pto .., _, hf, _ | .slo .., _, hf, _ | .hdl _, _, hf, _ | .fnc .., _, hf, _ => by simp [SV.pln] at hf
  | .agg l, v, hf, h => by
    simp only [SV.pln] at hf
    obtain ⟨x, rfl, h2⟩ := h
    simp only [SV.toV]; rw [← Rs.toVs l _ hf h2]
  | .tup l, v, hf, h => by
    simp only [SV.pln] at hf
    obtain ⟨x, rfl, h2⟩ := h
    simp only [SV.toV]; rw [← Rs.toVs l _ hf h2]
  | .ifc t s, v, hf, h => by
    simp only [SV.pln] at hf
    obtain ⟨x, rfl, h2⟩ := h
    simp only [SV.toV]; rw [← R.toV s _ hf h2]
theorem Rs.toVs {η : Env} : ∀ (l : List SV) (vs : List Value), plns l = true → Rs η l vs → vs = toVs l
  | [], vs, _, h => by simp only [Rs] at h; simp only [Go.Ex.toVs]; exact h
  | s :: l, vs, hf, h => by
    simp only [plns, Bool.and_eq_true] at hf
    obtain ⟨x, r, rfl, h2, h3⟩ := h
    simp only [Go.Ex.toVs]; rw [← R.toV s _ hf.1 h2, ← Rs.toVs l _ hf.2 h3]
end
mutual
theorem R.ofV {η : Env} : ∀ (s : SV), s.pln = true → R η s s.toV
  | .val _, _ | .num _ _, _ | .bol _, _ | .bts _ _, _ => by simp only [R, SV.toV]
  | .ptr .., hf | .slc .., hf | .sle .., hf | .pto .., hf | .slo .., hf | .hdl _, hf | .fnc .., hf => by simp [SV.pln] at hf
  | .agg l, hf => by simp only [SV.pln] at hf; exact ⟨_, rfl, by simpa using Rs.ofVs l hf⟩
  | .tup l, hf => by simp only [SV.pln] at hf; exact ⟨_, rfl, by simpa using Rs.ofVs l hf⟩
  | .ifc t s, hf => by simp only [SV.pln] at hf; exact ⟨_, rfl, R.ofV s hf⟩
theorem Rs.ofVs {η : Env} : ∀ (l : List SV), plns l = true → Rs η l (toVs l)
  | [], _ => Rs.nil
  | s :: l, hf => by
    simp only [plns, Bool.and_eq_true] at hf
    exact Rs.cons (R.ofV s hf.1) (Rs.ofVs l hf.2)
end
/-- What a way gives, as a value. -/
theorem leaf {P : Program} {C : Con P} {n : Nat} {f : FuncId} {args : List SV} {ans : List Bool} {s : SV} {L : List Prop}
    (h : gives (callR (conned C) (run (conned C) n) f args [] ans) s L) (hc : AllP L) (hs : s.pln = true) {w : World} {vs : List Value} (hargs : Rs [] args vs) {x : Value} (hx : s.toV = x) (hf : s.free = true) :
    Calls P f vs.toArray w (fun e w' => e = .returned x ∧ Go.RowKit.Below w.heap.size w w') :=
  (con_gives C n ans h hc hf hargs).mono fun e w' ⟨v, h1, h2, h3⟩ => ⟨by rw [h1, R.toV s v hs h2, hx], h3⟩
/-- One function's contract, by values. -/
def Con.ofVals {P : Program} (f : FuncId) (g : List SV → Option (SV × Prop)) (ok : ∀ args s p, g args = some (s, p) → p → s.pln = true ∧ ∀ (w : World) (vs : List Value), Rs [] args vs →
    Calls P f vs.toArray w (fun e w' => e = .returned s.toV ∧ Go.RowKit.Below w.heap.size w w')) : Con P :=
  Con.one f (fun args => match g args with | some (s, p) => some (s, .pr p) | none => none) fun args s c h hc w vs hv => by
    cases hg : g args with
    | none => simp [hg] at h
    | some r =>
      obtain ⟨s', p⟩ := r
      simp only [hg, Option.some.injEq, Prod.mk.injEq] at h
      obtain ⟨rfl, rfl⟩ := h
      obtain ⟨h1, h2⟩ := ok args s' p hg hc
      exact (h2 w vs hv).mono fun e w' ⟨e1, e2⟩ => ⟨_, e1, R.ofV _ h1, e2⟩
/-! ### bounds of arguments -/
theorem has_u8 {z : Int} (h : IntKind.u8.has z) : 0 ≤ z ∧ z < 256 := by
  simp only [IntKind.has, IntKind.min, IntKind.max, IntKind.signed, IntKind.bits] at h
  simp at h
  omega
theorem has_u16 {z : Int} (h : IntKind.u16.has z) : 0 ≤ z ∧ z < 65536 := by
  simp only [IntKind.has, IntKind.min, IntKind.max, IntKind.signed, IntKind.bits] at h
  simp at h
  omega
theorem has_u32 {z : Int} (h : IntKind.u32.has z) : 0 ≤ z ∧ z < 4294967296 := by
  simp only [IntKind.has, IntKind.min, IntKind.max, IntKind.signed, IntKind.bits] at h
  simp at h
  omega
theorem has_u64 {z : Int} (h : IntKind.u64.has z) : 0 ≤ z ∧ z < 18446744073709551616 := by
  simp only [IntKind.has, IntKind.min, IntKind.max, IntKind.signed, IntKind.bits] at h
  simp at h
  omega
theorem has_i64 {z : Int} (h : IntKind.i64.has z) : -9223372036854775808 ≤ z ∧ z < 9223372036854775808 := by
  simp only [IntKind.has, IntKind.min, IntKind.max, IntKind.signed, IntKind.bits] at h
  simp at h
  omega
theorem has_str {s : ByteArray} (h : (s.size : Int) ≤ IntKind.i64.max) : s.size ≤ 9223372036854775807 := by
  simp only [IntKind.max, IntKind.signed, IntKind.bits] at h
  simp at h
  omega
end Go.Ex
