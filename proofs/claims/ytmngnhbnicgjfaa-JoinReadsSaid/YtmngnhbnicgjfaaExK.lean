/-
  A reckoner of programs and its soundness, part ExK: what it reckons is what 'Calls' says. No condition. By an AI agent.
-/
import Derived.Test.YtmngnhbnicgjfaaExJ2
import Derived.LoopN
namespace Go.Ex
open Go.RowKit (Below)

inductive XE where
  | normal
  | ret
  | exit (id : Nat)
  deriving DecidableEq
def XE.toExit : XE → Exit
  | .normal => .normal
  | .ret => .ret
  | .exit id => .exit id

structure Fin where
  e : XE
  tm : List SV
  hp : List SO

/-- What the reckoner is given: the program; contracts of functions; summaries of loops. -/
structure Cx where
  P : Program
  ct : FuncId → List SV → List SO → Option (SV × Option (List SO) × Cnd)
  lp : Code → List SV → List SO → List Bool → Option (Rr Fin)

/-! ### results -/
def resVar (P : Program) (tm : List SV) (hp : List SO) : ResultVar → Option SV
  | .tmp t => some (tm.getD t (.val undef))
  | .cell a t => match opLoad P hp t (tm.getD a (.val undef)) with
    | .pure s _ => some s
    | _ => none
def resVars (P : Program) (tm : List SV) (hp : List SO) : List ResultVar → Option (List SV)
  | [] => some []
  | r :: l => match resVar P tm hp r, resVars P tm hp l with
    | some s, some m => some (s :: m)
    | _, _ => none
def resultsS (P : Program) (fn : Func) (tm : List SV) (hp : List SO) : Option SV :=
  match resVars P tm hp fn.results.toList with
  | some [s] => some s
  | some l => some (.tup l)
  | none => none

theorem opLoad_true {P : Program} {hp : List SO} {ty : TypeId} {x s : SV} {c : Cnd} (h : opLoad P hp ty x = .pure s c) : c := by
  unfold opLoad at h
  repeat' split at h
  all_goals first
    | (injection h with _ h2; rw [← h2]; trivial)
    | (simp at h)

theorem resVars_ok {P : Program} {B : Nat} {η : Env} {hp : List SO} {w : World} (hr : HR B η hp w) {tm : List SV} {tmps : Array Value} (ht : Rs η tm tmps.toList) : ∀ (l : List ResultVar) (r : List SV), resVars P tm hp l = some r →
    ∃ vs, Rs η r vs ∧ (l.mapM (m := Sem) fun
      | .tmp t => pure (tmps.getD t undef)
      | .cell a t => do loadVar t (← asAddr (tmps.getD a undef))).run P w = .ok vs w
  | [], r, h => by simp [resVars] at h; subst h; exact ⟨[], Rs.nil, by simp⟩
  | x :: l, r, h => by
    simp only [resVars] at h
    split at h
    · rename_i s m hs hm
      simp at h; subst h
      obtain ⟨vs, hvs, hrun⟩ := resVars_ok hr ht l m hm
      have e : ∀ t, R η (tm.getD t (.val undef)) (tmps.getD t undef) := fun t => ev_R (a := ⟨tmps, []⟩) ht (.tmp t)
      cases x with
      | tmp t =>
        simp [resVar] at hs; subst hs
        refine ⟨tmps.getD t undef :: vs, Rs.cons (e t) hvs, ?_⟩
        simp only [List.mapM_cons, Sem.run_bind, Sem.run_pure, Result.andThen_ok, hrun]
      | cell a t =>
        simp only [resVar] at hs
        split at hs
        · rename_i s' c hl
          simp at hs; subst hs
          have hok := opLoad_ok (P := P) (hp := hp) (ty := t) (e a)
          rw [hl] at hok
          obtain ⟨v, hR, hv⟩ := hok (opLoad_true hl) B w hr
          refine ⟨v :: vs, Rs.cons hR hvs, ?_⟩
          have hload : (do loadVar t (← asAddr (tmps.getD a undef)) : Sem Value).run P w = .ok v w := by
            simp only [Instr.loadAt] at hv
            cases hx : tmps.getD a undef <;> simp [hx, Instr.sureAddr] at hv
            case pointer p =>
              cases p with
              | none => simp at hv
              | some p => simpa [asAddr] using hv
          simp only [List.mapM_cons, Sem.run_bind, Sem.run_pure] at hload ⊢
          rw [hload]
          simp only [Result.andThen_ok, hrun]
        · simp at hs
    · simp at h

theorem resultsS_ok {P : Program} {fn : Func} {B : Nat} {η : Env} {hp : List SO} {w : World} (hr : HR B η hp w) {tm : List SV} {tmps : Array Value} (ht : Rs η tm tmps.toList) {s : SV} (h : resultsS P fn tm hp = some s) :
    ∃ v, R η s v ∧ (results fn tmps).run P w = .ok v w := by
  unfold resultsS at h
  have key : ∀ l, resVars P tm hp fn.results.toList = some l → ∃ vs, Rs η l vs ∧ (fn.results.mapM (m := Sem) fun
      | .tmp t => pure (tmps.getD t undef)
      | .cell a t => do loadVar t (← asAddr (tmps.getD a undef))).run P w = .ok vs.toArray w := by
    intro l hl
    obtain ⟨vs, hvs, hrun⟩ := resVars_ok hr ht _ l hl
    refine ⟨vs, hvs, ?_⟩
    rw [Array.mapM_eq_mapM_toList]
    simp only [Sem.run_map, hrun, Result.andThen_ok]
  split at h
  · rename_i s' hl
    simp at h; subst h
    obtain ⟨vs, hvs, hrun⟩ := key _ hl
    obtain ⟨v, r, rfl, hv, hr'⟩ := hvs.cons_inv
    simp only [Rs] at hr'; subst hr'
    refine ⟨v, hv, ?_⟩
    unfold results
    refine (Sem.run_bind _ _ _ _).trans ((congrArg (fun q => Result.andThen q _) hrun).trans ?_)
    simp
  · rename_i l hne hl
    simp at h; subst h
    obtain ⟨vs, hvs, hrun⟩ := key _ hl
    refine ⟨.tuple vs.toArray, ⟨_, rfl, by simpa using hvs⟩, ?_⟩
    unfold results
    refine (Sem.run_bind _ _ _ _).trans ((congrArg (fun q => Result.andThen q _) hrun).trans ?_)
    have hlen := hvs.length
    have hn1 : ¬ vs.toArray.size = 1 := by
      intro h1
      simp at h1
      rw [h1] at hlen
      cases l with
      | nil => simp at hlen
      | cons a r => cases r with
        | nil => exact hne a rfl
        | cons b r => simp at hlen
    simp only [Result.andThen_ok, Sem.run_pure]
    rw [dif_neg hn1]
  · simp at h

/-! ### a call -/
mutual
/-- Without a word of the memory. -/
def SV.free : SV → Bool
  | .ptr .. | .slc .. | .sle .. | .hdl _ => false
  | .fnc _ a b => frees a && frees b
  | .agg l | .tup l => frees l
  | .ifc _ x => x.free
  | _ => true
def frees : List SV → Bool
  | [] => true
  | s :: l => s.free && frees l
end
mutual
theorem R.free {η μ : Env} : ∀ (s : SV) (v : Value), s.free = true → R η s v → R μ s v
  | .val _, _, _, h | .num _ _, _, _, h | .bol _, _, _, h | .bts _ _, _, _, h => by simp only [R] at h ⊢; exact h
  | .ptr .., _, hf, _ | .slc .., _, hf, _ | .sle .., _, hf, _ | .hdl _, _, hf, _ => by simp [SV.free] at hf
  | .fnc g a b, v, hf, h => by
    simp only [SV.free, Bool.and_eq_true] at hf
    obtain ⟨x, y, h1, h2, h3⟩ := h
    exact ⟨x, y, h1, Rs.free a _ hf.1 h2, Rs.free b _ hf.2 h3⟩
  | .agg l, v, hf, h => by
    simp only [SV.free] at hf
    obtain ⟨x, h1, h2⟩ := h
    exact ⟨x, h1, Rs.free l _ hf h2⟩
  | .tup l, v, hf, h => by
    simp only [SV.free] at hf
    obtain ⟨x, h1, h2⟩ := h
    exact ⟨x, h1, Rs.free l _ hf h2⟩
  | .ifc t s, v, hf, h => by
    simp only [SV.free] at hf
    obtain ⟨x, h1, h2⟩ := h
    exact ⟨x, h1, R.free s _ hf h2⟩
theorem Rs.free {η μ : Env} : ∀ (l : List SV) (vs : List Value), frees l = true → Rs η l vs → Rs μ l vs
  | [], vs, _, h => by simp only [Rs] at h ⊢; exact h
  | s :: l, vs, hf, h => by
    simp only [frees, Bool.and_eq_true] at hf
    obtain ⟨x, r, h1, h2, h3⟩ := h
    exact ⟨x, r, h1, R.free s _ hf.1 h2, Rs.free l _ hf.2 h3⟩
end

/-- A body, as a call. -/
def bodyR (X : Cx) (run : Code → List SV → List SO → List Bool → Rr Fin) (fn : Func) (c : Code) (args : List SV) (hp : List SO) (ans : List Bool) : Rr (SV × List SO) :=
  match run c (args ++ List.replicate (fn.ntmps - args.length) (.val undef)) hp ans with
  | .ok r ans' cc =>
    match r.e with
    | .exit _ => .bad
    | _ => match resultsS X.P fn r.tm r.hp with
      | some s => .ok (s, r.hp) ans' cc
      | none => .bad
  | .ask b => .ask b
  | .bad => .bad
def whole (x : Rr (SV × List SO)) : Rr (SV × Option (List SO)) :=
  match x with
  | .ok (s, hp) ans c => .ok (s, some hp) ans c
  | .ask b => .ask b
  | .bad => .bad
def callR (X : Cx) (run : Code → List SV → List SO → List Bool → Rr Fin) : CallF := fun f args hp ans =>
  match X.P.funcs[f]? with
  | none => .bad
  | some fn =>
    if fn.name == "runtime.NumGoroutine" then .bad else
    match fn.body with
    | none => .bad
    | some c =>
      match X.ct f args hp with
      | some (s, ho, cc) => .ok (s, ho) ans cc
      | none =>
        if frees args then
          match bodyR X run fn c args [] ans with
          | .ok (s, _) ans' cc => if s.free then .ok (s, none) ans' cc else whole (bodyR X run fn c args hp ans)
          | .ask b => .ask b
          | .bad => .bad
        else whole (bodyR X run fn c args hp ans)

/-- Rounds of a loop. -/
def loopR (run : List SV → List SO → List Bool → Rr Fin) : Nat → List SV → List SO → List Bool → Rr Fin
  | 0, _, _, _ => .bad
  | m + 1, tm, hp, ans =>
    match run tm hp ans with
    | .ok r ans' c =>
      match r.e with
      | .normal => match loopR run m r.tm r.hp ans' with
        | .ok x ans'' c' => .ok x ans'' (c.and c')
        | .ask b => .ask b
        | .bad => .bad
      | _ => .ok r ans' c
    | .ask b => .ask b
    | .bad => .bad

/-- The reckoner. -/
def run (X : Cx) : Nat → Code → List SV → List SO → List Bool → Rr Fin
  | 0, _, _, _, _ => .bad
  | n + 1, c, tm, hp, ans =>
    match c with
    | .skip => .ok ⟨.normal, tm, hp⟩ ans .tt
    | .ret => .ok ⟨.ret, tm, hp⟩ ans .tt
    | .exit id => .ok ⟨.exit id, tm, hp⟩ ans .tt
    | .region _ ops draw =>
      match regionR X.P (callR X (run X n)) ops draw tm hp ans with
      | .ok (tm', hp') ans' c => .ok ⟨.normal, tm', hp'⟩ ans' c
      | .ask b => .ask b
      | .bad => .bad
    | .seq a b =>
      match run X n a tm hp ans with
      | .ok r ans' c =>
        match r.e with
        | .normal => match run X n b r.tm r.hp ans' with
          | .ok x ans'' c' => .ok x ans'' (c.and c')
          | .ask b => .ask b
          | .bad => .bad
        | _ => .ok r ans' c
      | .ask b => .ask b
      | .bad => .bad
    | .cond x a b =>
      match settle tm (match x with | .tmp t => some t | _ => none) ans with
      | .ok tm' ans' c =>
        match ev tm' x with
        | .bol true => match run X n a tm' hp ans' with
          | .ok r ans'' c' => .ok r ans'' (c.and c')
          | .ask b => .ask b
          | .bad => .bad
        | .bol false => match run X n b tm' hp ans' with
          | .ok r ans'' c' => .ok r ans'' (c.and c')
          | .ask b => .ask b
          | .bad => .bad
        | _ => .bad
      | .ask b => .ask b
      | .bad => .bad
    | .block id body =>
      match run X n body tm hp ans with
      | .ok r ans' c =>
        match r.e with
        | .exit id' => if id' = id then .ok ⟨.normal, r.tm, r.hp⟩ ans' c else .ok r ans' c
        | _ => .ok r ans' c
      | .ask b => .ask b
      | .bad => .bad
    | .loop body =>
      match X.lp body tm hp ans with
      | some r => r
      | none => loopR (run X n body) n tm hp ans
    | _ => .bad

/-- What is owed of the contracts. -/
def CtOk (X : Cx) : Prop :=
  ∀ f args hp s ho c, X.ct f args hp = some (s, ho, c) → c → ∀ B η w vs, HR B η hp w → B ≤ w.heap.size → Rs η args vs →
    Calls X.P f vs.toArray w (fun e w' => ∃ v μ, e = .returned v ∧ R (η ++ μ) s v ∧ HR B (η ++ μ) (ho.getD hp) w' ∧ Below B w w')
def WpOk (P : Program) (c : Code) (tm : List SV) (hp : List SO) (r : Fin) : Prop :=
  ∀ (B : Nat) (w₀ : World) (η : Env) (a : Act) (w : World), Sim B w₀ η tm hp a w → ∀ (Q : Exit → Act → World → Prop),
    (∀ μ a' w', Sim B w₀ (η ++ μ) r.tm r.hp a' w' → Q r.e.toExit a' w') → c.wp P Q a w
/-- What is owed of the summaries of loops. -/
def LpOk (X : Cx) : Prop := ∀ body tm hp ans r ans' c, X.lp body tm hp ans = some (.ok r ans' c) → c → WpOk X.P (.loop body) tm hp r

theorem loopR_ok {P : Program} {body : Code} {rn : List SV → List SO → List Bool → Rr Fin} (hrn : ∀ tm hp ans r ans' c, rn tm hp ans = .ok r ans' c → c → WpOk P body tm hp r) :
    ∀ (m : Nat) (tm : List SV) (hp : List SO) (ans : List Bool) (r : Fin) (ans' : List Bool) (c : Cnd), loopR rn m tm hp ans = .ok r ans' c → c →
    ∀ (B : Nat) (w₀ : World) (η : Env) (a : Act) (w : World), Sim B w₀ η tm hp a w → ∀ (Q : Exit → Act → World → Prop),
    (∀ μ a' w', Sim B w₀ (η ++ μ) r.tm r.hp a' w' → Q r.e.toExit a' w') → r.e ≠ .normal ∧ Code.rounds P body Q m a w
  | 0, _, _, _, _, _, _, h, _, _, _, _, _, _, _, _, _ => by simp [loopR] at h
  | m + 1, tm, hp, ans, r, ans', c, h, hc, B, w₀, η, a, w, hs, Q, hQ => by
    simp only [loopR] at h
    split at h
    · rename_i r1 ans1 c1 h1
      split at h
      · rename_i he
        split at h
        · rename_i x ans2 c2 h2
          obtain ⟨rfl, rfl, rfl⟩ := ok_inj h
          have ne : x.e ≠ .normal ∧ Code.rounds P body Q (m + 1) a w := by
            have hw := hrn _ _ _ _ _ _ h1 hc.l B w₀ η a w hs
            -- that the last exit is no plain one: by the rounds to come
            have hx : x.e ≠ .normal := by
              clear hw hQ Q hs
              exact loopR_exit hrn m _ _ _ _ _ _ h2
            refine ⟨hx, ?_⟩
            show body.wp P (Exit.then (Code.rounds P body Q m) Q) a w
            refine hw _ fun μ a' w' hs' => ?_
            rw [he]
            show Code.rounds P body Q m a' w'
            exact (loopR_ok hrn m _ _ _ _ _ _ h2 hc.r B w₀ _ a' w' hs' Q (fun μ' a'' w'' hs'' => hQ (μ ++ μ') a'' w'' (by simpa using hs''))).2
          exact ne
        · simp at h
        · simp at h
      · rename_i hne
        obtain ⟨rfl, rfl, rfl⟩ := ok_inj h
        refine ⟨fun e => hne e, ?_⟩
        show body.wp P (Exit.then (Code.rounds P body Q m) Q) a w
        refine hrn _ _ _ _ _ _ h1 hc B w₀ η a w hs _ fun μ a' w' hs' => ?_
        have := hQ μ a' w' hs'
        cases he : r1.e with
        | normal => exact absurd he hne
        | ret => rw [he] at this; exact this
        | exit id => rw [he] at this; exact this
    · simp at h
    · simp at h
where
  loopR_exit {P : Program} {body : Code} {rn : List SV → List SO → List Bool → Rr Fin} (hrn : ∀ tm hp ans r ans' c, rn tm hp ans = .ok r ans' c → c → WpOk P body tm hp r) :
    ∀ (m : Nat) (tm : List SV) (hp : List SO) (ans : List Bool) (r : Fin) (ans' : List Bool) (c : Cnd), loopR rn m tm hp ans = .ok r ans' c → r.e ≠ .normal
  | 0, _, _, _, _, _, _, h => by simp [loopR] at h
  | m + 1, tm, hp, ans, r, ans', c, h => by
    simp only [loopR] at h
    split at h
    · split at h
      · split at h
        · rename_i h2
          obtain ⟨rfl, _, _⟩ := ok_inj h
          exact loopR_exit hrn m _ _ _ _ _ _ h2
        · simp at h
        · simp at h
      · rename_i hne
        obtain ⟨rfl, _, _⟩ := ok_inj h
        exact fun e => hne e
    · simp at h
    · simp at h
end Go.Ex
