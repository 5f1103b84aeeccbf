/-
  A reckoner of programs and its soundness, part ExH: what it reckons is what 'Calls' says. No condition. By an AI agent.
-/
import Derived.Test.YtmngnhbnicgjfaaExG2
namespace Go.Ex
open Go.RowKit (Below)

/-- What an operand holds. -/
def ev (tm : List SV) : Operand → SV
  | .tmp t => tm.getD t (.val undef)
  | .const v => ofV v
  | .global g => .val (.pointer (some ⟨g, 0, none⟩))
  | .func f => .fnc f [] []
theorem ev_R {η : Env} {tm : List SV} {a : Act} (h : Rs η tm a.tmps.toList) (x : Operand) : R η (ev tm x) (a.eval x) := by
  cases x with
  | tmp t =>
    simp only [ev, Act.eval]
    by_cases ht : t < tm.length
    · obtain ⟨v, hv, hR⟩ := h.get (List.getElem?_eq_getElem ht)
      have e1 : tm.getD t (.val undef) = tm[t] := by simp [List.getD, List.getElem?_eq_getElem ht]
      have e2 : a.tmps.getD t undef = v := by
        have : a.tmps[t]? = some v := by simpa using hv
        simp [Array.getD_eq_getD_getElem?, this]
      rw [e1, e2]; exact hR
    · have hl := h.length
      rw [Array.length_toList] at hl
      have e1 : tm.getD t (.val undef) = .val undef := by
        rw [List.getD, List.getElem?_eq_none (Nat.le_of_not_lt ht)]; rfl
      have e2 : a.tmps.getD t undef = undef := by
        have : a.tmps[t]? = none := Array.getElem?_eq_none (by rw [hl]; exact Nat.le_of_not_lt ht)
        simp [Array.getD_eq_getD_getElem?, this]
      rw [e1, e2]; simp only [R]
  | const v => exact ofV_R η v
  | global g => simp only [ev, R, Act.eval]
  | func f => exact ⟨#[], #[], rfl, Rs.nil, Rs.nil⟩

theorem ev_Ro {η : Env} {tm : List SV} {a : Act} (h : Rs η tm a.tmps.toList) (x : Option Operand) : Ro η (x.map (ev tm)) (x.map a.eval) := by
  cases x with
  | none => trivial
  | some x => exact ev_R h x
theorem ev_Rs {η : Env} {tm : List SV} {a : Act} (h : Rs η tm a.tmps.toList) : ∀ (l : List Operand), Rs η (l.map (ev tm)) (l.map a.eval)
  | [] => Rs.nil
  | x :: l => Rs.cons (ev_R h x) (ev_Rs h l)


mutual
def ptrsOf : SV → List Nat
  | .ptr k _ => [k]
  | .slc k _ _ _ => [k]
  | .sle k _ _ _ => [k]
  | .fnc _ fs cs => ptrsOfs fs ++ ptrsOfs cs
  | .agg l => ptrsOfs l
  | .tup l => ptrsOfs l
  | .ifc _ x => ptrsOf x
  | _ => []
def ptrsOfs : List SV → List Nat
  | [] => []
  | s :: l => ptrsOf s ++ ptrsOfs l
end

/-! ### whatever only reckons with scalars -/
def isSelect : Op → Bool
  | .select .. => true
  | _ => false
def genPure (P : Program) (tm : List SV) (o : Oper) : OR :=
  if isSelect o.op then .bad else
  if o.op.operands.toList.all fun x => ((ev tm x).val?).isSome then
    match (execOp (fun x => ((ev tm x).val?).getD undef) o).pr P with
    | some (.value r) => .pure (if o.op.operands.toList.all fun x => (ev tm x).lit then ofV r else .val r) .tt
    | _ => .bad
  else .bad
theorem genPure_ok {P : Program} {η : Env} {tm : List SV} {a : Act} (h : Rs η tm a.tmps.toList) {hp : List SO} (o : Oper) :
    OpOk P η hp (fun w => (execOp a.eval o).run P w) (genPure P tm o) := by
  unfold genPure
  split
  · trivial
  · rename_i hsel
    split
    · rename_i hall
      split
      · rename_i r hr
        intro _ B w _
        refine ⟨r, ?_, ?_⟩
        · split
          · exact ofV_R η r
          · simp only [R]
        · have : execOp a.eval o = execOp (fun x => ((ev tm x).val?).getD undef) o := by
            apply execOp_congr
            · intro cs b hs
              rw [hs] at hsel
              simp [isSelect] at hsel
            · intro x hx
              have h1 := List.all_eq_true.1 hall x (by simpa using hx)
              obtain ⟨v, hv⟩ := Option.isSome_iff_exists.1 h1
              rw [hv]
              exact SV.val?_R hv (ev_R h x)
          simp only []
          rw [this]
          exact pr_run hr w
      · trivial
    · trivial

def orElse (x y : OR) : OR :=
  match x with
  | .bad => y
  | x => x
theorem orElse_ok {P : Program} {η : Env} {hp : List SO} {r : World → Result Next} {x y : OR} (hx : OpOk P η hp r x) (hy : OpOk P η hp r y) : OpOk P η hp r (orElse x y) := by
  cases x <;> first | exact hx | exact hy

def orFast (x : Option SV) (y : OR) : OR :=
  match x with
  | some s => .pure s .tt
  | none => y
theorem orFast_ok {P : Program} {η : Env} {hp : List SO} {r : World → Result Next} {x : Option SV} {y : OR} (hx : ∀ s, x = some s → ∀ w, ∃ v, R η s v ∧ r w = .ok (.value v) w) (hy : OpOk P η hp r y) : OpOk P η hp r (orFast x y) := by
  cases x with
  | none => exact hy
  | some s => exact fun _ _ w _ => hx s rfl w

/-- An operation of a region, its guard met. -/
def sop (P : Program) (tm : List SV) (hp : List SO) (o : Oper) : OR :=
  match o.op with
  | .move x | .assign x => .pure (ev tm x) .tt
  | .pick c x y => match ev tm c with
    | .bol true => .pure (ev tm x) .tt
    | .bol false => .pure (ev tm y) .tt
    | _ => .bad
  | .alloc ty => opAlloc P hp ty
  | .box _ x => opBox hp (ev tm x)
  | .build ty parts => opBuild P ty (parts.toList.map fun p => (p.1, ev tm p.2))
  | .buildSlice ty len parts => opBuildSlice P hp ty len (parts.toList.map fun p => (p.1, ev tm p.2))
  | .load ty x => opLoad P hp ty (ev tm x)
  | .store ty x y => opStore P hp ty (ev tm x) (ev tm y)
  | .nilCheck x => match ev tm x with
    | .ptr k off => .pure (.ptr k off) .tt
    | .fnc g fs cs => .pure (.fnc g fs cs) .tt
    | .ifc t y => .pure (.ifc t y) .tt
    | _ => .bad
  | .binOp op ty x y _ => orFast (fastBin op (ev tm x) (ev tm y)) <|
    match op with
    | .add => match (ev tm x).val?, (ev tm y).val? with
      | some (.string _), some (.string _) => opConcat (ev tm x) (ev tm y)
      | _, _ => genPure P tm o
    | .eql => orElse (opEq P true ty (ev tm x) (ev tm y)) (genPure P tm o)
    | .rem => orElse (opDivO .rem (ev tm x) (ev tm y)) (genPure P tm o)
    | .quo => orElse (opDivO .quo (ev tm x) (ev tm y)) (genPure P tm o)
    | .neq => orElse (opEq P false ty (ev tm x) (ev tm y)) (genPure P tm o)
    | _ => genPure P tm o
  | .convert src dst x => orFast (fastConv P src dst (ev tm x)) <| orElse (opStringToBytes P hp src dst (ev tm x)) (orElse (opBytesToString P hp src dst (ev tm x)) (genPure P tm o))
  | .makeInterface ty x => match P.underlying ty with
    | some (.interface _) => .bad
    | some _ => .pure (.ifc ty (ev tm x)) .tt
    | none => .bad
  | .makeFunc (.func f) first caps => .pure (.fnc f (first.toList.map (ev tm)) (caps.toList.map (ev tm))) .tt
  | .slice ty x lo hi mx => opSlice P ty (ev tm x) (lo.map (ev tm)) (hi.map (ev tm)) (mx.map (ev tm))
  | .fieldAddr ty x f => opFieldAddr P ty (ev tm x) f
  | .field ty x f => opField P ty (ev tm x) f
  | .indexAddr ty x i => opIndexAddr P ty (ev tm x) (ev tm i)
  | .index ty x i => opIndex P ty (ev tm x) (ev tm i)
  | .extract x i => match ev tm x with
    | .tup l => match l[i]? with
      | some s => .pure s .tt
      | none => .bad
    | _ => .bad
  | .call c =>
    match c.callee with
    | .value f => match ev tm f with
      | .fnc g fs cs => .call g (fs ++ c.args.toList.map (ev tm) ++ cs)
      | _ => .bad
    | .builtin .len => match c.args.toList.map (ev tm), c.argTypes[0]?.bind P.underlying with
      | [.slc _ _ len _], some (.slice _) => .pure (.num .i64 len) .tt
      | [.sle _ _ len _], some (.slice _) => .pure (.num .i64 len) .tt
      | [.bts _ l], some .string => .pure (.num .i64 l.length) .tt
      | _, _ => genPure P tm o
    | .builtin _ => genPure P tm o
    | _ => .bad
  | _ => genPure P tm o

theorem run_value {P : Program} (s : Sem Value) (w : World) : (do pure (Next.value (← s)) : Sem Next).run P w = (s.run P w).andThen fun v w' => .ok (.value v) w' := by
  simp

theorem vparts {η : Env} {tm : List SV} {a : Act} (h : Rs η tm a.tmps.toList) : ∀ (l : List (Nat × Operand)),
    (l.map fun p => (p.1, ev tm p.2)).map (·.1) = (l.map fun p => (p.1, a.eval p.2)).map (·.1) ∧
    Rs η ((l.map fun p => (p.1, ev tm p.2)).map (·.2)) ((l.map fun p => (p.1, a.eval p.2)).map (·.2))
  | [] => ⟨rfl, Rs.nil⟩
  | p :: l => by
    obtain ⟨h1, h2⟩ := vparts h l
    exact ⟨by simp, Rs.cons (ev_R h p.2) h2⟩

theorem opStore_form (P : Program) (hp : List SO) (ty : TypeId) (x y : SV) (s : SV) (c : Cnd) : opStore P hp ty x y ≠ .pure s c := by
  intro h
  unfold opStore at h
  split at h
  · split at h
    · split at h
      · simp at h
      · simp at h
    · simp at h
  · simp at h

set_option maxHeartbeats 2000000 in
theorem sop_ok {P : Program} {η : Env} {tm : List SV} {a : Act} (h : Rs η tm a.tmps.toList) {hp : List SO} (o : Oper) :
    OpOk P η hp (fun w => (execOp a.eval o).run P w) (sop P tm hp o) := by
  have gp := genPure_ok (P := P) h (hp := hp) o
  obtain ⟨dst, op, type, pos, after, guard⟩ := o
  cases op with
  | move x => exact fun _ B w _ => ⟨_, ev_R h x, by simp [execOp]⟩
  | assign x => exact fun _ B w _ => ⟨_, ev_R h x, by simp [execOp]⟩
  | pick c x y =>
    simp only [sop]
    have hc := ev_R h c
    split
    · rename_i e
      rw [e] at hc; simp only [R] at hc
      exact fun _ B w _ => ⟨_, ev_R h x, by simp [execOp, hc, asBool]⟩
    · rename_i e
      rw [e] at hc; simp only [R] at hc
      exact fun _ B w _ => ⟨_, ev_R h y, by simp [execOp, hc, asBool]⟩
    · trivial
  | alloc ty => exact OpOk.of (fun w => by simp only [execOp]; exact run_value _ w) opAlloc_ok
  | box ty x => exact OpOk.of (fun w => by simp only [execOp]; exact run_value _ w) (opBox_ok (ev_R h x))
  | build ty parts =>
    obtain ⟨h1, h2⟩ := vparts h parts.toList
    refine OpOk.of (r := fun w => (Instr.build ty (parts.map fun (i, x) => (i, a.eval x))).run P w) (fun w => by simp only [execOp]; exact run_value _ w) (opBuild_ok ?_ ?_)
    · simp
    · simpa using h2
  | buildSlice ty len parts =>
    obtain ⟨h1, h2⟩ := vparts h parts.toList
    refine OpOk.of (r := fun w => (Instr.buildSlice ty len (parts.map fun (i, x) => (i, a.eval x))).run P w) (fun w => by simp only [execOp]; exact run_value _ w) (opBuildSlice_ok ?_ ?_)
    · simp
    · simpa using h2
  | load ty x => exact OpOk.of (fun w => by simp only [execOp]; exact run_value _ w) (opLoad_ok (ev_R h x))
  | store ty x y =>
    have := opStore_ok (P := P) (hp := hp) (ty := ty) (ev_R h x) (ev_R h y)
    simp only [sop]
    generalize hq : opStore P hp ty (ev tm x) (ev tm y) = r at this
    cases r with
    | pure s c => exact absurd hq (opStore_form _ _ _ _ _ _ _)
    | mem s hp' c =>
      intro hc B w hr hB
      obtain ⟨v, w', μ, h1, h2⟩ := this hc B w hr hB
      refine ⟨v, w', μ, .inr ?_, h2⟩
      simp only [execOp, Sem.run_bind, Sem.run_pure]
      cases hq : (Instr.storeAt ty (a.eval x) (a.eval y)).run P w with
      | ok u w1 => simp [hq] at h1; simp [h1]
      | halt x w1 => simp [hq] at h1
    | call f args => exact this.elim
    | bad => trivial
  | nilCheck x =>
    simp only [sop]
    have hx := ev_R h x
    split
    · rename_i k off e
      rw [e] at hx
      obtain ⟨b, o, _, he⟩ := id hx
      exact fun _ B w _ => ⟨_, hx, by simp [execOp, he]⟩
    · rename_i g fs cs e
      rw [e] at hx
      obtain ⟨f1, c1, he, _⟩ := id hx
      exact fun _ B w _ => ⟨_, hx, by simp [execOp, he]⟩
    · rename_i t y e
      rw [e] at hx
      obtain ⟨z, he, _⟩ := id hx
      exact fun _ B w _ => ⟨_, hx, by simp [execOp, he]⟩
    · trivial
  | binOp op ty x y yt =>
    have cc : op = .add → OpOk P η hp (fun w => (execOp a.eval ⟨dst, .binOp op ty x y yt, type, pos, after, guard⟩).run P w) (opConcat (ev tm x) (ev tm y)) := by
      rintro rfl
      exact OpOk.of (fun w => by simp [execOp, eqGuard]) (opConcat_ok (P := P) (ty := ty) (ev_R h x) (ev_R h y))
    simp only [sop]
    refine orFast_ok (fun s hs w => ?_) ?_
    · obtain ⟨v, hR, hv⟩ := fastBin_ok (P := P) (ty := ty) (x := x) (y := y) hs (ev_R h x) (ev_R h y) w
      exact ⟨v, hR, by
        simp only [execOp]
        exact (run_value _ w).trans (by rw [hv]; rfl)⟩
    cases op
    case add =>
      simp only []
      split
      · exact cc rfl
      · exact gp
    case eql =>
      refine orElse_ok ?_ gp
      exact OpOk.of (fun w => by simp only [execOp]; exact run_value _ w) (opEq_ok (op := .eql) rfl x y (ev_R h x) (ev_R h y))
    case neq =>
      refine orElse_ok ?_ gp
      exact OpOk.of (fun w => by simp only [execOp]; exact run_value _ w) (opEq_ok (op := .neq) rfl x y (ev_R h x) (ev_R h y))
    case rem =>
      refine orElse_ok ?_ gp
      have := opDivO_ok (P := P) (hp := hp) (op := .rem) (ty := ty) (x := x) (y := y) (ev_R h x) (ev_R h y)
      simpa only [execOp] using this
    case quo =>
      refine orElse_ok ?_ gp
      have := opDivO_ok (P := P) (hp := hp) (op := .quo) (ty := ty) (x := x) (y := y) (ev_R h x) (ev_R h y)
      simpa only [execOp] using this
    all_goals exact gp
  | convert src dst x =>
    simp only [sop]
    refine orFast_ok (fun s hs w => ?_) ?_
    · obtain ⟨v, hR, hv⟩ := fastConv_ok (P := P) hs (ev_R h x) w
      exact ⟨v, hR, by
        simp only [execOp]
        exact (run_value _ w).trans (by rw [hv]; rfl)⟩
    refine orElse_ok ?_ (orElse_ok ?_ gp)
    · exact OpOk.of (fun w => by simp only [execOp]; exact run_value _ w) (opStringToBytes_ok (ev_R h x))
    · exact OpOk.of (fun w => by simp only [execOp]; exact run_value _ w) (opBytesToString_ok (ev_R h x))
  | makeInterface ty x =>
    simp only [sop]
    split
    · trivial
    · rename_i d hu hne
      exact fun _ B w _ => ⟨.iface ty (a.eval x), ⟨_, rfl, ev_R h x⟩, by
        simp only [execOp, Instr.makeInterface, Sem.run_bind, run_underlying hne, Result.andThen_ok]
        cases d <;> first | (exact (hu _ rfl).elim) | simp⟩
    · trivial
  | makeFunc fn first caps =>
    cases fn with
    | func f =>
      exact fun _ B w _ => ⟨.func (.func f) (first.map a.eval) (caps.map a.eval), ⟨_, _, rfl, by simpa using ev_Rs h first.toList, by simpa using ev_Rs h caps.toList⟩, by simp [execOp, Instr.makeFunc]⟩
    | _ => exact gp
  | slice ty x lo hi mx => exact OpOk.of (fun w => by simp only [execOp]; exact run_value _ w) (opSlice_ok (ev_R h x) (ev_Ro h lo) (ev_Ro h hi) (ev_Ro h mx))
  | fieldAddr ty x f => exact OpOk.of (fun w => by simp only [execOp]; exact run_value _ w) (opFieldAddr_ok (ev_R h x))
  | field ty x f => exact OpOk.of (fun w => by simp only [execOp]; exact run_value _ w) (opField_ok (ev_R h x))
  | indexAddr ty x i => exact OpOk.of (fun w => by simp only [execOp]; exact run_value _ w) (opIndexAddr_ok (ev_R h x) (ev_R h i))
  | index ty x i => exact OpOk.of (fun w => by simp only [execOp]; exact run_value _ w) (opIndex_ok (ev_R h x) (ev_R h i))
  | extract x i =>
    simp only [sop]
    have hx := ev_R h x
    split
    · rename_i l e
      rw [e] at hx
      obtain ⟨vs, he, hvs⟩ := hx
      split
      · rename_i s hs
        obtain ⟨v, hv, hR⟩ := hvs.get hs
        have hv' : vs[i]? = some v := by simpa using hv
        exact fun _ B w _ => ⟨v, hR, by simp [execOp, Instr.extract, he, hv']⟩
      · trivial
    · trivial
  | call c =>
    simp only [sop]
    split
    · rename_i f hf
      have hR := ev_R h f
      split
      · rename_i g fs cs e
        rw [e] at hR
        obtain ⟨f1, c1, he, h1, h2⟩ := hR
        refine ⟨f1.toList ++ (c.args.toList.map a.eval) ++ c1.toList, (h1.append (ev_Rs h _)).append h2, fun w => ?_⟩
        have e : (f1.toList ++ c.args.toList.map a.eval ++ c1.toList).toArray = f1 ++ (c.args.map a.eval ++ c1) := by
          apply Array.toList_inj.1; simp
        rw [e]
        simp [execOp, resolve, hf, he, Deferred.ofValue, invoke]
      · trivial
    · rename_i hb
      split
      · rename_i k off len cap e hargs hu
        obtain ⟨x, hx⟩ : ∃ x, c.args.toList = [x] := by
          cases hl : c.args.toList with
          | nil => simp [hl] at hargs
          | cons x r => cases r with
            | nil => exact ⟨x, rfl⟩
            | cons y r => simp [hl] at hargs
        have hR := ev_R h x
        simp only [hx, List.map_cons, List.map_nil, List.cons.injEq, and_true] at hargs
        rw [hargs] at hR
        obtain ⟨b, o, _, hv⟩ := hR
        have ha : c.args = #[x] := by apply Array.toList_inj.1; simpa using hx
        obtain ⟨t, ht, hu'⟩ := Option.bind_eq_some_iff.1 hu
        exact fun _ B w _ => ⟨.int .i64 len, by simp only [R], by simp [execOp, resolve, hb, ha, hv, invoke, builtin, Builtin.len_, ht, run_underlying hu', goInt]⟩
      · rename_i k off len kc e hargs hu
        obtain ⟨x, hx⟩ : ∃ x, c.args.toList = [x] := by
          cases hl : c.args.toList with
          | nil => simp [hl] at hargs
          | cons x r => cases r with
            | nil => exact ⟨x, rfl⟩
            | cons y r => simp [hl] at hargs
        have hR := ev_R h x
        simp only [hx, List.map_cons, List.map_nil, List.cons.injEq, and_true] at hargs
        rw [hargs] at hR
        obtain ⟨b, o, _, _, _, _, hv⟩ := hR
        have ha : c.args = #[x] := by apply Array.toList_inj.1; simpa using hx
        obtain ⟨t, ht, hu'⟩ := Option.bind_eq_some_iff.1 hu
        exact fun _ B w _ => ⟨.int .i64 len, by simp only [R], by simp [execOp, resolve, hb, ha, hv, invoke, builtin, Builtin.len_, ht, run_underlying hu', goInt]⟩
      · rename_i _ l hargs hu
        obtain ⟨x, hx⟩ : ∃ x, c.args.toList = [x] := by
          cases hl : c.args.toList with
          | nil => simp [hl] at hargs
          | cons x r => cases r with
            | nil => exact ⟨x, rfl⟩
            | cons y r => simp [hl] at hargs
        have hR := ev_R h x
        simp only [hx, List.map_cons, List.map_nil, List.cons.injEq, and_true] at hargs
        rw [hargs] at hR
        simp only [R] at hR
        have ha : c.args = #[x] := by apply Array.toList_inj.1; simpa using hx
        obtain ⟨t, ht, hu'⟩ := Option.bind_eq_some_iff.1 hu
        have hs : (⟨l.toArray⟩ : ByteArray).size = l.length := by show l.toArray.size = _; simp
        exact fun _ B w _ => ⟨.int .i64 l.length, by simp only [R], by simp [execOp, resolve, hb, ha, hR, invoke, builtin, Builtin.len_, ht, run_underlying hu', goInt, hs]⟩
      · exact gp
    · exact gp
    · trivial
  | _ => exact gp
end Go.Ex
