/-
  A reckoner of programs and its soundness, part ExJ2: what it reckons is what 'Calls' says. No condition. By an AI agent.
-/
import Derived.Test.YtgefcokanfbpbaaDoorExE2
import Derived.Orders
import Derived.CallsIn
import Derived.Deep.Quiet
import Derived.StillTail
import Derived.Tactics
import Derived.OrdersHeld
namespace Go.Ex
open Go.RowKit (Below)

theorem fieldsOf_eq {P : Program} {t : TypeId} {fs : Array Field} (h : P.underlying t = some (.struct fs)) : P.fieldsOf t = fs := by
  simp [Program.fieldsOf, h]

theorem run_part_cell {P : Program} {t : TypeId} {vs : Array Value} {i : Nat} {v : Value} (h : tagg P t = some false) (hv : vs[i]? = some v) (w : World) : (part t vs i).run P w = .ok v w := by
  simp [part, run_isAgg' h, hv]
theorem run_part_agg {P : Program} {t : TypeId} {vs : Array Value} {i n : Nat} (h : tagg P t = some true) (hn : tsize P t = some n) (w : World) :
    (part t vs i).run P w = .ok (.agg (vs.extract i (i + n))) w := by
  simp [part, run_isAgg' h, run_sizeOf' hn]

/-- The rounds of '==' on arrays. -/
theorem run_eqLoop {P : Program} {w : World} (d : Nat) (e : TypeId) (xs ys : Array Value) (E : Value → Value → Option Bool)
    (hE : ∀ x y b, E x y = some b → (Op.equalIn d e x y).run P w = .ok b w) (hs : tsize P e = some 1) (ha : tagg P e = some false) :
    ∀ (ls ms : List Value) (k : Nat) (b : Bool), ls.length = ms.length → (∀ j v, ls[j]? = some v → xs[k + j]? = some v) → (∀ j v, ms[j]? = some v → ys[k + j]? = some v) →
      (ls.zip ms).foldr (fun (p : Value × Value) (r : Option Bool) => match E p.1 p.2, r with | some a, some b => some (a && b) | _, _ => none) (some true) = some b →
      ((forIn (List.range' k ls.length) ((none, ()) : Option Bool × PUnit) fun i (_ : Option Bool × PUnit) => do
          let __do_lift ← part e xs (i * 1)
          let __do_lift_1 ← part e ys (i * 1)
          let __do_lift ← Op.equalIn d e __do_lift __do_lift_1
          if (!__do_lift) = true then pure (ForInStep.done ((some false, ()) : Option Bool × PUnit)) else pure (ForInStep.yield (none, ())) : Sem (Option Bool × PUnit)).run P w) =
        .ok (if b then (none, ()) else (some false, ())) w
  | [], ms, k, b, hl, _, _, h => by
    simp at h; subst h; simp
  | x :: ls, [], k, b, hl, _, _, h => by simp at hl
  | x :: ls, y :: ms, k, b, hl, hx, hy, h => by
    simp only [List.zip_cons_cons, List.foldr_cons] at h
    split at h
    · rename_i a b' hxy hr
      simp at h; subst h
      have h0 := hx 0 x rfl
      have h1 := hy 0 y rfl
      simp only [Nat.add_zero] at h0 h1
      simp only [List.length_cons, List.range'_succ, List.forIn_cons, Sem.run_bind, Nat.mul_one, run_part_cell ha h0, run_part_cell ha h1, Result.andThen_ok, hE _ _ _ hxy, Sem.run_ite]
      cases a
      · simp
      · simp only [Bool.not_true, Bool.false_eq_true, if_false, Sem.run_pure, Result.andThen_ok, Bool.true_and]
        have := run_eqLoop d e xs ys E hE hs ha ls ms (k + 1) b' (by simpa using hl)
          (fun j v hj => by have := hx (j + 1) v (by simpa using hj); rwa [show k + (j + 1) = k + 1 + j by omega] at this)
          (fun j v hj => by have := hy (j + 1) v (by simpa using hj); rwa [show k + (j + 1) = k + 1 + j by omega] at this) hr
        simpa only [Nat.mul_one] using this
    · simp at h

theorem run_eqFields {P : Program} {w : World} (d : Nat) (xs ys : Array Value) (E : TypeId → Value → Value → Option Bool)
    (hE : ∀ t x y b, E t x y = some b → (Op.equalIn d t x y).run P w = .ok b w) : ∀ (fs : List Field) (b : Bool),
    fs.foldr (fun (f : Field) (r : Option Bool) =>
        if f.name = "_" then r else
        match tagg P f.type with
        | some false => match xs[f.offset]?, ys[f.offset]? with
          | some a, some b => match E f.type a b, r with | some a, some b => some (a && b) | _, _ => none
          | _, _ => none
        | some true => match tsize P f.type with
          | some n => match E f.type (.agg (xs.extract f.offset (f.offset + n))) (.agg (ys.extract f.offset (f.offset + n))), r with | some a, some b => some (a && b) | _, _ => none
          | none => none
        | none => none) (some true) = some b → (Op.eqFields d xs ys fs).run P w = .ok b w
  | [], b, h => by simp at h; subst h; simp [Op.eqFields]
  | f :: fs, b, h => by
    simp only [List.foldr_cons] at h
    simp only [Op.eqFields]
    split at h
    · rename_i hn
      rw [if_neg (by simp [hn])]
      exact run_eqFields d xs ys E hE fs b h
    · rename_i hn
      rw [if_pos hn]
      have fin : ∀ (vx vy : Value), (∀ w, (part f.type xs f.offset).run P w = .ok vx w) → (∀ w, (part f.type ys f.offset).run P w = .ok vy w) → ∀ (a b' : Bool), E f.type vx vy = some a →
          (Op.eqFields d xs ys fs).run P w = .ok b' w → Sem.run P (do
            let a ← part f.type xs f.offset
            let b ← part f.type ys f.offset
            let r ← Op.equalIn d f.type a b
            if (!r) = true then pure false else Op.eqFields d xs ys fs) w = .ok (a && b') w := by
        intro vx vy h1 h2 a b' h3 h4
        simp only [Sem.run_bind, h1, h2, Result.andThen_ok, hE _ _ _ _ h3, Sem.run_ite]
        cases a
        · simp
        · simp [h4]
      split at h
      · rename_i ha
        split at h
        · rename_i vx vy hx hy
          split at h
          · rename_i a b' h1 h2
            simp at h; subst h
            exact fin vx vy (run_part_cell ha hx) (run_part_cell ha hy) a b' h1 (run_eqFields d xs ys E hE fs b' h2)
          · simp at h
        · simp at h
      · rename_i ha
        split at h
        · rename_i n hn'
          split at h
          · rename_i a b' h1 h2
            simp at h; subst h
            exact fin _ _ (run_part_agg ha hn') (run_part_agg ha hn') a b' h1 (run_eqFields d xs ys E hE fs b' h2)
          · simp at h
        · simp at h
      · simp at h

theorem eqB_ok {P : Program} : ∀ (m : Nat) (t : TypeId) (x y : Value) (b : Bool), eqB P m t x y = some b → ∀ d, m ≤ d → ∀ w, (Op.equalIn d t x y).run P w = .ok b w
  | 0, _, _, _, _, h, _, _, _ => by simp [eqB] at h
  | m + 1, t, x, y, b, h, 0, hd, w => by omega
  | m + 1, t, x, y, b, h, d + 1, hd, w => by
    simp only [eqB] at h
    split at h
    · rename_i hu
      simp at h; subst h; simp [Op.equalIn, run_underlying hu]
    · rename_i hu
      split at h
      · rename_i hk; subst hk; simp at h; subst h; simp [Op.equalIn, run_underlying hu]
      · simp at h
    · rename_i hu
      simp at h; subst h; simp [Op.equalIn, run_underlying hu]
    · rename_i len e xs ys hu
      split at h
      · rename_i hs ha
        split at h
        · rename_i hsz
          have hl := run_eqLoop (P := P) (w := w) d e xs ys (eqB P m e) (fun x y b hb => eqB_ok m e x y b hb d (by omega) w) hs ha xs.toList ys.toList 0 b (by simp [hsz.1, hsz.2])
            (fun j v hj => by simpa using hj) (fun j v hj => by simpa using hj) h
          simp only [Array.length_toList, hsz.1] at hl
          simp only [Op.equalIn, Sem.run_bind, run_underlying hu, Result.andThen_ok, run_sizeOf' hs, Std.Legacy.Range.forIn_eq_forIn_range', Std.Legacy.Range.size, Nat.sub_zero, Nat.add_sub_cancel, Nat.div_one]
          rw [hl]
          cases b <;> simp
        · simp at h
      · simp at h
    · rename_i fs xs ys hu
      split at h
      · simp at h
      · rename_i hst
        have hst' : P.stoodInHeld t = false := by simpa using hst
        rw [run_equalIn_struct w d t xs ys (by rw [fieldsOf_eq hu]; exact hu) hst', fieldsOf_eq hu]
        have hE := fun (t : TypeId) (x y : Value) (b : Bool) (hb : eqB P m t x y = some b) => eqB_ok m t x y b hb d (by omega) w
        exact run_eqFields d xs ys (eqB P m) hE fs.toList b h
    · simp at h
end Go.Ex
namespace Go.Ex
open Go.RowKit (Below)

/-- What is owed of an operation of a region. -/
def OpOk (P : Program) (η : Env) (hp : List SO) (r : World → Result Next) : OR → Prop
  | .pure s c => c → ∀ B w, HR B η hp w → ∃ v, R η s v ∧ r w = .ok (.value v) w
  | .mem s hp' c => c → ∀ B w, HR B η hp w → B ≤ w.heap.size → ∃ v w' μ, (r w = .ok (.value v) w' ∨ (r w = .ok .skip w' ∧ v = undef)) ∧ R (η ++ μ) s v ∧ HR B (η ++ μ) hp' w' ∧ Below B w w'
  | .call f args => ∃ vs, Rs η args vs ∧ ∀ w, r w = (callFunc f vs.toArray).run P w
  | .bad => True

theorem OpOk.of {P : Program} {η : Env} {hp : List SO} {r : World → Result Value} {q : World → Result Next} (hq : ∀ w, q w = (r w).andThen fun v w' => .ok (.value v) w') {o : OR} (h : OrOk η hp r o) : OpOk P η hp q o := by
  cases o with
  | pure s c =>
    intro hc B w hr
    obtain ⟨v, hR, hv⟩ := h hc B w hr
    exact ⟨v, hR, by rw [hq, hv]; rfl⟩
  | mem s hp' c =>
    intro hc B w hr hB
    obtain ⟨v, w', μ, h1, h2⟩ := h hc B w hr hB
    exact ⟨v, w', μ, .inl (by rw [hq, h1]; rfl), h2⟩
  | call f args => exact h.elim
  | bad => trivial

/-! ### == and != -/
def isEq : BinOp → Option Bool
  | .eql => some true
  | .neq => some false
  | _ => none

def opEq (P : Program) (pos : Bool) (ty : TypeId) (x y : SV) : OR :=
  match x, y, P.underlying ty with
  | .ptr .., .val (.pointer none), some (.pointer _) => .pure (.bol !pos) .tt
  | .val (.pointer none), .ptr .., some (.pointer _) => .pure (.bol !pos) .tt
  | .slc .., .val (.slice none _ _), some (.slice _) => .pure (.bol !pos) .tt
  | .ifc .., .val .nilIface, some (.interface _) => .pure (.bol !pos) .tt
  | .agg a, .agg b, _ =>
    match SV.vals a, SV.vals b with
    | some xs, some ys =>
      if P.eqGuardType P.depth ty then .bad else
      match eqB P 64 ty (.agg xs.toArray) (.agg ys.toArray) with
      | some r => .pure (if a.all SV.lit && b.all SV.lit then .bol (if pos then r else !r) else .val (.bool (if pos then r else !r))) .tt
      | none => .bad
    | _, _ => .bad
  | _, _, _ => .bad

theorem eq_ptr_nil {P : Program} {ty e : TypeId} (hu : P.underlying ty = some (.pointer e)) (a : Addr) (d : Nat) (w : World) : (Op.equalIn (d + 1) ty (.pointer (some a)) (.pointer none)).run P w = .ok false w := by
  simp [Op.equalIn, run_underlying hu]
theorem eq_nil_ptr {P : Program} {ty e : TypeId} (hu : P.underlying ty = some (.pointer e)) (a : Addr) (d : Nat) (w : World) : (Op.equalIn (d + 1) ty (.pointer none) (.pointer (some a))).run P w = .ok false w := by
  simp [Op.equalIn, run_underlying hu]
theorem eq_slc_nil {P : Program} {ty e : TypeId} (hu : P.underlying ty = some (.slice e)) (a : Addr) (n c n' c' : Nat) (d : Nat) (w : World) : (Op.equalIn (d + 1) ty (.slice (some a) n c) (.slice none n' c')).run P w = .ok false w := by
  simp [Op.equalIn, run_underlying hu]
theorem eq_ifc_nil {P : Program} {ty : TypeId} {ms : Array (String × TypeId)} (hu : P.underlying ty = some (.interface ms)) (t : TypeId) (x : Value) (d : Nat) (w : World) : (Op.equalIn (d + 1) ty (.iface t x) .nilIface).run P w = .ok false w := by
  simp [Op.equalIn, run_underlying hu]

theorem opEq_ok {P : Program} {η : Env} {hp : List SO} {op : BinOp} {pos : Bool} (hop : isEq op = some pos) {ty : TypeId} {x y : SV} {vx vy : Value} (ox oy : Operand) (hx : R η x vx) (hy : R η y vy) :
    OrOk η hp (fun w => (do eqGuard op ty ox oy vx vy; binOp op ty vx vy : Sem Value).run P w) (opEq P pos ty x y) := by
  have key : ∀ (b : Bool) (vx vy : Value), (∀ w, (eqGuard op ty ox oy vx vy).run P w = .ok () w) → (∀ w, (Op.equal ty vx vy).run P w = .ok b w) →
      (∀ k a, vx ≠ .int k a) → (∀ k a, vx ≠ .float k a) → (∀ k a c, vx ≠ .complex k a c) → (∀ s, vx ≠ .string s) →
      ∀ w, (do eqGuard op ty ox oy vx vy; binOp op ty vx vy : Sem Value).run P w = .ok (.bool (if pos then b else !b)) w := by
    intro b vx vy h1 h2 n1 n2 n3 n4 w
    cases op <;> simp [isEq] at hop <;> subst hop <;> simp only [Sem.run_bind, h1, Result.andThen_ok]
    all_goals
      cases vx <;> first
        | exact absurd rfl (n1 _ _)
        | exact absurd rfl (n2 _ _)
        | exact absurd rfl (n3 _ _ _)
        | exact absurd rfl (n4 _)
        | (simp [binOp, h2])
  have gd : ∀ (vx vy : Value), (∀ xs, vx ≠ .agg xs) → vx ≠ .nilIface → ∀ w, (eqGuard op ty ox oy vx vy).run P w = .ok () w := by
    intro vx vy n1 n2 w
    cases op <;> simp [isEq] at hop <;> subst hop
    all_goals
      cases vx <;> first
        | exact absurd rfl (n1 _)
        | exact absurd rfl n2
        | simp [eqGuard]
  unfold opEq
  split
  · rename_i k off e hu
    simp only [R] at hx hy
    obtain ⟨b, o, _, rfl⟩ := hx
    subst hy
    refine OrOk.value (v := .bool !pos) (by simp only [R]) fun w => ?_
    rw [key false _ _ (gd _ _ (by simp) (by simp)) (fun w => eq_ptr_nil hu _ 9999 w) (by simp) (by simp) (by simp) (by simp)]
    cases pos <;> rfl
  · rename_i k off e hu
    simp only [R] at hx hy
    obtain ⟨b, o, _, rfl⟩ := hy
    subst hx
    refine OrOk.value (v := .bool !pos) (by simp only [R]) fun w => ?_
    rw [key false _ _ (gd _ _ (by simp) (by simp)) (fun w => eq_nil_ptr hu _ 9999 w) (by simp) (by simp) (by simp) (by simp)]
    cases pos <;> rfl
  · rename_i k off l c n c' e hu
    simp only [R] at hx hy
    obtain ⟨b, o, _, rfl⟩ := hx
    subst hy
    refine OrOk.value (v := .bool !pos) (by simp only [R]) fun w => ?_
    rw [key false _ _ (gd _ _ (by simp) (by simp)) (fun w => eq_slc_nil hu _ _ _ _ _ 9999 w) (by simp) (by simp) (by simp) (by simp)]
    cases pos <;> rfl
  · rename_i t' x' ms hu
    simp only [R] at hx hy
    obtain ⟨z, rfl, _⟩ := hx
    subst hy
    refine OrOk.value (v := .bool !pos) (by simp only [R]) fun w => ?_
    rw [key false _ _ (gd _ _ (by simp) (by simp)) (fun w => eq_ifc_nil hu _ _ 9999 w) (by simp) (by simp) (by simp) (by simp)]
    cases pos <;> rfl
  · rename_i a b _
    simp only [R] at hx hy
    obtain ⟨vs, rfl, hvs⟩ := hx
    obtain ⟨us, rfl, hus⟩ := hy
    split
    · rename_i xs ys h1 h2
      split
      · trivial
      · rename_i hg
        split
        · rename_i r hr
          have e1 := SV.vals_R h1 hvs
          have e2 := SV.vals_R h2 hus
          refine OrOk.value (v := .bool (if pos then r else !r)) (by split <;> simp only [R]) fun w => ?_
          rw [key r _ _ (fun w => run_eqGuard_agg w op ty ox oy vs us (by simpa using hg)) (fun w => ?_) (by simp) (by simp) (by simp) (by simp)]
          rw [← e1, ← e2] at hr
          exact eqB_ok 64 ty _ _ r (by simpa using hr) Op.maxDepth (by decide) w
        · trivial
    · trivial
  · trivial
end Go.Ex
namespace Go.Ex
open Go.RowKit (Below)

/-! ### short ways for whole numbers -/
def fastInt (op : BinOp) (k : IntKind) (a b : Int) : Option SV :=
  match op with
  | .add => some (.num k (k.wrap (a + b)))
  | .sub => some (.num k (k.wrap (a - b)))
  | .mul => some (.num k (k.wrap (a * b)))
  | .quo => if b = 0 then none else some (.num k (k.wrap (a.tdiv b)))
  | .rem => if b = 0 then none else some (.num k (a.tmod b))
  | .and => some (.num k (k.wrap (BitVec.ofInt k.bits a &&& BitVec.ofInt k.bits b).toNat))
  | .or => some (.num k (k.wrap (BitVec.ofInt k.bits a ||| BitVec.ofInt k.bits b).toNat))
  | .xor => some (.num k (k.wrap (BitVec.ofInt k.bits a ^^^ BitVec.ofInt k.bits b).toNat))
  | .andNot => some (.num k (k.wrap (BitVec.ofInt k.bits a &&& ~~~ BitVec.ofInt k.bits b).toNat))
  | .eql => some (.bol (a == b))
  | .neq => some (.bol (a != b))
  | .lss => some (.bol (a < b))
  | .leq => some (.bol (a ≤ b))
  | .gtr => some (.bol (a > b))
  | .geq => some (.bol (a ≥ b))
  | .shl | .shr => none
def fastBin (op : BinOp) (x y : SV) : Option SV :=
  match x, y with
  | .num k a, .num k' b =>
    match op with
    | .shl => if b < 0 then none else some (.num k (k.wrap (a * 2 ^ (min b.toNat k.bits))))
    | .shr => if b < 0 then none else some (.num k (a.fdiv (2 ^ (min b.toNat k.bits))))
    | op => if k = k' then fastInt op k a b else none
  | _, _ => none

theorem fastBin_ok {P : Program} {η : Env} {op : BinOp} {ty : TypeId} {x y : Operand} {sx sy s : SV} {vx vy : Value} (h : fastBin op sx sy = some s) (hx : R η sx vx) (hy : R η sy vy) (w : World) :
    ∃ v, R η s v ∧ (do eqGuard op ty x y vx vy; binOp op ty vx vy : Sem Value).run P w = .ok v w := by
  unfold fastBin at h
  split at h
  · rename_i k a k' b
    simp only [R] at hx hy
    subst hx; subst hy
    split at h
    · split at h
      · simp at h
      · rename_i hb
        simp only [Option.some.injEq] at h; subst h
        exact ⟨_, Eq.refl _, by simp [eqGuard_shl, binOp_shl, Op.shift, hb]⟩
    · split at h
      · simp at h
      · rename_i hb
        simp only [Option.some.injEq] at h; subst h
        exact ⟨_, Eq.refl _, by simp [eqGuard_shr, binOp_shr, Op.shift, hb]⟩
    · split at h
      · rename_i hk
        subst hk
        cases op <;> simp only [fastInt, Option.some.injEq] at h
        case quo =>
          split at h
          · simp at h
          · rename_i hb
            simp only [Option.some.injEq] at h; subst h
            exact ⟨_, Eq.refl _, by simp [eqGuard_at_int, binOp_quo, Op.intDiv, hb]⟩
        case rem =>
          split at h
          · simp at h
          · rename_i hb
            simp only [Option.some.injEq] at h; subst h
            exact ⟨_, Eq.refl _, by simp [eqGuard_at_int, binOp_rem, Op.intDiv, hb]⟩
        case shl => simp at h
        case shr => simp at h
        all_goals
          subst h
          refine ⟨_, Eq.refl _, ?_⟩
          simp [eqGuard_at_int, binOp_add, binOp_sub, binOp_mul, binOp_and, binOp_or, binOp_xor, binOp_andNot, binOp_eql, binOp_neq, binOp_lss, binOp_leq, binOp_gtr, binOp_geq, Op.intArith, Op.intBits]
      · simp at h
  · simp at h

def fastConv (P : Program) (src dst : TypeId) (x : SV) : Option SV :=
  match x with
  | .num _ n => match P.underlying src, P.underlying dst with
    | some _, some (.int k) => some (.num k (k.wrap n))
    | _, _ => none
  | _ => none
theorem fastConv_ok {P : Program} {η : Env} {src dst : TypeId} {sx s : SV} {vx : Value} (h : fastConv P src dst sx = some s) (hx : R η sx vx) (w : World) :
    ∃ v, R η s v ∧ (convert src dst vx).run P w = .ok v w := by
  unfold fastConv at h
  split at h
  · rename_i k n
    simp only [R] at hx
    subst hx
    split at h
    · rename_i d k' h1 h2
      simp only [Option.some.injEq] at h; subst h
      exact ⟨_, Eq.refl _, by simp [convert, run_underlying h1, run_underlying h2, Conv.intToInt]⟩
    · simp at h
  · simp at h
/-! ### division by what is not told -/
def opDivO (op : BinOp) (x y : SV) : OR :=
  match y with
  | .val (.int k' b) =>
    match x.val? with
    | some (.int k a) => if k = k' then
        match op with
        | .rem => .pure (.val (.int k (a.tmod b))) (.pr (b ≠ 0))
        | .quo => .pure (.val (.int k (k.wrap (a.tdiv b)))) (.pr (b ≠ 0))
        | _ => .bad
      else .bad
    | _ => .bad
  | _ => .bad
theorem opDivO_ok {P : Program} {η : Env} {hp : List SO} {op : BinOp} {ty : TypeId} {x y : Operand} {sx sy : SV} {vx vy : Value} (hx : R η sx vx) (hy : R η sy vy) :
    OpOk P η hp (fun w => (do pure (Next.value (← (do eqGuard op ty x y vx vy; binOp op ty vx vy : Sem Value))) : Sem Next).run P w) (opDivO op sx sy) := by
  unfold opDivO
  split
  · rename_i k' b
    simp only [R] at hy
    subst hy
    split
    · rename_i k a hv
      have := SV.val?_R hv hx
      subst this
      split
      · rename_i hk
        subst hk
        split
        · intro hc B w hr
          simp only [Cnd.Is] at hc
          exact ⟨.int k (a.tmod b), by simp only [R], by simp [eqGuard_at_int, binOp_rem, Op.intDiv, hc]⟩
        · intro hc B w hr
          simp only [Cnd.Is] at hc
          exact ⟨.int k (k.wrap (a.tdiv b)), by simp only [R], by simp [eqGuard_at_int, binOp_quo, Op.intDiv, hc]⟩
        · trivial
      · trivial
    · trivial
  · trivial
end Go.Ex
namespace Go.Ex
open Go.RowKit (Below)

/-- What an operand holds. -/
def ev (tm : List SV) : Operand → SV
  | .tmp t => tm.getD t (.val undef)
  | .const v => ofV v
  | .global g => .val (.pointer (some ⟨g, 0, none⟩))
  | .func f => .fnc f [] []
theorem ev_R {η : Env} {tm : List SV} {a : Act} (h : Rs η tm a.tmps.toList) (x : Operand) : R η (ev tm x) (a.eval x) := by
  cases x with
  | tmp t =>
    simp only [ev, Act.eval]
    by_cases ht : t < tm.length
    · obtain ⟨v, hv, hR⟩ := h.get (List.getElem?_eq_getElem ht)
      have e1 : tm.getD t (.val undef) = tm[t] := by simp [List.getD, List.getElem?_eq_getElem ht]
      have e2 : a.tmps.getD t undef = v := by
        have : a.tmps[t]? = some v := by simpa using hv
        simp [Array.getD_eq_getD_getElem?, this]
      rw [e1, e2]; exact hR
    · have hl := h.length
      rw [Array.length_toList] at hl
      have e1 : tm.getD t (.val undef) = .val undef := by
        rw [List.getD, List.getElem?_eq_none (Nat.le_of_not_lt ht)]; rfl
      have e2 : a.tmps.getD t undef = undef := by
        have : a.tmps[t]? = none := Array.getElem?_eq_none (by rw [hl]; exact Nat.le_of_not_lt ht)
        simp [Array.getD_eq_getD_getElem?, this]
      rw [e1, e2]; simp only [R]
  | const v => exact ofV_R η v
  | global g => simp only [ev, R, Act.eval]
  | func f => exact ⟨#[], #[], rfl, Rs.nil, Rs.nil⟩

theorem ev_Ro {η : Env} {tm : List SV} {a : Act} (h : Rs η tm a.tmps.toList) (x : Option Operand) : Ro η (x.map (ev tm)) (x.map a.eval) := by
  cases x with
  | none => trivial
  | some x => exact ev_R h x
theorem ev_Rs {η : Env} {tm : List SV} {a : Act} (h : Rs η tm a.tmps.toList) : ∀ (l : List Operand), Rs η (l.map (ev tm)) (l.map a.eval)
  | [] => Rs.nil
  | x :: l => Rs.cons (ev_R h x) (ev_Rs h l)


mutual
def ptrsOf : SV → List Nat
  | .ptr k _ => [k]
  | .slc k _ _ _ => [k]
  | .sle k _ _ _ => [k]
  | .pto k _ => [k]
  | .slo k _ _ => [k]
  | .fnc _ fs cs => ptrsOfs fs ++ ptrsOfs cs
  | .agg l => ptrsOfs l
  | .tup l => ptrsOfs l
  | .ifc _ x => ptrsOf x
  | _ => []
def ptrsOfs : List SV → List Nat
  | [] => []
  | s :: l => ptrsOf s ++ ptrsOfs l
end

/-! ### whatever only reckons with scalars -/
def isSelect : Op → Bool
  | .select .. => true
  | _ => false
def genPure (P : Program) (tm : List SV) (o : Oper) : OR :=
  if isSelect o.op then .bad else
  if o.op.operands.toList.all fun x => ((ev tm x).val?).isSome then
    match (execOp (fun x => ((ev tm x).val?).getD undef) o).pr P with
    | some (.value r) => .pure (if o.op.operands.toList.all fun x => (ev tm x).lit then ofV r else .val r) .tt
    | _ => .bad
  else .bad
theorem genPure_ok {P : Program} {η : Env} {tm : List SV} {a : Act} (h : Rs η tm a.tmps.toList) {hp : List SO} (o : Oper) :
    OpOk P η hp (fun w => (execOp a.eval o).run P w) (genPure P tm o) := by
  unfold genPure
  split
  · trivial
  · rename_i hsel
    split
    · rename_i hall
      split
      · rename_i r hr
        intro _ B w _
        refine ⟨r, ?_, ?_⟩
        · split
          · exact ofV_R η r
          · simp only [R]
        · have : execOp a.eval o = execOp (fun x => ((ev tm x).val?).getD undef) o := by
            apply execOp_congr
            · intro cs b hs
              rw [hs] at hsel
              simp [isSelect] at hsel
            · intro x hx
              have h1 := List.all_eq_true.1 hall x (by simpa using hx)
              obtain ⟨v, hv⟩ := Option.isSome_iff_exists.1 h1
              rw [hv]
              exact SV.val?_R hv (ev_R h x)
          simp only []
          rw [this]
          exact pr_run hr w
      · trivial
    · trivial

def orElse (x y : OR) : OR :=
  match x with
  | .bad => y
  | x => x
theorem orElse_ok {P : Program} {η : Env} {hp : List SO} {r : World → Result Next} {x y : OR} (hx : OpOk P η hp r x) (hy : OpOk P η hp r y) : OpOk P η hp r (orElse x y) := by
  cases x <;> first | exact hx | exact hy

def orFast (x : Option SV) (y : OR) : OR :=
  match x with
  | some s => .pure s .tt
  | none => y
theorem orFast_ok {P : Program} {η : Env} {hp : List SO} {r : World → Result Next} {x : Option SV} {y : OR} (hx : ∀ s, x = some s → ∀ w, ∃ v, R η s v ∧ r w = .ok (.value v) w) (hy : OpOk P η hp r y) : OpOk P η hp r (orFast x y) := by
  cases x with
  | none => exact hy
  | some s => exact fun _ _ w _ => hx s rfl w

/-- The method of a value behind an interface, called upon the value itself. -/
def methB (P : Program) (t : TypeId) (name : String) : Option FuncId :=
  match P.info? t with
  | some i => match i.methods.find? (·.name == name) with
    | some m => if m.path.toList.isEmpty then (match m.func with
      | some (f, b) => (match P.underlying t with
        | some (.pointer _) => if b = true then some f else none
        | some _ => if b = false then some f else none
        | none => none)
      | none => none) else none
    | none => none
  | none => none


/-- An operation of a region, its guard met. -/
def sop (P : Program) (tm : List SV) (hp : List SO) (o : Oper) : OR :=
  match o.op with
  | .move x | .assign x => .pure (ev tm x) .tt
  | .pick c x y => match ev tm c with
    | .bol true => .pure (ev tm x) .tt
    | .bol false => .pure (ev tm y) .tt
    | _ => .bad
  | .alloc ty => opAlloc P hp ty
  | .box _ x => opBox hp (ev tm x)
  | .build ty parts => opBuild P ty (parts.toList.map fun p => (p.1, ev tm p.2))
  | .buildSlice ty len parts => opBuildSliceO P hp ty len (parts.toList.map fun p => (p.1, ev tm p.2))
  | .makeSlice ty l c => opMakeSlice P hp ty (ev tm l) (ev tm c)
  | .makeMap ty r => opMakeMap P hp ty (r.map (ev tm))
  | .mapUpdate ty m k x => opMapUpdate P hp ty (ev tm m) (ev tm k) (ev tm x)
  | .insert ty m k x => opMapUpdate P hp ty (ev tm m) (ev tm k) (ev tm x)
  | .lookup ty x i ok => opLookup P hp ty (ev tm x) (ev tm i) ok
  | .load ty x => opLoad P hp ty (ev tm x)
  | .store ty x y => opStore P hp ty (ev tm x) (ev tm y)
  | .nilCheck x => match ev tm x with
    | .ptr k off => .pure (.ptr k off) .tt
    | .pto k i => .pure (.pto k i) .tt
    | .fnc g fs cs => .pure (.fnc g fs cs) .tt
    | .ifc t y => .pure (.ifc t y) .tt
    | _ => .bad
  | .binOp op ty x y _ => orFast (fastBin op (ev tm x) (ev tm y)) <|
    match op with
    | .add => match (ev tm x).val?, (ev tm y).val? with
      | some (.string _), some (.string _) => opConcat (ev tm x) (ev tm y)
      | _, _ => genPure P tm o
    | .eql => orElse (opEq P true ty (ev tm x) (ev tm y)) (genPure P tm o)
    | .rem => orElse (opDivO .rem (ev tm x) (ev tm y)) (genPure P tm o)
    | .quo => orElse (opDivO .quo (ev tm x) (ev tm y)) (genPure P tm o)
    | .neq => orElse (opEq P false ty (ev tm x) (ev tm y)) (genPure P tm o)
    | _ => genPure P tm o
  | .convert src dst x => orFast (fastConv P src dst (ev tm x)) <| orElse (opStringToBytes P hp src dst (ev tm x)) (orElse (opBytesToString P hp src dst (ev tm x)) (genPure P tm o))
  | .makeInterface ty x => match P.underlying ty with
    | some (.interface _) => .bad
    | some _ => .pure (.ifc ty (ev tm x)) .tt
    | none => .bad
  | .makeFunc (.func f) first caps => .pure (.fnc f (first.toList.map (ev tm)) (caps.toList.map (ev tm))) .tt
  | .slice ty x lo hi mx => opSliceO P hp ty (ev tm x) (lo.map (ev tm)) (hi.map (ev tm)) (mx.map (ev tm))
  | .fieldAddr ty x f => opFieldAddr P ty (ev tm x) f
  | .field ty x f => opField P ty (ev tm x) f
  | .typeAssert x _ want ok => match P.underlying want, ev tm x with
    | some (.interface _), _ => .bad
    | some _, .ifc t y => if t = want then .pure (if ok then .tup [y, .bol true] else y) .tt else .bad
    | _, _ => .bad
  | .indexAddr ty x i => opIndexAddr P ty (ev tm x) (ev tm i)
  | .index ty x i => opIndex P ty (ev tm x) (ev tm i)
  | .extract x i => match ev tm x with
    | .tup l => match l[i]? with
      | some s => .pure s .tt
      | none => .bad
    | _ => .bad
  | .call c =>
    match c.callee with
    | .value f => match ev tm f with
      | .fnc g fs cs => .call g (fs ++ c.args.toList.map (ev tm) ++ cs)
      | _ => .bad
    | .builtin .len => match c.args.toList.map (ev tm), c.argTypes[0]?.bind P.underlying with
      | [.slc _ _ len _], some (.slice _) => .pure (.num .i64 len) .tt
      | [.sle _ _ len _], some (.slice _) => .pure (.num .i64 len) .tt
      | [.slo _ n _], some (.slice _) => .pure (.val (.int .i64 (n : Int))) .tt
      | [.bts _ l], some .string => .pure (.num .i64 l.length) .tt
      | _, _ => genPure P tm o
    | .builtin .append => match c.args.toList.map (ev tm), c.argTypes.toList with
      | [x, y], [t, t'] => if t = t' then opAppend P hp t x y else opAppendX P hp t t' x y
      | _, _ => .bad
    | .builtin .copy => match c.args.toList.map (ev tm), c.argTypes.toList with
      | [x, y], [t, _] => match y.val? with | some _ => opCopyX P hp t x y | none => opCopy P hp t x y
      | _, _ => .bad
    | .builtin _ => genPure P tm o
    | .invoke rc name => match ev tm rc with
      | .ifc t y => match methB P t name with
        | some f => .call f (y :: c.args.toList.map (ev tm))
        | none => .bad
      | _ => .bad
  | _ => genPure P tm o

theorem info_run {P : Program} {w : World} {t : TypeId} {i : TypeInfo} (h : P.info? t = some i) : (typeInfo t).run P w = .ok i w := by
  simp [typeInfo, h]
theorem methB_ok {P : Program} {t : TypeId} {name : String} {f : FuncId} (h : methB P t name = some f) (n : Nat) (v : Value) (w : World) : (method (n + 1) t v name).run P w = .ok (f, v) w := by
  unfold methB at h
  split at h
  · rename_i i hi
    split at h
    · rename_i m hm
      split at h
      · rename_i hp
        have e : m.path.toList = [] := by simpa using hp
        split at h
        · rename_i g b hf
          split at h
          · rename_i el hu
            split at h
            · rename_i hb
              simp only [Option.some.injEq] at h; subst h
              subst hb
              simp [method, info_run hi, hm, e, follow, hf, receiverAt, run_underlying hu, Place.get]
            · simp at h
          · rename_i u hnp hu
            split at h
            · rename_i hb
              simp only [Option.some.injEq] at h; subst h
              have hb : b = false := by simpa using hb
              subst hb
              cases u <;> first | exact absurd rfl (hnp _) | simp [method, info_run hi, hm, e, follow, hf, receiverAt, run_underlying hu, Place.get]
            · simp at h
          · simp at h
        · simp at h
      · simp at h
    · simp at h
  · simp at h
theorem run_value {P : Program} (s : Sem Value) (w : World) : (do pure (Next.value (← s)) : Sem Next).run P w = (s.run P w).andThen fun v w' => .ok (.value v) w' := by
  simp

theorem vparts {η : Env} {tm : List SV} {a : Act} (h : Rs η tm a.tmps.toList) : ∀ (l : List (Nat × Operand)),
    (l.map fun p => (p.1, ev tm p.2)).map (·.1) = (l.map fun p => (p.1, a.eval p.2)).map (·.1) ∧
    Rs η ((l.map fun p => (p.1, ev tm p.2)).map (·.2)) ((l.map fun p => (p.1, a.eval p.2)).map (·.2))
  | [] => ⟨rfl, Rs.nil⟩
  | p :: l => by
    obtain ⟨h1, h2⟩ := vparts h l
    exact ⟨by simp, Rs.cons (ev_R h p.2) h2⟩

theorem opMapUpdate_form (P : Program) (hp : List SO) (ty : TypeId) (x k v : SV) (s : SV) (c : Cnd) : opMapUpdate P hp ty x k v ≠ .pure s c := by
  intro h
  unfold opMapUpdate at h
  repeat' split at h
  all_goals simp at h
theorem opStore_form (P : Program) (hp : List SO) (ty : TypeId) (x y : SV) (s : SV) (c : Cnd) : opStore P hp ty x y ≠ .pure s c := by
  intro h
  unfold opStore at h
  repeat' split at h
  all_goals simp at h

set_option maxHeartbeats 2000000 in
theorem sop_ok {P : Program} {η : Env} {tm : List SV} {a : Act} (h : Rs η tm a.tmps.toList) {hp : List SO} (o : Oper) :
    OpOk P η hp (fun w => (execOp a.eval o).run P w) (sop P tm hp o) := by
  have gp := genPure_ok (P := P) h (hp := hp) o
  obtain ⟨dst, op, type, pos, after, guard⟩ := o
  cases op with
  | move x => exact fun _ B w _ => ⟨_, ev_R h x, by simp [execOp]⟩
  | assign x => exact fun _ B w _ => ⟨_, ev_R h x, by simp [execOp]⟩
  | pick c x y =>
    simp only [sop]
    have hc := ev_R h c
    split
    · rename_i e
      rw [e] at hc; simp only [R] at hc
      exact fun _ B w _ => ⟨_, ev_R h x, by simp [execOp, hc, asBool]⟩
    · rename_i e
      rw [e] at hc; simp only [R] at hc
      exact fun _ B w _ => ⟨_, ev_R h y, by simp [execOp, hc, asBool]⟩
    · trivial
  | alloc ty => exact OpOk.of (fun w => by simp only [execOp]; exact run_value _ w) opAlloc_ok
  | box ty x => exact OpOk.of (fun w => by simp only [execOp]; exact run_value _ w) (opBox_ok (ev_R h x))
  | build ty parts =>
    obtain ⟨h1, h2⟩ := vparts h parts.toList
    refine OpOk.of (r := fun w => (Instr.build ty (parts.map fun (i, x) => (i, a.eval x))).run P w) (fun w => by simp only [execOp]; exact run_value _ w) (opBuild_ok ?_ ?_)
    · simp
    · simpa using h2
  | buildSlice ty len parts =>
    obtain ⟨h1, h2⟩ := vparts h parts.toList
    refine OpOk.of (r := fun w => (Instr.buildSlice ty len (parts.map fun (i, x) => (i, a.eval x))).run P w) (fun w => by simp only [execOp]; exact run_value _ w) (opBuildSliceO_ok ?_ ?_)
    · simp
    · simpa using h2
  | makeSlice ty l c => exact OpOk.of (fun w => by simp only [execOp]; exact run_value _ w) (opMakeSlice_ok (ev_R h l) (ev_R h c))
  | load ty x => exact OpOk.of (fun w => by simp only [execOp]; exact run_value _ w) (opLoad_ok (ev_R h x))
  | store ty x y =>
    have := opStore_ok (P := P) (hp := hp) (ty := ty) (ev_R h x) (ev_R h y)
    simp only [sop]
    generalize hq : opStore P hp ty (ev tm x) (ev tm y) = r at this
    cases r with
    | pure s c => exact absurd hq (opStore_form _ _ _ _ _ _ _)
    | mem s hp' c =>
      intro hc B w hr hB
      obtain ⟨v, w', μ, h1, h2⟩ := this hc B w hr hB
      refine ⟨v, w', μ, .inr ?_, h2⟩
      simp only [execOp, Sem.run_bind, Sem.run_pure]
      cases hq : (Instr.storeAt ty (a.eval x) (a.eval y)).run P w with
      | ok u w1 => simp [hq] at h1; simp [h1]
      | halt x w1 => simp [hq] at h1
    | call f args => exact this.elim
    | bad => trivial
  | makeMap ty r => exact OpOk.of (fun w => by simp only [execOp]; exact run_value _ w) (opMakeMap_ok (ev_Ro h r))
  | lookup ty x i ok => exact OpOk.of (fun w => by simp only [execOp]; exact run_value _ w) (opLookup_ok (ev_R h x) (ev_R h i))
  | mapUpdate ty m k x =>
    have := opMapUpdate_ok (P := P) (hp := hp) (ty := ty) (ev_R h m) (ev_R h k) (ev_R h x)
    simp only [sop]
    generalize hq : opMapUpdate P hp ty (ev tm m) (ev tm k) (ev tm x) = r at this
    cases r with
    | pure s c => exact absurd hq (opMapUpdate_form _ _ _ _ _ _ _ _)
    | mem s hp' c =>
      intro hc B w hr hB
      obtain ⟨v, w', μ, h1, h2⟩ := this hc B w hr hB
      refine ⟨v, w', μ, .inr ?_, h2⟩
      simp only [execOp, Sem.run_bind, Sem.run_pure]
      cases hq : (Instr.mapUpdate ty (a.eval m) (a.eval k) (a.eval x)).run P w with
      | ok u w1 => simp [hq] at h1; simp [h1]
      | halt x w1 => simp [hq] at h1
    | call f args => exact this.elim
    | bad => trivial
  | insert ty m k x =>
    have := opMapUpdate_ok (P := P) (hp := hp) (ty := ty) (ev_R h m) (ev_R h k) (ev_R h x)
    simp only [sop]
    generalize hq : opMapUpdate P hp ty (ev tm m) (ev tm k) (ev tm x) = r at this
    cases r with
    | pure s c => exact absurd hq (opMapUpdate_form _ _ _ _ _ _ _ _)
    | mem s hp' c =>
      intro hc B w hr hB
      obtain ⟨v, w', μ, h1, h2⟩ := this hc B w hr hB
      refine ⟨v, w', μ, .inr ?_, h2⟩
      simp only [execOp, Sem.run_bind, Sem.run_pure]
      cases hq : (Instr.mapUpdate ty (a.eval m) (a.eval k) (a.eval x)).run P w with
      | ok u w1 => simp [hq] at h1; simp [h1]
      | halt x w1 => simp [hq] at h1
    | call f args => exact this.elim
    | bad => trivial
  | nilCheck x =>
    simp only [sop]
    have hx := ev_R h x
    split
    · rename_i k off e
      rw [e] at hx
      obtain ⟨b, o, _, he⟩ := id hx
      exact fun _ B w _ => ⟨_, hx, by simp [execOp, he]⟩
    · rename_i k i e
      rw [e] at hx
      obtain ⟨b, o, _, he⟩ := id hx
      exact fun _ B w _ => ⟨_, hx, by simp [execOp, he]⟩
    · rename_i g fs cs e
      rw [e] at hx
      obtain ⟨f1, c1, he, _⟩ := id hx
      exact fun _ B w _ => ⟨_, hx, by simp [execOp, he]⟩
    · rename_i t y e
      rw [e] at hx
      obtain ⟨z, he, _⟩ := id hx
      exact fun _ B w _ => ⟨_, hx, by simp [execOp, he]⟩
    · trivial
  | binOp op ty x y yt =>
    have cc : op = .add → OpOk P η hp (fun w => (execOp a.eval ⟨dst, .binOp op ty x y yt, type, pos, after, guard⟩).run P w) (opConcat (ev tm x) (ev tm y)) := by
      rintro rfl
      exact OpOk.of (fun w => by simp [execOp, eqGuard]) (opConcat_ok (P := P) (ty := ty) (ev_R h x) (ev_R h y))
    simp only [sop]
    refine orFast_ok (fun s hs w => ?_) ?_
    · obtain ⟨v, hR, hv⟩ := fastBin_ok (P := P) (ty := ty) (x := x) (y := y) hs (ev_R h x) (ev_R h y) w
      exact ⟨v, hR, by
        simp only [execOp]
        exact (run_value _ w).trans (by rw [hv]; rfl)⟩
    cases op
    case add =>
      simp only []
      split
      · exact cc rfl
      · exact gp
    case eql =>
      refine orElse_ok ?_ gp
      exact OpOk.of (fun w => by simp only [execOp]; exact run_value _ w) (opEq_ok (op := .eql) rfl x y (ev_R h x) (ev_R h y))
    case neq =>
      refine orElse_ok ?_ gp
      exact OpOk.of (fun w => by simp only [execOp]; exact run_value _ w) (opEq_ok (op := .neq) rfl x y (ev_R h x) (ev_R h y))
    case rem =>
      refine orElse_ok ?_ gp
      have := opDivO_ok (P := P) (hp := hp) (op := .rem) (ty := ty) (x := x) (y := y) (ev_R h x) (ev_R h y)
      simpa only [execOp] using this
    case quo =>
      refine orElse_ok ?_ gp
      have := opDivO_ok (P := P) (hp := hp) (op := .quo) (ty := ty) (x := x) (y := y) (ev_R h x) (ev_R h y)
      simpa only [execOp] using this
    all_goals exact gp
  | convert src dst x =>
    simp only [sop]
    refine orFast_ok (fun s hs w => ?_) ?_
    · obtain ⟨v, hR, hv⟩ := fastConv_ok (P := P) hs (ev_R h x) w
      exact ⟨v, hR, by
        simp only [execOp]
        exact (run_value _ w).trans (by rw [hv]; rfl)⟩
    refine orElse_ok ?_ (orElse_ok ?_ gp)
    · exact OpOk.of (fun w => by simp only [execOp]; exact run_value _ w) (opStringToBytes_ok (ev_R h x))
    · exact OpOk.of (fun w => by simp only [execOp]; exact run_value _ w) (opBytesToString_ok (ev_R h x))
  | makeInterface ty x =>
    simp only [sop]
    split
    · trivial
    · rename_i d hu hne
      exact fun _ B w _ => ⟨.iface ty (a.eval x), ⟨_, rfl, ev_R h x⟩, by
        simp only [execOp, Instr.makeInterface, Sem.run_bind, run_underlying hne, Result.andThen_ok]
        cases d <;> first | (exact (hu _ rfl).elim) | simp⟩
    · trivial
  | makeFunc fn first caps =>
    cases fn with
    | func f =>
      exact fun _ B w _ => ⟨.func (.func f) (first.map a.eval) (caps.map a.eval), ⟨_, _, rfl, by simpa using ev_Rs h first.toList, by simpa using ev_Rs h caps.toList⟩, by simp [execOp, Instr.makeFunc]⟩
    | _ => exact gp
  | slice ty x lo hi mx => exact OpOk.of (fun w => by simp only [execOp]; exact run_value _ w) (opSliceO_ok (ev_R h x) (ev_Ro h lo) (ev_Ro h hi) (ev_Ro h mx))
  | fieldAddr ty x f => exact OpOk.of (fun w => by simp only [execOp]; exact run_value _ w) (opFieldAddr_ok (ev_R h x))
  | field ty x f => exact OpOk.of (fun w => by simp only [execOp]; exact run_value _ w) (opField_ok (ev_R h x))
  | typeAssert x xt want ok =>
    simp only [sop]
    have hx := ev_R h x
    split
    · trivial
    · rename_i d t y hd hu e
      split
      · rename_i ht
        subst ht
        rw [e] at hx
        obtain ⟨z, he, hz⟩ := hx
        refine fun _ B w _ => ⟨if ok then .tuple #[z, .bool true] else z, ?_, ?_⟩
        · cases ok with
          | true => exact ⟨_, rfl, Rs.cons hz (Rs.cons (by simp only [R]) Rs.nil)⟩
          | false => exact hz
        · simp only [execOp, Instr.typeAssert, he, Sem.run_bind, run_underlying hu, Result.andThen_ok]
          cases d <;> first | (exact (hd _ rfl).elim) | (cases ok <;> simp)
      · trivial
    · trivial
  | indexAddr ty x i => exact OpOk.of (fun w => by simp only [execOp]; exact run_value _ w) (opIndexAddr_ok (ev_R h x) (ev_R h i))
  | index ty x i => exact OpOk.of (fun w => by simp only [execOp]; exact run_value _ w) (opIndex_ok (ev_R h x) (ev_R h i))
  | extract x i =>
    simp only [sop]
    have hx := ev_R h x
    split
    · rename_i l e
      rw [e] at hx
      obtain ⟨vs, he, hvs⟩ := hx
      split
      · rename_i s hs
        obtain ⟨v, hv, hR⟩ := hvs.get hs
        have hv' : vs[i]? = some v := by simpa using hv
        exact fun _ B w _ => ⟨v, hR, by simp [execOp, Instr.extract, he, hv']⟩
      · trivial
    · trivial
  | call c =>
    simp only [sop]
    split
    · rename_i f hf
      have hR := ev_R h f
      split
      · rename_i g fs cs e
        rw [e] at hR
        obtain ⟨f1, c1, he, h1, h2⟩ := hR
        refine ⟨f1.toList ++ (c.args.toList.map a.eval) ++ c1.toList, (h1.append (ev_Rs h _)).append h2, fun w => ?_⟩
        have e : (f1.toList ++ c.args.toList.map a.eval ++ c1.toList).toArray = f1 ++ (c.args.map a.eval ++ c1) := by
          apply Array.toList_inj.1; simp
        rw [e]
        simp [execOp, resolve, hf, he, Deferred.ofValue, invoke]
      · trivial
    · rename_i hb
      split
      · rename_i k off len cap e hargs hu
        obtain ⟨x, hx⟩ : ∃ x, c.args.toList = [x] := by
          cases hl : c.args.toList with
          | nil => simp [hl] at hargs
          | cons x r => cases r with
            | nil => exact ⟨x, rfl⟩
            | cons y r => simp [hl] at hargs
        have hR := ev_R h x
        simp only [hx, List.map_cons, List.map_nil, List.cons.injEq, and_true] at hargs
        rw [hargs] at hR
        obtain ⟨b, o, _, hv⟩ := hR
        have ha : c.args = #[x] := by apply Array.toList_inj.1; simpa using hx
        obtain ⟨t, ht, hu'⟩ := Option.bind_eq_some_iff.1 hu
        exact fun _ B w _ => ⟨.int .i64 len, by simp only [R], by simp [execOp, resolve, hb, ha, hv, invoke, builtin, Builtin.len_, ht, run_underlying hu', goInt]⟩
      · rename_i k off len kc e hargs hu
        obtain ⟨x, hx⟩ : ∃ x, c.args.toList = [x] := by
          cases hl : c.args.toList with
          | nil => simp [hl] at hargs
          | cons x r => cases r with
            | nil => exact ⟨x, rfl⟩
            | cons y r => simp [hl] at hargs
        have hR := ev_R h x
        simp only [hx, List.map_cons, List.map_nil, List.cons.injEq, and_true] at hargs
        rw [hargs] at hR
        obtain ⟨b, o, _, _, _, _, hv⟩ := hR
        have ha : c.args = #[x] := by apply Array.toList_inj.1; simpa using hx
        obtain ⟨t, ht, hu'⟩ := Option.bind_eq_some_iff.1 hu
        exact fun _ B w _ => ⟨.int .i64 len, by simp only [R], by simp [execOp, resolve, hb, ha, hv, invoke, builtin, Builtin.len_, ht, run_underlying hu', goInt]⟩
      · rename_i k len kc e hargs hu
        obtain ⟨x, hx⟩ : ∃ x, c.args.toList = [x] := by
          cases hl : c.args.toList with
          | nil => simp [hl] at hargs
          | cons x r => cases r with
            | nil => exact ⟨x, rfl⟩
            | cons y r => simp [hl] at hargs
        have hR := ev_R h x
        simp only [hx, List.map_cons, List.map_nil, List.cons.injEq, and_true] at hargs
        rw [hargs] at hR
        obtain ⟨b, o, _, _, _, _, hv⟩ := hR
        have ha : c.args = #[x] := by apply Array.toList_inj.1; simpa using hx
        obtain ⟨t, ht, hu'⟩ := Option.bind_eq_some_iff.1 hu
        exact fun _ B w _ => ⟨.int .i64 len, by simp only [R], by simp [execOp, resolve, hb, ha, hv, invoke, builtin, Builtin.len_, ht, run_underlying hu', goInt]⟩
      · rename_i _ l hargs hu
        obtain ⟨x, hx⟩ : ∃ x, c.args.toList = [x] := by
          cases hl : c.args.toList with
          | nil => simp [hl] at hargs
          | cons x r => cases r with
            | nil => exact ⟨x, rfl⟩
            | cons y r => simp [hl] at hargs
        have hR := ev_R h x
        simp only [hx, List.map_cons, List.map_nil, List.cons.injEq, and_true] at hargs
        rw [hargs] at hR
        simp only [R] at hR
        have ha : c.args = #[x] := by apply Array.toList_inj.1; simpa using hx
        obtain ⟨t, ht, hu'⟩ := Option.bind_eq_some_iff.1 hu
        have hs : (⟨l.toArray⟩ : ByteArray).size = l.length := by show l.toArray.size = _; simp
        exact fun _ B w _ => ⟨.int .i64 l.length, by simp only [R], by simp [execOp, resolve, hb, ha, hR, invoke, builtin, Builtin.len_, ht, run_underlying hu', goInt, hs]⟩
      · exact gp
    · rename_i hb
      split
      · rename_i x y t t' hargs hts
        split
        · rename_i e
          subst e
          obtain ⟨x', y', hxy⟩ : ∃ x' y', c.args.toList = [x', y'] := by
            cases hl : c.args.toList with
            | nil => simp [hl] at hargs
            | cons x1 r => cases r with
              | nil => simp [hl] at hargs
              | cons y1 r => cases r with
                | nil => exact ⟨x1, y1, rfl⟩
                | cons z1 r => simp [hl] at hargs
          simp only [hxy, List.map_cons, List.map_nil, List.cons.injEq, and_true] at hargs
          have ha : c.args = #[x', y'] := by apply Array.toList_inj.1; simpa using hxy
          have ht : c.argTypes = #[t, t] := by apply Array.toList_inj.1; simpa using hts
          rw [← hargs.1, ← hargs.2]
          exact OpOk.of (fun w => by simp [execOp, resolve, hb, ha, ht, invoke, builtin]) (opAppend_ok (ty := type) (ev_R h x') (ev_R h y'))
        · rename_i e
          obtain ⟨x', y', hxy⟩ : ∃ x' y', c.args.toList = [x', y'] := by
            cases hl : c.args.toList with
            | nil => simp [hl] at hargs
            | cons x1 r => cases r with
              | nil => simp [hl] at hargs
              | cons y1 r => cases r with
                | nil => exact ⟨x1, y1, rfl⟩
                | cons z1 r => simp [hl] at hargs
          simp only [hxy, List.map_cons, List.map_nil, List.cons.injEq, and_true] at hargs
          have ha : c.args = #[x', y'] := by apply Array.toList_inj.1; simpa using hxy
          have ht : c.argTypes = #[t, t'] := by apply Array.toList_inj.1; simpa using hts
          rw [← hargs.1, ← hargs.2]
          exact OpOk.of (fun w => by simp [execOp, resolve, hb, ha, ht, invoke, builtin]) (opAppendX_ok (t' := t') (ty := type) (ev_R h x') (ev_R h y'))
      · trivial
    · rename_i hb
      split
      · rename_i x y t t' hargs hts
        obtain ⟨x', y', hxy⟩ : ∃ x' y', c.args.toList = [x', y'] := by
          cases hl : c.args.toList with
          | nil => simp [hl] at hargs
          | cons x1 r => cases r with
            | nil => simp [hl] at hargs
            | cons y1 r => cases r with
              | nil => exact ⟨x1, y1, rfl⟩
              | cons z1 r => simp [hl] at hargs
        simp only [hxy, List.map_cons, List.map_nil, List.cons.injEq, and_true] at hargs
        have ha : c.args = #[x', y'] := by apply Array.toList_inj.1; simpa using hxy
        have ht : c.argTypes = #[t, t'] := by apply Array.toList_inj.1; simpa using hts
        rw [← hargs.1, ← hargs.2]
        have hyR := ev_R h y'
        split
        · exact OpOk.of (fun w => by simp [execOp, resolve, hb, ha, ht, invoke, builtin]) (opCopyX_ok (t' := t') (ty := type) (ev_R h x') hyR)
        · exact OpOk.of (fun w => by simp [execOp, resolve, hb, ha, ht, invoke, builtin]) (opCopy_ok (t' := t') (ty := type) (ev_R h x') hyR)
      · trivial
    · exact gp
    · rename_i rc name hb
      have hR := ev_R h rc
      split
      · rename_i t y e
        rw [e] at hR
        obtain ⟨z, he, hz⟩ := hR
        split
        · rename_i f hf
          refine ⟨z :: c.args.toList.map a.eval, Rs.cons hz (ev_Rs h _), fun w => ?_⟩
          have e2 : (z :: c.args.toList.map a.eval).toArray = #[z] ++ c.args.map a.eval := by
            apply Array.toList_inj.1; simp
          rw [e2]
          simp only [execOp, resolve, hb, Sem.run_bind, Sem.run_pure, Result.andThen_ok, invoke]
          have e3 : (#[a.eval rc] ++ c.args.map a.eval)[0]? = some (.iface t z) := by
            rw [he, Array.getElem?_append_left (by simp)]; rfl
          have e4 : (#[a.eval rc] ++ c.args.map a.eval).extract 1 (#[a.eval rc] ++ c.args.map a.eval).size = c.args.map a.eval := by
            apply Array.toList_inj.1
            simp only [Array.toList_extract, Array.toList_append, Array.toList_map, List.extract_eq_take_drop, Array.size_append, Array.size_map]
            simp
            exact List.take_of_length_le (by simp)
          rw [e3]
          simp only [callMethod, Sem.run_bind, run_program, Result.andThen_ok]
          have e5 := methB_ok (P := P) hf (P.types.size + 99) z w
          rw [show P.types.size + Made.depth = P.types.size + 99 + 1 from rfl, e5, e4]
          simp only [Result.andThen_ok]
        · trivial
      · trivial
  | _ => exact gp
end Go.Ex
namespace Go.Ex
open Go.RowKit (Below)

inductive Rr (α : Type) where
  | ok (x : α) (ans : List Bool) (c : Cnd)
  | ask (b : Bool)
  | bad

theorem ok_inj {α : Type} {x y : α} {a b : List Bool} {c d : Cnd} (h : Rr.ok x a c = Rr.ok y b d) : x = y ∧ a = b ∧ c = d := by
  injection h with h1 h2 h3; exact ⟨h1, h2, h3⟩

/-- 'none': the memory that was told of is as it was. -/
abbrev CallF := FuncId → List SV → List SO → List Bool → Rr (SV × Option (List SO))

/-- What is owed of a reckoner of calls. -/
def CallOk (P : Program) (callf : CallF) : Prop :=
  ∀ f args hp ans s ho ans' c, callf f args hp ans = .ok (s, ho) ans' c → c → ∀ B η w vs, HR B η hp w → B ≤ w.heap.size → Rs η args vs →
    (callFunc f vs.toArray).run P w = .ok (.enter f vs.toArray) w ∧
    Calls P f vs.toArray w (fun e w' => ∃ v μ, e = .returned v ∧ R (η ++ μ) s v ∧ HR B (η ++ μ) (ho.getD hp) w' ∧ Below B w w')

/-- An open number, found by going up. -/
def unary (z : Int) : Nat → List Bool → Rr Nat
  | c, [] => .ask (z == (c : Int))
  | c, true :: r => .ok c r (.pr ((z == (c : Int)) = true))
  | c, false :: r => unary z (c + 1) r
theorem unary_ok {z : Int} : ∀ {ans : List Bool} {c d : Nat} {ans' : List Bool} {cc : Cnd}, unary z c ans = .ok d ans' cc → cc.Is → z = (d : Int)
  | [], c, d, ans', cc, h, _ => by simp [unary] at h
  | true :: r, c, d, ans', cc, h, hc => by
    simp only [unary] at h
    obtain ⟨rfl, _, rfl⟩ := ok_inj h
    simpa [Cnd.Is] using hc
  | false :: r, c, d, ans', cc, h, hc => by
    simp only [unary] at h
    exact unary_ok h hc
/-- A test that is open is answered. -/
def settle (tm : List SV) (t : Option Tmp) (ans : List Bool) : Rr (List SV) :=
  match t with
  | none => .ok tm ans .tt
  | some t =>
    match tm[t]? with
    | some (.val (.bool y)) => match ans with
      | [] => .ask y
      | x :: r => .ok (tm.set t (.bol x)) r (.pr (y = x))
    | some (.val (.int k z)) =>
      match unary z 0 ans with
      | .ok d r c => .ok (tm.set t (.num k d)) r c
      | .ask b => .ask b
      | .bad => .bad
    | _ => .ok tm ans .tt
theorem settle_ok {η : Env} {tm tm' : List SV} {t : Option Tmp} {ans ans' : List Bool} {c : Cnd} {vs : List Value} (h : settle tm t ans = .ok tm' ans' c) (hc : c) (hvs : Rs η tm vs) :
    Rs η tm' vs := by
  unfold settle at h
  split at h
  · obtain ⟨rfl, _, _⟩ := ok_inj h; exact hvs
  · rename_i t
    split at h
    · rename_i y hy
      split at h
      · simp at h
      · rename_i x r
        obtain ⟨rfl, rfl, rfl⟩ := ok_inj h
        obtain ⟨v, hv, hR⟩ := hvs.get hy
        simp only [R] at hR
        subst hR
        have hc : y = x := hc
        have : vs = vs.set t (.bool y) := by
          apply List.ext_getElem?
          intro i
          by_cases hi : t = i
          · subst hi
            rw [List.getElem?_set_self (List.getElem?_eq_some_iff.1 hv).1, hv]
          · rw [List.getElem?_set_ne hi]
        rw [this]
        exact hvs.set (by simp only [R]; rw [hc])
    · rename_i k z hy
      split at h
      · rename_i d r cc hu
        obtain ⟨rfl, rfl, rfl⟩ := ok_inj h
        obtain ⟨v, hv, hR⟩ := hvs.get hy
        simp only [R] at hR
        subst hR
        have hz := unary_ok hu hc
        have : vs = vs.set t (.int k z) := by
          apply List.ext_getElem?
          intro i
          by_cases hi : t = i
          · subst hi
            rw [List.getElem?_set_self (List.getElem?_eq_some_iff.1 hv).1, hv]
          · rw [List.getElem?_set_ne hi]
        rw [this]
        exact hvs.set (by simp only [R]; rw [hz])
      · simp at h
      · simp at h
    · obtain ⟨rfl, _, _⟩ := ok_inj h; exact hvs

def guardTmp (ops : Array Oper) (o : Oper) : Option Tmp := o.guard.bind fun g => (ops[g.1]?).bind (·.dst)
def pickTmp (tm : List SV) (o : Oper) : Option Tmp :=
  match o.op with
  | .pick (.tmp t) _ _ => some t
  | .indexAddr _ x (.tmp t) => match ev tm x with
    | .slo .. => none
    | _ => some t
  | .index _ x (.tmp t) => match ev tm x with
    | .agg _ => some t
    | _ => none
  | .slice _ x lo hi none => match ev tm x with
    | .ptr .. => (match hi with
      | some (.tmp t) => some t
      | _ => match lo with
        | some (.tmp t) => some t
        | _ => none)
    | _ => none
  | _ => none

/-- The key of a look-up, told or not among them. -/
def keyR (tm : List SV) (t : Tmp) (kk : IntKind) (z : Int) : List (Int × SV) → List Bool → Rr (List SV)
  | [], ans => .ok tm ans .tt
  | (b, _) :: r, ans => match ans with
    | [] => .ask (z == b)
    | true :: l => .ok (tm.set t (.num kk b)) l (.pr ((z == b) = true))
    | false :: l => match keyR tm t kk z r l with
      | .ok x a c => .ok x a ((Cnd.pr ((z == b) = false)).and c)
      | .ask b => .ask b
      | .bad => .bad
def mapAt (tm : List SV) (hp : List SO) (o : Oper) : Option (Tmp × IntKind × Int × List (Int × SV)) :=
  match o.op with
  | .lookup _ x (.tmp t) _ => match ev tm x, tm[t]? with
    | .hdl i, some (.val (.int kk z)) => match hp[i]? with
      | some (.mp _ es) => some (t, kk, z, es)
      | _ => none
    | _, _ => none
  | _ => none
theorem mapAt_tm {tm : List SV} {hp : List SO} {o : Oper} {t : Tmp} {kk : IntKind} {z : Int} {es : List (Int × SV)} (h : mapAt tm hp o = some (t, kk, z, es)) : tm[t]? = some (.val (.int kk z)) := by
  unfold mapAt at h
  repeat' split at h
  all_goals first | (simp at h; done) | skip
  simp only [Option.some.injEq, Prod.mk.injEq] at h
  obtain ⟨rfl, rfl, rfl, rfl⟩ := h
  assumption
/-- What is asked ahead of an operation. -/
def settleP (tm : List SV) (hp : List SO) (o : Oper) (ans : List Bool) : Rr (List SV) :=
  match mapAt tm hp o with
  | some (t, kk, z, es) => keyR tm t kk z es ans
  | none => settle tm (pickTmp tm o) ans
theorem keyR_ok {η : Env} {tm : List SV} {t : Tmp} {kk : IntKind} {z : Int} {vs : List Value} (ht : tm[t]? = some (.val (.int kk z))) (hvs : Rs η tm vs) : ∀ {es : List (Int × SV)} {ans ans' : List Bool} {tm' : List SV} {c : Cnd},
    keyR tm t kk z es ans = .ok tm' ans' c → c.Is → Rs η tm' vs
  | [], ans, ans', tm', c, h, _ => by
    simp only [keyR] at h
    obtain ⟨rfl, _, _⟩ := ok_inj h
    exact hvs
  | (b, s) :: es, [], ans', tm', c, h, _ => by simp [keyR] at h
  | (b, s) :: es, true :: l, ans', tm', c, h, hc => by
    simp only [keyR] at h
    obtain ⟨rfl, _, rfl⟩ := ok_inj h
    have hzb : z = b := by simpa [Cnd.Is] using hc
    subst hzb
    obtain ⟨v, hv, hR⟩ := hvs.get ht
    simp only [R] at hR
    subst hR
    have : vs = vs.set t (.int kk z) := by
      apply List.ext_getElem?
      intro i
      by_cases hi : t = i
      · subst hi
        rw [List.getElem?_set_self (List.getElem?_eq_some_iff.1 hv).1, hv]
      · rw [List.getElem?_set_ne hi]
    rw [this]
    exact hvs.set (by simp only [R])
  | (b, s) :: es, false :: l, ans', tm', c, h, hc => by
    simp only [keyR] at h
    split at h
    · rename_i x a c' h'
      obtain ⟨rfl, rfl, rfl⟩ := ok_inj h
      exact keyR_ok ht hvs h' hc.r
    · simp at h
    · simp at h
theorem settleP_ok {η : Env} {tm tm' : List SV} {hp : List SO} {o : Oper} {ans ans' : List Bool} {c : Cnd} {vs : List Value} (h : settleP tm hp o ans = .ok tm' ans' c) (hc : c) (hvs : Rs η tm vs) :
    Rs η tm' vs := by
  unfold settleP at h
  split at h
  · rename_i t kk z es hm
    exact keyR_ok (mapAt_tm hm) hvs h hc
  · exact settle_ok h hc hvs
/-- Is the guard met? -/
def gd (ops : Array Oper) (o : Oper) (tm : List SV) : Option Bool :=
  match o.guard with
  | none => some true
  | some (j, want) =>
    match (ops[j]?).bind (·.dst) with
    | none => some false
    | some t => match tm[t]? with
      | none => some false
      | some (.bol y) => some (y == want)
      | some (.hdl _) => none
      | some (.val (.bool _)) => none
      | some _ => some false
theorem gd_ok {η : Env} {ops : Array Oper} {o : Oper} {tm : List SV} {tmps : Array Value} {b : Bool} (h : gd ops o tm = some b) (hvs : Rs η tm tmps.toList) :
    Region.wanted o (yielded ops tmps) = b := by
  unfold gd at h
  unfold Region.wanted
  split at h
  · rename_i hg; simp at h; subst h; simp [hg]
  · rename_i j want hg
    simp only [hg]
    unfold yielded
    split at h
    · rename_i hd; simp at h; subst h; simp [hd]
    · rename_i t hd
      simp only [hd, Option.bind_some]
      have notBool : ∀ (s : SV), tm[t]? = some s → (∀ v, R η s v → ∀ b, v ≠ .bool b) →
          ((match tmps[t]? with | some (.bool b) => some b | _ => none) == some want) = false := by
        intro s hs hn
        obtain ⟨v, hv, hR⟩ := hvs.get hs
        have hv' : tmps[t]? = some v := by simpa using hv
        rw [hv']
        cases v <;> first | rfl | exact absurd rfl (hn _ hR _)
      split at h
      · rename_i hn
        simp at h; subst h
        have hl := hvs.length
        rw [Array.length_toList] at hl
        have : tmps[t]? = none := Array.getElem?_eq_none (by rw [hl]; exact List.getElem?_eq_none_iff.1 hn)
        rw [this]; rfl
      · rename_i y hs
        simp at h; subst h
        obtain ⟨v, hv, hR⟩ := hvs.get hs
        simp only [R] at hR
        subst hR
        have hv' : tmps[t]? = some (.bool y) := by simpa using hv
        rw [hv']
        cases y <;> cases want <;> rfl
      · simp at h
      · simp at h
      · rename_i s hs n1 n2 n3
        simp at h; subst h
        refine notBool _ n3 fun v hR b hv => ?_
        subst hv
        cases s <;> simp only [R] at hR
        case val x => subst hR; exact n2 _ rfl
        case num => cases hR
        case bol => exact hs _ rfl
        case bts => cases hR
        case ptr => obtain ⟨_, _, _, h⟩ := hR; cases h
        case slc => obtain ⟨_, _, _, h⟩ := hR; cases h
        case sle => obtain ⟨_, _, _, _, _, _, h⟩ := hR; cases h
        case pto => obtain ⟨_, _, _, h⟩ := hR; cases h
        case slo => obtain ⟨_, _, _, _, _, _, h⟩ := hR; cases h
        case fnc => obtain ⟨_, _, h, _⟩ := hR; cases h
        case agg => obtain ⟨_, h, _⟩ := hR; cases h
        case tup => obtain ⟨_, h, _⟩ := hR; cases h
        case ifc => obtain ⟨_, h, _⟩ := hR; cases h
        case hdl => exact n1 _ rfl

def putS (tm : List SV) (dst : Option Tmp) (s : SV) : List SV :=
  match dst with
  | some d => tm.set d s
  | none => tm
theorem putS_ok {η : Env} {tm : List SV} {a : Act} (dst : Option Tmp) {s : SV} {v : Value} (hvs : Rs η tm a.tmps.toList) (hR : R η s v) : Rs η (putS tm dst s) (a.put dst v).tmps.toList := by
  cases dst with
  | none => exact hvs
  | some d => simp only [putS, Act.put, Array.toList_setIfInBounds]; exact hvs.set hR
theorem put_defers (a : Act) (dst : Option Tmp) (v : Value) : (a.put dst v).defers = a.defers := by cases dst <;> rfl

/-! ### values, reckoned out (the kernel is lazy) -/
def withN {α : Type} (n : Nat) (k : Nat → α) : α :=
  match n with
  | 0 => k 0
  | n + 1 => k (Nat.succ n)
theorem withN_eq {α : Type} (n : Nat) (k : Nat → α) : withN n k = k n := by cases n <;> rfl
def withI {α : Type} (z : Int) (k : Int → α) : α :=
  match z with
  | .ofNat n => withN n fun n => k (.ofNat n)
  | .negSucc n => withN n fun n => k (.negSucc n)
theorem withI_eq {α : Type} (z : Int) (k : Int → α) : withI z k = k z := by cases z <;> simp only [withI, withN_eq]
def withB {α : Type} (l : List UInt8) (k : List UInt8 → α) : α :=
  match l with
  | [] => k []
  | b :: r => withN b.toNat fun n => withB r fun r => k (UInt8.ofNat n :: r)
theorem withB_eq {α : Type} (l : List UInt8) (k : List UInt8 → α) : withB l k = k l := by
  induction l generalizing k with
  | nil => rfl
  | cons b r ih => simp only [withB, withN_eq, ih, UInt8.ofNat_toNat]
def withT {α : Type} (l : List UInt8) (k : List UInt8 → α) : α :=
  match l with
  | [] => k []
  | b :: r => withT r fun r => k (b :: r)
theorem withT_eq {α : Type} (l : List UInt8) (k : List UInt8 → α) : withT l k = k l := by
  induction l generalizing k with
  | nil => rfl
  | cons b r ih => simp only [withT, ih]
def withY {α : Type} (b : Bool) (k : Bool → α) : α :=
  match b with
  | true => k true
  | false => k false
theorem withY_eq {α : Type} (b : Bool) (k : Bool → α) : withY b k = k b := by cases b <;> rfl
mutual
def withS {α : Type} (s : SV) (k : SV → α) : α :=
  match s with
  | .num t z => withI z fun z => k (.num t z)
  | .bol b => withY b fun b => k (.bol b)
  | .bts true l => withB l fun l => k (.bts true l)
  | .bts false l => withT l fun l => k (.bts false l)
  | .ptr a o => withN a fun a => withN o fun o => k (.ptr a o)
  | .slc a o l c => withN a fun a => withN o fun o => withN l fun l => withN c fun c => k (.slc a o l c)
  | .sle a o l c => withN a fun a => withN o fun o => withN l fun l => withN c fun c => k (.sle a o l c)
  | .pto a i => withN a fun a => k (.pto a i)
  | .slo a n c => withN a fun a => withN c fun c => k (.slo a n c)
  | .fnc g a b => withN g fun g => withSs a fun a => withSs b fun b => k (.fnc g a b)
  | .agg l => withSs l fun l => k (.agg l)
  | .tup l => withSs l fun l => k (.tup l)
  | .ifc t x => withN t fun t => withS x fun x => k (.ifc t x)
  | .hdl a => withN a fun a => k (.hdl a)
  | .val v => k (.val v)
def withSs {α : Type} (l : List SV) (k : List SV → α) : α :=
  match l with
  | [] => k []
  | s :: r => withS s fun s => withSs r fun r => k (s :: r)
end
mutual
theorem withS_eq {α : Type} : ∀ (s : SV) (k : SV → α), withS s k = k s
  | .num t z, k => by simp only [withS, withI_eq]
  | .bol b, k => by simp only [withS, withY_eq]
  | .bts true l, k => by simp only [withS, withB_eq]
  | .bts false l, k => by simp only [withS, withT_eq]
  | .ptr a o, k => by simp only [withS, withN_eq]
  | .slc a o l c, k => by simp only [withS, withN_eq]
  | .sle a o l c, k => by simp only [withS, withN_eq]
  | .pto a i, k => by simp only [withS, withN_eq]
  | .slo a n c, k => by simp only [withS, withN_eq]
  | .fnc g a b, k => by simp only [withS, withN_eq, withSs_eq a, withSs_eq b]
  | .agg l, k => by simp only [withS, withSs_eq l]
  | .tup l, k => by simp only [withS, withSs_eq l]
  | .ifc t x, k => by simp only [withS, withN_eq, withS_eq x]
  | .hdl a, k => by simp only [withS, withN_eq]
  | .val v, k => by simp only [withS]
theorem withSs_eq {α : Type} : ∀ (l : List SV) (k : List SV → α), withSs l k = k l
  | [], k => by simp only [withSs]
  | s :: r, k => by simp only [withSs, withS_eq s, withSs_eq r]
end
/-- The row, not what stands in it. -/
def withL {α : Type} (l : List SV) (k : List SV → α) : α :=
  match l with
  | [] => k []
  | s :: r => withL r fun r => k (s :: r)
theorem withL_eq {α : Type} (l : List SV) (k : List SV → α) : withL l k = k l := by
  induction l generalizing k with
  | nil => rfl
  | cons b r ih => simp only [withL, ih]
def withE {α : Type} (l : List (Int × SV)) (k : List (Int × SV) → α) : α :=
  match l with
  | [] => k []
  | (z, s) :: r => withI z fun z => withS s fun s => withE r fun r => k ((z, s) :: r)
theorem withE_eq {α : Type} (l : List (Int × SV)) (k : List (Int × SV) → α) : withE l k = k l := by
  induction l generalizing k with
  | nil => rfl
  | cons b r ih => obtain ⟨z, s⟩ := b; simp only [withE, withI_eq, withS_eq, ih]
def withO0 {α : Type} (l : List SO) (k : List SO → α) : α :=
  match l with
  | [] => k []
  | .dead :: r => withO0 r fun r => k (.dead :: r)
  | .txt t :: r => withO0 r fun r => k (.txt t :: r)
  | .mp kk es :: r => withE es fun es => withO0 r fun r => k (.mp kk es :: r)
  | .glob g l :: r => withN g fun g => withL l fun l => withO0 r fun r => k (.glob g l :: r)
  | .fx d :: r => withO0 r fun r => k (.fx d :: r)
  | .fns L :: r => withO0 r fun r => k (.fns L :: r)
  | .ows e s n c L :: r => withN e fun e => withN s fun s => withN c fun c => withO0 r fun r => k (.ows e s n c L :: r)
  | .otx e c t :: r => withN e fun e => withN c fun c => withO0 r fun r => k (.otx e c t :: r)
  | .own e s n c l :: r => withN e fun e => withN s fun s => withN n fun n => withN c fun c => withSs l fun l => withO0 r fun r => k (.own e s n c l :: r)
  | .cells wr l :: r => withY wr fun wr => withSs l fun l => withO0 r fun r => k (.cells wr l :: r)
theorem withO0_eq {α : Type} (l : List SO) (k : List SO → α) : withO0 l k = k l := by
  induction l generalizing k with
  | nil => rfl
  | cons b r ih => cases b <;> simp only [withO0, ih, withY_eq, withSs_eq, withN_eq, withE_eq, withL_eq]
/-- Nothing is looked at behind a dead block at place two. -/
def withO {α : Type} (l : List SO) (k : List SO → α) : α :=
  match l with
  | a :: b :: .dead :: r => withO0 [a, b] fun ab => k (ab ++ .dead :: r)
  | l => withO0 l k
theorem withO_eq {α : Type} (l : List SO) (k : List SO → α) : withO l k = k l := by
  unfold withO
  split
  · rw [withO0_eq]; rfl
  · rw [withO0_eq]
def withC {α : Type} (c : Cnd) (k : Cnd → α) : α := c.force k
theorem withC_eq {α : Type} (c : Cnd) (k : Cnd → α) : withC c k = k c := c.force_eq k
def okS (tm : List SV) (dst : Option Tmp) (s : SV) (hp : List SO) (ans : List Bool) (c : Cnd) : Rr (List SV × List SO) :=
  withS s fun s => withL (putS tm dst s) fun tm => withC c fun c => .ok (tm, hp) ans c
def okM (tm : List SV) (dst : Option Tmp) (s : SV) (hp : List SO) (ans : List Bool) (c : Cnd) : Rr (List SV × List SO) :=
  withS s fun s => withL (putS tm dst s) fun tm => withO hp fun hp => withC c fun c => .ok (tm, hp) ans c
theorem okS_eq (tm : List SV) (dst : Option Tmp) (s : SV) (hp : List SO) (ans : List Bool) (c : Cnd) : okS tm dst s hp ans c = .ok (putS tm dst s, hp) ans c := by
  simp only [okS, withS_eq, withL_eq, withC_eq]
theorem okM_eq (tm : List SV) (dst : Option Tmp) (s : SV) (hp : List SO) (ans : List Bool) (c : Cnd) : okM tm dst s hp ans c = .ok (putS tm dst s, hp) ans c := by
  simp only [okM, withS_eq, withL_eq, withO_eq, withC_eq]

/-- One operation of a region. 'draw': its order is drawn. -/
def step1 (P : Program) (callf : CallF) (ops : Array Oper) (draw : Bool) (o : Oper) (tm : List SV) (hp : List SO) (ans : List Bool) : Rr (List SV × List SO) :=
  match settle tm (guardTmp ops o) ans with
  | .ask b => .ask b
  | .bad => .bad
  | .ok tm1 ans1 c1 =>
    match gd ops o tm1 with
    | none => .bad
    | some false => okS tm1 o.dst (.val undef) hp ans1 c1
    | some true =>
      match settleP tm1 hp o ans1 with
      | .ask b => .ask b
      | .bad => .bad
      | .ok tm2 ans2 c2 =>
        match sop P tm2 hp o with
        | .pure s c => okS tm2 o.dst s hp ans2 (c1.and (c2.and c))
        | .mem s hp' c => if draw then .bad else okM tm2 o.dst s hp' ans2 (c1.and (c2.and c))
        | .call f args =>
          match callf f args hp ans2 with
          | .ok (s, ho) ans3 c =>
            if draw then
              if (s.val?).isSome && ho.isNone then okS tm2 o.dst s hp ans3 (c1.and (c2.and c)) else .bad
            else okM tm2 o.dst s (ho.getD hp) ans3 (c1.and (c2.and c))
          | .ask b => .ask b
          | .bad => .bad
        | .bad => .bad

theorem step1_ok {P : Program} {callf : CallF} (hcf : CallOk P callf) {ops : Array Oper} {o : Oper} {tm tm' : List SV} {hp hp' : List SO} {ans ans' : List Bool} {c : Cnd}
    (h : step1 P callf ops false o tm hp ans = .ok (tm', hp') ans' c) (hc : c) {B : Nat} {η : Env} {a : Act} {w : World} (hvs : Rs η tm a.tmps.toList) (hr : HR B η hp w) (hB : B ≤ w.heap.size)
    {K : Act → World → Prop} {Q : Exit → Act → World → Prop}
    (hK : ∀ μ v w', Rs (η ++ μ) tm' (a.put o.dst v).tmps.toList → HR B (η ++ μ) hp' w' → Below B w w' → K (a.put o.dst v) w') :
    if Region.wanted o (yielded ops a.tmps) then o.wp P a w K Q else K (a.put o.dst undef) w := by
  simp only [step1, okS_eq, okM_eq] at h
  split at h
  · simp at h
  · simp at h
  · rename_i tm1 ans1 c1 h1
    split at h
    · simp at h
    · rename_i hg
      obtain ⟨pe, rfl, rfl⟩ := ok_inj h
      obtain ⟨rfl, rfl⟩ := Prod.mk.inj pe
      have e1 := settle_ok h1 hc hvs
      rw [gd_ok hg e1]
      have := hK [] undef w (by simpa using putS_ok o.dst e1 (by simp only [R])) (by simpa using hr) (Below.refl _ _)
      simpa using this
    · rename_i hg
      split at h
      · simp at h
      · simp at h
      · rename_i tm2 ans2 c2 h2
        have fin : c1 → c2 → OpOk P η hp (fun w => (execOp a.eval o).run P w) (sop P tm2 hp o) ∧ Rs η tm2 a.tmps.toList ∧ Region.wanted o (yielded ops a.tmps) = true := by
          intro k1 k2
          have e1 := settle_ok h1 k1 hvs
          have e2 := settleP_ok h2 k2 e1
          exact ⟨sop_ok e2 o, e2, gd_ok hg e1⟩
        split at h
        · rename_i s cc hs
          obtain ⟨pe, rfl, rfl⟩ := ok_inj h
          obtain ⟨rfl, rfl⟩ := Prod.mk.inj pe
          obtain ⟨k1, k2, k3⟩ := hc.three
          obtain ⟨f1, f2, f3⟩ := fin k1 k2
          rw [hs] at f1
          obtain ⟨v, hR, hv⟩ := f1 k3 B w hr
          rw [f3]
          simp only [if_true, Oper.wp, hv, Oper.upon_value]
          exact hK [] v w (by simpa using putS_ok o.dst f2 hR) (by simpa using hr) (Below.refl _ _)
        · rename_i s hp1 cc hs
          obtain ⟨pe, rfl, rfl⟩ := ok_inj h
          obtain ⟨rfl, rfl⟩ := Prod.mk.inj pe
          obtain ⟨k1, k2, k3⟩ := hc.three
          obtain ⟨f1, f2, f3⟩ := fin k1 k2
          rw [hs] at f1
          obtain ⟨v, w', μ, hv, hR, hr', hb⟩ := f1 k3 B w hr hB
          rw [f3]
          simp only [if_true, Oper.wp]
          rcases hv with hv | ⟨hv, rfl⟩
          · simp only [hv, Oper.upon_value]
            exact hK μ v w' (putS_ok o.dst f2.ext hR) hr' hb
          · simp only [hv, Oper.upon_skip]
            exact hK μ undef w' (putS_ok o.dst f2.ext hR) hr' hb
        · rename_i f args hs
          split at h
          · rename_i s hp1 ans3 cc hcall
            obtain ⟨pe, rfl, rfl⟩ := ok_inj h
            obtain ⟨rfl, rfl⟩ := Prod.mk.inj pe
            obtain ⟨k1, k2, k3⟩ := hc.three
            obtain ⟨f1, f2, f3⟩ := fin k1 k2
            rw [hs] at f1
            obtain ⟨vs, hargs, hrun⟩ := f1
            obtain ⟨g1, g2⟩ := hcf _ _ _ _ _ _ _ _ hcall k3 B η w vs hr hB hargs
            rw [f3]
            simp only [if_true, Oper.wp, hrun, g1, Oper.upon_enter]
            refine g2.mono fun e w' hq => ?_
            obtain ⟨v, μ, rfl, hR, hr', hb⟩ := hq
            exact hK μ v w' (putS_ok o.dst f2.ext hR) hr' hb
          · simp at h
          · simp at h
        · simp at h

def opsR (P : Program) (callf : CallF) (ops : Array Oper) (draw : Bool) : List Oper → List SV → List SO → List Bool → Rr (List SV × List SO)
  | [], tm, hp, ans => .ok (tm, hp) ans .tt
  | o :: rest, tm, hp, ans =>
    match step1 P callf ops draw o tm hp ans with
    | .ok (tm', hp') ans' c =>
      match opsR P callf ops draw rest tm' hp' ans' with
      | .ok x ans'' c' => .ok x ans'' (c.and c')
      | .ask b => .ask b
      | .bad => .bad
    | .ask b => .ask b
    | .bad => .bad

/-- The frame and the memory, as told and as they are. -/
structure Sim (ds : List Deferred) (B : Nat) (w₀ : World) (η : Env) (tm : List SV) (hp : List SO) (a : Act) (w : World) : Prop where
  tm : Rs η tm a.tmps.toList
  df : a.defers = ds
  hr : HR B η hp w
  below : Below B w₀ w
  hB : B ≤ w₀.heap.size
theorem Sim.size {ds : List Deferred} {B : Nat} {w₀ : World} {η : Env} {tm : List SV} {hp : List SO} {a : Act} {w : World} (h : Sim ds B w₀ η tm hp a w) : B ≤ w.heap.size := Nat.le_trans h.hB h.below.size

theorem opsR_ok {P : Program} {callf : CallF} (hcf : CallOk P callf) {ops : Array Oper} {Q : Exit → Act → World → Prop} : ∀ (l : List Oper) {tm tm' : List SV} {hp hp' : List SO} {ans ans' : List Bool} {c : Cnd},
    opsR P callf ops false l tm hp ans = .ok (tm', hp') ans' c → c → ∀ {ds : List Deferred} {B : Nat} {w₀ : World} {η : Env} {a : Act} {w : World}, Sim ds B w₀ η tm hp a w →
    (∀ μ a' w', Sim ds B w₀ (η ++ μ) tm' hp' a' w' → Q .normal a' w') → wpList P ops Q l a w
  | [], tm, tm', hp, hp', ans, ans', c, h, hc, ds, B, w₀, η, a, w, hs, hQ => by
    simp [opsR] at h
    obtain ⟨⟨rfl, rfl⟩, _⟩ := h
    exact hQ [] a w (by simpa using hs)
  | o :: l, tm, tm', hp, hp', ans, ans', c, h, hc, ds, B, w₀, η, a, w, hs, hQ => by
    simp only [opsR] at h
    split at h
    · rename_i tm1 hp1 ans1 c1 h1
      split at h
      · rename_i x ans2 c2 h2
        obtain ⟨rfl, rfl, rfl⟩ := ok_inj h
        refine wpList_step fun K hK => ?_
        refine step1_ok hcf h1 hc.l hs.tm hs.hr hs.size fun μ v w' e1 e2 e3 => hK _ _ ?_
        refine opsR_ok hcf l h2 hc.r (ds := ds) (η := η ++ μ) (w₀ := w₀) (B := B) ⟨e1, by rw [put_defers]; exact hs.df, e2, hs.below.trans e3, hs.hB⟩ fun μ' a' w'' hsim => ?_
        exact hQ (μ ++ μ') a' w'' (by simpa using hsim)
      · simp at h
      · simp at h
    · simp at h
    · simp at h
end Go.Ex
namespace Go.Ex
open Go.RowKit (Below)

/-- What was there before is there, as it was, behind what was laid since. -/
theorem HR.restrict {B : Nat} {η μ : Env} {hp hp' : List SO} {w w' : World} (h : HR B η hp w) (h' : HR B (η ++ μ) hp' w') (ht : hp'.take hp.length = hp) : HR B η hp w' := by
  have at' : ∀ (k : Nat) (o : SO), hp[k]? = some o → hp'[k]? = some o := by
    intro k o hk
    have hlt := (List.getElem?_eq_some_iff.1 hk).1
    rw [← ht, List.getElem?_take_of_lt hlt] at hk
    exact hk
  have en : ∀ (k : Nat) (x : Value), k < hp.length → (η ++ μ)[k]? = some x → η[k]? = some x := by
    intro k x hlt hx
    rwa [List.getElem?_append_left (by rw [h.len]; exact hlt)] at hx
  refine ⟨h.len, fun k o hk => ?_, ?_⟩
  · have hlt := (List.getElem?_eq_some_iff.1 hk).1
    have h1 := h.blk k o hk
    have h2 := h'.blk k o (at' k o hk)
    refine ⟨?_, ?_⟩
    rotate_left
    · cases o with
      | own e s n kc l =>
        obtain ⟨g, c, xs, q1, q2, q3, q4, q5⟩ := h1.2
        obtain ⟨g', c', xs', p1, p2, p3, p4, p5⟩ := h2.2
        have k1 := en k _ hlt p1
        rw [q1] at k1
        simp at k1
        subst k1
        rw [get_ext q2] at p2
        simp at p2
        subst p2
        have := Rs.fun p4 q4.ext
        subst this
        exact ⟨g, c, xs', q1, q2, p3, q4, q5⟩
      | otx e kc t =>
        obtain ⟨g, c, q1, q2, q3⟩ := h1.2
        obtain ⟨g', c', p1, p2, p3⟩ := h2.2
        have k1 := en k _ hlt p1
        rw [q1] at k1
        simp at k1
        subst k1
        rw [get_ext q2] at p2
        simp at p2
        subst p2
        exact ⟨g, c, q1, q2, p3⟩
      | ows e sz nn kc L =>
        obtain ⟨g, c, q1, q2, q3⟩ := h1.2
        obtain ⟨g', c', p1, p2, p3⟩ := h2.2
        have k1 := en k _ hlt p1
        rw [q1] at k1
        simp at k1
        subst k1
        rw [get_ext q2] at p2
        simp at p2
        subst p2
        exact ⟨g, c, q1, q2, p3⟩
      | mp kk es =>
        obtain ⟨r, arr, clock, q1, q2, q3, q4, q5⟩ := h1.2
        obtain ⟨r', arr', clock', p1, p2, p3, p4, p5⟩ := h2.2
        have k1 := en k _ hlt p1
        rw [q1] at k1
        simp at k1
        subst k1
        have := Rs.fun p5 q5.ext
        exact ⟨r, arr', clock', q1, q2, p3, p4, by rw [this]; exact q5⟩
      | glob g l => exact h1.2
      | fx d =>
        cases d with
        | lop rdy ts ps as bd =>
          obtain ⟨r, fn, vts, D, q1, q2, q3, q4⟩ := h1.2
          obtain ⟨r', fn', vts', D', p1, p2, p3, p4⟩ := h2.2
          have k1 := en k _ hlt p1
          rw [q1] at k1
          simp at k1
          subst k1
          have := Rs.fun p4 q4.ext
          have e : vts' = vts := Array.toList_inj.1 this
          subst e
          exact ⟨r, fn', vts', D', q1, q2, p3, q4⟩
        | dfb =>
          obtain ⟨r, q1, q2, q3⟩ := h1.2
          obtain ⟨r', p1, p2, p3⟩ := h2.2
          have k1 := en k _ hlt p1
          rw [q1] at k1
          simp at k1
          subst k1
          exact ⟨r, q1, q2, p3⟩
      | _ => trivial
    intro wr l hrow
    · obtain ⟨b, o, e1, e2, e3, e4⟩ := h1.1 wr l hrow
      obtain ⟨b', o', f1, f2, f3, f4⟩ := h2.1 wr l hrow
      have := en k _ hlt f1
      rw [e1] at this
      simp at this
      obtain ⟨rfl, rfl⟩ := this
      refine ⟨b, o, e1, f2, f3, fun i s hi => ?_⟩
      obtain ⟨⟨v, g1, g2, g3⟩, _⟩ := e4 i s hi
      obtain ⟨⟨v', g1', g2', g3'⟩, g4'⟩ := f4 i s hi
      have : v' = v := R.fun g2' g2.ext
      subst this
      exact ⟨⟨v', g1', g2, g3'⟩, g4'⟩
  · exact h.apart

/-! ### a region that draws its order and only reads -/
def Cls (B : Nat) (w₀ : World) (η : Env) (hp : List SO) (w : World) : Prop := HR B η hp w ∧ Below B w₀ w

theorem opsR_hp {P : Program} {callf : CallF} {ops : Array Oper} : ∀ (l : List Oper) {tm tm' : List SV} {hp hp' : List SO} {ans ans' : List Bool} {c : Cnd},
    opsR P callf ops true l tm hp ans = .ok (tm', hp') ans' c → hp' = hp
  | [], tm, tm', hp, hp', ans, ans', c, h => by
    simp only [opsR] at h
    obtain ⟨pe, _, _⟩ := ok_inj h
    exact (Prod.mk.inj pe).2.symm
  | o :: l, tm, tm', hp, hp', ans, ans', c, h => by
    simp only [opsR] at h
    split at h
    · rename_i tm1 hp1 ans1 c1 h1
      split at h
      · rename_i x ans2 c2 h2
        obtain ⟨rfl, _, _⟩ := ok_inj h
        have e := opsR_hp l h2
        rw [e]
        simp only [step1, okS_eq, okM_eq] at h1
        split at h1
        · simp at h1
        · simp at h1
        · split at h1
          · simp at h1
          · obtain ⟨pe, _, _⟩ := ok_inj h1
            exact (Prod.mk.inj pe).2.symm
          · split at h1
            · simp at h1
            · simp at h1
            · split at h1
              · obtain ⟨pe, _, _⟩ := ok_inj h1
                exact (Prod.mk.inj pe).2.symm
              · simp at h1
              · split at h1
                · split at h1
                  · split at h1
                    · obtain ⟨pe, _, _⟩ := ok_inj h1
                      exact (Prod.mk.inj pe).2.symm
                    · simp at h1
                  · simp_all
                · simp at h1
                · simp at h1
              · simp at h1
      · simp at h
      · simp at h
    · simp at h
    · simp at h

theorem step1_quiet {P : Program} {callf : CallF} (hcf : CallOk P callf) {ops : Array Oper} {o : Oper} {tm tm' : List SV} {hp hp' : List SO} {ans ans' : List Bool} {c : Cnd}
    (h : step1 P callf ops true o tm hp ans = .ok (tm', hp') ans' c) (hc : c) {B : Nat} {η : Env} {a : Act} {w₀ : World} (hB : B ≤ w₀.heap.size) (hvs : Rs η tm a.tmps.toList) (hne : ∃ w, Cls B w₀ η hp w)
    {K : Act → Prop} (hK : ∀ v, Rs η tm' (a.put o.dst v).tmps.toList → K (a.put o.dst v)) :
    if Region.wanted o (yielded ops a.tmps) then o.quiet P a (Cls B w₀ η hp) K else K (a.put o.dst undef) := by
  simp only [step1, okS_eq, okM_eq] at h
  split at h
  · simp at h
  · simp at h
  · rename_i tm1 ans1 c1 h1
    split at h
    · simp at h
    · rename_i hg
      obtain ⟨pe, rfl, rfl⟩ := ok_inj h
      obtain ⟨rfl, rfl⟩ := Prod.mk.inj pe
      have e1 := settle_ok h1 hc hvs
      rw [gd_ok hg e1]
      exact hK undef (putS_ok o.dst e1 (by simp only [R]))
    · rename_i hg
      split at h
      · simp at h
      · simp at h
      · rename_i tm2 ans2 c2 h2
        have fin : c1 → c2 → OpOk P η hp (fun w => (execOp a.eval o).run P w) (sop P tm2 hp o) ∧ Rs η tm2 a.tmps.toList ∧ Region.wanted o (yielded ops a.tmps) = true := by
          intro k1 k2
          have e1 := settle_ok h1 k1 hvs
          have e2 := settleP_ok h2 k2 e1
          exact ⟨sop_ok e2 o, e2, gd_ok hg e1⟩
        split at h
        · rename_i s cc hs
          obtain ⟨pe, rfl, rfl⟩ := ok_inj h
          obtain ⟨rfl, rfl⟩ := Prod.mk.inj pe
          obtain ⟨k1, k2, k3⟩ := hc.three
          obtain ⟨f1, f2, f3⟩ := fin k1 k2
          rw [hs] at f1
          rw [f3]
          obtain ⟨wn, hn⟩ := hne
          obtain ⟨v, hR, _⟩ := f1 k3 B wn hn.1
          simp only [if_true]
          refine ⟨v, fun w hw => ?_, hK v (putS_ok o.dst f2 hR)⟩
          obtain ⟨v', hR', hv'⟩ := f1 k3 B w hw.1
          have : v' = v := R.fun hR' hR
          subst this
          simp only [] at hv'
          show Oper.quietUpon _ _ _ _ _
          rw [hv']
          exact ⟨rfl, rfl⟩
        · simp at h
        · rename_i f args hs
          split at h
          · rename_i s hp1 ans3 cc hcall
            simp only [if_true] at h
            split at h
            · rename_i hsv0
              have hsv := (Bool.and_eq_true _ _ ▸ hsv0 : _ ∧ _).1
              have hno := (Bool.and_eq_true _ _ ▸ hsv0 : _ ∧ _).2
              obtain ⟨pe, rfl, rfl⟩ := ok_inj h
              obtain ⟨rfl, rfl⟩ := Prod.mk.inj pe
              obtain ⟨k1, k2, k3⟩ := hc.three
              obtain ⟨f1, f2, f3⟩ := fin k1 k2
              rw [hs] at f1
              obtain ⟨vs, hargs, hrun⟩ := f1
              obtain ⟨x, hx⟩ := Option.isSome_iff_exists.1 hsv
              rw [f3]
              simp only [if_true]
              refine ⟨x, fun w hw => ?_, hK x (putS_ok o.dst f2 (SV.R_val? hx))⟩
              obtain ⟨g1, g2⟩ := hcf _ _ _ _ _ _ _ _ hcall k3 B η w vs hw.1 (Nat.le_trans hB hw.2.size) hargs
              simp only [] at hrun
              show Oper.quietUpon _ _ _ _ _
              rw [hrun, g1]
              refine ⟨rfl, g2.mono fun e w' hq => ?_⟩
              obtain ⟨v, μ, rfl, hR, hr', hb⟩ := hq
              rw [Option.isNone_iff_eq_none.1 hno] at hr'
              exact ⟨by rw [SV.val?_R hx hR], hw.1.restrict hr' (List.take_length), hw.2.trans hb⟩
            · simp at h
          · simp at h
          · simp at h
        · simp at h

theorem opsR_quiet {P : Program} {callf : CallF} (hcf : CallOk P callf) {ops : Array Oper} {B : Nat} {w₀ : World} (hB : B ≤ w₀.heap.size) {η : Env} {hp : List SO} (hne : ∃ w, Cls B w₀ η hp w) {K : Act → Prop} : ∀ (l : List Oper) {tm tm' : List SV} {hp' : List SO} {ans ans' : List Bool} {c : Cnd},
    opsR P callf ops true l tm hp ans = .ok (tm', hp') ans' c → c → ∀ {ds : List Deferred} {a : Act}, Rs η tm a.tmps.toList → a.defers = ds →
    (∀ a', Rs η tm' a'.tmps.toList → a'.defers = ds → K a') → wpQuiet P ops (Cls B w₀ η hp) K l a
  | [], tm, tm', hp', ans, ans', c, h, hc, ds, a, hs, hd, hQ => by
    simp only [opsR] at h
    obtain ⟨pe, _, _⟩ := ok_inj h
    obtain ⟨rfl, rfl⟩ := Prod.mk.inj pe
    exact hQ a hs hd
  | o :: l, tm, tm', hp', ans, ans', c, h, hc, ds, a, hs, hd, hQ => by
    have hh := opsR_hp (o :: l) h
    simp only [opsR] at h
    split at h
    · rename_i tm1 hp1 ans1 c1 h1
      split at h
      · rename_i x ans2 c2 h2
        obtain ⟨rfl, rfl, rfl⟩ := ok_inj h
        have h3 := opsR_hp l h2
        have e : hp1 = hp := by rw [← h3]; exact hh
        subst e
        refine wpQuiet_step fun K' hK' => ?_
        refine step1_quiet hcf h1 hc.l hB hs hne fun v e1 => hK' _ ?_
        exact opsR_quiet hcf hB hne l h2 hc.r e1 (by rw [put_defers]; exact hd) hQ
      · simp at h
      · simp at h
    · simp at h
    · simp at h

/-! ### a region that draws its order, reads, and then acts -/
def noCall : CallF := fun _ _ _ _ => .bad
theorem step1_still {P : Program} {ops : Array Oper} {o : Oper} {tm tm' : List SV} {hp hp' : List SO} {ans ans' : List Bool} {c : Cnd}
    (h : step1 P noCall ops true o tm hp ans = .ok (tm', hp') ans' c) (hc : c) {B : Nat} {η : Env} {a : Act} {w : World} (hvs : Rs η tm a.tmps.toList) (hr : HR B η hp w)
    {K : Act → Prop} (hK : ∀ v, Rs η tm' (a.put o.dst v).tmps.toList → K (a.put o.dst v)) :
    if Region.wanted o (yielded ops a.tmps) then o.still P a w K else K (a.put o.dst undef) := by
  simp only [step1, okS_eq, okM_eq] at h
  split at h
  · simp at h
  · simp at h
  · rename_i tm1 ans1 c1 h1
    split at h
    · simp at h
    · rename_i hg
      obtain ⟨pe, rfl, rfl⟩ := ok_inj h
      obtain ⟨rfl, rfl⟩ := Prod.mk.inj pe
      have e1 := settle_ok h1 hc hvs
      rw [gd_ok hg e1]
      exact hK undef (putS_ok o.dst e1 (by simp only [R]))
    · rename_i hg
      split at h
      · simp at h
      · simp at h
      · rename_i tm2 ans2 c2 h2
        split at h
        · rename_i s cc hs
          obtain ⟨pe, rfl, rfl⟩ := ok_inj h
          obtain ⟨rfl, rfl⟩ := Prod.mk.inj pe
          obtain ⟨k1, k2, k3⟩ := hc.three
          have e1 := settle_ok h1 k1 hvs
          have e2 := settleP_ok h2 k2 e1
          have f1 := sop_ok (P := P) e2 (hp := hp) o
          rw [hs] at f1
          rw [gd_ok hg e1]
          obtain ⟨v, hR, hv⟩ := f1 k3 B w hr
          simp only [if_true, Oper.still]
          simp only [] at hv
          rw [hv, Oper.stillUpon_value]
          exact hK v (putS_ok o.dst e2 hR)
        · simp at h
        · simp [noCall] at h
        · simp at h

theorem opsR_still {P : Program} {ops : Array Oper} {B : Nat} {η : Env} {hp : List SO} {w : World} (hr : HR B η hp w) {K : Act → Prop} : ∀ (l : List Oper) {tm tm' : List SV} {hp' : List SO} {ans ans' : List Bool} {c : Cnd},
    opsR P noCall ops true l tm hp ans = .ok (tm', hp') ans' c → c → ∀ {ds : List Deferred} {a : Act}, Rs η tm a.tmps.toList → a.defers = ds →
    (∀ a', Rs η tm' a'.tmps.toList → a'.defers = ds → K a') → wpStill P ops w K l a
  | [], tm, tm', hp', ans, ans', c, h, hc, ds, a, hs, hd, hQ => by
    simp only [opsR] at h
    obtain ⟨pe, _, _⟩ := ok_inj h
    obtain ⟨rfl, rfl⟩ := Prod.mk.inj pe
    exact hQ a hs hd
  | o :: l, tm, tm', hp', ans, ans', c, h, hc, ds, a, hs, hd, hQ => by
    have hh := opsR_hp (o :: l) h
    simp only [opsR] at h
    split at h
    · rename_i tm1 hp1 ans1 c1 h1
      split at h
      · rename_i x ans2 c2 h2
        obtain ⟨rfl, rfl, rfl⟩ := ok_inj h
        have h3 := opsR_hp l h2
        have e : hp1 = hp := by rw [← h3]; exact hh
        subst e
        refine wpStill_step fun K' hK' => ?_
        refine step1_still h1 hc.l hs hr fun v e1 => hK' _ ?_
        exact opsR_still hr l h2 hc.r e1 (by rw [put_defers]; exact hd) hQ
      · simp at h
      · simp at h
    · simp at h
    · simp at h

end Go.Ex
namespace Go.Ex
open Go.RowKit (Below)

/-! ### blocks, numbered anew -/
mutual
def SV.ren (π : Nat → Nat) : SV → SV
  | .ptr k o => .ptr (π k) o
  | .slc k o l c => .slc (π k) o l c
  | .sle k o l kc => .sle (π k) o l (π kc)
  | .pto k i => .pto (π k) i
  | .slo k n kc => .slo (π k) n (π kc)
  | .fnc g a b => .fnc g (rens π a) (rens π b)
  | .agg l => .agg (rens π l)
  | .tup l => .tup (rens π l)
  | .ifc t x => .ifc t (x.ren π)
  | .hdl k => .hdl (π k)
  | .val v => .val v
  | .num k z => .num k z
  | .bol b => .bol b
  | .bts c l => .bts c l
def rens (π : Nat → Nat) : List SV → List SV
  | [] => []
  | s :: l => s.ren π :: rens π l
end
theorem rens_length (π : Nat → Nat) : ∀ l : List SV, (rens π l).length = l.length
  | [] => rfl
  | s :: l => by simp [rens, rens_length π l]
theorem rens_get (π : Nat → Nat) : ∀ (l : List SV) (i : Nat), (rens π l)[i]? = (l[i]?).map (SV.ren π)
  | [], i => by simp [rens]
  | s :: l, 0 => by simp [rens]
  | s :: l, i + 1 => by simp [rens, rens_get π l i]
mutual
theorem R.ren {η η' : Env} {π : Nat → Nat} (h : ∀ k x, η[k]? = some x → η'[π k]? = some x) : ∀ (s : SV) (v : Value), R η s v → R η' (s.ren π) v
  | .val _, _, hR | .num _ _, _, hR | .bol _, _, hR | .bts _ _, _, hR => by simp only [SV.ren, R] at hR ⊢; exact hR
  | .ptr k o, v, hR => by
    obtain ⟨b, o', h1, h2⟩ := hR
    exact ⟨b, o', h _ _ h1, h2⟩
  | .slc k o l c, v, hR => by
    obtain ⟨b, o', h1, h2⟩ := hR
    exact ⟨b, o', h _ _ h1, h2⟩
  | .sle k o l kc, v, hR => by
    obtain ⟨b, o', c, h1, h2, h3, h4⟩ := hR
    exact ⟨b, o', c, h _ _ h1, h _ _ h2, h3, h4⟩
  | .pto k i, v, hR => by
    obtain ⟨b, o', h1, h2⟩ := hR
    exact ⟨b, o', h _ _ h1, h2⟩
  | .slo k n kc, v, hR => by
    obtain ⟨b, o', c, h1, h2, h3, h4⟩ := hR
    exact ⟨b, o', c, h _ _ h1, h _ _ h2, h3, h4⟩
  | .fnc g a b, v, hR => by
    obtain ⟨x, y, h1, h2, h3⟩ := hR
    exact ⟨x, y, h1, Rs.ren h a _ h2, Rs.ren h b _ h3⟩
  | .agg l, v, hR => by
    obtain ⟨x, h1, h2⟩ := hR
    exact ⟨x, h1, Rs.ren h l _ h2⟩
  | .tup l, v, hR => by
    obtain ⟨x, h1, h2⟩ := hR
    exact ⟨x, h1, Rs.ren h l _ h2⟩
  | .ifc t s, v, hR => by
    obtain ⟨x, h1, h2⟩ := hR
    exact ⟨x, h1, R.ren h s _ h2⟩
  | .hdl k, v, hR => by
    simp only [SV.ren, R] at hR ⊢
    exact h _ _ hR
theorem Rs.ren {η η' : Env} {π : Nat → Nat} (h : ∀ k x, η[k]? = some x → η'[π k]? = some x) : ∀ (l : List SV) (vs : List Value), Rs η l vs → Rs η' (rens π l) vs
  | [], vs, hR => by simp only [rens, Rs] at hR ⊢; exact hR
  | s :: l, vs, hR => by
    obtain ⟨x, r, h1, h2, h3⟩ := hR
    exact ⟨x, r, h1, R.ren h s _ h2, Rs.ren h l _ h3⟩
end
def SO.ren (π : Nat → Nat) : SO → SO
  | .cells wr l => .cells wr (rens π l)
  | .dead => .dead
  | .txt t => .txt t
  | .own e s n kc l => .own e s n (π kc) (rens π l)
  | .otx e kc t => .otx e (π kc) t
  | .ows e sz nn kc L => .ows e sz nn (π kc) L
  | .mp kk es => .mp kk (es.map fun e => (e.1, e.2.ren π))
  | .glob g l => .glob g (rens π l)
  | .fx (.lop rdy ts ps as bd) => .fx (.lop rdy (rens π ts) ps as bd)
  | .fx .dfb => .fx .dfb
  | .fns L => .fns L
theorem rens_map (π : Nat → Nat) : ∀ l : List SV, rens π l = l.map (SV.ren π)
  | [] => rfl
  | s :: l => by simp [rens, rens_map π l]
theorem rens_text (π : Nat → Nat) (t : ByteArray) : rens π (textCells t) = textCells t := by
  unfold textCells
  induction t.data.toList with
  | nil => rfl
  | cons b l ih =>
    simp only [List.map_cons, rens, ih]
    rfl
theorem rens_vals (π : Nat → Nat) : ∀ L : List Value, rens π (L.map SV.val) = L.map SV.val
  | [] => rfl
  | v :: L => by simp only [List.map_cons, rens, rens_vals π L]; rfl
theorem row_ren (π : Nat → Nat) (o : SO) : (o.ren π).row = o.row.map fun p => (p.1, rens π p.2) := by
  cases o with
  | cells wr l => rfl
  | dead => rfl
  | txt t => simp only [SO.ren, SO.row, Option.map_some, rens_text]
  | own e s n kc l => rfl
  | otx e kc t => simp only [SO.ren, SO.row, Option.map_some, rens_text]
  | ows e sz nn kc L => simp only [SO.ren, SO.row, Option.map_some, rens_vals]
  | mp kk es => rfl
  | glob g l => rfl
  | fx d => cases d <;> rfl
  | fns L => simp only [SO.ren, SO.row, Option.map_some, rens_vals]
theorem BR.ren {B : Nat} {η η' : Env} {π : Nat → Nat} (h : ∀ k x, η[k]? = some x → η'[π k]? = some x) {w : World} {k k' : Nat} (hk : ∀ x, η[k]? = some x → η'[k']? = some x) {o : SO} (hb : BR B η w k o) : BR B η' w k' (o.ren π) := by
  refine ⟨?_, ?_⟩
  rotate_left
  · cases o with
    | own e s n kc l =>
      obtain ⟨g, c, xs, q1, q2, q3, q4, q5⟩ := hb.2
      exact ⟨g, c, xs, hk _ q1, h _ _ q2, q3, Rs.ren h _ _ q4, q5⟩
    | otx e kc t =>
      obtain ⟨g, c, q1, q2, q3⟩ := hb.2
      exact ⟨g, c, hk _ q1, h _ _ q2, q3⟩
    | ows e sz nn kc L =>
      obtain ⟨g, c, q1, q2, q3⟩ := hb.2
      exact ⟨g, c, hk _ q1, h _ _ q2, q3⟩
    | mp kk es =>
      obtain ⟨r, arr, clock, q1, q2, q3, q4, q5⟩ := hb.2
      refine ⟨r, arr, clock, hk _ q1, q2, q3, by simpa [List.map_map, Function.comp_def] using q4, ?_⟩
      have := Rs.ren h _ _ q5
      rw [rens_map] at this
      simpa [List.map_map, Function.comp_def] using this
    | glob g l => exact hk _ hb.2
    | fx d =>
      cases d with
      | lop rdy ts ps as bd =>
        obtain ⟨r, fn, vts, D, q1, q2, q3, q4⟩ := hb.2
        exact ⟨r, fn, vts, D, hk _ q1, q2, q3, Rs.ren h _ _ q4⟩
      | dfb =>
        obtain ⟨r, q1, q2, q3⟩ := hb.2
        exact ⟨r, hk _ q1, q2, q3⟩
    | _ => trivial
  intro wr l' hrow
  rw [row_ren] at hrow
  obtain ⟨⟨wr0, l⟩, hrow0, he⟩ := Option.map_eq_some_iff.1 hrow
  simp only [Prod.mk.injEq] at he
  obtain ⟨rfl, rfl⟩ := he
  · obtain ⟨b, o, h1, h2, h3, h4⟩ := hb.1 wr0 l hrow0
    refine ⟨b, o, hk _ h1, h2, h3, fun i s hi => ?_⟩
    rw [rens_get] at hi
    obtain ⟨s0, hs0, rfl⟩ := Option.map_eq_some_iff.1 hi
    obtain ⟨⟨v, g1, g2, g3⟩, g4⟩ := h4 i s0 hs0
    exact ⟨⟨v, g1, R.ren h s0 v g2, g3⟩, g4⟩

mutual
def SV.idxs : SV → List Nat
  | .ptr k _ => [k]
  | .slc k _ _ _ => [k]
  | .sle k _ _ kc => [k, kc]
  | .pto k _ => [k]
  | .slo k _ kc => [k, kc]
  | .fnc _ a b => idxss a ++ idxss b
  | .agg l => idxss l
  | .tup l => idxss l
  | .ifc _ x => x.idxs
  | .hdl k => [k]
  | _ => []
def idxss : List SV → List Nat
  | [] => []
  | s :: l => s.idxs ++ idxss l
end
/-- those from 'n' on, each once, as they are met -/
def firsts (n : Nat) : List Nat → List Nat → List Nat
  | [], acc => acc
  | k :: r, acc => if n ≤ k && !acc.contains k then firsts n r (acc ++ [k]) else firsts n r acc
def newOrd (n m : Nat) (tm : List SV) : List Nat := firsts n ((List.range m).map (n + ·)) (firsts n (idxss tm) [])
def piOf (n : Nat) (ord : List Nat) (k : Nat) : Nat := if k < n then k else n + ord.idxOf k
def ordGood (n m : Nat) (ord : List Nat) : Bool :=
  ord.length == m &&
  ((List.range m).all fun i => ord[piOf n ord (n + i) - n]? == some (n + i)) &&
  ((List.range m).all fun j => match ord[j]? with | some k => decide (n ≤ k) && (piOf n ord k == n + j) && decide (k < n + m) | none => false)
def hpOf (n : Nat) (ord : List Nat) (hp : List SO) : List SO :=
  (hp.take n).map (SO.ren (piOf n ord)) ++ ord.map fun k => (hp.getD k .dead).ren (piOf n ord)
/-- Nothing is looked at behind this. -/
def stopB : List SO → Bool
  | _ :: _ :: .dead :: _ => true
  | _ => false
/-- The state, its new blocks numbered by their place in the frame. -/
def canon (n : Nat) (tm : List SV) (hp : List SO) : List SV × List SO :=
  let m := hp.length - n
  if (stopB hp || decide (m ≤ 1)) = true then (tm, hp) else
  let ord := newOrd n m tm
  if ordGood n m ord && decide (n ≤ hp.length) then (rens (piOf n ord) tm, hpOf n ord hp) else (tm, hp)

theorem canon_sim {ds : List Deferred} {B : Nat} {w₀ : World} {η μ : Env} {tm : List SV} {hp : List SO} {a : Act} {w : World} (hs : Sim ds B w₀ (η ++ μ) tm hp a w) {n : Nat} (hn : η.length = n) :
    ∃ μ', Sim ds B w₀ (η ++ μ') (canon n tm hp).1 (canon n tm hp).2 a w := by
  unfold canon
  simp only []
  split
  · exact ⟨μ, hs⟩
  · split
    · rename_i hg
      generalize newOrd n (hp.length - n) tm = ord at hg ⊢
      generalize hm : hp.length - n = m at hg ⊢
      simp only [ordGood, Bool.and_eq_true, beq_iff_eq, List.all_eq_true, List.mem_range, decide_eq_true_eq] at hg
      obtain ⟨⟨⟨g1, g2⟩, g3⟩, g4⟩ := hg
      have hlen := hs.hr.len
      have hml : μ.length = m := by simp at hlen; omega
      have hpl : hp.length = n + m := by omega
      have o3 : ∀ j, j < m → ∃ k, ord[j]? = some k ∧ n ≤ k ∧ piOf n ord k = n + j ∧ k < n + m := by
        intro j hj
        have := g3 j hj
        split at this
        · rename_i k hk
          simp only [Bool.and_eq_true, decide_eq_true_eq, beq_iff_eq] at this
          exact ⟨k, hk, this.1.1, this.1.2, this.2⟩
        · simp at this
      have small : ∀ k, k < n → piOf n ord k = k := fun k hk => by simp [piOf, hk]
      let μ' : Env := ord.map fun k => ((η ++ μ)[k]?).getD undef
      have at' : ∀ j k, ord[j]? = some k → (η ++ μ')[n + j]? = some (((η ++ μ)[k]?).getD undef) := by
        intro j k hk
        rw [List.getElem?_append_right (by omega), hn, Nat.add_sub_cancel_left]
        simp [μ', hk]
      have there : ∀ k, k < n + m → ∃ x, (η ++ μ)[k]? = some x := by
        intro k hk
        have : k < (η ++ μ).length := by simp; omega
        exact ⟨_, List.getElem?_eq_getElem this⟩
      have key : ∀ k x, (η ++ μ)[k]? = some x → (η ++ μ')[piOf n ord k]? = some x := by
        intro k x hx
        have hk : k < n + m := by
          have := (List.getElem?_eq_some_iff.1 hx).1
          simp at this; omega
        by_cases hkn : k < n
        · rw [small k hkn]
          rw [List.getElem?_append_left (by omega)] at hx ⊢
          exact hx
        · obtain ⟨i, rfl⟩ : ∃ i, k = n + i := ⟨k - n, by omega⟩
          have e := g2 i (by omega)
          have hge : n ≤ piOf n ord (n + i) := by unfold piOf; split <;> omega
          obtain ⟨j, hj⟩ : ∃ j, piOf n ord (n + i) = n + j := ⟨piOf n ord (n + i) - n, by omega⟩
          rw [hj, Nat.add_sub_cancel_left] at e
          rw [hj, at' j _ e, hx]; rfl
      have get : ∀ k o, (hpOf n ord hp)[k]? = some o → (k < n ∧ ∃ o0, hp[k]? = some o0 ∧ o = o0.ren (piOf n ord)) ∨ (∃ j k0 o0, k = n + j ∧ j < m ∧ ord[j]? = some k0 ∧ hp[k0]? = some o0 ∧ o = o0.ren (piOf n ord)) := by
        intro k o hk
        unfold hpOf at hk
        by_cases hkn : k < n
        · rw [List.getElem?_append_left (by simp; omega)] at hk
          rw [List.getElem?_map, List.getElem?_take_of_lt hkn] at hk
          obtain ⟨o0, h0, rfl⟩ := Option.map_eq_some_iff.1 hk
          exact .inl ⟨hkn, o0, h0, rfl⟩
        · rw [List.getElem?_append_right (by simp; omega)] at hk
          have e : (List.map (SO.ren (piOf n ord)) (List.take n hp)).length = n := by simp; omega
          rw [e, List.getElem?_map] at hk
          obtain ⟨k0, h0, rfl⟩ := Option.map_eq_some_iff.1 hk
          have hj : k - n < m := by
            have := (List.getElem?_eq_some_iff.1 h0).1
            omega
          obtain ⟨k1, h1, h2, h3, h4⟩ := o3 _ hj
          rw [h0] at h1
          obtain rfl := Option.some.inj h1
          have : k0 < hp.length := by omega
          refine .inr ⟨k - n, k0, hp[k0], by omega, hj, h0, List.getElem?_eq_getElem this, ?_⟩
          simp [List.getD, List.getElem?_eq_getElem this]
      refine ⟨μ', Rs.ren key _ _ hs.tm, hs.df, ⟨?_, ?_, ?_⟩, hs.below, hs.hB⟩
      · simp [μ', hpOf, g1]; omega
      · intro k o hk
        rcases get k o hk with ⟨hkn, o0, h0, rfl⟩ | ⟨j, k0, o0, rfl, hj, hk0, h0, rfl⟩
        · refine BR.ren key (fun x hx => ?_) (hs.hr.blk k o0 h0)
          have := key k x hx
          rwa [small k hkn] at this
        · refine BR.ren key (fun x hx => ?_) (hs.hr.blk k0 o0 h0)
          rw [at' j k0 hk0, hx]; rfl
      · intro k₁ k₂ s₁ s₂ l₁ wr₂ l₂ b₁ p₁ b₂ p₂ hk1 r1 hk2 r2 hne e1 e2
        have back : ∀ k o wr l b p, (hpOf n ord hp)[k]? = some o → o.row = some (wr, l) → (η ++ μ')[k]? = some (.pointer (some ⟨b, p, none⟩)) → ∃ k0 o0 l0, hp[k0]? = some o0 ∧ o0.row = some (wr, l0) ∧ (η ++ μ)[k0]? = some (.pointer (some ⟨b, p, none⟩)) ∧ piOf n ord k0 = k := by
          intro k o wr l b p hk hrow he
          rcases get k _ hk with ⟨hkn, o0, h0, ho⟩ | ⟨j, k0, o0, rfl, hj, hk0, h0, ho⟩
          · rw [ho, row_ren] at hrow
            obtain ⟨⟨wr0, l'⟩, hrow0, hq⟩ := Option.map_eq_some_iff.1 hrow
            simp only [Prod.mk.injEq] at hq
            obtain ⟨rfl, _⟩ := hq
            · refine ⟨k, o0, l', h0, hrow0, ?_, small k hkn⟩
              rw [List.getElem?_append_left (by omega)] at he ⊢
              exact he
          · rw [ho, row_ren] at hrow
            obtain ⟨⟨wr0, l'⟩, hrow0, hq⟩ := Option.map_eq_some_iff.1 hrow
            simp only [Prod.mk.injEq] at hq
            obtain ⟨rfl, _⟩ := hq
            · obtain ⟨k1, h1, h2, h3, h4⟩ := o3 j hj
              rw [hk0] at h1
              obtain rfl := Option.some.inj h1
              obtain ⟨x, hx⟩ := there k0 h4
              rw [at' j k0 hk0, hx] at he
              simp only [Option.getD_some, Option.some.injEq] at he
              subst he
              exact ⟨k0, o0, l', h0, hrow0, hx, h3⟩
        obtain ⟨c1, q1, m1, a1, z1, a2, a3⟩ := back _ _ _ _ _ _ hk1 r1 e1
        obtain ⟨c2, q2, m2, d1, z2, d2, d3⟩ := back _ _ _ _ _ _ hk2 r2 e2
        exact hs.hr.apart c1 c2 q1 q2 m1 wr₂ m2 b₁ p₁ b₂ p₂ a1 z1 d1 z2 (fun e => hne (by rw [← a3, ← d3, e])) a2 d2
    · exact ⟨μ, hs⟩
/-- The same, reckoned out. -/
def canonR (n : Nat) (tm : List SV) (hp : List SO) (ans : List Bool) : Rr (List SV × List SO) :=
  if (stopB hp || decide (hp.length - n ≤ 1)) = true then .ok (tm, hp) ans .tt else
  match canon n tm hp with
  | (tm', hp') => withSs tm' fun tm' => withO hp' fun hp' => .ok (tm', hp') ans .tt
theorem canonR_eq (n : Nat) (tm : List SV) (hp : List SO) (ans : List Bool) : canonR n tm hp ans = .ok (canon n tm hp) ans .tt := by
  unfold canonR
  split
  · rename_i h; unfold canon; simp only []; rw [if_pos h]
  · simp only [withSs_eq, withO_eq]
end Go.Ex
namespace Go.Ex
open Go.RowKit (Below)

/-! ### a region that draws its order, with operations that act: every order of these -/
mutual
/-- Are they the same? -/
def sameC : SV → SV → Cnd
  | .num k z, .num k' z' => if k = k' ∧ z = z' then .tt else .pr False
  | .bol b, .bol b' => if b = b' then .tt else .pr False
  | .bts true l, .bts true l' => if l = l' then .tt else .pr False
  | .ptr k o, .ptr k' o' => if k = k' ∧ o = o' then .tt else .pr False
  | .slc k o l c, .slc k' o' l' c' => if k = k' ∧ o = o' ∧ l = l' ∧ c = c' then .tt else .pr False
  | .agg l, .agg l' => sameCs l l'
  | .tup l, .tup l' => sameCs l l'
  | .fnc g a b, .fnc g' a' b' => if g = g' then (sameCs a a').and (sameCs b b') else .pr False
  | a, b => .eq a b
def sameCs : List SV → List SV → Cnd
  | [], [] => .tt
  | s :: l, s' :: l' => (sameC s s').and (sameCs l l')
  | _, _ => .pr False
end
mutual
theorem sameC_ok : ∀ (s s' : SV), (sameC s s').Is → s = s' := by
  intro s s' h
  unfold sameC at h
  split at h
  · split at h
    · rename_i e; rw [e.1, e.2]
    · exact h.elim
  · split at h
    · rename_i e; rw [e]
    · exact h.elim
  · split at h
    · rename_i e; rw [e]
    · exact h.elim
  · split at h
    · rename_i e; rw [e.1, e.2]
    · exact h.elim
  · split at h
    · rename_i e; rw [e.1, e.2.1, e.2.2.1, e.2.2.2]
    · exact h.elim
  · rw [sameCs_ok _ _ h]
  · rw [sameCs_ok _ _ h]
  · split at h
    · rename_i e
      rw [e, sameCs_ok _ _ h.l, sameCs_ok _ _ h.r]
    · exact h.elim
  · exact h
theorem sameCs_ok : ∀ (l l' : List SV), (sameCs l l').Is → l = l'
  | [], [], _ => rfl
  | s :: l, s' :: l', h => by
    simp only [sameCs] at h
    rw [sameC_ok s s' h.l, sameCs_ok l l' h.r]
  | [], _ :: _, h => by simp [sameCs, Cnd.Is] at h
  | _ :: _, [], h => by simp [sameCs, Cnd.Is] at h
end
def sameO : SO → SO → Cnd
  | .dead, .dead => .tt
  | .cells a l, .cells a' l' => if a = a' then sameCs l l' else .pr False
  | .txt t, .txt t' => .eq (.val (.string t)) (.val (.string t'))
  | .mp kk es, .mp kk' es' => if kk = kk' ∧ es.map (·.1) = es'.map (·.1) then sameCs (es.map (·.2)) (es'.map (·.2)) else .pr False
  | .own e s n c l, .own e' s' n' c' l' => if e = e' ∧ s = s' ∧ n = n' ∧ c = c' then sameCs l l' else .pr False
  | .otx e c t, .otx e' c' t' => if e = e' ∧ c = c' then .eq (.val (.string t)) (.val (.string t')) else .pr False
  | .ows e s n c L, .ows e' s' n' c' L' => if e = e' ∧ s = s' ∧ c = c' then .both (.eq (.val (.int .i64 (n : Int))) (.val (.int .i64 (n' : Int)))) (.eq (.agg (L.map .val)) (.agg (L'.map .val))) else .pr False
  | .glob g l, .glob g' l' => if g = g' then sameCs l l' else .pr False
  | .fns L, .fns L' => .eq (.agg (L.map .val)) (.agg (L'.map .val))
  | .fx .dfb, .fx .dfb => .tt
  | .fx d, .fx d' => .pr (SO.fx d = SO.fx d')
  | _, _ => .pr False
theorem zip_ext : ∀ {es es' : List (Int × SV)}, es.map (·.1) = es'.map (·.1) → es.map (·.2) = es'.map (·.2) → es = es'
  | [], [], _, _ => rfl
  | [], _ :: _, h, _ => by simp at h
  | _ :: _, [], h, _ => by simp at h
  | (a, b) :: l, (a', b') :: l', h, g => by
    simp only [List.map_cons, List.cons.injEq] at h g
    rw [h.1, g.1, zip_ext h.2 g.2]
theorem vals_inj : ∀ {L L' : List Value}, L.map SV.val = L'.map SV.val → L = L'
  | [], [], _ => rfl
  | [], _ :: _, h => by simp at h
  | _ :: _, [], h => by simp at h
  | a :: l, b :: m, h => by
    simp only [List.map_cons, List.cons.injEq, SV.val.injEq] at h
    rw [h.1, vals_inj h.2]
theorem sameO_ok {s s' : SO} (h : (sameO s s').Is) : s = s' := by
  unfold sameO at h
  split at h
  · rfl
  · split at h
    · rename_i e; rw [e, sameCs_ok _ _ h]
    · exact h.elim
  · simp only [Cnd.Is, SV.val.injEq, Value.string.injEq] at h; rw [h]
  · split at h
    · rename_i e; rw [e.1, zip_ext e.2 (sameCs_ok _ _ h)]
    · exact h.elim
  · split at h
    · rename_i e; rw [e.1, e.2.1, e.2.2.1, e.2.2.2, sameCs_ok _ _ h]
    · exact h.elim
  · split at h
    · rename_i e
      simp only [Cnd.Is, SV.val.injEq, Value.string.injEq] at h
      rw [e.1, e.2, h]
    · exact h.elim
  · split at h
    · rename_i e
      simp only [Cnd.Is, SV.agg.injEq, SV.val.injEq, Value.int.injEq, true_and] at h
      rw [e.1, e.2.1, e.2.2, vals_inj h.2, Int.ofNat.inj h.1]
    · exact h.elim
  · split at h
    · rename_i e; rw [e, sameCs_ok _ _ h]
    · exact h.elim
  · simp only [Cnd.Is, SV.agg.injEq] at h; rw [vals_inj h]
  · rfl
  · exact h
  · exact h.elim
def sameOs0 : List SO → List SO → Cnd
  | [], [] => .tt
  | s :: l, s' :: l' => (sameO s s').and (sameOs0 l l')
  | _, _ => .pr False
theorem sameOs0_ok : ∀ {l l' : List SO}, (sameOs0 l l').Is → l = l'
  | [], [], _ => rfl
  | s :: l, s' :: l', h => by
    simp only [sameOs0] at h
    rw [sameO_ok h.l, sameOs0_ok h.r]
  | [], _ :: _, h => by simp [sameOs0, Cnd.Is] at h
  | _ :: _, [], h => by simp [sameOs0, Cnd.Is] at h
/-- Nothing is looked at behind a dead block at place two. -/
def sameOs (l l' : List SO) : Cnd :=
  match l, l' with
  | a :: b :: .dead :: r, a' :: b' :: .dead :: r' => (sameO a a').and ((sameO b b').and (.pr (r = r')))
  | l, l' => sameOs0 l l'
theorem sameOs_ok {l l' : List SO} (h : (sameOs l l').Is) : l = l' := by
  unfold sameOs at h
  split at h
  · have h3 : _ = _ := h.r.r
    rw [sameO_ok h.l, sameO_ok h.r.l, h3]
  · exact sameOs0_ok h

/-- What is kept throughout is there. -/
def keepsC0 : List SO → List SO → Cnd
  | [], _ => .tt
  | .dead :: r, _ :: r' => keepsC0 r r'
  | s :: r, s' :: r' => (sameO s' s).and (keepsC0 r r')
  | _ :: _, [] => .pr False
theorem keepsC0_spec' : ∀ {hs hp : List SO}, (keepsC0 hs hp).Is → ∀ (k : Nat) (o : SO), hs[k]? = some o → o ≠ .dead → hp[k]? = some o
  | [], _, _, _, _, h, _ => by simp at h
  | s :: r, [], h, k, o, hk, _ => by cases s <;> exact h.elim
  | s :: r, s' :: r', h, 0, o, hk, hd => by
    simp at hk
    subst hk
    cases s <;> first | exact absurd rfl hd | (have h1 := sameO_ok (Cnd.Is.l h); rw [h1]; rfl)
  | s :: r, s' :: r', h, k + 1, o, hk, hd => by
    simp at hk ⊢
    cases s <;> first | exact keepsC0_spec' (hs := r) (Cnd.Is.r h) k o hk hd | exact keepsC0_spec' (hs := r) h k o hk hd
def keepsC (hs hp : List SO) : Cnd :=
  match hs, hp with
  | a :: b :: .dead :: r, a' :: b' :: .dead :: r' => (keepsC0 [a, b] [a', b']).and (.pr (r = r'))
  | hs, hp => keepsC0 hs hp
theorem keepsC_spec' {hs hp : List SO} (h : (keepsC hs hp).Is) (k : Nat) (o : SO) (hk : hs[k]? = some o) (hd : o ≠ .dead) : hp[k]? = some o := by
  unfold keepsC at h
  split at h
  · rename_i a b r a' b' r'
    have h3 : r = r' := h.r
    subst h3
    match k with
    | 0 => exact keepsC0_spec' h.l 0 o (by simpa using hk) hd
    | 1 => exact keepsC0_spec' h.l 1 o (by simpa using hk) hd
    | k + 2 => simpa using hk
  · exact keepsC0_spec' h k o hk hd
theorem keepsC_spec {hs hp : List SO} (h : (keepsC hs hp).Is) (k : Nat) (o : SO) (wr : Bool) (l : List SV) (hk : hs[k]? = some o) (hr : o.row = some (wr, l)) : hp[k]? = some o :=
  keepsC_spec' h k o hk (fun e => by subst e; simp [SO.row] at hr)

theorem HR.keep {B : Nat} {η μ : Env} {hs hp : List SO} {w w' : World} (h : HR B η hs w) (h' : HR B (η ++ μ) hp w') (hk : (keepsC hs hp).Is) : HR B η hs w' := by
  have sp := keepsC_spec hk
  refine ⟨h.len, fun k o hko => ?_, h.apart⟩
  have hlt := (List.getElem?_eq_some_iff.1 hko).1
  refine ⟨?_, ?_⟩
  rotate_left
  · cases o with
    | own e s n kc l =>
      obtain ⟨g, c, xs, q1, q2, q3, q4, q5⟩ := (h.blk k _ hko).2
      obtain ⟨g', c', xs', p1, p2, p3, p4, p5⟩ := (h'.blk k _ (sp k _ _ _ hko rfl)).2
      rw [get_ext q1] at p1
      simp at p1
      subst p1
      rw [get_ext q2] at p2
      simp at p2
      subst p2
      have := Rs.fun p4 q4.ext
      subst this
      exact ⟨g, c, xs', q1, q2, p3, q4, q5⟩
    | otx e kc t =>
      obtain ⟨g, c, q1, q2, q3⟩ := (h.blk k _ hko).2
      obtain ⟨g', c', p1, p2, p3⟩ := (h'.blk k _ (sp k _ _ _ hko rfl)).2
      rw [get_ext q1] at p1
      simp at p1
      subst p1
      rw [get_ext q2] at p2
      simp at p2
      subst p2
      exact ⟨g, c, q1, q2, p3⟩
    | ows e sz nn kc L =>
      obtain ⟨g, c, q1, q2, q3⟩ := (h.blk k _ hko).2
      obtain ⟨g', c', p1, p2, p3⟩ := (h'.blk k _ (sp k _ _ _ hko rfl)).2
      rw [get_ext q1] at p1
      simp at p1
      subst p1
      rw [get_ext q2] at p2
      simp at p2
      subst p2
      exact ⟨g, c, q1, q2, p3⟩
    | mp kk es =>
      obtain ⟨r, arr, clock, q1, q2, q3, q4, q5⟩ := (h.blk k _ hko).2
      obtain ⟨r', arr', clock', p1, p2, p3, p4, p5⟩ := (h'.blk k _ (keepsC_spec' hk k _ hko (by intro e; cases e))).2
      rw [get_ext q1] at p1
      simp at p1
      subst p1
      have := Rs.fun p5 q5.ext
      exact ⟨r, arr', clock', q1, q2, p3, p4, by rw [this]; exact q5⟩
    | glob g l => exact (h.blk k _ hko).2
    | fx d =>
      have hb := (h'.blk k _ (keepsC_spec' hk k _ hko (by intro e; cases e))).2
      cases d with
      | lop rdy ts ps as bd =>
        obtain ⟨r, fn, vts, D, q1, q2, q3, q4⟩ := (h.blk k _ hko).2
        obtain ⟨r', fn', vts', D', p1, p2, p3, p4⟩ := hb
        rw [get_ext q1] at p1
        simp at p1
        subst p1
        have := Rs.fun p4 q4.ext
        have e : vts' = vts := Array.toList_inj.1 this
        subst e
        exact ⟨r, fn', vts', D', q1, q2, p3, q4⟩
      | dfb =>
        obtain ⟨r, q1, q2, q3⟩ := (h.blk k _ hko).2
        obtain ⟨r', p1, p2, p3⟩ := hb
        rw [get_ext q1] at p1
        simp at p1
        subst p1
        exact ⟨r, q1, q2, p3⟩
    | _ => trivial
  intro wr l hrow
  · have h1 := (h.blk k _ hko).1 wr l hrow
    have h2 := (h'.blk k _ (sp k o wr l hko hrow)).1 wr l hrow
    obtain ⟨b, o, e1, e2, e3, e4⟩ := h1
    obtain ⟨b', o', f1, f2, f3, f4⟩ := h2
    rw [List.getElem?_append_left (by rw [h.len]; exact hlt), e1] at f1
    simp at f1
    obtain ⟨rfl, rfl⟩ := f1
    refine ⟨b, o, e1, f2, f3, fun i s hi => ?_⟩
    obtain ⟨⟨v, g1, g2, g3⟩, _⟩ := e4 i s hi
    obtain ⟨⟨v', g1', g2', g3'⟩, g4'⟩ := f4 i s hi
    have : v' = v := R.fun g2' g2.ext
    subst this
    exact ⟨⟨v', g1', g2, g3'⟩, g4'⟩

def padTo (hs : List SO) (n : Nat) : List SO := hs ++ List.replicate (n - hs.length) .dead

def markDead0 (wr : List Nat) : Nat → List SO → List SO
  | _, [] => []
  | k, o :: r => (if wr.contains k then .dead else o) :: markDead0 wr (k + 1) r
def markDead (wr : List Nat) (n : Nat) (hp : List SO) : List SO :=
  match hp with
  | a :: b :: .dead :: r => (if wr.contains n then .dead else a) :: (if wr.contains (n + 1) then .dead else b) :: .dead :: r
  | hp => markDead0 wr n hp
def acts : Op → Bool
  | .store .. | .alloc _ | .box .. | .mapUpdate .. | .insert .. | .makeMap .. | .makeSlice .. | .buildSlice .. => true
  | .call c => match c.callee with
    | .builtin .len | .builtin .min | .builtin .max | .builtin .cap => false
    | _ => true
  | _ => false

theorem HR.weaken {B : Nat} {η : Env} {h1 h2 : List SO} {w : World} (h : HR B η h1 w) (hl : h2.length = h1.length) (hs : ∀ (k : Nat) (o : SO), h2[k]? = some o → o = .dead ∨ h1[k]? = some o) : HR B η h2 w := by
  have get : ∀ (k : Nat) (o : SO) (wb : Bool) (m : List SV), h2[k]? = some o → o.row = some (wb, m) → h1[k]? = some o := by
    intro k o wb m hk hr
    rcases hs k o hk with rfl | h
    · simp [SO.row] at hr
    · exact h
  refine ⟨by rw [h.len, hl], fun k o hk => ?_, ?_⟩
  · refine ⟨fun wb m hrow => (h.blk k _ (get k o wb m hk hrow)).1 wb m hrow, ?_⟩
    rcases hs k o hk with rfl | h1
    · trivial
    · exact (h.blk k o h1).2
  · intro k₁ k₂ s₁ s₂ l₁ wr₂ l₂ b₁ o₁ b₂ o₂ h1 r1 h2 r2 hne e1 e2
    exact h.apart k₁ k₂ s₁ s₂ l₁ wr₂ l₂ b₁ o₁ b₂ o₂ (get _ _ _ _ h1 r1) r1 (get _ _ _ _ h2 r2) r2 hne e1 e2
/-! ### marks as numbers -/
def maskOf (o : Oper) : Nat := o.after.toList.foldr (fun e a => if Region.binds .any e then 2 ^ e.on ||| a else a) 0
theorem maskOf_bit (o : Oper) (k : Nat) : (maskOf o).testBit k = true ↔ ∃ e ∈ o.after, Region.binds .any e = true ∧ e.on = k := by
  unfold maskOf
  have key : ∀ l : List Edge, ((l.foldr (fun e a => if Region.binds .any e then 2 ^ e.on ||| a else a) 0).testBit k = true ↔ ∃ e ∈ l, Region.binds .any e = true ∧ e.on = k) := by
    intro l
    induction l with
    | nil => simp
    | cons e r ih =>
      simp only [List.foldr_cons]
      split
      · rename_i hb
        simp only [Nat.testBit_or, Bool.or_eq_true, ih, Nat.testBit_two_pow, decide_eq_true_eq, List.mem_cons]
        constructor
        · rintro (h | ⟨x, hx, h⟩)
          · exact ⟨e, .inl rfl, hb, h⟩
          · exact ⟨x, .inr hx, h⟩
        · rintro ⟨x, rfl | hx, h1, h2⟩
          · exact .inl h2
          · exact .inr ⟨x, hx, h1, h2⟩
      · rename_i hb
        rw [ih]
        constructor
        · rintro ⟨x, hx, h⟩; exact ⟨x, List.mem_cons_of_mem _ hx, h⟩
        · rintro ⟨x, hx, h1, h2⟩
          rcases List.mem_cons.1 hx with rfl | hx
          · exact absurd h1 hb
          · exact ⟨x, hx, h1, h2⟩
  rw [key]
  simp only [Array.mem_toList_iff]
def readyM : List Nat → Nat → Nat → List Nat
  | [], _, _ => []
  | m :: r, i, N => if N.testBit i then readyM r (i + 1) N else if Nat.beq (m &&& N) m then i :: readyM r (i + 1) N else readyM r (i + 1) N
theorem sub_bits {m N : Nat} : Nat.beq (m &&& N) m = true ↔ ∀ k, m.testBit k = true → N.testBit k = true := by
  rw [Nat.beq_eq]
  constructor
  · intro h k hk
    have := congrArg (fun x => x.testBit k) h
    simp only [Nat.testBit_and, hk, Bool.true_and] at this
    exact this
  · intro h
    refine Nat.eq_of_testBit_eq fun k => ?_
    rw [Nat.testBit_and]
    cases hm : m.testBit k with
    | false => rfl
    | true => rw [h k hm]; rfl
theorem readyM_mem : ∀ {ms : List Nat} {i N j : Nat}, j ∈ readyM ms i N ↔ ∃ k m, j = i + k ∧ ms[k]? = some m ∧ N.testBit j = false ∧ ∀ b, m.testBit b = true → N.testBit b = true
  | [], i, N, j => by simp [readyM]
  | m :: r, i, N, j => by
    have ih := @readyM_mem r (i + 1) N j
    have shift : (∃ k m', j = i + k ∧ (m :: r)[k]? = some m' ∧ N.testBit j = false ∧ ∀ b, m'.testBit b = true → N.testBit b = true) ↔
        (j = i ∧ N.testBit i = false ∧ ∀ b, m.testBit b = true → N.testBit b = true) ∨ j ∈ readyM r (i + 1) N := by
      rw [ih]
      constructor
      · rintro ⟨k, m', rfl, h2, h3, h4⟩
        cases k with
        | zero => simp at h2; subst h2; exact .inl ⟨rfl, h3, h4⟩
        | succ k => exact .inr ⟨k, m', by omega, by simpa using h2, h3, h4⟩
      · rintro (⟨rfl, h3, h4⟩ | ⟨k, m', rfl, h2, h3, h4⟩)
        · exact ⟨0, m, rfl, rfl, h3, h4⟩
        · exact ⟨k + 1, m', by omega, by simpa using h2, h3, h4⟩
    rw [shift]
    have un : readyM (m :: r) i N = if N.testBit i then readyM r (i + 1) N else if Nat.beq (m &&& N) m then i :: readyM r (i + 1) N else readyM r (i + 1) N := rfl
    rw [un]
    split
    · rename_i hb
      constructor
      · exact .inr
      · rintro (⟨_, h, _⟩ | h)
        · rw [hb] at h; cases h
        · exact h
    · rename_i hb
      have hb' : N.testBit i = false := by simpa using hb
      split
      · rename_i hs
        simp only [List.mem_cons]
        constructor
        · rintro (rfl | h)
          · exact .inl ⟨rfl, hb', sub_bits.1 hs⟩
          · exact .inr h
        · rintro (⟨rfl, _⟩ | h)
          · exact .inl rfl
          · exact .inr h
      · rename_i hs
        constructor
        · exact .inr
        · rintro (⟨rfl, _, h⟩ | h)
          · exact absurd (sub_bits.2 h) hs
          · exact h
/-- The number tells the marks. -/
structure Enc (n N : Nat) (listed : Array Bool) : Prop where
  size : listed.size = n
  bit : ∀ j, N.testBit j = listed.getD j false
theorem Enc.none (n : Nat) : Enc n 0 (Array.replicate n false) := by
  refine ⟨by simp, fun j => ?_⟩
  simp only [Nat.zero_testBit]
  by_cases h : j < n
  · simp [Array.getD_eq_getD_getElem?, h]
  · simp [Array.getD_eq_getD_getElem?, Array.getElem?_eq_none (xs := Array.replicate n false) (i := j) (by simpa using h)]
theorem Enc.set {n N i : Nat} {listed : Array Bool} (h : Enc n N listed) (hi : i < n) : Enc n (N ||| 2 ^ i) (listed.setIfInBounds i true) := by
  refine ⟨by simp [h.size], fun j => ?_⟩
  rw [Nat.testBit_or, Nat.testBit_two_pow, h.bit]
  by_cases e : i = j
  · subst e
    have hlt : i < listed.size := by rw [h.size]; exact hi
    simp [Array.getD_eq_getD_getElem?, hlt]
  · rw [getD_set_ne false e]; simp [e]
theorem Enc.un {n N : Nat} {listed : Array Bool} (h : Enc n N listed) {j : Nat} (hj : j < n) : listed.getD j true = N.testBit j := by
  rw [h.bit]
  have hlt : j < listed.size := by rw [h.size]; exact hj
  simp [Array.getD_eq_getD_getElem?, hlt]
theorem ready_iff {ops : Array Oper} {N : Nat} {listed : Array Bool} (h : Enc ops.size N listed) (j : Nat) : j ∈ readyM (ops.toList.map maskOf) 0 N ↔ j ∈ Region.ready .any ops listed := by
  rw [readyM_mem, mem_ready]
  constructor
  · rintro ⟨k, m, rfl, h2, h3, h4⟩
    rw [List.getElem?_map] at h2
    obtain ⟨o, ho, rfl⟩ := Option.map_eq_some_iff.1 h2
    rw [Array.getElem?_toList] at ho
    rw [Nat.zero_add] at *
    have hlt := (Array.getElem?_eq_some_iff.1 ho).1
    refine ⟨by rw [h.un hlt]; exact h3, o, ho, fun e he hb => ?_⟩
    rw [← h.bit]
    exact h4 _ ((maskOf_bit o e.on).2 ⟨e, he, hb, rfl⟩)
  · rintro ⟨h1, o, ho, hall⟩
    have hlt := (Array.getElem?_eq_some_iff.1 ho).1
    refine ⟨j, maskOf o, by omega, by rw [List.getElem?_map, Array.getElem?_toList, ho]; rfl, by rw [← h.un hlt]; exact h1, fun b hb => ?_⟩
    obtain ⟨e, he, hbd, rfl⟩ := (maskOf_bit o b).1 hb
    rw [h.bit]; exact hall e he hbd
theorem ready_nil {ops : Array Oper} {N : Nat} {listed : Array Bool} (h : Enc ops.size N listed) : readyM (ops.toList.map maskOf) 0 N = [] ↔ Region.ready .any ops listed = [] := by
  rw [List.eq_nil_iff_forall_not_mem, List.eq_nil_iff_forall_not_mem]
  exact ⟨fun hn j hj => hn j ((ready_iff h j).2 hj), fun hn j hj => hn j ((ready_iff h j).1 hj)⟩
/-- What has come up came up behind what it waits for. -/
def Closed (ops : Array Oper) (L : Array Bool) : Prop := ∀ (m : Nat) (om : Oper), ops[m]? = some om → L.getD m false = true → ∀ e ∈ om.after, Region.binds .any e = true → L.getD e.on false = true
theorem Closed.none (ops : Array Oper) : Closed ops (Array.replicate ops.size false) := fun m om hm h => by
  rw [← (Enc.none ops.size).bit] at h
  simp at h
theorem Closed.set {ops : Array Oper} {L : Array Bool} (h : Closed ops L) {j : Nat} (hj : j ∈ Region.ready .any ops L) : Closed ops (L.setIfInBounds j true) := fun m om hm hL e he hb => by
  by_cases e1 : j = m
  · subst e1
    obtain ⟨_, o, ho, hall⟩ := mem_ready.1 hj
    rw [ho] at hm
    cases hm
    exact getD_set_true (hall e he hb)
  · rw [getD_set_ne false e1] at hL
    exact getD_set_true (h m om hm hL e he hb)
/-- What waits for it, directly or not. -/
def descM : List Nat → Nat → Nat → Nat
  | [], _, D => D
  | m :: r, j, D => withN (if Nat.beq (m &&& D) 0 then D else D ||| 2 ^ j) fun D => descM r (j + 1) D
theorem descM_out {ops : Array Oper} {L : Array Bool} (hc : Closed ops L) : ∀ (l : List Oper) (j D : Nat), (∀ k, ops[j + k]? = l[k]?) → (∀ b, D.testBit b = true → L.getD b false = false) → ∀ b, (descM (l.map maskOf) j D).testBit b = true → L.getD b false = false
  | [], _, _, _, h, b, hb => h b hb
  | o :: r, j, D, hl, h, b, hb => by
    simp only [List.map_cons, descM, withN_eq] at hb
    refine descM_out hc r (j + 1) _ (fun k => by have := hl (k + 1); rw [show j + (k + 1) = j + 1 + k by omega] at this; simpa using this) ?_ b hb
    intro b hb
    split at hb
    · exact h b hb
    · rename_i hne
      rw [Nat.testBit_or, Bool.or_eq_true, Nat.testBit_two_pow] at hb
      rcases hb with hb | hb
      · exact h b hb
      · have : j = b := by simpa using hb
        subst this
        cases hL : L.getD j false with
        | false => rfl
        | true =>
          exfalso
          apply hne
          rw [Nat.beq_eq]
          refine Nat.eq_of_testBit_eq fun k => ?_
          rw [Nat.testBit_and, Nat.zero_testBit]
          cases hm : (maskOf o).testBit k with
          | false => rfl
          | true =>
            obtain ⟨e, he, hbd, rfl⟩ := (maskOf_bit o k).1 hm
            have := hc j o (by have := hl 0; simpa using this) hL e he hbd
            cases hD : D.testBit e.on with
            | false => rfl
            | true => rw [h _ hD] at this; cases this
/-- What those write to that have come up; what those may that need not wait. -/
def dOf : List (List Nat) → Nat → Nat → List Nat
  | [], _, _ => []
  | w :: r, j, N => if N.testBit j then w ++ dOf r (j + 1) N else dOf r (j + 1) N
def ndW : List (List Nat) → Nat → Nat → List Nat
  | [], _, _ => []
  | w :: r, j, D => if D.testBit j then ndW r (j + 1) D else w ++ ndW r (j + 1) D
def DL (wr : List (List Nat)) (L : Array Bool) (k : Nat) : Prop := ∃ (j : Nat) (l : List Nat), wr[j]? = some l ∧ L.getD j false = true ∧ k ∈ l
theorem dOf_mem : ∀ {wr : List (List Nat)} {j N k : Nat}, k ∈ dOf wr j N → ∃ i l, wr[i]? = some l ∧ N.testBit (j + i) = true ∧ k ∈ l
  | [], _, _, _, h => by simp [dOf] at h
  | w :: r, j, N, k, h => by
    have go : k ∈ dOf r (j + 1) N → ∃ i l, (w :: r)[i]? = some l ∧ N.testBit (j + i) = true ∧ k ∈ l := fun h => by
      obtain ⟨i, l, h1, h2, h3⟩ := dOf_mem h
      exact ⟨i + 1, l, by simpa using h1, by rw [show j + (i + 1) = j + 1 + i by omega]; exact h2, h3⟩
    unfold dOf at h
    split at h
    · rename_i hb
      rcases List.mem_append.1 h with h | h
      · exact ⟨0, w, rfl, hb, h⟩
      · exact go h
    · exact go h
theorem dOf_of : ∀ {wr : List (List Nat)} {j N i k : Nat} {l : List Nat}, wr[i]? = some l → N.testBit (j + i) = true → k ∈ l → k ∈ dOf wr j N
  | [], _, _, _, _, _, h, _, _ => by simp at h
  | w :: r, j, N, 0, k, l, h, hb, hk => by
    simp at h; subst h
    unfold dOf
    rw [show j + 0 = j by omega] at hb
    rw [hb]
    exact List.mem_append.2 (.inl hk)
  | w :: r, j, N, i + 1, k, l, h, hb, hk => by
    have := dOf_of (wr := r) (j := j + 1) (N := N) (i := i) (by simpa using h) (by rw [show j + 1 + i = j + (i + 1) by omega]; exact hb) hk
    unfold dOf
    split
    · exact List.mem_append.2 (.inr this)
    · exact this
theorem ndW_mem : ∀ {wr : List (List Nat)} {j D i k : Nat} {l : List Nat}, wr[i]? = some l → D.testBit (j + i) = false → k ∈ l → k ∈ ndW wr j D
  | [], _, _, _, _, _, h, _, _ => by simp at h
  | w :: r, j, D, 0, k, l, h, hb, hk => by
    simp at h; subst h
    unfold ndW
    rw [show j + 0 = j by omega] at hb
    rw [hb]
    exact List.mem_append.2 (.inl hk)
  | w :: r, j, D, i + 1, k, l, h, hb, hk => by
    have := ndW_mem (wr := r) (j := j + 1) (D := D) (i := i) (by simpa using h) (by rw [show j + 1 + i = j + (i + 1) by omega]; exact hb) hk
    unfold ndW
    split
    · exact this
    · exact List.mem_append.2 (.inr this)
def tdOf (ms : List Nat) (wr : List (List Nat)) (i : Nat) : List Nat := ndW wr 0 (descM ms 0 (2 ^ i))
theorem tdOf_spec {ops : Array Oper} {L : Array Bool} (hc : Closed ops L) {wr : List (List Nat)} {i : Nat} (hi : L.getD i false = false) {k : Nat} (h : DL wr L k) : k ∈ tdOf (ops.toList.map maskOf) wr i := by
  obtain ⟨j, l, h1, h2, h3⟩ := h
  refine ndW_mem (i := j) h1 ?_ h3
  rw [Nat.zero_add]
  cases hb : (descM (ops.toList.map maskOf) 0 (2 ^ i)).testBit j with
  | false => rfl
  | true =>
    have := descM_out hc ops.toList 0 (2 ^ i) (fun k => by simp) (fun b hb => by
      rw [Nat.testBit_two_pow] at hb
      have : i = b := by simpa using hb
      subst this; exact hi) j hb
    rw [h2] at this; cases this
/-! ### what is held, by what has come up -/
def SubD (D : Nat → Prop) (hp0 h : List SO) : Prop := h.length = hp0.length ∧ ∀ (k : Nat) (o : SO), h[k]? = some o → o = .dead ∨ (hp0[k]? = some o ∧ ¬ D k)
def Held (B : Nat) (η : Env) (hp0 : List SO) (D : Nat → Prop) (w : World) : Prop := ∀ h, SubD D hp0 h → HR B η h w
theorem Held.of {B : Nat} {η : Env} {hp0 : List SO} {w : World} (h : HR B η hp0 w) (D : Nat → Prop) : Held B η hp0 D w := fun _ hs => h.weaken hs.1 fun k o hk => (hs.2 k o hk).imp id And.left
theorem Held.mono {B : Nat} {η : Env} {hp0 : List SO} {D D' : Nat → Prop} {w : World} (h : Held B η hp0 D w) (hd : ∀ k, D k → D' k) : Held B η hp0 D' w := fun x hs => h x ⟨hs.1, fun k o hk => (hs.2 k o hk).imp id fun h => ⟨h.1, fun hk => h.2 (hd k hk)⟩⟩
/-- Where behind a dead block at place two nothing is looked at, no mark is set there. -/
def nrmW (hp : List SO) (l : List Nat) : List Nat := if stopB hp then l.filter (fun k => decide (k < 2)) else l
theorem markDead0_len (wr : List Nat) : ∀ (l : List SO) (n : Nat), (markDead0 wr n l).length = l.length
  | [], _ => rfl
  | o :: r, n => by simp [markDead0, markDead0_len wr r]
theorem markDead_len (wr : List Nat) (hp : List SO) : (markDead wr 0 hp).length = hp.length := by
  unfold markDead
  split
  · rfl
  · exact markDead0_len _ _ _
theorem markDead0_get (wr : List Nat) : ∀ (l : List SO) (n k : Nat), (markDead0 wr n l)[k]? = (l[k]?).map fun o => if wr.contains (n + k) then .dead else o
  | [], _, _ => rfl
  | o :: r, n, 0 => by simp [markDead0]
  | o :: r, n, k + 1 => by
    simp only [markDead0, List.getElem?_cons_succ, markDead0_get wr r (n + 1) k]
    rw [show n + 1 + k = n + (k + 1) by omega]
theorem markDead_get {wr : List Nat} {hp : List SO} (hn : stopB hp = true → ∀ k ∈ wr, k < 2) (k : Nat) : (markDead wr 0 hp)[k]? = (hp[k]?).map fun o => if wr.contains k then .dead else o := by
  unfold markDead
  split
  · rename_i a b r
    match k with
    | 0 => simp
    | 1 => simp
    | 2 => simp
    | k + 3 =>
      have : ¬ (wr.contains (k + 3)) = true := fun h => by
        have := hn rfl (k + 3) (by simpa using h)
        omega
      simp only [List.getElem?_cons_succ, this, if_false, Bool.false_eq_true, Option.map_id']
  · rw [markDead0_get]; simp
theorem subD_mark {hp0 : List SO} {wr : List Nat} {D : Nat → Prop} (hn : stopB hp0 = true → ∀ k ∈ wr, k < 2) (hD : ∀ k, D k → k ∈ wr) : SubD D hp0 (markDead wr 0 hp0) := by
  refine ⟨markDead_len _ _, fun k o hk => ?_⟩
  rw [markDead_get hn] at hk
  obtain ⟨o', ho, rfl⟩ := Option.map_eq_some_iff.1 hk
  split
  · exact .inl rfl
  · rename_i hc
    exact .inr ⟨ho, fun h => hc (by simpa using hD k h)⟩
theorem held_mark {B : Nat} {η : Env} {hp0 : List SO} {wr : List Nat} {D : Nat → Prop} {w : World} (hn : stopB hp0 = true → ∀ k ∈ wr, k < 2) (hD : ∀ k, k ∈ wr → D k) (h : HR B η (markDead wr 0 hp0) w) : Held B η hp0 D w := fun x hs =>
  h.weaken (by rw [markDead_len]; exact hs.1) fun k o hk => (hs.2 k o hk).imp id fun hh => by
    rw [markDead_get hn, hh.1]
    have : ¬ (wr.contains k) = true := fun hc => hh.2 (hD k (by simpa using hc))
    simp only [Option.map_some, this, if_false, Bool.false_eq_true]
/-! ### any order, what is held told by what has come up -/
def wpAnyD (P : Program) (ops : Array Oper) (Q : Exit → Act → World → Prop) (S : Array Bool → World → Prop) : Nat → Array Bool → Act → World → Prop
  | 0, listed, a, w => Region.ready .any ops listed = [] ∧ Q .normal a w
  | fuel + 1, listed, a, w =>
    (Region.ready .any ops listed = [] → Q .normal a w) ∧
    ∀ i ∈ Region.ready .any ops listed, wpOp P ops Q i (fun a' w' => S (listed.setIfInBounds i true) w' ∧ wpAnyD P ops Q S fuel (listed.setIfInBounds i true) a' w') a w
theorem wpAny_of_D {P : Program} {ops : Array Oper} {Q : Exit → Act → World → Prop} {S : Array Bool → World → Prop} : ∀ (fuel : Nat) (listed : Array Bool) (a : Act) (w : World), wpAnyD P ops Q S fuel listed a w → wpAny P .any ops Q fuel listed a w
  | 0, _, _, _, h => h
  | fuel + 1, _, _, _, h => ⟨h.1, fun i hi => wpOp_mono (fun a' w' h' => wpAny_of_D fuel _ a' w' h'.2) (h.2 i hi)⟩
theorem wpAnyD_first {P : Program} {ops : Array Oper} {Q : Exit → Act → World → Prop} {S : Array Bool → World → Prop} {T : World → Prop} {i : Nat} {oi : Oper} {v : Value} (hi : ops[i]? = some oi) (hsel : ∀ (j : Nat) (o : Oper) cs b, ops[j]? = some o → o.op ≠ .select cs b)
    (hQ : ∀ c a w, Q (.panic c) (a.put oi.dst v) w → Q (.panic c) a w)
    (hS : ∀ (L : Array Bool) (w : World), L.getD i false = false → Closed ops L → S (L.setIfInBounds i true) w → S L w) (hT : ∀ (L : Array Bool) (w : World), L.getD i false = false → Closed ops L → S L w → T w) :
    ∀ (fuel : Nat) (listed : Array Bool) (a : Act) (w : World),
      (∀ j oj, ops[j]? = some oj → j ≠ i → listed.getD j true = false → (∀ e ∈ oj.after, Region.binds .any e = true → e.on ≠ i) → oi.apart ops oj = true) →
      i ∈ Region.ready .any ops listed → listed.getD i false = false → Closed ops listed → YieldsIf P ops T oi v a → S (listed.setIfInBounds i true) w →
      wpAnyD P ops Q S fuel (listed.setIfInBounds i true) (a.put oi.dst v) w → wpAnyD P ops Q S (fuel + 1) listed a w := by
  intro fuel
  induction fuel with
  | zero =>
    intro listed a w _ hr hn hcl hy hSw H
    refine ⟨fun h => (by rw [h] at hr; cases hr), fun j hj => ?_⟩
    by_cases hji : j = i
    · subst hji; exact hy.wpOp hi (hT _ _ hn hcl (hS _ _ hn hcl hSw)) ⟨hSw, H⟩
    · have := ready_mono hj hji
      rw [H.1] at this
      cases this
  | succ fuel ih =>
    intro listed a w hfree hr hn hcl hy hSw H
    refine ⟨fun h => (by rw [h] at hr; cases hr), fun j hj => ?_⟩
    by_cases hji : j = i
    · subst hji; exact hy.wpOp hi (hT _ _ hn hcl (hS _ _ hn hcl hSw)) ⟨hSw, H⟩
    · have h1 := H.2 j (ready_mono hj hji)
      obtain ⟨hjun, oj, hoj, hall⟩ := mem_ready.1 hj
      have hnot : ∀ e ∈ oj.after, Region.binds .any e = true → e.on ≠ i := fun e he hb heq => by
        have h1 := hall e he hb
        rw [heq, hn] at h1; cases h1
      have h2 := wpOp_putIf hoj (hfree j oj hoj hji hjun hnot) (fun cs b => hsel i oi cs b hi) (fun cs b => hsel j oj cs b hoj) hQ hy h1
      have hfree' : ∀ k ok, ops[k]? = some ok → k ≠ i → (listed.setIfInBounds j true).getD k true = false →
          (∀ e ∈ ok.after, Region.binds .any e = true → e.on ≠ i) → oi.apart ops ok = true := fun k ok hk hki hun hno => by
        refine hfree k ok hk hki ?_ hno
        by_cases hjk : j = k
        · subst hjk; exact hjun
        · rw [getD_set_ne true hjk] at hun; exact hun
      have hn' : (listed.setIfInBounds j true).getD i false = false := by rw [getD_set_ne false hji]; exact hn
      refine wpOp_mono (fun a' w' h3 => ?_) h2
      have hSw' : S ((listed.setIfInBounds j true).setIfInBounds i true) w' := by rw [Array.setIfInBounds_comm _ _ hji]; exact h3.2.1
      refine ⟨hS _ _ hn' (hcl.set hj) hSw', ih (listed.setIfInBounds j true) a' w' hfree' (ready_mono hr (Ne.symm hji)) hn' (hcl.set hj) h3.1 hSw' ?_⟩
      rw [Array.setIfInBounds_comm _ _ hji]
      exact h3.2.2
/-- The first of those that may come up that only reads what is kept till then, and whose place nobody touches. -/
def takeR (P : Program) (ops : Array Oper) (hp0 : List SO) (fr : List Bool) (td : List (List Nat)) (tm : List SV) (hp : List SO) (ans : List Bool) : List Nat → Option (Nat × List SV × List Bool × Cnd)
  | [] => none
  | i :: rs =>
    match ops[i]? with
    | none => none
    | some o =>
      match (if fr.getD i false then step1 P noCall ops true o tm (padTo (markDead (td.getD i []) 0 hp0) hp.length) ans else .bad) with
      | .ok (tm', _) ans' c => some (i, tm', ans', c)
      | _ => takeR P ops hp0 fr td tm hp ans rs

def goStep (P : Program) (callf : CallF) (ops : Array Oper) (hp0 : List SO) (wr : List (List Nat)) (rec : Nat → List SV → List SO → List Bool → Rr (List SV × List SO)) (N : Nat) (tm : List SV) (hp : List SO) (ans : List Bool) (i : Nat) : Rr (List SV × List SO) :=
  match ops[i]? with
  | none => .bad
  | some o =>
    match step1 P callf ops false o tm hp ans with
    | .ok (tm', hp') ans' c =>
      match rec (N ||| 2 ^ i) tm' hp' ans' with
      | .ok x ans'' c' => .ok x ans'' (c.and ((keepsC (markDead (dOf wr 0 (N ||| 2 ^ i)) 0 hp0) hp').and c'))
      | .ask b => .ask b
      | .bad => .bad
    | .ask b => .ask b
    | .bad => .bad

/-- Two ways that come to the same. -/
def meet (x y : Rr (List SV × List SO)) : Rr (List SV × List SO) :=
  match x, y with
  | .ok x a c, .ok y a' c' => if a == a' then .ok x a (c.and (((sameCs y.1 x.1).and (sameOs y.2 x.2)).and c')) else .bad
  | .ask b, _ => .ask b
  | _, .ask b => .ask b
  | _, _ => .bad

/-- Marks, told. -/
def withBL {α : Type} : List Bool → (List Bool → α) → α
  | [], k => k []
  | true :: r, k => withBL r fun r => k (true :: r)
  | false :: r, k => withBL r fun r => k (false :: r)
theorem withBL_eq {α : Type} : ∀ (l : List Bool) (k : List Bool → α), withBL l k = k l
  | [], _ => rfl
  | true :: r, k => by rw [withBL, withBL_eq r]
  | false :: r, k => by rw [withBL, withBL_eq r]
def withNL {α : Type} : List Nat → (List Nat → α) → α
  | [], k => k []
  | n :: r, k => withN n fun n => withNL r fun r => k (n :: r)
theorem withNL_eq {α : Type} : ∀ (l : List Nat) (k : List Nat → α), withNL l k = k l
  | [], _ => rfl
  | n :: r, k => by rw [withNL, withN_eq, withNL_eq r]
def withNLL {α : Type} : List (List Nat) → (List (List Nat) → α) → α
  | [], k => k []
  | n :: r, k => withNL n fun n => withNLL r fun r => k (n :: r)
theorem withNLL_eq {α : Type} : ∀ (l : List (List Nat)) (k : List (List Nat) → α), withNLL l k = k l
  | [], _ => rfl
  | n :: r, k => by rw [withNLL, withNL_eq, withNLL_eq r]
def anyR (P : Program) (callf : CallF) (ops : Array Oper) (hp0 : List SO) (ms : List Nat) (fr : List Bool) (wr td : List (List Nat)) : Nat → Nat → List SV → List SO → List Bool → Rr (List SV × List SO)
  | 0, N, tm, hp, ans => if (readyM ms 0 N).isEmpty then canonR hp0.length tm hp ans else .bad
  | fuel + 1, N, tm, hp, ans => withN N fun N => withNL (readyM ms 0 N) fun rd =>
    match takeR P ops hp0 fr td tm hp ans rd with
    | some (i, tm', ans', c) =>
      match anyR P callf ops hp0 ms fr wr td fuel (N ||| 2 ^ i) tm' hp ans' with
      | .ok x ans'' c' => .ok x ans'' (c.and c')
      | .ask b => .ask b
      | .bad => .bad
    | none =>
      match rd with
      | [] => canonR hp0.length tm hp ans
      | i :: rs => rs.foldr (fun j acc => meet acc (goStep P callf ops hp0 wr (anyR P callf ops hp0 ms fr wr td fuel) N tm hp ans j)) (goStep P callf ops hp0 wr (anyR P callf ops hp0 ms fr wr td fuel) N tm hp ans i)

theorem takeR_mem {P : Program} {ops : Array Oper} {hp0 : List SO} {fr : List Bool} {td : List (List Nat)} {tm : List SV} {hp : List SO} {ans : List Bool} : ∀ {rs : List Nat} {i : Nat} {tm' : List SV} {ans' : List Bool} {c : Cnd},
    takeR P ops hp0 fr td tm hp ans rs = some (i, tm', ans', c) → i ∈ rs ∧ ∃ o hp', ops[i]? = some o ∧ fr.getD i false = true ∧ step1 P noCall ops true o tm (padTo (markDead (td.getD i []) 0 hp0) hp.length) ans = .ok (tm', hp') ans' c
  | [], _, _, _, _, h => by simp [takeR] at h
  | j :: rs, i, tm', ans', c, h => by
    simp only [takeR] at h
    split at h
    · simp at h
    · rename_i o ho
      split at h
      · rename_i tm1 hp1 ans1 c1 h1
        have e : (j, tm1, ans1, c1) = (i, tm', ans', c) := Option.some.inj h
        injection e with e1 e2
        injection e2 with e2 e3
        injection e3 with e3 e4
        subst e1; subst e2; subst e3; subst e4
        split at h1
        · rename_i hf
          exact ⟨by simp, o, hp1, ho, hf, h1⟩
        · simp at h1
      · obtain ⟨h1, h2⟩ := takeR_mem h
        exact ⟨by simp [h1], h2⟩

/-- What a read yields in every world of which this is told. -/
theorem step1_yields {P : Program} {ops : Array Oper} {o : Oper} {tm tm' : List SV} {hp hp' : List SO} {ans ans' : List Bool} {c : Cnd}
    (h : step1 P noCall ops true o tm hp ans = .ok (tm', hp') ans' c) (hc : c) {B : Nat} {η : Env} {a : Act} (hvs : Rs η tm a.tmps.toList) (hne : ∃ w, HR B η hp w) :
    ∃ v, YieldsIf P ops (HR B η hp) o v a ∧ Rs η tm' (a.put o.dst v).tmps.toList := by
  simp only [step1, okS_eq, okM_eq] at h
  split at h
  · simp at h
  · simp at h
  · rename_i tm1 ans1 c1 h1
    split at h
    · simp at h
    · rename_i hg
      obtain ⟨pe, rfl, rfl⟩ := ok_inj h
      obtain ⟨rfl, rfl⟩ := Prod.mk.inj pe
      have e1 := settle_ok h1 hc hvs
      exact ⟨undef, .inr ⟨gd_ok hg e1, rfl⟩, putS_ok o.dst e1 (by simp only [R])⟩
    · rename_i hg
      split at h
      · simp at h
      · simp at h
      · rename_i tm2 ans2 c2 h2
        split at h
        · rename_i s cc hs
          obtain ⟨pe, rfl, rfl⟩ := ok_inj h
          obtain ⟨rfl, rfl⟩ := Prod.mk.inj pe
          obtain ⟨k1, k2, k3⟩ := hc.three
          have e1 := settle_ok h1 k1 hvs
          have e2 := settleP_ok h2 k2 e1
          have f1 := sop_ok (P := P) e2 (hp := hp) o
          rw [hs] at f1
          obtain ⟨wn, hn⟩ := hne
          obtain ⟨v, hR, _⟩ := f1 k3 B wn hn
          refine ⟨v, .inl ⟨gd_ok hg e1, fun w hw => ?_⟩, putS_ok o.dst e2 hR⟩
          obtain ⟨v', hR', hv'⟩ := f1 k3 B w hw
          have : v' = v := R.fun hR' hR
          subst this
          exact hv'
        · simp at h
        · simp [noCall] at h
        · simp at h

theorem YieldsIf.mono {P : Program} {ops : Array Oper} {S S' : World → Prop} {o : Oper} {v : Value} {a : Act} (h : YieldsIf P ops S o v a) (hS : ∀ w, S' w → S w) : YieldsIf P ops S' o v a :=
  h.imp (fun ⟨h1, h2⟩ => ⟨h1, fun w hw => h2 w (hS w hw)⟩) id

theorem fold_go {go : Nat → Rr (List SV × List SO)} : ∀ (rs : List Nat) {r₀ : Rr (List SV × List SO)} {x : List SV × List SO} {a : List Bool} {c : Cnd},
    rs.foldr (fun j acc => meet acc (go j)) r₀ = .ok x a c → c → (∃ a' c', r₀ = .ok x a' c' ∧ c') ∧ ∀ j ∈ rs, ∃ a' c', go j = .ok x a' c' ∧ c'
  | [], r₀, x, a, c, h, hc => ⟨⟨a, c, h, hc⟩, by simp⟩
  | j :: rs, r₀, x, a, c, h, hc => by
    simp only [List.foldr_cons] at h
    generalize hacc : rs.foldr (fun j acc => meet acc (go j)) r₀ = acc at h
    generalize hgo : go j = gj at h
    unfold meet at h
    split at h
    · rename_i x1 a1 c1 y a' c'
      split at h
      · obtain ⟨rfl, _, rfl⟩ := ok_inj h
        obtain ⟨h1, h2, h3⟩ := hc.three
        obtain ⟨g1, g3⟩ := fold_go rs hacc h1
        refine ⟨g1, fun j' hj' => ?_⟩
        rcases List.mem_cons.1 hj' with rfl | hj'
        · exact ⟨a', c', by rw [hgo, show y = x1 from Prod.ext (sameCs_ok _ _ h2.l) (sameOs_ok h2.r)], h3⟩
        · exact g3 j' hj'
      · simp at h
    · simp at h
    · simp at h
    · simp at h

/-- What is known of the tables. -/
structure Tabs (ops : Array Oper) (hp0 : List SO) (fr : List Bool) (wr td : List (List Nat)) : Prop where
  free : ∀ i, fr.getD i false = true → ∀ listed : Array Bool, i ∈ Region.ready .any ops listed → Region.free .any ops listed i = true
  low : stopB hp0 = true → ∀ (j : Nat) (l : List Nat), wr[j]? = some l → ∀ k ∈ l, k < 2
  lowT : stopB hp0 = true → ∀ i, ∀ k ∈ td.getD i [], k < 2
  read : ∀ (i : Nat), fr.getD i false = true → ∀ (L : Array Bool), L.getD i false = false → Closed ops L → ∀ k, DL wr L k → k ∈ td.getD i []
  still : ∀ i, fr.getD i false = true → ∀ l, wr[i]? = some l → l = []

theorem anyR_ok {P : Program} {callf : CallF} (hcf : CallOk P callf) {ops : Array Oper} (hsel : Region.noSelect ops = true) {hp0 : List SO} {fr : List Bool} {wr td : List (List Nat)} (ht : Tabs ops hp0 fr wr td) {ds : List Deferred} {B : Nat} {w₀ : World} {η : Env} (hlen0 : η.length = hp0.length) {Q : Exit → Act → World → Prop}
    (hQp : ∀ c a w, ¬ Q (.panic c) a w) : ∀ (fuel : Nat) (N : Nat) (listed : Array Bool) {tm tm' : List SV} {hp hp' : List SO} {ans ans' : List Bool} {c : Cnd},
    anyR P callf ops hp0 (ops.toList.map maskOf) fr wr td fuel N tm hp ans = .ok (tm', hp') ans' c → c → Enc ops.size N listed → Closed ops listed → ∀ {μ : Env} {a : Act} {w : World}, Sim ds B w₀ (η ++ μ) tm hp a w → Held B η hp0 (DL wr listed) w →
    (∀ μ' a' w', Sim ds B w₀ (η ++ μ') tm' hp' a' w' → Q .normal a' w') → wpAnyD P ops Q (fun L => Held B η hp0 (DL wr L)) fuel listed a w
  | 0, N, listed, tm, tm', hp, hp', ans, ans', c, h, hc, henc, hcl, μ, a, w, hs', hS, hQ => by
    simp only [anyR, canonR_eq] at h
    split at h
    · rename_i he
      obtain ⟨pe, _, _⟩ := ok_inj h
      obtain ⟨μ', h'⟩ := canon_sim hs' hlen0
      rw [pe] at h'
      exact ⟨(ready_nil henc).1 (List.isEmpty_iff.1 he), hQ μ' a w h'⟩
    · simp at h
  | fuel + 1, N, listed, tm, tm', hp, hp', ans, ans', c, h, hc, henc, hcl, μ, a, w, hs', hS, hQ => by
    simp only [anyR, canonR_eq, withN_eq, withNL_eq] at h
    split at h
    · rename_i i tm1 ans1 c1 htk
      split at h
      · rename_i x ans2 c2 h2
        obtain ⟨rfl, rfl, rfl⟩ := ok_inj h
        obtain ⟨hi, o, hp1, ho, hf, h1⟩ := takeR_mem htk
        have hlt := (Array.getElem?_eq_some_iff.1 ho).1
        have hir : i ∈ Region.ready .any ops listed := (ready_iff henc i).1 hi
        have hun : listed.getD i false = false := by
          rw [← henc.bit, ← henc.un hlt]; exact (mem_ready.1 hir).1
        have hlen : μ.length = hp.length - hp0.length := by
          have e1 := hs'.hr.len
          simp at e1; omega
        let T : World → Prop := fun w => HR B η (markDead (td.getD i []) 0 hp0) w
        have hpad : ∀ w', T w' → HR B (η ++ μ) (padTo (markDead (td.getD i []) 0 hp0) hp.length) w' := by
          intro w' hw'
          unfold padTo
          rw [markDead_len, ← hlen]
          exact HR.pad hw'
        have hT : ∀ (L : Array Bool) (w : World), L.getD i false = false → Closed ops L → Held B η hp0 (DL wr L) w → T w := fun L w hL hcL hh => hh _ (subD_mark (fun hst => ht.lowT hst i) fun k hk => ht.read i hf L hL hcL k hk)
        obtain ⟨v, hy, hv⟩ := step1_yields h1 hc.l hs'.tm ⟨w, hpad w (hT _ _ hun hcl hS)⟩
        have back : ∀ (L : Array Bool) (k : Nat), DL wr (L.setIfInBounds i true) k → DL wr L k := fun L k hk => by
          obtain ⟨j, l, e1, e2, e3⟩ := hk
          by_cases hij : i = j
          · subst hij
            have := ht.still i hf l e1
            subst this; simp at e3
          · rw [getD_set_ne false hij] at e2
            exact ⟨j, l, e1, e2, e3⟩
        have fwd : ∀ (L : Array Bool) (k : Nat), DL wr L k → DL wr (L.setIfInBounds i true) k := fun L k hk => by
          obtain ⟨j, l, e1, e2, e3⟩ := hk
          exact ⟨j, l, e1, getD_set_true e2, e3⟩
        have hS2 : Held B η hp0 (DL wr (listed.setIfInBounds i true)) w := hS.mono (fwd listed)
        refine wpAnyD_first (T := T) ho (Region.noSelect_spec hsel) (fun c a w hq => absurd hq (hQp _ _ _)) (fun L w _ _ hh => hh.mono (back L)) hT fuel listed a w (Region.free_spec ho (ht.free i hf listed hir)) hir hun hcl (YieldsIf.mono hy hpad) hS2 ?_
        exact anyR_ok hcf hsel ht hlen0 hQp fuel _ _ h2 hc.r (henc.set hlt) (hcl.set hir) ⟨hv, by rw [put_defers]; exact hs'.df, hs'.hr, hs'.below, hs'.hB⟩ hS2 hQ
      · simp at h
      · simp at h
    · have one : ∀ (i : Nat) (ans1 : List Bool) (c1 : Cnd), goStep P callf ops hp0 wr (anyR P callf ops hp0 (ops.toList.map maskOf) fr wr td fuel) N tm hp ans i = .ok (tm', hp') ans1 c1 → c1 → i ∈ Region.ready .any ops listed →
          wpOp P ops Q i (fun a' w' => Held B η hp0 (DL wr (listed.setIfInBounds i true)) w' ∧ wpAnyD P ops Q (fun L => Held B η hp0 (DL wr L)) fuel (listed.setIfInBounds i true) a' w') a w := by
        intro i ans1 c1 hg hc1 hir
        unfold goStep at hg
        split at hg
        · simp at hg
        · rename_i o ho
          have hlt := (Array.getElem?_eq_some_iff.1 ho).1
          split at hg
          · rename_i tm1 hp1 ans2 c2 h1
            split at hg
            · rename_i x ans3 c3 h2
              obtain ⟨rfl, rfl, rfl⟩ := ok_inj hg
              obtain ⟨k1, k2, k3⟩ := hc1.three
              have henc2 := henc.set hlt
              have hlow : stopB hp0 = true → ∀ k ∈ dOf wr 0 (N ||| 2 ^ i), k < 2 := fun hst k hk => by
                obtain ⟨j, l, e1, _, e3⟩ := dOf_mem hk
                exact ht.low hst j l e1 k e3
              have hdl : ∀ k, k ∈ dOf wr 0 (N ||| 2 ^ i) → DL wr (listed.setIfInBounds i true) k := fun k hk => by
                obtain ⟨j, l, e1, e2, e3⟩ := dOf_mem hk
                rw [Nat.zero_add, henc2.bit] at e2
                exact ⟨j, l, e1, e2, e3⟩
              have hdl2 : ∀ k, DL wr listed k → k ∈ dOf wr 0 (N ||| 2 ^ i) := fun k hk => by
                obtain ⟨j, l, e1, e2, e3⟩ := hk
                refine dOf_of (i := j) e1 ?_ e3
                rw [Nat.zero_add, henc2.bit]
                exact getD_set_true e2
              have hbase : HR B η (markDead (dOf wr 0 (N ||| 2 ^ i)) 0 hp0) w := hS _ (subD_mark hlow hdl2)
              have st := step1_ok hcf h1 k1 hs'.tm hs'.hr hs'.size (Q := Q) (K := fun a' w' => Held B η hp0 (DL wr (listed.setIfInBounds i true)) w' ∧ wpAnyD P ops Q (fun L => Held B η hp0 (DL wr L)) fuel (listed.setIfInBounds i true) a' w')
                (fun μ' v w' e1 e2 e3 => by
                  have hS' : Held B η hp0 (DL wr (listed.setIfInBounds i true)) w' := held_mark hlow hdl (hbase.keep (by rw [List.append_assoc] at e2; exact e2) k2)
                  refine ⟨hS', ?_⟩
                  rw [List.append_assoc] at e1 e2
                  exact anyR_ok hcf hsel ht hlen0 hQp fuel _ _ h2 k3 henc2 (hcl.set hir) ⟨e1, by rw [put_defers]; exact hs'.df, e2, hs'.below.trans e3, hs'.hB⟩ hS' hQ)
              unfold wpOp
              simp only [ho]
              split
              · rename_i hw; rw [if_pos hw] at st; exact .inl st
              · rename_i hw; rw [if_neg hw] at st; exact st
            · simp at hg
            · simp at hg
          · simp at hg
          · simp at hg
      split at h
      · rename_i hrd
        obtain ⟨pe, _, _⟩ := ok_inj h
        obtain ⟨μ', h'⟩ := canon_sim hs' hlen0
        rw [pe] at h'
        have hrd' := (ready_nil henc).1 hrd
        exact ⟨fun _ => hQ μ' a w h', fun i hi => by rw [hrd'] at hi; simp at hi⟩
      · rename_i i rs hrd
        obtain ⟨⟨a0, c0, e0, hc0⟩, hall⟩ := fold_go rs h hc
        refine ⟨fun h0 => by rw [← ready_nil henc] at h0; rw [hrd] at h0; simp at h0, fun j hj => ?_⟩
        have hj' := (ready_iff henc j).2 hj
        rw [hrd] at hj'
        rcases List.mem_cons.1 hj' with rfl | hj'
        · exact one j a0 c0 e0 hc0 hj
        · obtain ⟨a', c', hj1, hj2⟩ := hall j hj'
          exact one j a' c' hj1 hj2 hj

/-! ### what is written to in a region -/
def blockPtrs (hp : List SO) (k : Nat) : List Nat :=
  match hp[k]? with
  | some (SO.cells _ l) => ptrsOfs l
  | some (SO.own _ _ _ _ l) => ptrsOfs l
  | some (SO.mp _ es) => ptrsOfs (es.map (·.2))
  | _ => []
def reachOf (hp : List SO) : Nat → List Nat → List Nat
  | 0, ks => ks
  | n + 1, ks => reachOf hp n (ks ++ ks.flatMap (blockPtrs hp))

/-- What an operation may write to. -/
def wrOf (tm : List SV) (hp : List SO) (o : Oper) : List Nat :=
  match o.op with
  | .store _ x _ => ptrsOf (ev tm x)
  | .insert .. | .mapUpdate .. => (List.range hp.length).filter fun i => match hp[i]? with | some (SO.mp _ _) => true | _ => false
  | .call c => match c.callee with
    | .builtin .len | .builtin .min | .builtin .max | .builtin .cap => []
    | _ => reachOf hp 3 (ptrsOfs (o.op.operands.toList.map (ev tm)))
  | _ => []

/-! ### any region -/
def tailR (P : Program) (callf : CallF) (ops : Array Oper) (tm : List SV) (hp : List SO) (ans : List Bool) : Rr (List SV × List SO) :=
  let n := ops.toList.findIdx fun o => acts o.op
  if Region.lexTailB .any ops n then
    match opsR P noCall ops true (ops.toList.take n) tm hp ans with
    | .ok (tm', hp') ans' c =>
      match opsR P callf ops false (ops.toList.drop n) tm' hp' ans' with
      | .ok x ans'' c' => .ok x ans'' (c.and c')
      | .ask b => .ask b
      | .bad => .bad
    | .ask b => .ask b
    | .bad => .bad
  else .bad

/-- Does nobody touch its place who need not wait for it, nor it for him? -/
def freeS (ops : Array Oper) (i mi : Nat) (oi : Oper) : List Oper → List Nat → Nat → Bool
  | oj :: r, m :: ms, j => (Nat.beq j i || (mi.testBit j || (m.testBit i || oi.apart ops oj))) && freeS ops i mi oi r ms (j + 1)
  | [], [], _ => true
  | _, _, _ => false
theorem freeS_spec {ops : Array Oper} {i mi : Nat} {oi : Oper} : ∀ {l : List Oper} {j k : Nat} {oj : Oper}, freeS ops i mi oi l (l.map maskOf) j = true → l[k]? = some oj → j + k = i ∨ mi.testBit (j + k) = true ∨ (maskOf oj).testBit i = true ∨ oi.apart ops oj = true
  | [], _, _, _, _, h => by simp at h
  | o :: r, j, 0, oj, h, hk => by
    simp only [List.map_cons, freeS, Bool.and_eq_true, Bool.or_eq_true, Nat.beq_eq] at h
    simp at hk; subst hk
    exact h.1
  | o :: r, j, k + 1, oj, h, hk => by
    simp only [List.map_cons, freeS, Bool.and_eq_true] at h
    have := freeS_spec (k := k) h.2 (by simpa using hk)
    rwa [show j + 1 + k = j + (k + 1) by omega] at this
def frL (ops : Array Oper) (ms : List Nat) (wr : List (List Nat)) : List Oper → Nat → List Bool
  | [], _ => []
  | o :: r, i => (!acts o.op && ((wr.getD i []).isEmpty && freeS ops i (ms.getD i 0) o ops.toList ms 0)) :: frL ops ms wr r (i + 1)
theorem frL_spec {ops : Array Oper} {ms : List Nat} {wr : List (List Nat)} : ∀ {l : List Oper} {i k : Nat}, (∀ k, ops[i + k]? = l[k]?) → (frL ops ms wr l i).getD k false = true → wr.getD (i + k) [] = [] ∧ ∃ o, ops[i + k]? = some o ∧ freeS ops (i + k) (ms.getD (i + k) 0) o ops.toList ms 0 = true
  | [], _, _, _, h => by simp [frL] at h
  | o :: r, i, 0, hl, h => by
    simp only [frL, List.getD_cons_zero, Bool.and_eq_true] at h
    exact ⟨List.isEmpty_iff.1 h.2.1, o, by rw [hl]; rfl, h.2.2⟩
  | o :: r, i, k + 1, hl, h => by
    simp only [frL, List.getD_cons_succ] at h
    have := frL_spec (l := r) (i := i + 1) (k := k) (fun k => by have := hl (k + 1); rw [show i + (k + 1) = i + 1 + k by omega] at this; simpa using this) h
    rwa [show i + 1 + k = i + (k + 1) by omega] at this
theorem free_any {ops : Array Oper} {i : Nat} {oi : Oper} (hi : ops[i]? = some oi) (h : freeS ops i ((ops.toList.map maskOf).getD i 0) oi ops.toList (ops.toList.map maskOf) 0 = true) {listed : Array Bool} (hr : i ∈ Region.ready .any ops listed) : Region.free .any ops listed i = true := by
  obtain ⟨_, o, ho, hall⟩ := mem_ready.1 hr
  rw [hi] at ho; cases ho
  unfold Region.free
  rw [hi]
  simp only [List.all_eq_true, List.mem_range]
  intro j hj
  have hjj := Array.getElem?_eq_getElem hj
  rw [hjj]
  have h1 := freeS_spec (k := j) (oj := ops[j]) h (by rw [Array.getElem?_toList]; exact hjj)
  rw [Nat.zero_add] at h1
  rw [Bool.or_eq_true, Bool.or_eq_true]
  rcases h1 with rfl | h1 | h1 | h1
  · exact .inl (.inl (by simp))
  · refine .inl (.inr ?_)
    rw [List.getD_eq_getElem?_getD, List.getElem?_map, Array.getElem?_toList, hi] at h1
    obtain ⟨e, he, hb, rfl⟩ := (maskOf_bit oi j).1 h1
    have h2 := hall e he hb
    rcases Nat.lt_or_ge e.on listed.size with h' | h'
    · simp [h'] at h2 ⊢; exact h2
    · rw [Array.getD_eq_getD_getElem?, Array.getElem?_eq_none h'] at h2; cases h2
  · refine .inr ?_
    obtain ⟨e, he, hb, rfl⟩ := (maskOf_bit ops[j] i).1 h1
    show (_ || Oper.apart ops oi ops[j]) = true
    rw [Bool.or_eq_true]
    exact .inl (Array.any_eq_true'.2 ⟨e, he, by simp [hb]⟩)
  · refine .inr ?_
    show (_ || Oper.apart ops oi ops[j]) = true
    rw [h1, Bool.or_true]
def tdL (ms : List Nat) (wr : List (List Nat)) : List Bool → Nat → List (List Nat)
  | [], _ => []
  | f :: r, i => (if f then tdOf ms wr i else []) :: tdL ms wr r (i + 1)
theorem tdL_get {ms : List Nat} {wr : List (List Nat)} : ∀ {l : List Bool} {i k : Nat}, (tdL ms wr l i).getD k [] = if l.getD k false then tdOf ms wr (i + k) else []
  | [], _, _ => by simp [tdL]
  | f :: r, i, 0 => by simp [tdL]
  | f :: r, i, k + 1 => by
    simp only [tdL, List.getD_cons_succ]
    rw [tdL_get, show i + 1 + k = i + (k + 1) by omega]
theorem ndW_sub : ∀ {wr : List (List Nat)} {j D k : Nat}, k ∈ ndW wr j D → ∃ (i : Nat) (l : List Nat), wr[i]? = some l ∧ k ∈ l
  | [], _, _, _, h => by simp [ndW] at h
  | w :: r, j, D, k, h => by
    have go : k ∈ ndW r (j + 1) D → ∃ (i : Nat) (l : List Nat), (w :: r)[i]? = some l ∧ k ∈ l := fun h => by
      obtain ⟨i, l, h1, h2⟩ := ndW_sub h
      exact ⟨i + 1, l, by simpa using h1, h2⟩
    unfold ndW at h
    split at h
    · exact go h
    · rcases List.mem_append.1 h with h | h
      · exact ⟨0, w, rfl, h⟩
      · exact go h
theorem tabs_of (ops : Array Oper) (hp : List SO) (tmF : List SV) : Tabs ops hp (frL ops (ops.toList.map maskOf) (ops.toList.map fun o => nrmW hp (wrOf tmF hp o)) ops.toList 0) (ops.toList.map fun o => nrmW hp (wrOf tmF hp o))
    (tdL (ops.toList.map maskOf) (ops.toList.map fun o => nrmW hp (wrOf tmF hp o)) (frL ops (ops.toList.map maskOf) (ops.toList.map fun o => nrmW hp (wrOf tmF hp o)) ops.toList 0) 0) := by
  generalize hw : (ops.toList.map fun o => nrmW hp (wrOf tmF hp o)) = wr
  have low : stopB hp = true → ∀ (j : Nat) (l : List Nat), wr[j]? = some l → ∀ k ∈ l, k < 2 := by
    intro hst j l hj k hk
    rw [← hw, List.getElem?_map] at hj
    obtain ⟨o, _, rfl⟩ := Option.map_eq_some_iff.1 hj
    unfold nrmW at hk
    rw [if_pos hst] at hk
    simpa using (List.mem_filter.1 hk).2
  have hl0 : ∀ k, ops[0 + k]? = ops.toList[k]? := fun k => by simp
  refine ⟨fun i hf listed hr => by
      obtain ⟨_, o, ho, hfr⟩ := frL_spec hl0 hf
      rw [Nat.zero_add] at ho hfr
      exact free_any ho hfr hr, low, fun hst i k hk => ?_, fun i hf L hL hc k hk => ?_, fun i hf l hl => ?_⟩
  · rw [tdL_get] at hk
    split at hk
    · obtain ⟨j, l, h1, h2⟩ := ndW_sub hk
      exact low hst j l h1 k h2
    · simp at hk
  · rw [tdL_get, if_pos hf, Nat.zero_add]
    exact tdOf_spec hc hL hk
  · have := (frL_spec hl0 hf).1
    rw [Nat.zero_add, List.getD_eq_getElem?_getD, hl] at this
    simpa using this
def ordersR (P : Program) (callf : CallF) (ops : Array Oper) (tm : List SV) (hp : List SO) (ans : List Bool) : Rr (List SV × List SO) :=
  if Region.noSelect ops then
    match opsR P callf ops false ops.toList tm hp ans with
    | .ok (tmF, _) _ _ => withNL (ops.toList.map maskOf) fun ms => withNLL (ops.toList.map fun o => nrmW hp (wrOf tmF hp o)) fun wr => withBL (frL ops ms wr ops.toList 0) fun fr => withNLL (tdL ms wr fr 0) fun td =>
      anyR P callf ops hp ms fr wr td ops.size 0 tm hp ans
    | .ask b => .ask b
    | .bad => .bad
  else .bad
theorem ordersR_any {P : Program} {callf : CallF} (hcf : CallOk P callf) {ops : Array Oper} (hsel : Region.noSelect ops = true) {ds : List Deferred} {B : Nat} {w₀ : World} {η : Env} {Q : Exit → Act → World → Prop}
    (hQp : ∀ c a w, ¬ Q (.panic c) a w) {tm tm' tmF : List SV} {hp hp' : List SO} {ans ans' : List Bool} {c : Cnd}
    (h : (withNL (ops.toList.map maskOf) fun ms => withNLL (ops.toList.map fun o => nrmW hp (wrOf tmF hp o)) fun wr => withBL (frL ops ms wr ops.toList 0) fun fr => withNLL (tdL ms wr fr 0) fun td =>
      anyR P callf ops hp ms fr wr td ops.size 0 tm hp ans) = .ok (tm', hp') ans' c) (hc : c) {a : Act} {w : World} (hs : Sim ds B w₀ η tm hp a w)
    (hQ : ∀ μ' a' w', Sim ds B w₀ (η ++ μ') tm' hp' a' w' → Q .normal a' w') : wpAny P .any ops Q ops.size (Array.replicate ops.size false) a w := by
  simp only [withNL_eq, withNLL_eq, withBL_eq] at h
  exact wpAny_of_D _ _ _ _ (anyR_ok (μ := []) hcf hsel (tabs_of ops hp tmF) hs.hr.len hQp _ _ _ h hc (Enc.none _) (Closed.none ops) (by simpa using hs) (Held.of hs.hr _) hQ)

def drawR (P : Program) (callf : CallF) (ops : Array Oper) (tm : List SV) (hp : List SO) (ans : List Bool) : Rr (List SV × List SO) :=
  match (if Region.lexB .any ops then opsR P callf ops true ops.toList tm hp ans else .bad) with
  | .bad => match tailR P callf ops tm hp ans with
    | .bad => ordersR P callf ops tm hp ans
    | r => r
  | r => r

def regionR (P : Program) (callf : CallF) (ops : Array Oper) (draw : Bool) (tm : List SV) (hp : List SO) (ans : List Bool) : Rr (List SV × List SO) :=
  if draw then
    if P.follows .mixedOrders then drawR P callf ops tm hp ans else .bad
  else opsR P callf ops false ops.toList tm hp ans

/-- What a region owes, whatever the order. -/
def RegOk (P : Program) (ops : Array Oper) (draw : Bool) (Q : Exit → Act → World → Prop) (a : Act) (w : World) : Prop :=
  if draw then ∀ t, wpOps P ops Q (Region.schedule (P.follows .mixedOrders) ops t) a { w with drawn := w.drawn + 1 } else wpOps P ops Q (List.range ops.size) a w
theorem regOk_any {P : Program} {ops : Array Oper} {Q : Exit → Act → World → Prop} {a : Act} {w : World} (hm : P.follows .mixedOrders = true)
    (h : wpAny P .any ops Q ops.size (Array.replicate ops.size false) a { w with drawn := w.drawn + 1 }) : RegOk P ops true Q a w := by
  intro t
  simp only [Region.schedule, hm, Bool.true_or, if_true]
  exact wpAny_sound ops.size t _ a _ h
theorem regOk_list {P : Program} {ops : Array Oper} {Q : Exit → Act → World → Prop} {a : Act} {w : World} (h : wpList P ops Q ops.toList a w) : RegOk P ops false Q a w := by
  show wpOps P ops Q (List.range ops.size) a w
  rw [List.range_eq_range', ← Array.length_toList, wpOps_eq_wpList (P := P) (ops := ops) (Q := Q) ops.toList 0 (by simp)]
  exact h
theorem regOk_quiet {P : Program} {ops : Array Oper} {C : World → Prop} {Q : Exit → Act → World → Prop} {a : Act} {w : World} (hm : P.follows .mixedOrders = true) (hB : Region.lexB .any ops = true) (hC : C { w with drawn := w.drawn + 1 })
    (h : wpQuiet P ops C (fun a' => ∀ w', C w' → Q .normal a' w') ops.toList a) : RegOk P ops true Q a w := by
  simp only [Region.lexB, Bool.and_eq_true] at hB
  refine regOk_any hm (wpAny_of_quiet (Q := fun a' => ∀ w', C w' → Q .normal a' w') (fun _ w' hw' h => h w' hw') _ _ _ _ hC ?_)
  have := wpAnyQ_lex (C := C) (md := .any) hB.1 ops.toList 0 (Array.replicate ops.size false) a (by simp) (by simpa using hB.2) h
  simpa using this
theorem regOk_tail {P : Program} {Q : Exit → Act → World → Prop} {a : Act} {w : World} {l : List Oper} (n : Nat) (hm : P.follows .mixedOrders = true) (hB : Region.lexTailB .any l.toArray n = true)
    (h : wpStill P l.toArray { w with drawn := w.drawn + 1 } (fun a' => wpList P l.toArray Q (l.drop n) a' { w with drawn := w.drawn + 1 }) (l.take n) a) : RegOk P l.toArray true Q a w := by
  simp only [Region.lexTailB, Bool.and_eq_true, decide_eq_true_eq] at hB
  obtain ⟨⟨⟨⟨hsel, hn⟩, hs⟩, hc⟩, hlex⟩ := hB
  have hn' : n < l.length := by simpa using hn
  have htl : (l.take n).length = n := by simp; omega
  have hdl : (l.drop n).length = l.toArray.size - n := by simp
  have inv0 : HeadInv .any l.toArray n (Array.replicate l.toArray.size false) :=
    ⟨by simp, fun j oj _ hl => (by rw [getD_replicate_false] at hl; cases hl), fun t _ ht => getD_in (by simpa using ht) (getD_replicate_false _ _)⟩
  have H := wpAnyL_lex (md := .any) (g := l.toArray.size - n) hsel hs hc hn (l.take n) 0 _ a (fun j hj => by
    have hj' : j < n := by rw [htl] at hj; exact hj
    simp [hj']) (by simpa using htl) inv0 (by rw [htl]; exact hlex) h
  refine regOk_any hm ?_
  have := wpAny_of_head (Q' := Q) (g := l.toArray.size - n) (fun listed a' hL => by
    have := wpAny_of_seq (md := .any) (Q' := Q) (l.drop n) n listed a' { w with drawn := w.drawn + 1 } (fun j => by simp [List.getElem?_drop]) (by rw [hdl]; exact hL.1) hL.2
    rwa [hdl] at this) _ _ _ H
  rw [htl, show n + (l.toArray.size - n) = l.toArray.size by omega] at this
  exact this

theorem regionR_reg {P : Program} {callf : CallF} (hcf : CallOk P callf) {ops : Array Oper} {draw : Bool} {tm tm' : List SV} {hp hp' : List SO} {ans ans' : List Bool} {c : Cnd}
    (h : regionR P callf ops draw tm hp ans = .ok (tm', hp') ans' c) (hc : c) {ds : List Deferred} {B : Nat} {w₀ : World} {η : Env} {a : Act} {w : World} (hs : Sim ds B w₀ η tm hp a w) {K : Act → World → Prop}
    (hQ : ∀ μ a' w', Sim ds B w₀ (η ++ μ) tm' hp' a' w' → K a' w') : RegOk P ops draw (fun e a w => e = .normal ∧ K a w) a w := by
  unfold regionR at h
  split at h
  · rename_i hd
    subst hd
    split at h
    · rename_i hm
      have quiet : (if Region.lexB .any ops then opsR P callf ops true ops.toList tm hp ans else .bad) = .ok (tm', hp') ans' c → RegOk P ops true (fun e a w => e = .normal ∧ K a w) a w := by
        intro h
        split at h
        · rename_i hB
          have hh := opsR_hp _ h
          subst hh
          have hC : Cls B w₀ η hp' { w with drawn := w.drawn + 1 } := ⟨hs.hr.drew, hs.below.drew⟩
          refine regOk_quiet hm hB hC ?_
          refine opsR_quiet hcf hs.hB ⟨_, hC⟩ _ h hc hs.tm hs.df fun a' h1 h2 w' hw' => ?_
          exact ⟨rfl, hQ [] a' w' (by simpa using (⟨h1, h2, hw'.1, hw'.2, hs.hB⟩ : Sim ds B w₀ η tm' hp' a' w'))⟩
        · simp at h
      have tail : tailR P callf ops tm hp ans = .ok (tm', hp') ans' c → RegOk P ops true (fun e a w => e = .normal ∧ K a w) a w := by
        intro h
        unfold tailR at h
        simp only [] at h
        split at h
        · rename_i hT
          split at h
          · rename_i tm1 hp1 ans1 c1 h1
            split at h
            · rename_i x ans2 c2 h2
              obtain ⟨rfl, rfl, rfl⟩ := ok_inj h
              have hh := opsR_hp _ h1
              subst hh
              have e : ops = ops.toList.toArray := by simp
              rw [e]
              refine regOk_tail (ops.toList.findIdx fun o => acts o.op) hm (by simpa using hT) ?_
              simp only [Array.toArray_toList]
              refine opsR_still (B := B) (η := η) hs.hr.drew _ h1 hc.l hs.tm hs.df fun a' g1 g2 => ?_
              exact opsR_ok hcf _ h2 hc.r (⟨g1, g2, hs.hr.drew, hs.below.drew, hs.hB⟩ : Sim ds B w₀ η tm1 hp1 a' w.drew) fun μ a' w' hs' => ⟨rfl, hQ μ a' w' hs'⟩
            · simp at h
            · simp at h
          · simp at h
          · simp at h
        · simp at h
      have orders : ordersR P callf ops tm hp ans = .ok (tm', hp') ans' c → RegOk P ops true (fun e a w => e = .normal ∧ K a w) a w := by
        intro h
        unfold ordersR at h
        split at h
        · rename_i hsel
          split at h
          · exact regOk_any hm (ordersR_any (ds := ds) (η := η) (B := B) (w₀ := w₀) hcf hsel (fun c a w hq => by cases hq.1) h hc (by exact ⟨hs.tm, hs.df, hs.hr.drew, hs.below.drew, hs.hB⟩) fun μ' a' w' hs' => ⟨rfl, hQ μ' a' w' hs'⟩)
          · simp at h
          · simp at h
        · simp at h
      unfold drawR at h
      split at h
      · split at h
        · exact orders h
        · exact tail h
      · exact quiet h
    · simp at h
  · rename_i hd
    have hd' : draw = false := by simpa using hd
    subst hd'
    exact regOk_list (opsR_ok hcf _ h hc hs fun μ a' w' hs' => ⟨rfl, hQ μ a' w' hs'⟩)

/-! ### in a round, too -/
/-- No fence, but for the round. -/
def fen (r : Option Nat) : Fence := { Fence.wide with round := r }
theorem fen_none : fen none = Fence.wide := rfl
theorem callsFen {r : Option Nat} {n : Nat} {P : Program} {f : FuncId} {args : Array Value} {w : World} {R : Ending → World → Prop} (h : Calls P f args w R) : CallsIn (fen r) n P f args w R :=
  (callsIn_wide.2 h : CallsIn Fence.wide n P f args w R)
theorem fen_calls {r : Option Nat} {n : Nat} {P : Program} {f : FuncId} {args : Array Value} {w : World} {R : Ending → World → Prop} (h : CallsIn (fen r) n P f args w R) : Calls P f args w R :=
  callsIn_wide.1 (show CallsIn Fence.wide n P f args w R from h)
theorem rowsFen {r : Option Nat} {n : Nat} {P : Program} {row : String} {args : Array Value} {w : World} {R : Value → World → Prop} (h : Rows P row args w R) : RowsIn (fen r) n P row args w R :=
  fun c cs _ => let ⟨v, w', q, s⟩ := h c cs; ⟨v, w', q, stepsIn_wide.2 s⟩

def noDefer (ops : Array Oper) : Bool := ops.toList.all fun o => match o.op with
  | .defer _ => false
  | _ => true
theorem noDefer_at {ops : Array Oper} (h : noDefer ops = true) {i : Nat} {o : Oper} (ho : ops[i]? = some o) (c : Go.Call) : o.op ≠ .defer c := by
  intro e
  have hm : o ∈ ops.toList := by
    rw [← Array.getElem?_toList] at ho
    exact List.mem_of_getElem? ho
  have := List.all_eq_true.1 h o hm
  rw [e] at this
  exact Bool.noConfusion this

theorem wpOps_fen {r : Option Nat} {P : Program} {ops : Array Oper} (hnd : noDefer ops = true) {Q : Exit → Act → World → Prop} (hQ : ¬ LetsOut Q) : ∀ (l : List Nat) (a : Act) (w : World), wpOps P ops Q l a w → wpOpsIn (fen r) 0 P ops Q l a w
  | [], a, w, h => h
  | i :: l, a, w, h => by
    simp only [wpOps] at h
    simp only [wpOpsIn]
    cases ho : ops[i]? with
    | none =>
      simp only [ho] at h
      exact wpOps_fen hnd hQ l a w h
    | some o =>
      simp only [ho] at h
      simp only []
      by_cases hw : Region.wanted o (yielded ops a.tmps) = true
      · simp only [hw, if_true] at h ⊢
        rcases h with h | h
        · refine ⟨fun _ _ => trivial, ?_⟩
          rw [Oper.semAt_eq _ _ _ (noDefer_at hnd ho)]
          unfold Oper.wp at h
          generalize (execOp a.eval o).run P w = res at h
          cases res with
          | ok x w' =>
            cases x <;> simp only [Oper.upon, Oper.uponIn] at h ⊢
            case value v => exact wpOps_fen hnd hQ l _ _ h
            case skip => exact wpOps_fen hnd hQ l _ _ h
            case defer d => exact wpOps_fen hnd hQ l _ _ h
            case enter f args =>
              refine ⟨fun hh => by simp [fen, Fence.wide] at hh, CallsIn.mono (callsFen h) fun e w'' he => ?_⟩
              cases e with
              | returned v => exact wpOps_fen hnd hQ l _ _ he
              | panicked ch => exact he
              | outgrown => exact he
            case row row args =>
              exact ⟨fun hh => by simp [fen, Fence.wide] at hh, RowsIn.mono (rowsFen h) fun v w'' he => wpOps_fen hnd hQ l _ _ he⟩
          | halt x w' => cases x <;> simp only [Oper.upon, Oper.uponIn] at h ⊢ <;> exact h
        · exact absurd h.2 hQ
      · simp only [hw, if_false, Bool.false_eq_true] at h ⊢
        exact ⟨fun _ _ => trivial, wpOps_fen hnd hQ l _ _ h⟩

/-- **A region, in a round or in none.** -/
theorem reg_fen {r : Option Nat} {P : Program} {id : Nat} {ops : Array Oper} {draw : Bool} (hnd : noDefer ops = true) {Q : Exit → Act → World → Prop} (hQ : ¬ LetsOut Q) {a : Act} {w : World} (h : RegOk P ops draw Q a w) :
    (Code.region id ops draw).wpIn (fen r) 0 P Q a w := by
  unfold RegOk at h
  cases draw with
  | true => exact wpIn_region_draw fun t => wpOps_fen hnd hQ _ _ _ (h t)
  | false => exact wpIn_region (wpOps_fen hnd hQ _ _ _ h)
theorem regionR_ok {r : Option Nat} {P : Program} {callf : CallF} (hcf : CallOk P callf) {id : Nat} {ops : Array Oper} {draw : Bool} (hnd : noDefer ops = true) {tm tm' : List SV} {hp hp' : List SO} {ans ans' : List Bool} {c : Cnd}
    (h : regionR P callf ops draw tm hp ans = .ok (tm', hp') ans' c) (hc : c) {ds : List Deferred} {B : Nat} {w₀ : World} {η : Env} {a : Act} {w : World} (hs : Sim ds B w₀ η tm hp a w) {Q : Exit → Act → World → Prop}
    (hQ : ∀ μ a' w', Sim ds B w₀ (η ++ μ) tm' hp' a' w' → Q .normal a' w') : (Code.region id ops draw).wpIn (fen r) 0 P Q a w :=
  wpIn_mono (reg_fen hnd (fun ⟨_, _, hq⟩ => by cases hq.1) (regionR_reg hcf h hc hs (K := fun a w => Q .normal a w) hQ)) fun e a w hq => by obtain ⟨rfl, hq⟩ := hq; exact hq
end Go.Ex
