/-
  A reckoner of programs and its soundness, part ExG2: what it reckons is what 'Calls' says. No condition. By an AI agent.
-/
import Derived.Test.YtmngnhbnicgjfaaExG
namespace Go.Ex
open Go.RowKit (Below)

/-! ### short ways for whole numbers -/
def fastInt (op : BinOp) (k : IntKind) (a b : Int) : Option SV :=
  match op with
  | .add => some (.num k (k.wrap (a + b)))
  | .sub => some (.num k (k.wrap (a - b)))
  | .mul => some (.num k (k.wrap (a * b)))
  | .quo => if b = 0 then none else some (.num k (k.wrap (a.tdiv b)))
  | .rem => if b = 0 then none else some (.num k (a.tmod b))
  | .and => some (.num k (k.wrap (BitVec.ofInt k.bits a &&& BitVec.ofInt k.bits b).toNat))
  | .or => some (.num k (k.wrap (BitVec.ofInt k.bits a ||| BitVec.ofInt k.bits b).toNat))
  | .xor => some (.num k (k.wrap (BitVec.ofInt k.bits a ^^^ BitVec.ofInt k.bits b).toNat))
  | .andNot => some (.num k (k.wrap (BitVec.ofInt k.bits a &&& ~~~ BitVec.ofInt k.bits b).toNat))
  | .eql => some (.bol (a == b))
  | .neq => some (.bol (a != b))
  | .lss => some (.bol (a < b))
  | .leq => some (.bol (a ≤ b))
  | .gtr => some (.bol (a > b))
  | .geq => some (.bol (a ≥ b))
  | .shl | .shr => none
def fastBin (op : BinOp) (x y : SV) : Option SV :=
  match x, y with
  | .num k a, .num k' b =>
    match op with
    | .shl => if b < 0 then none else some (.num k (k.wrap (a * 2 ^ (min b.toNat k.bits))))
    | .shr => if b < 0 then none else some (.num k (a.fdiv (2 ^ (min b.toNat k.bits))))
    | op => if k = k' then fastInt op k a b else none
  | _, _ => none

theorem fastBin_ok {P : Program} {η : Env} {op : BinOp} {ty : TypeId} {x y : Operand} {sx sy s : SV} {vx vy : Value} (h : fastBin op sx sy = some s) (hx : R η sx vx) (hy : R η sy vy) (w : World) :
    ∃ v, R η s v ∧ (do eqGuard op ty x y vx vy; binOp op ty vx vy : Sem Value).run P w = .ok v w := by
  unfold fastBin at h
  split at h
  · rename_i k a k' b
    simp only [R] at hx hy
    subst hx; subst hy
    split at h
    · split at h
      · simp at h
      · rename_i hb
        simp only [Option.some.injEq] at h; subst h
        exact ⟨_, Eq.refl _, by simp [eqGuard_shl, binOp_shl, Op.shift, hb]⟩
    · split at h
      · simp at h
      · rename_i hb
        simp only [Option.some.injEq] at h; subst h
        exact ⟨_, Eq.refl _, by simp [eqGuard_shr, binOp_shr, Op.shift, hb]⟩
    · split at h
      · rename_i hk
        subst hk
        cases op <;> simp only [fastInt, Option.some.injEq] at h
        case quo =>
          split at h
          · simp at h
          · rename_i hb
            simp only [Option.some.injEq] at h; subst h
            exact ⟨_, Eq.refl _, by simp [eqGuard_at_int, binOp_quo, Op.intDiv, hb]⟩
        case rem =>
          split at h
          · simp at h
          · rename_i hb
            simp only [Option.some.injEq] at h; subst h
            exact ⟨_, Eq.refl _, by simp [eqGuard_at_int, binOp_rem, Op.intDiv, hb]⟩
        case shl => simp at h
        case shr => simp at h
        all_goals
          subst h
          refine ⟨_, Eq.refl _, ?_⟩
          simp [eqGuard_at_int, binOp_add, binOp_sub, binOp_mul, binOp_and, binOp_or, binOp_xor, binOp_andNot, binOp_eql, binOp_neq, binOp_lss, binOp_leq, binOp_gtr, binOp_geq, Op.intArith, Op.intBits]
      · simp at h
  · simp at h

def fastConv (P : Program) (src dst : TypeId) (x : SV) : Option SV :=
  match x with
  | .num _ n => match P.underlying src, P.underlying dst with
    | some _, some (.int k) => some (.num k (k.wrap n))
    | _, _ => none
  | _ => none
theorem fastConv_ok {P : Program} {η : Env} {src dst : TypeId} {sx s : SV} {vx : Value} (h : fastConv P src dst sx = some s) (hx : R η sx vx) (w : World) :
    ∃ v, R η s v ∧ (convert src dst vx).run P w = .ok v w := by
  unfold fastConv at h
  split at h
  · rename_i k n
    simp only [R] at hx
    subst hx
    split at h
    · rename_i d k' h1 h2
      simp only [Option.some.injEq] at h; subst h
      exact ⟨_, Eq.refl _, by simp [convert, run_underlying h1, run_underlying h2, Conv.intToInt]⟩
    · simp at h
  · simp at h
/-! ### division by what is not told -/
def opDivO (op : BinOp) (x y : SV) : OR :=
  match y with
  | .val (.int k' b) =>
    match x.val? with
    | some (.int k a) => if k = k' then
        match op with
        | .rem => .pure (.val (.int k (a.tmod b))) (.pr (b ≠ 0))
        | .quo => .pure (.val (.int k (k.wrap (a.tdiv b)))) (.pr (b ≠ 0))
        | _ => .bad
      else .bad
    | _ => .bad
  | _ => .bad
theorem opDivO_ok {P : Program} {η : Env} {hp : List SO} {op : BinOp} {ty : TypeId} {x y : Operand} {sx sy : SV} {vx vy : Value} (hx : R η sx vx) (hy : R η sy vy) :
    OpOk P η hp (fun w => (do pure (Next.value (← (do eqGuard op ty x y vx vy; binOp op ty vx vy : Sem Value))) : Sem Next).run P w) (opDivO op sx sy) := by
  unfold opDivO
  split
  · rename_i k' b
    simp only [R] at hy
    subst hy
    split
    · rename_i k a hv
      have := SV.val?_R hv hx
      subst this
      split
      · rename_i hk
        subst hk
        split
        · intro hc B w hr
          simp only [Cnd.Is] at hc
          exact ⟨.int k (a.tmod b), by simp only [R], by simp [eqGuard_at_int, binOp_rem, Op.intDiv, hc]⟩
        · intro hc B w hr
          simp only [Cnd.Is] at hc
          exact ⟨.int k (k.wrap (a.tdiv b)), by simp only [R], by simp [eqGuard_at_int, binOp_quo, Op.intDiv, hc]⟩
        · trivial
      · trivial
    · trivial
  · trivial
end Go.Ex
