/-
  A reckoner of programs and its soundness, part ExG: what it reckons is what 'Calls' says. No condition. By an AI agent.
-/
import Derived.Test.YtmngnhbnicgjfaaExF
import Derived.Orders
namespace Go.Ex
open Go.RowKit (Below)

/-- What is owed of an operation of a region. -/
def OpOk (P : Program) (η : Env) (hp : List SO) (r : World → Result Next) : OR → Prop
  | .pure s c => c → ∀ B w, HR B η hp w → ∃ v, R η s v ∧ r w = .ok (.value v) w
  | .mem s hp' c => c → ∀ B w, HR B η hp w → B ≤ w.heap.size → ∃ v w' μ, (r w = .ok (.value v) w' ∨ (r w = .ok .skip w' ∧ v = undef)) ∧ R (η ++ μ) s v ∧ HR B (η ++ μ) hp' w' ∧ Below B w w'
  | .call f args => ∃ vs, Rs η args vs ∧ ∀ w, r w = (callFunc f vs.toArray).run P w
  | .bad => True

theorem OpOk.of {P : Program} {η : Env} {hp : List SO} {r : World → Result Value} {q : World → Result Next} (hq : ∀ w, q w = (r w).andThen fun v w' => .ok (.value v) w') {o : OR} (h : OrOk η hp r o) : OpOk P η hp q o := by
  cases o with
  | pure s c =>
    intro hc B w hr
    obtain ⟨v, hR, hv⟩ := h hc B w hr
    exact ⟨v, hR, by rw [hq, hv]; rfl⟩
  | mem s hp' c =>
    intro hc B w hr hB
    obtain ⟨v, w', μ, h1, h2⟩ := h hc B w hr hB
    exact ⟨v, w', μ, .inl (by rw [hq, h1]; rfl), h2⟩
  | call f args => exact h.elim
  | bad => trivial

/-! ### == and != -/
def isEq : BinOp → Option Bool
  | .eql => some true
  | .neq => some false
  | _ => none

def opEq (P : Program) (pos : Bool) (ty : TypeId) (x y : SV) : OR :=
  match x, y, P.underlying ty with
  | .ptr .., .val (.pointer none), some (.pointer _) => .pure (.bol !pos) .tt
  | .val (.pointer none), .ptr .., some (.pointer _) => .pure (.bol !pos) .tt
  | .slc .., .val (.slice none _ _), some (.slice _) => .pure (.bol !pos) .tt
  | .ifc .., .val .nilIface, some (.interface _) => .pure (.bol !pos) .tt
  | .agg a, .agg b, _ =>
    match SV.vals a, SV.vals b with
    | some xs, some ys =>
      if P.eqGuardType P.depth ty then .bad else
      match eqB P 64 ty (.agg xs.toArray) (.agg ys.toArray) with
      | some r => .pure (if a.all SV.lit && b.all SV.lit then .bol (if pos then r else !r) else .val (.bool (if pos then r else !r))) .tt
      | none => .bad
    | _, _ => .bad
  | _, _, _ => .bad

theorem eq_ptr_nil {P : Program} {ty e : TypeId} (hu : P.underlying ty = some (.pointer e)) (a : Addr) (d : Nat) (w : World) : (Op.equalIn (d + 1) ty (.pointer (some a)) (.pointer none)).run P w = .ok false w := by
  simp [Op.equalIn, run_underlying hu]
theorem eq_nil_ptr {P : Program} {ty e : TypeId} (hu : P.underlying ty = some (.pointer e)) (a : Addr) (d : Nat) (w : World) : (Op.equalIn (d + 1) ty (.pointer none) (.pointer (some a))).run P w = .ok false w := by
  simp [Op.equalIn, run_underlying hu]
theorem eq_slc_nil {P : Program} {ty e : TypeId} (hu : P.underlying ty = some (.slice e)) (a : Addr) (n c n' c' : Nat) (d : Nat) (w : World) : (Op.equalIn (d + 1) ty (.slice (some a) n c) (.slice none n' c')).run P w = .ok false w := by
  simp [Op.equalIn, run_underlying hu]
theorem eq_ifc_nil {P : Program} {ty : TypeId} {ms : Array (String × TypeId)} (hu : P.underlying ty = some (.interface ms)) (t : TypeId) (x : Value) (d : Nat) (w : World) : (Op.equalIn (d + 1) ty (.iface t x) .nilIface).run P w = .ok false w := by
  simp [Op.equalIn, run_underlying hu]

theorem opEq_ok {P : Program} {η : Env} {hp : List SO} {op : BinOp} {pos : Bool} (hop : isEq op = some pos) {ty : TypeId} {x y : SV} {vx vy : Value} (ox oy : Operand) (hx : R η x vx) (hy : R η y vy) :
    OrOk η hp (fun w => (do eqGuard op ty ox oy vx vy; binOp op ty vx vy : Sem Value).run P w) (opEq P pos ty x y) := by
  have key : ∀ (b : Bool) (vx vy : Value), (∀ w, (eqGuard op ty ox oy vx vy).run P w = .ok () w) → (∀ w, (Op.equal ty vx vy).run P w = .ok b w) →
      (∀ k a, vx ≠ .int k a) → (∀ k a, vx ≠ .float k a) → (∀ k a c, vx ≠ .complex k a c) → (∀ s, vx ≠ .string s) →
      ∀ w, (do eqGuard op ty ox oy vx vy; binOp op ty vx vy : Sem Value).run P w = .ok (.bool (if pos then b else !b)) w := by
    intro b vx vy h1 h2 n1 n2 n3 n4 w
    cases op <;> simp [isEq] at hop <;> subst hop <;> simp only [Sem.run_bind, h1, Result.andThen_ok]
    all_goals
      cases vx <;> first
        | exact absurd rfl (n1 _ _)
        | exact absurd rfl (n2 _ _)
        | exact absurd rfl (n3 _ _ _)
        | exact absurd rfl (n4 _)
        | (simp [binOp, h2])
  have gd : ∀ (vx vy : Value), (∀ xs, vx ≠ .agg xs) → vx ≠ .nilIface → ∀ w, (eqGuard op ty ox oy vx vy).run P w = .ok () w := by
    intro vx vy n1 n2 w
    cases op <;> simp [isEq] at hop <;> subst hop
    all_goals
      cases vx <;> first
        | exact absurd rfl (n1 _)
        | exact absurd rfl n2
        | simp [eqGuard]
  unfold opEq
  split
  · rename_i k off e hu
    simp only [R] at hx hy
    obtain ⟨b, o, _, rfl⟩ := hx
    subst hy
    refine OrOk.value (v := .bool !pos) (by simp only [R]) fun w => ?_
    rw [key false _ _ (gd _ _ (by simp) (by simp)) (fun w => eq_ptr_nil hu _ 9999 w) (by simp) (by simp) (by simp) (by simp)]
    cases pos <;> rfl
  · rename_i k off e hu
    simp only [R] at hx hy
    obtain ⟨b, o, _, rfl⟩ := hy
    subst hx
    refine OrOk.value (v := .bool !pos) (by simp only [R]) fun w => ?_
    rw [key false _ _ (gd _ _ (by simp) (by simp)) (fun w => eq_nil_ptr hu _ 9999 w) (by simp) (by simp) (by simp) (by simp)]
    cases pos <;> rfl
  · rename_i k off l c n c' e hu
    simp only [R] at hx hy
    obtain ⟨b, o, _, rfl⟩ := hx
    subst hy
    refine OrOk.value (v := .bool !pos) (by simp only [R]) fun w => ?_
    rw [key false _ _ (gd _ _ (by simp) (by simp)) (fun w => eq_slc_nil hu _ _ _ _ _ 9999 w) (by simp) (by simp) (by simp) (by simp)]
    cases pos <;> rfl
  · rename_i t' x' ms hu
    simp only [R] at hx hy
    obtain ⟨z, rfl, _⟩ := hx
    subst hy
    refine OrOk.value (v := .bool !pos) (by simp only [R]) fun w => ?_
    rw [key false _ _ (gd _ _ (by simp) (by simp)) (fun w => eq_ifc_nil hu _ _ 9999 w) (by simp) (by simp) (by simp) (by simp)]
    cases pos <;> rfl
  · rename_i a b _
    simp only [R] at hx hy
    obtain ⟨vs, rfl, hvs⟩ := hx
    obtain ⟨us, rfl, hus⟩ := hy
    split
    · rename_i xs ys h1 h2
      split
      · trivial
      · rename_i hg
        split
        · rename_i r hr
          have e1 := SV.vals_R h1 hvs
          have e2 := SV.vals_R h2 hus
          refine OrOk.value (v := .bool (if pos then r else !r)) (by split <;> simp only [R]) fun w => ?_
          rw [key r _ _ (fun w => run_eqGuard_agg w op ty ox oy vs us (by simpa using hg)) (fun w => ?_) (by simp) (by simp) (by simp) (by simp)]
          rw [← e1, ← e2] at hr
          exact eqB_ok 64 ty _ _ r (by simpa using hr) Op.maxDepth (by decide) w
        · trivial
    · trivial
  · trivial
end Go.Ex
