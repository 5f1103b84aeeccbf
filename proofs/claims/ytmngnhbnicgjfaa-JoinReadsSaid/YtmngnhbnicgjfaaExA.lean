/-
  A reckoner of programs and its soundness, part ExA: what it reckons is what 'Calls' says. No condition. By an AI agent.
-/
import Derived.Calls
import Derived.Below
import Derived.LoopN
import Derived.Deep.Quiet
import Derived.StillTail
import Derived.KernelRfl
import Derived.Tactics
namespace Go.Ex
open Go.RowKit (Below)

/-- A value as the reckoner holds it. -/
inductive SV where
  | val (x : Value)
  | num (k : IntKind) (z : Int)
  | bol (b : Bool)
  | bts (told : Bool) (l : List UInt8)
  | ptr (k off : Nat)
  | slc (k off len cap : Nat)
  | sle (k off len kc : Nat)
  | fnc (g : FuncId) (first caps : List SV)
  | agg (l : List SV)
  | tup (l : List SV)
  | ifc (ty : TypeId) (x : SV)
  | hdl (k : Nat)
  deriving Inhabited

abbrev Env := List Value

mutual
def R (η : Env) : SV → Value → Prop
  | .val x, v => v = x
  | .num k z, v => v = .int k z
  | .bol b, v => v = .bool b
  | .bts _ l, v => v = .string ⟨l.toArray⟩
  | .ptr k off, v => ∃ b o, η[k]? = some (.pointer (some ⟨b, o, none⟩)) ∧ v = .pointer (some ⟨b, o + off, none⟩)
  | .slc k off len cap, v => ∃ b o, η[k]? = some (.pointer (some ⟨b, o, none⟩)) ∧ v = .slice (some ⟨b, o + off, none⟩) len cap
  | .sle k off len kc, v => ∃ b o c, η[k]? = some (.pointer (some ⟨b, o, none⟩)) ∧ η[kc]? = some (.slice none 0 c) ∧ len ≤ c ∧ v = .slice (some ⟨b, o + off, none⟩) len c
  | .fnc g first caps, v => ∃ fs cs, v = .func (.func g) fs cs ∧ Rs η first fs.toList ∧ Rs η caps cs.toList
  | .agg l, v => ∃ vs, v = .agg vs ∧ Rs η l vs.toList
  | .tup l, v => ∃ vs, v = .tuple vs ∧ Rs η l vs.toList
  | .ifc ty x, v => ∃ y, v = .iface ty y ∧ R η x y
  | .hdl k, v => η[k]? = some v
def Rs (η : Env) : List SV → List Value → Prop
  | [], vs => vs = []
  | s :: l, vs => ∃ x r, vs = x :: r ∧ R η s x ∧ Rs η l r
end

theorem get_ext {α : Type} {l m : List α} {k : Nat} {x : α} (h : l[k]? = some x) : (l ++ m)[k]? = some x := by
  have hk : k < l.length := (List.getElem?_eq_some_iff.1 h).1
  rw [List.getElem?_append_left hk]; exact h

mutual
theorem R.ext {η μ : Env} : ∀ {s : SV} {v : Value}, R η s v → R (η ++ μ) s v
  | .val _, _, h => by simpa only [R] using h
  | .num _ _, _, h => by simpa only [R] using h
  | .bol _, _, h => by simpa only [R] using h
  | .bts _ _, _, h => by simpa only [R] using h
  | .ptr k off, v, h => by
    simp only [R] at h ⊢
    obtain ⟨b, o, h1, h2⟩ := h
    exact ⟨b, o, get_ext h1, h2⟩
  | .slc k off len cap, v, h => by
    simp only [R] at h ⊢
    obtain ⟨b, o, h1, h2⟩ := h
    exact ⟨b, o, get_ext h1, h2⟩
  | .sle k off len kc, v, h => by
    simp only [R] at h ⊢
    obtain ⟨b, o, c, h1, h2, h3, h4⟩ := h
    exact ⟨b, o, c, get_ext h1, get_ext h2, h3, h4⟩
  | .fnc g fs cs, v, h => by
    simp only [R] at h ⊢
    obtain ⟨a, b, h1, h2, h3⟩ := h
    exact ⟨a, b, h1, Rs.ext h2, Rs.ext h3⟩
  | .agg l, v, h => by
    simp only [R] at h ⊢
    obtain ⟨a, h1, h2⟩ := h
    exact ⟨a, h1, Rs.ext h2⟩
  | .tup l, v, h => by
    simp only [R] at h ⊢
    obtain ⟨a, h1, h2⟩ := h
    exact ⟨a, h1, Rs.ext h2⟩
  | .ifc ty x, v, h => by
    simp only [R] at h ⊢
    obtain ⟨a, h1, h2⟩ := h
    exact ⟨a, h1, R.ext h2⟩
  | .hdl k, v, h => by
    simp only [R] at h ⊢
    exact get_ext h
theorem Rs.ext {η μ : Env} : ∀ {l : List SV} {vs : List Value}, Rs η l vs → Rs (η ++ μ) l vs
  | [], _, h => by simpa only [Rs] using h
  | s :: l, vs, h => by
    simp only [Rs] at h ⊢
    obtain ⟨x, r, h1, h2, h3⟩ := h
    exact ⟨x, r, h1, R.ext h2, Rs.ext h3⟩
end

theorem Rs.length {η : Env} : ∀ {l : List SV} {vs : List Value}, Rs η l vs → vs.length = l.length
  | [], vs, h => by simp only [Rs] at h; simp [h]
  | s :: l, vs, h => by
    simp only [Rs] at h
    obtain ⟨x, r, h1, _, h3⟩ := h
    simp [h1, Rs.length h3]

theorem Rs.get {η : Env} : ∀ {l : List SV} {vs : List Value} {i : Nat} {s : SV}, Rs η l vs → l[i]? = some s → ∃ v, vs[i]? = some v ∧ R η s v
  | [], _, _, _, _, hi => by simp at hi
  | s :: l, vs, 0, s', h, hi => by
    simp only [Rs] at h
    obtain ⟨x, r, h1, h2, h3⟩ := h
    simp at hi; subst hi
    exact ⟨x, by simp [h1], h2⟩
  | s :: l, vs, i + 1, s', h, hi => by
    simp only [Rs] at h
    obtain ⟨x, r, h1, h2, h3⟩ := h
    simp at hi
    obtain ⟨v, hv, hR⟩ := Rs.get h3 hi
    exact ⟨v, by simp [h1, hv], hR⟩

theorem Rs.nil {η : Env} : Rs η [] [] := by simp [Rs]
theorem Rs.cons {η : Env} {s : SV} {l : List SV} {v : Value} {vs : List Value} (h : R η s v) (hs : Rs η l vs) : Rs η (s :: l) (v :: vs) := by
  simp only [Rs]; exact ⟨v, vs, rfl, h, hs⟩
theorem Rs.cons_inv {η : Env} {s : SV} {l : List SV} {vs : List Value} (h : Rs η (s :: l) vs) : ∃ v r, vs = v :: r ∧ R η s v ∧ Rs η l r := by
  simpa only [Rs] using h

theorem Rs.set {η : Env} : ∀ {l : List SV} {vs : List Value} {i : Nat} {s : SV} {v : Value}, Rs η l vs → R η s v → Rs η (l.set i s) (vs.set i v)
  | [], vs, _, _, _, h, _ => by simp only [Rs] at h; subst h; simp [Rs]
  | s :: l, vs, 0, s', v', h, hs => by
    obtain ⟨x, r, h1, h2, h3⟩ := Rs.cons_inv h
    subst h1; simp only [List.set_cons_zero]; exact Rs.cons hs h3
  | s :: l, vs, i + 1, s', v', h, hs => by
    obtain ⟨x, r, h1, h2, h3⟩ := Rs.cons_inv h
    subst h1; simp only [List.set_cons_succ]; exact Rs.cons h2 (Rs.set h3 hs)

theorem Rs.append {η : Env} : ∀ {l m : List SV} {vs us : List Value}, Rs η l vs → Rs η m us → Rs η (l ++ m) (vs ++ us)
  | [], m, vs, us, h, hm => by simp only [Rs] at h; subst h; simpa using hm
  | s :: l, m, vs, us, h, hm => by
    obtain ⟨x, r, h1, h2, h3⟩ := Rs.cons_inv h
    subst h1; exact Rs.cons h2 (Rs.append h3 hm)

theorem Rs.drop {η : Env} : ∀ {l : List SV} {vs : List Value} (n : Nat), Rs η l vs → Rs η (l.drop n) (vs.drop n)
  | l, vs, 0, h => by simpa using h
  | [], vs, n + 1, h => by simp only [Rs] at h; subst h; simp [Rs]
  | s :: l, vs, n + 1, h => by
    obtain ⟨x, r, h1, h2, h3⟩ := Rs.cons_inv h
    subst h1; simpa using Rs.drop n h3

theorem Rs.take {η : Env} : ∀ {l : List SV} {vs : List Value} (n : Nat), Rs η l vs → Rs η (l.take n) (vs.take n)
  | l, vs, 0, h => by simp [Rs]
  | [], vs, n + 1, h => by simp only [Rs] at h; subst h; simp [Rs]
  | s :: l, vs, n + 1, h => by
    obtain ⟨x, r, h1, h2, h3⟩ := Rs.cons_inv h
    subst h1; simpa using Rs.cons h2 (Rs.take n h3)

theorem Rs.replicate {η : Env} (n : Nat) {s : SV} {v : Value} (h : R η s v) : Rs η (List.replicate n s) (List.replicate n v) := by
  induction n with
  | zero => simp [Rs]
  | succ n ih => simpa [List.replicate_succ] using Rs.cons h ih

/-- The value that a scalar is. -/
def SV.val? : SV → Option Value
  | .val y => some y
  | .num k z => some (.int k z)
  | .bol y => some (.bool y)
  | .bts _ y => some (.string ⟨y.toArray⟩)
  | _ => none

theorem SV.val?_R {η : Env} {s : SV} {x v : Value} (h : s.val? = some x) (hR : R η s v) : v = x := by
  cases s <;> simp [SV.val?] at h <;> subst h <;> simpa only [R] using hR
theorem SV.R_val? {η : Env} {s : SV} {x : Value} (h : s.val? = some x) : R η s x := by
  cases s <;> simp [SV.val?] at h <;> subst h <;> simp only [R]

/-- A closed value of one cell, its numbers told. -/
def ofV1 : Value → SV
  | .int k z => .num k z
  | .bool y => .bol y
  | .string s => .bts true s.data.toList
  | x => .val x
theorem ofV1_R (η : Env) (x : Value) : R η (ofV1 x) x := by
  cases x <;> simp only [ofV1, R]
theorem ofV1s_R (η : Env) : ∀ (l : List Value), Rs η (l.map ofV1) l
  | [] => Rs.nil
  | x :: l => Rs.cons (ofV1_R η x) (ofV1s_R η l)
/-- A closed value, its numbers told. -/
def ofV : Value → SV
  | .agg cs => .agg (cs.toList.map ofV1)
  | x => ofV1 x
theorem ofV_R (η : Env) (x : Value) : R η (ofV x) x := by
  cases x <;> simp only [ofV, ofV1, R]
  exact ⟨_, rfl, ofV1s_R η _⟩

/-- Is it told? -/
def closedV : Value → Bool
  | .pointer none | .slice none _ _ | .map none | .chan none | .nilFunc | .nilIface | .tuple ⟨[]⟩ => true
  | _ => false
def SV.lit : SV → Bool
  | .num .. | .bol .. => true
  | .bts c _ => c
  | .val v => closedV v
  | _ => false

/-- The outcome of an operation that touches no memory. -/
def _root_.Go.Sem.pr (P : Program) {α : Type} : Sem α → Option α
  | .pure a => some a
  | .program k => (k P).pr P
  | _ => none
theorem pr_run {P : Program} {α : Type} {s : Sem α} {a : α} (h : s.pr P = some a) (w : World) : s.run P w = .ok a w := by
  induction s with
  | pure x => simp only [Sem.pr, Option.some.injEq] at h; subst h; rfl
  | program k ih => simp only [Sem.pr] at h; simp only [Sem.run]; exact ih P h
  | _ => simp [Sem.pr] at h
end Go.Ex
