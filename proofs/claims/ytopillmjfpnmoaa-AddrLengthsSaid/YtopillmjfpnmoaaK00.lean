/-
  Walks of functions, reckoned through, and what they give (part K00). No condition beyond what each says. By an AI agent.
-/
import Derived.Test.YtopillmjfpnmoaaExS
import Derived.Test.YtopillmjfpnmoaaChecked
namespace Go.Proofs.Ytopillmjfpnmoaa
open Go.Ex
open Go.RowKit (Below)
set_option linter.unusedVariables false
set_option maxRecDepth 1000000
/-! ### codes by their parts; runs that are cut -/
def cL : Code → Code
  | .seq a _ => a
  | c => c
def cR : Code → Code
  | .seq _ b => b
  | c => c
def cB : Code → Code
  | .block _ b => b
  | c => c
def cLp : Code → Code
  | .loop b => b
  | c => c
noncomputable def code (f : Nat) : Code := ((Try.prog.funcs[f]?).bind (·.body)).getD .skip
def finOf : Rr Fin → Fin
  | .ok f _ _ => f
  | _ => ⟨.ret, [], []⟩
def outG (r : Rr Fin) (e : XE) (L : List Prop) : Option (XE × List Prop × List SV) × Option (XE × List Prop × List SV) :=
  match r with
  | .ok f [] c => (some (f.e, c.props [], c.lefts []), some (e, L, c.rights []))
  | _ => (none, some (e, L, []))
def goodR (r : Rr Fin) (e : XE) (L : List Prop) : Prop := (outG r e L).1 = (outG r e L).2
theorem wpE_run {P : Program} {X : Cx} (hX : X.P = P) (hct : CtOk X) (hlp : LpOk X) {n n0 : Nat} {c : Code} {s : St} {e : XE} {L : List Prop} (h : goodR (run X n c s.tm s.hp []) e L) (hL : AllP L) :
    WpE P c n0 s (fun r => r.e = e ∧ r = finOf (run X n c s.tm s.hp [])) := by
  subst hX
  unfold goodR at h
  generalize hq : run X n c s.tm s.hp [] = r at h
  unfold outG at h
  split at h
  · rename_i f c'
    simp only [Option.some.injEq, Prod.mk.injEq] at h
    obtain ⟨h1, h2, h3⟩ := h
    have hc := (Cnd.is_of c' [] [] [] (by rw [h2]; exact hL) h3 rfl).1
    exact WpE.of_wp (run_ok hct hlp n c _ _ _ _ _ _ hq hc) ⟨h1, rfl⟩
  · simp at h
def bId : Code → Nat
  | .block id _ => id
  | _ => 0
theorem wpE_weakF {P : Program} {c : Code} {n0 : Nat} {s : St} {T : (Nat → Value) → St} {F : Fin → Prop} (hw : WeakF n0 s T) (h : ∀ d, WpE P c n0 (T d) F) : WpE P c n0 s F :=
  fun ro ds B w₀ η μ a w hn hs Q hQ => by
    obtain ⟨d, μ', hs'⟩ := hw hn hs
    exact h d ro ds B w₀ η μ' a w hn hs' Q hQ
noncomputable def fnN (f : Nat) : Func := (Try.prog.funcs[f]?).getD default
def outX (n0 : Nat) (keep fg : List Nat) (r : Rr Fin) (e : XE) (T : St) (L : List Prop) (d : Nat → Value) : Option (XE × Bool × St × List Prop × List SV) × Option (XE × Bool × St × List Prop × List SV) :=
  match r with
  | .ok f [] c => (some (f.e, cutB n0 keep fg f.st, cutV keep fg f.st d, c.props [], c.lefts []), some (e, true, T, L, c.rights []))
  | _ => (none, some (e, true, T, L, []))
def givesX (n0 : Nat) (keep fg : List Nat) (r : Rr Fin) (e : XE) (T : St) (L : List Prop) (d : Nat → Value) : Prop := (outX n0 keep fg r e T L d).1 = (outX n0 keep fg r e T L d).2
theorem wpE_X {P : Program} {X : Cx} (hX : X.P = P) (hct : CtOk X) (hlp : LpOk X) {n n0 : Nat} {keep fg : List Nat} {c : Code} {s : St} {ans : List Bool} {e : XE} {T : (Nat → Value) → St} {L : List Prop} (h : ∀ d, givesX n0 keep fg (run X n c s.tm s.hp ans) e (T d) L d) (hL : AllP L) :
    WpE P c n0 s (fun r => r.e = e ∧ WeakF n0 r.st T) := by
  subst hX
  generalize hq : run X n c s.tm s.hp ans = r at h
  unfold givesX outX at h
  split at h
  · rename_i f c'
    simp only [Option.some.injEq, Prod.mk.injEq] at h
    have h0 := h (fun _ => undef)
    have hc := (Cnd.is_of c' [] [] [] (by rw [h0.2.2.2.1]; exact hL) h0.2.2.2.2 rfl).1
    refine WpE.of_wp (run_ok hct hlp n c _ _ _ _ _ _ hq hc) ⟨h0.1, ?_⟩
    have e : T = cutV keep fg f.st := funext fun d => ((h d).2.2.1).symm
    rw [e]
    exact fun {_ _ _ _ _ _ _} hl hs => WeakF.cut h0.2.1 hl hs
  · have := h (fun _ => undef); simp at this
theorem unblk {n0 id : Nat} {r : Fin} {T : (Nat → Value) → St} (h : r.e = .exit id ∧ WeakF n0 r.st T) : (r.unblock id).e = .normal ∧ WeakF n0 (r.unblock id).st T := by
  obtain ⟨h1, h2⟩ := h
  unfold Fin.unblock
  rw [h1]
  simp only [if_true]
  exact ⟨trivial, fun {_ _ _ _ _ _ _} hn hs => h2 hn hs⟩
theorem wpE_runA {P : Program} {X : Cx} (hX : X.P = P) (hct : CtOk X) (hlp : LpOk X) {n n0 : Nat} {c : Code} {s : St} {ans : List Bool} {e : XE} {L : List Prop} (h : goodR (run X n c s.tm s.hp ans) e L) (hL : AllP L) :
    WpE P c n0 s (fun r => r.e = e ∧ r = finOf (run X n c s.tm s.hp ans)) := by
  subst hX
  unfold goodR at h
  generalize hq : run X n c s.tm s.hp ans = r at h
  unfold outG at h
  split at h
  · rename_i f c'
    simp only [Option.some.injEq, Prod.mk.injEq] at h
    obtain ⟨h1, h2, h3⟩ := h
    have hc := (Cnd.is_of c' [] [] [] (by rw [h2]; exact hL) h3 rfl).1
    exact WpE.of_wp (run_ok hct hlp n c _ _ _ _ _ _ hq hc) ⟨h1, rfl⟩
  · simp at h
end Go.Proofs.Ytopillmjfpnmoaa
