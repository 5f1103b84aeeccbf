/-
  Walks of functions, reckoned through, and what they give (part W06y). No condition beyond what each says. By an AI agent.
-/
import Derived.Test.YtacgamdbmllaoaaDoorW06c
import Derived.Test.YtacgamdbmllaoaaDoorExS
namespace Go.Proofs.YtacgamdbmllaoaaDoor
open Go.Ex
open Go.RowKit (Below)
set_option linter.unusedVariables false
set_option maxRecDepth 1000000
/-! ### contracts, put together; a call at the top -/
abbrev Raw := FuncId → List SV → List SO → Option (SV × Cnd)
def Raw.Ok (g : Raw) : Prop := ∀ f args hp s c, g f args hp = some (s, c) → c.Is → ∀ (B : Nat) (η : Env) (w : World) (vs : List Value), HR B η hp w → Rs η args vs →
    Calls Tryd.prog f vs.toArray w (fun e w' => ∃ v, e = .returned v ∧ R [] s v ∧ Below w.heap.size w w')
/-- The result of a run at the top. -/
def outV (r : Rr (SV × Option (List SO))) (s : SV) (L : List Prop) : Option (SV × List Prop × List SV) × Option (SV × List Prop × List SV) :=
  match r with
  | .ok (s', _) [] c => (some (s', c.props [], c.lefts []), some (s, L, c.rights []))
  | _ => (none, some (s, L, []))
def givesV (r : Rr (SV × Option (List SO))) (s : SV) (L : List Prop) : Prop := (outV r s L).1 = (outV r s L).2
theorem callsV {P : Program} {X : Cx} (hX : X.P = P) (hct : CtOk X) (hlp : LpOk X) (n : Nat) {f : FuncId} {args : List SV} {hp : List SO} {ans : List Bool} {s : SV} {L : List Prop} (h : givesV (topR X (run X n) f args hp ans) s L) (hL : AllP L) (hs : s.free = true) {η : Env} {w : World} (hr : HR w.heap.size η hp w) {vs : List Value} (hargs : Rs η args vs) :
    Calls P f vs.toArray w (fun e w' => ∃ v, e = .returned v ∧ R [] s v ∧ Below w.heap.size w w') := by
  subst hX
  unfold givesV at h
  generalize hq : topR X (run X n) f args hp ans = r at h
  unfold outV at h
  split at h
  · rename_i s' ho c'
    simp only [Option.some.injEq, Prod.mk.injEq] at h
    obtain ⟨rfl, h2, h3⟩ := h
    have hc := (Cnd.is_of c' [] [] [] (by rw [h2]; exact hL) h3 rfl).1
    refine (topR_ok hct hlp n hq hc hr (Nat.le_refl _) hargs).mono fun e w' hq => ?_
    obtain ⟨v, μ, rfl, hR, _, hb⟩ := hq
    exact ⟨v, rfl, R.free _ _ hs hR, hb⟩
  · simp at h
abbrev noG : Raw := fun _ _ _ => none
theorem noG_ok : Raw.Ok noG := fun _ _ _ _ _ h => by simp at h
def Raw.or (a b : Raw) : Raw := fun f args hp => match a f args hp with | some r => some r | none => b f args hp
theorem Raw.or_ok {a b : Raw} (ha : a.Ok) (hb : b.Ok) : (a.or b).Ok := by
  intro f args hp s c h
  unfold Raw.or at h
  split at h
  · rename_i r hr
    simp only [Option.some.injEq] at h; subst h
    exact ha f args hp s c hr
  · exact hb f args hp s c h
end Go.Proofs.YtacgamdbmllaoaaDoor
