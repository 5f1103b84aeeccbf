/-
  Walks of functions, reckoned through, and what they give (part K07a). No condition beyond what each says. By an AI agent.
-/
import Derived.Test.YtclafmabccbhjaaDoorW06m
import Derived.Test.YtclafmabccbhjaaDoorExS
namespace Go.Proofs.YtclafmabccbhjaaDoor
open Go.Ex
open Go.RowKit (Below)
set_option linter.unusedVariables false
set_option maxRecDepth 1000000
/-! ### contracts of the package's own -/
noncomputable def rawP (g : Raw) : Cx :=
  ⟨Tryd.prog, fun f args hp => match g f args hp with
    | some (s, c) => if s.free then some (s, none, c) else none
    | none => none, fun _ _ _ _ => none⟩
theorem rawP_lp (g : Raw) : LpOk (rawP g) := fun _ _ _ _ _ _ _ h => by simp [rawP] at h
theorem rawP_ct {g : Raw} (hg : g.Ok) : CtOk (rawP g) := by
  intro f args hp s ho c h hc B η w vs hr hB hargs
  simp only [rawP] at h
  split at h
  · rename_i s1 c1 h1
    split at h
    · rename_i hs
      simp only [Option.some.injEq, Prod.mk.injEq] at h
      obtain ⟨rfl, rfl, rfl⟩ := h
      refine (hg f args hp _ _ h1 hc B η w vs hr hargs).mono fun e w' hq => ?_
      obtain ⟨v, rfl, hR, hb⟩ := hq
      exact ⟨v, [], rfl, R.free _ _ hs hR, by simpa using hr.below hb, hb.mono hB⟩
    · simp at h
  · simp at h
def globHead : List SO → Bool
  | .glob _ _ :: _ => true
  | _ => false
/-- These are not reckoned without the package's variable. -/
noncomputable def guardX (fs : List FuncId) (X : Cx) : Cx :=
  ⟨X.P, fun f args hp => if fs.contains f && !globHead hp then some (.hdl 0, none, .pr False) else X.ct f args hp, X.lp⟩
theorem guardX_ct {fs : List FuncId} {X : Cx} (h : CtOk X) : CtOk (guardX fs X) := by
  intro f args hp s ho c hh hc
  simp only [guardX] at hh
  split at hh
  · simp only [Option.some.injEq, Prod.mk.injEq] at hh
    obtain ⟨_, _, rfl⟩ := hh
    exact absurd hc (by intro h; exact h)
  · exact h f args hp s ho c hh hc
theorem guardX_lp {fs : List FuncId} {X : Cx} (h : LpOk X) : LpOk (guardX fs X) := h
def eqDg (a b : List Int) : Bool := (List.range 32).foldr (fun i r => (dB a i == dB b i) && r) true
theorem eqDg_self (a : List Int) : eqDg a a = true := by
  unfold eqDg
  generalize List.range 32 = l
  induction l with
  | nil => rfl
  | cons x l ih => simp only [List.foldr_cons, ih]; simp
end Go.Proofs.YtclafmabccbhjaaDoor
