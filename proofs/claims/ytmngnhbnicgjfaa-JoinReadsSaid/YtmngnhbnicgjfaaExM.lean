/-
  A reckoner of programs and its soundness, part ExM: what it reckons is what 'Calls' says. No condition. By an AI agent.
-/
import Derived.Test.YtmngnhbnicgjfaaExL
namespace Go.Ex
open Go.RowKit (Below)

/-- It comes to 'true', and nothing is left open. -/
def saysTrue (r : Rr (SV × Option (List SO))) : Bool :=
  match r with
  | .ok (.bol true, _) [] .tt => true
  | _ => false

/-- **A call that is reckoned through to 'true'.** -/
theorem call_true {X : Cx} (hct : CtOk X) (hlp : LpOk X) (n : Nat) {f : FuncId} {args : List SV} {ans : List Bool} (h : saysTrue (callR X (run X n) f args [] ans) = true)
    {w : World} {vs : List Value} (hargs : Rs [] args vs) :
    Calls X.P f vs.toArray w (fun e w' => e = .returned (.bool true) ∧ Below w.heap.size w w') := by
  unfold saysTrue at h
  split at h
  · rename_i ho heq
    refine (callR_ok hct (run_ok hct hlp n) f args [] ans _ _ _ _ heq trivial w.heap.size [] w vs (HR.none w) (Nat.le_refl _) hargs).2.mono fun e w' hq => ?_
    obtain ⟨v, μ, rfl, hR, _, hb⟩ := hq
    simp only [R] at hR
    subst hR
    exact ⟨rfl, hb⟩
  · simp at h

/-- Without contracts. -/
noncomputable def plain (P : Program) : Cx := ⟨P, fun _ _ _ => none, fun _ _ _ _ => none⟩
theorem plain_ct (P : Program) : CtOk (plain P) := fun _ _ _ _ _ _ h => by simp [plain] at h
theorem plain_lp (P : Program) : LpOk (plain P) := fun _ _ _ _ _ _ _ h => by simp [plain] at h

/-! ### a table of told calls -/
structure Told (P : Program) where
  f : FuncId
  args : List SV
  s : SV
  ok : ∀ (w : World) (vs : List Value), Rs [] args vs → Calls P f vs.toArray w (fun e w' => ∃ v, e = .returned v ∧ R [] s v ∧ Below w.heap.size w w')

def Cnd.isTT : Cnd → Bool
  | .tt => true
  | _ => false
theorem Cnd.isTT_is {c : Cnd} (h : c.isTT = true) : c.Is := by cases c <;> first | trivial | (simp [Cnd.isTT] at h)

def lookTold {P : Program} : List (Told P) → FuncId → List SV → Option SV
  | [], _, _ => none
  | t :: r, f, args => if t.f = f then (if (sameCs t.args args).isTT then some t.s else lookTold r f args) else lookTold r f args
theorem lookTold_ok {P : Program} : ∀ {T : List (Told P)} {f : FuncId} {args : List SV} {s : SV}, lookTold T f args = some s → ∃ t ∈ T, t.f = f ∧ t.args = args ∧ t.s = s
  | [], _, _, _, h => by simp [lookTold] at h
  | t :: r, f, args, s, h => by
    simp only [lookTold] at h
    have next : lookTold r f args = some s → ∃ t' ∈ t :: r, t'.f = f ∧ t'.args = args ∧ t'.s = s := fun h => by
      obtain ⟨t', h1, h2⟩ := lookTold_ok h
      exact ⟨t', by simp [h1], h2⟩
    split at h
    · rename_i hf
      split at h
      · rename_i hs
        exact ⟨t, by simp, hf, sameCs_ok _ _ (Cnd.isTT_is hs), Option.some.inj h⟩
      · exact next h
    · exact next h

/-- With a table of told calls. -/
noncomputable def tabled (P : Program) (T : List (Told P)) : Cx :=
  ⟨P, fun f args _ => if frees args then (match lookTold T f args with
    | some s => if s.free then some (s, none, .tt) else none
    | none => none) else none, fun _ _ _ _ => none⟩
theorem tabled_lp (P : Program) (T : List (Told P)) : LpOk (tabled P T) := fun _ _ _ _ _ _ _ h => by simp [tabled] at h
theorem tabled_ct (P : Program) (T : List (Told P)) : CtOk (tabled P T) := by
  intro f args hp s ho c h _ B η w vs hr hB hargs
  simp only [tabled] at h
  split at h
  · rename_i hfr
    split at h
    · rename_i s' hl
      split at h
      · rename_i hsf
        simp only [Option.some.injEq, Prod.mk.injEq] at h
        obtain ⟨rfl, rfl, rfl⟩ := h
        obtain ⟨t, _, rfl, rfl, rfl⟩ := lookTold_ok hl
        refine (t.ok w vs (Rs.free _ _ hfr hargs)).mono fun e w' hq => ?_
        obtain ⟨v, rfl, hR, hb⟩ := hq
        exact ⟨v, [], rfl, R.free _ _ hsf hR, by simpa using hr.below hb, hb.mono hB⟩
      · simp at h
    · simp at h
  · simp at h

theorem told_true {X : Cx} (hct : CtOk X) (hlp : LpOk X) (n : Nat) {f : FuncId} {args : List SV} {ans : List Bool} (h : saysTrue (callR X (run X n) f args [] ans) = true)
    (w : World) (vs : List Value) (hargs : Rs [] args vs) :
    Calls X.P f vs.toArray w (fun e w' => ∃ v, e = .returned v ∧ R [] (.bol true) v ∧ Below w.heap.size w w') :=
  (call_true hct hlp n h hargs).mono fun e w' ⟨h1, h2⟩ => ⟨_, h1, by simp only [R], h2⟩
end Go.Ex
