/-
  A reckoner of programs and its soundness, part ExN: what it reckons is what 'Calls' says. No condition. By an AI agent.
-/
import Derived.Test.YtmngnhbnicgjfaaExM
namespace Go.Ex
open Go.RowKit (Below)

/-- Contracts: what a call gives, out of its arguments, and under which condition. -/
structure Con (P : Program) where
  g : FuncId → List SV → Option (SV × Cnd)
  ok : ∀ f args s c, g f args = some (s, c) → c.Is → ∀ (w : World) (vs : List Value), Rs [] args vs →
    Calls P f vs.toArray w (fun e w' => ∃ v, e = .returned v ∧ R [] s v ∧ Below w.heap.size w w')

/-- One function's. -/
def Con.one {P : Program} (f : FuncId) (g : List SV → Option (SV × Cnd)) (ok : ∀ args s c, g args = some (s, c) → c.Is → ∀ (w : World) (vs : List Value), Rs [] args vs →
    Calls P f vs.toArray w (fun e w' => ∃ v, e = .returned v ∧ R [] s v ∧ Below w.heap.size w w')) : Con P :=
  ⟨fun f' args => if f' = f then g args else none, fun f' args s c h => by
    split at h
    · rename_i e; subst e; exact ok args s c h
    · simp at h⟩
def Con.or {P : Program} (A B : Con P) : Con P :=
  ⟨fun f args => match A.g f args with | some r => some r | none => B.g f args, fun f args s c h => by
    split at h
    · rename_i r hr
      simp only [Option.some.injEq] at h; subst h
      exact A.ok f args s c hr
    · exact B.ok f args s c h⟩
def Con.nil {P : Program} : Con P := ⟨fun _ _ => none, fun _ _ _ _ h => by simp at h⟩
/-- A table of told calls. -/
def Con.told {P : Program} (T : List (Told P)) : Con P :=
  ⟨fun f args => match lookTold T f args with | some s => some (s, .tt) | none => none, fun f args s c h _ w vs hv => by
    split at h
    · rename_i s' hl
      simp only [Option.some.injEq, Prod.mk.injEq] at h
      obtain ⟨rfl, rfl⟩ := h
      obtain ⟨t, _, rfl, rfl, rfl⟩ := lookTold_ok hl
      exact t.ok w vs hv
    · simp at h⟩

/-- With contracts. -/
noncomputable def conned {P : Program} (C : Con P) : Cx :=
  ⟨P, fun f args _ => if frees args then (match C.g f args with
    | some (s, c) => if s.free then some (s, none, c) else none
    | none => none) else none, fun _ _ _ _ => none⟩
theorem conned_lp {P : Program} (C : Con P) : LpOk (conned C) := fun _ _ _ _ _ _ _ h => by simp [conned] at h
theorem conned_ct {P : Program} (C : Con P) : CtOk (conned C) := by
  intro f args hp s ho c h hc B η w vs hr hB hargs
  simp only [conned] at h
  split at h
  · rename_i hfr
    split at h
    · rename_i s' c' hl
      split at h
      · rename_i hsf
        simp only [Option.some.injEq, Prod.mk.injEq] at h
        obtain ⟨rfl, rfl, rfl⟩ := h
        refine (C.ok f args _ _ hl hc w vs (Rs.free _ _ hfr hargs)).mono fun e w' hq => ?_
        obtain ⟨v, rfl, hR, hb⟩ := hq
        exact ⟨v, [], rfl, R.free _ _ hsf hR, by simpa using hr.below hb, hb.mono hB⟩
      · simp at h
    · simp at h
  · simp at h

/-- **A call of a function, reckoned through on an empty heap: what it gives.** -/
theorem con_of {P : Program} (C : Con P) (n : Nat) {f : FuncId} {args : List SV} (ans : List Bool) {s : SV} {ho : Option (List SO)} {c : Cnd}
    (h : callR (conned C) (run (conned C) n) f args [] ans = .ok (s, ho) [] c) (hc : c.Is) (hs : s.free = true) {w : World} {vs : List Value} (hargs : Rs [] args vs) :
    Calls P f vs.toArray w (fun e w' => ∃ v, e = .returned v ∧ R [] s v ∧ Below w.heap.size w w') := by
  refine (callR_ok (conned_ct C) (run_ok (conned_ct C) (conned_lp C) n) f args [] ans _ _ _ _ h hc w.heap.size [] w vs (HR.none w) (Nat.le_refl _) hargs).2.mono fun e w' hq => ?_
  obtain ⟨v, μ, rfl, hR, _, hb⟩ := hq
  exact ⟨v, rfl, R.free _ _ hs hR, hb⟩

/-- The result, the answers used up, what is left to show; and what is owed of sameness. -/
def outc (r : Rr (SV × Option (List SO))) (s : SV) (L : List Prop) : Option (SV × List Prop × List SV) × Option (SV × List Prop × List SV) :=
  match r with
  | .ok (s', _) [] c => (some (s', c.props [], c.lefts []), some (s, L, c.rights []))
  | _ => (none, some (s, L, []))
def gives (r : Rr (SV × Option (List SO))) (s : SV) (L : List Prop) : Prop := (outc r s L).1 = (outc r s L).2
theorem con_gives {P : Program} (C : Con P) (n : Nat) {f : FuncId} {args : List SV} (ans : List Bool) {s : SV} {L : List Prop}
    (h : gives (callR (conned C) (run (conned C) n) f args [] ans) s L) (hc : AllP L) (hs : s.free = true) {w : World} {vs : List Value} (hargs : Rs [] args vs) :
    Calls P f vs.toArray w (fun e w' => ∃ v, e = .returned v ∧ R [] s v ∧ Below w.heap.size w w') := by
  unfold gives at h
  generalize hr : callR (conned C) (run (conned C) n) f args [] ans = r at h
  unfold outc at h
  split at h
  · rename_i s' ho c'
    simp only [Option.some.injEq, Prod.mk.injEq] at h
    obtain ⟨rfl, rfl, h3⟩ := h
    exact con_of C n ans hr (Cnd.is_of c' [] [] [] hc h3 rfl).1 hs hargs
  · simp at h
end Go.Ex
