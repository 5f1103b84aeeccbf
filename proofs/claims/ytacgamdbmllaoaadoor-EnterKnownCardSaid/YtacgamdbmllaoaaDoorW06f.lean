/-
  Walks of functions, reckoned through, and what they give (part W06f). No condition beyond what each says. By an AI agent.
-/
import Derived.Test.YtacgamdbmllaoaaDoorW06e
namespace Go.Proofs.YtacgamdbmllaoaaDoor
open Go.Ex
open Go.RowKit (Below)
set_option linter.unusedVariables false
set_option maxRecDepth 1000000
/-! ### taken, as a contract -/
def unw (l : List SV) : List Int := l.map fun
  | .val (.int .u32 x) => x
  | .num .u32 x => x
  | _ => 0
def wAll : List SV → Bool
  | [] => true
  | .val (.int .u32 _) :: l => wAll l
  | .num .u32 _ :: l => wAll l
  | _ => false
theorem wAll_R {η : Env} : ∀ {l : List SV} {vs : List Value}, wAll l = true → Rs η l vs → Rs [] ((unw l).map u) vs
  | [], vs, _, h => by simp only [Rs] at h; subst h; exact Rs.nil
  | x :: l, vs, hw, h => by
    obtain ⟨v, r, rfl, h1, h2⟩ := h
    unfold wAll at hw
    split at hw
    · rename_i e; cases e
    · rename_i e
      obtain ⟨rfl, rfl⟩ := List.cons.inj e
      exact Rs.cons (by simpa only [R, u] using h1) (wAll_R hw h2)
    · rename_i e
      obtain ⟨rfl, rfl⟩ := List.cons.inj e
      exact Rs.cons (by simpa only [R, u] using h1) (wAll_R hw h2)
    · cases hw
def glL : List SV := KL.map fun z => .num .u32 z
def P23 (l : List SV) (s : ByteArray) (g : Nat) (gl : List SV) : Prop := s.size = 64 ∧ l.length = 8 ∧ wAll l = true ∧ g = 0 ∧ gl = glL
noncomputable def takenG (z : List Int → ByteArray → (Nat → Int) × (Nat → Int)) (args : List SV) (hp : List SO) : Option (SV × Cnd) :=
  match args with
  | [.agg l, sv] =>
    match hp with
    | .glob g gl :: _ =>
      match sv.val? with
      | some (.string s) => some (.agg ((tkF z (unw l) s).map u), .pr (P23 l s g gl))
      | _ => none
    | _ => none
  | _ => none
theorem takenG_ok : ∀ args hp s c, takenG zL args hp = some (s, c) → c.Is → ∀ (B : Nat) (η : Env) (w : World) (vs : List Value), HR B η hp w → Rs η args vs →
    Calls Tryd.prog 77 vs.toArray w (fun e w' => ∃ v, e = .returned v ∧ R [] s v ∧ Below w.heap.size w w') := by
  intro args hp s c h hc B η w vs hr hargs
  unfold takenG at h
  split at h
  · rename_i l sv
    split at h
    · rename_i g gl r
      split at h
      · rename_i s0 hv
        simp only [Option.some.injEq, Prod.mk.injEq] at h
        obtain ⟨rfl, rfl⟩ := h
        obtain ⟨h1, h2, h3, rfl, rfl⟩ := hc
        refine call23 (unw l) (by simp [unw, h2]) s0 h1 hr (k := 0) rfl ?_
        obtain ⟨a, r, rfl, g1, g2⟩ := hargs.cons_inv
        obtain ⟨b, r2, rfl, g3, g4⟩ := g2.cons_inv
        simp only [Rs] at g4; subst g4
        have := SV.val?_R hv g3
        subst this
        obtain ⟨x, q1, q2⟩ := g1
        exact Rs.cons ⟨x, q1, wAll_R h3 q2⟩ (Rs.cons (by simp only [R]) Rs.nil)
      · simp at h
    · simp at h
  · simp at h
noncomputable def X3 (z : List Int → ByteArray → (Nat → Int) × (Nat → Int)) : Cx := ⟨Tryd.prog, fun f args hp => if f = 77 then (match takenG z args hp with | some (s, c) => some (s, none, c) | none => none) else none, fun _ _ _ _ => none⟩
theorem X3_lp (z : List Int → ByteArray → (Nat → Int) × (Nat → Int)) : LpOk (X3 z) := fun _ _ _ _ _ _ _ h => by simp [X3] at h
theorem tkF_free (z : List Int → ByteArray → (Nat → Int) × (Nat → Int)) (ini : List Int) (s : ByteArray) : (SV.agg ((tkF z ini s).map u)).free = true := by simp only [SV.free]; exact frees_u _
theorem X3_ct : CtOk (X3 zL) := by
  intro f args hp s ho c h hc B η w vs hr hB hargs
  simp only [X3] at h
  split at h
  · rename_i hf
    subst hf
    split at h
    · rename_i s1 c1 h1
      simp only [Option.some.injEq, Prod.mk.injEq] at h
      obtain ⟨rfl, rfl, rfl⟩ := h
      refine (takenG_ok args hp s1 c1 h1 hc B η w vs hr hargs).mono fun e w' hq => ?_
      obtain ⟨v, rfl, hR, hb⟩ := hq
      exact ⟨v, [], rfl, hR.ext (η := []), by simpa using hr.below hb, hb.mono hB⟩
    · simp at h
  · simp at h
end Go.Proofs.YtacgamdbmllaoaaDoor
