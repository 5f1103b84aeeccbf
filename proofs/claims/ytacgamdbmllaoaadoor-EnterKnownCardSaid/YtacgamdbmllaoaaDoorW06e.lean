/-
  Walks of functions, reckoned through, and what they give (part W06e). No condition beyond what each says. By an AI agent.
-/
import Derived.Test.YtacgamdbmllaoaaDoorW06d
namespace Go.Proofs.YtacgamdbmllaoaaDoor
open Go.Ex
open Go.RowKit (Below)
set_option linter.unusedVariables false
set_option maxRecDepth 1000000
/-- What the rounds give, when they give z. -/
noncomputable def hpZ (z : List Int → ByteArray → (Nat → Int) × (Nat → Int)) (ini : List Int) (s : ByteArray) : List SO := (stS ini s 64 (z ini s).1 (z ini s).2 (fun _ => undef)).hp
noncomputable def zL (ini : List Int) (s : ByteArray) : (Nat → Int) × (Nat → Int) := xlA s (fn8 ini) 64
theorem hpZ_eq (ini : List Int) (s : ByteArray) : hpZ zL ini s = hpO ini s := rfl
def P35 (args : List SV) (hp hi : List SO) (ini : List Int) (s : ByteArray) : Prop := s.size = 64 ∧ ini.length = 8 ∧ args = [.hdl 6, .ptr 4 0] ∧ hp = hi
noncomputable def ct35 (z : List Int → ByteArray → (Nat → Int) × (Nat → Int)) (args : List SV) (hp : List SO) : Option (SV × Option (List SO) × Cnd) :=
  match hp with
  | .glob _ _ :: .cells _ l :: _ :: _ :: .cells _ [.val (.string s)] :: _ => some (.tup [], some (hpZ z (unu l) s), .pr (P35 args hp (hpI (unu l) s) (unu l) s))
  | _ => none
noncomputable def X2 (z : List Int → ByteArray → (Nat → Int) × (Nat → Int)) : Cx :=
  ⟨Tryd.prog, fun f args hp => if f = 88 then ct35 z args hp else X1.ct f args hp, fun _ _ _ _ => none⟩
theorem X2_lp (z : List Int → ByteArray → (Nat → Int) × (Nat → Int)) : LpOk (X2 z) := fun _ _ _ _ _ _ _ h => by simp [X2] at h
theorem X2_ct : CtOk (X2 zL) := by
  intro f args hp s ho c h hc B η w vs hr hB hargs
  simp only [X2] at h
  split at h
  · rename_i hf
    subst hf
    unfold ct35 at h
    split at h
    · simp only [Option.some.injEq, Prod.mk.injEq] at h
      obtain ⟨rfl, rfl, rfl⟩ := h
      obtain ⟨h1, h2, h3, h4⟩ := hc
      subst h3
      rw [h4] at hr
      rw [hpZ_eq]
      exact call35 _ h2 _ h1 hr hB hargs
    · simp at h
  · exact conned_ct turC f args hp s ho c h hc B η w vs hr hB hargs
/-- What a block makes of eight words. -/
noncomputable def tkF (z : List Int → ByteArray → (Nat → Int) × (Nat → Int)) (ini : List Int) (s : ByteArray) : List Int :=
  (List.range 8).map fun k => add32 ((z ini s).1 k) (ini.getD k 0)
def outL (r : Rr (SV × Option (List SO))) (s : SV) (L : List Prop) : Option (SV × List Prop × List SV) × Option (SV × List Prop × List SV) :=
  match r with
  | .ok (s', _) [] c => (some (s', c.props [], c.lefts []), some (s, L, c.rights []))
  | _ => (none, some (s, L, []))
def givesL (r : Rr (SV × Option (List SO))) (s : SV) (L : List Prop) : Prop := (outL r s L).1 = (outL r s L).2
theorem taken_gives (z : List Int → ByteArray → (Nat → Int) × (Nat → Int)) (i0 i1 i2 i3 i4 i5 i6 i7 : Int) (s : ByteArray) :
    givesL (callR (X2 z) (run (X2 z) 60) 77 [.agg ([i0, i1, i2, i3, i4, i5, i6, i7].map u), .val (.string s)] [globS] []) (.agg ((tkF z [i0, i1, i2, i3, i4, i5, i6, i7] s).map u)) [P35 [.hdl 6, .ptr 4 0] (hpI [i0, i1, i2, i3, i4, i5, i6, i7] s) (hpI [i0, i1, i2, i3, i4, i5, i6, i7] s) [i0, i1, i2, i3, i4, i5, i6, i7] s] := by
  unfold givesL; kernel_rfl
/-- A package's variable alone. -/
theorem HR.glob {B : Nat} {η : Env} {hp : List SO} {w : World} (h : HR B η hp w) {k g : Nat} {l : List SV} (hk : hp[k]? = some (.glob g l)) (hf : frees l = true) :
    ∃ v, ∀ B', HR B' [v] [.glob g l] w := by
  have hlt : k < η.length := by rw [h.len]; exact (List.getElem?_eq_some_iff.1 hk).1
  have he := List.getElem?_eq_getElem hlt
  refine ⟨η[k], fun B' => ⟨rfl, fun j o hj => ?_, ?_⟩⟩
  · have : j = 0 ∧ o = .glob g l := by
      cases j with
      | zero => simp at hj; exact ⟨rfl, hj.symm⟩
      | succ j => simp at hj
    obtain ⟨rfl, rfl⟩ := this
    have hb := h.blk k _ hk
    refine ⟨fun wr' l' hro => ?_, ?_⟩
    · obtain ⟨b, p, e1, e2, e3, e4⟩ := hb.1 false l rfl
      simp only [SO.row, Option.some.injEq, Prod.mk.injEq] at hro
      obtain ⟨rfl, rfl⟩ := hro
      refine ⟨b, p, ?_, e2, (fun e => by cases e), fun i s hi => ?_⟩
      · rw [he] at e1
        simpa using e1
      · obtain ⟨⟨v, v1, v2, v3⟩, v4⟩ := e4 i s hi
        have hsf : s.free = true := by
          have : ∀ (l : List SV) (i : Nat), frees l = true → l[i]? = some s → s.free = true := by
            intro l
            induction l with
            | nil => intro i _ h; simp at h
            | cons x r ih =>
              intro i hf h
              simp only [frees, Bool.and_eq_true] at hf
              cases i with
              | zero => simp at h; subst h; exact hf.1
              | succ i => exact ih i hf.2 (by simpa using h)
          exact this _ _ hf hi
        exact ⟨⟨v, v1, R.free s v hsf v2, v3⟩, fun e => by cases e⟩
    · have := hb.2
      simp only [OwnIs] at this ⊢
      rw [he] at this
      simpa using this
  · intro k₁ k₂ s₁ s₂ l₁ wr₂ l₂ b₁ o₁ b₂ o₂ h1 r1 h2 r2 hne e1 e2
    cases k₁ with
    | zero =>
      simp at h1; subst h1
      simp [SO.row] at r1
    | succ k => simp at h1
theorem callsL {P : Program} {X : Cx} (hX : X.P = P) (hct : CtOk X) (hlp : LpOk X) (n : Nat) {f : FuncId} {args : List SV} {hp : List SO} {s : SV} {L : List Prop} (h : givesL (callR X (run X n) f args hp []) s L) (hL : AllP L) (hs : s.free = true) {η : Env} {w : World} (hr : HR w.heap.size η hp w) {vs : List Value} (hargs : Rs η args vs) :
    Calls P f vs.toArray w (fun e w' => ∃ v, e = .returned v ∧ R [] s v ∧ Below w.heap.size w w') := by
  subst hX
  unfold givesL at h
  generalize hq : callR X (run X n) f args hp [] = r at h
  unfold outL at h
  split at h
  · rename_i s' ho c'
    simp only [Option.some.injEq, Prod.mk.injEq] at h
    obtain ⟨rfl, h2, h3⟩ := h
    have hc := (Cnd.is_of c' [] [] [] (by rw [h2]; exact hL) h3 rfl).1
    refine (callR_ok hct (run_ok hct hlp n) f args hp [] _ _ _ _ hq hc w.heap.size η w vs hr (Nat.le_refl _) hargs).2.mono fun e w' hq => ?_
    obtain ⟨v, μ, rfl, hR, _, hb⟩ := hq
    exact ⟨v, rfl, R.free _ _ hs hR, hb⟩
  · simp at h
theorem frees_u : ∀ l : List Int, frees (l.map u) = true
  | [] => rfl
  | x :: l => by simp only [List.map_cons, frees, Bool.and_eq_true]; exact ⟨rfl, frees_u l⟩
theorem call23 (ini : List Int) (hi : ini.length = 8) (s : ByteArray) (hs : s.size = 64) {B : Nat} {η : Env} {hp : List SO} {k : Nat} {w : World} {vs : List Value} (hr : HR B η hp w) (hk : hp[k]? = some globS) (hargs : Rs [] [.agg (ini.map u), .val (.string s)] vs) :
    Calls Tryd.prog 77 vs.toArray w (fun e w' => ∃ v, e = .returned v ∧ R [] (.agg ((tkF zL ini s).map u)) v ∧ Below w.heap.size w w') := by
  obtain ⟨v, hv⟩ := HR.glob hr hk (by decide)
  match ini, hi with
  | [i0, i1, i2, i3, i4, i5, i6, i7], hi =>
    exact callsL (X := X2 zL) rfl X2_ct (X2_lp _) 60 (taken_gives zL i0 i1 i2 i3 i4 i5 i6 i7 s) ⟨⟨hs, rfl, rfl, rfl⟩, trivial⟩ (by simp only [SV.free]; exact frees_u _) (hv _) (Rs.free _ _ (by simp only [frees, SV.free, Bool.and_true]; exact frees_u _) hargs)
end Go.Proofs.YtacgamdbmllaoaaDoor
