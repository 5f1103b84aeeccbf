/-
  Walks of functions, reckoned through, and what they give (part W06C). No condition beyond what each says. By an AI agent.
-/
import Derived.Test.YtgefcokanfbpbaaDoorW06A
import Derived.Test.YtgefcokanfbpbaaDoorExS
namespace Go.Proofs.YtgefcokanfbpbaaDoor
open Go.Ex
open Go.RowKit (Below)
set_option linter.unusedVariables false
set_option maxRecDepth 1000000
def finOf : Rr Fin → Fin
  | .ok f _ _ => f
  | _ => ⟨.ret, [], []⟩
def outG (r : Rr Fin) (e : XE) (L : List Prop) : Option (XE × List Prop × List SV) × Option (XE × List Prop × List SV) :=
  match r with
  | .ok f [] c => (some (f.e, c.props [], c.lefts []), some (e, L, c.rights []))
  | _ => (none, some (e, L, []))
/-- It ends so, if these hold. -/
def goodR (r : Rr Fin) (e : XE) (L : List Prop) : Prop := (outG r e L).1 = (outG r e L).2
theorem wpE_run {P : Program} {X : Cx} (hX : X.P = P) (hct : CtOk X) (hlp : LpOk X) {n n0 : Nat} {c : Code} {s : St} {e : XE} {L : List Prop} (h : goodR (run X n c s.tm s.hp []) e L) (hL : AllP L) :
    WpE P c n0 s (fun r => r.e = e ∧ r = finOf (run X n c s.tm s.hp [])) := by
  subst hX
  unfold goodR at h
  generalize hq : run X n c s.tm s.hp [] = r at h
  unfold outG at h
  split at h
  · rename_i f c'
    simp only [Option.some.injEq, Prod.mk.injEq] at h
    obtain ⟨h1, h2, h3⟩ := h
    have hc := (Cnd.is_of c' [] [] [] (by rw [h2]; exact hL) h3 rfl).1
    exact WpE.of_wp (run_ok hct hlp n c _ _ _ _ _ _ hq hc) ⟨h1, rfl⟩
  · simp at h
/-- A round, told. -/
theorem wpE_round {P : Program} {X : Cx} (hX : X.P = P) (hct : CtOk X) (hlp : LpOk X) {n n0 : Nat} {keep fg : List Nat} {c : Code} {s : St} {T : (Nat → Value) → St} {L : (Nat → Value) → List Prop} (h : ∀ d, givesS n0 keep fg (run X n c s.tm s.hp []) (T d) (L d) d) (hL : AllP (L (fun _ => undef))) :
    WpE P c n0 s (fun r => r.e = .normal ∧ WeakF n0 r.st T) := by
  subst hX
  generalize hq : run X n c s.tm s.hp [] = r at h
  unfold givesS outS at h
  split at h
  · rename_i f c'
    split at h
    · rename_i he
      simp only [Option.some.injEq, Prod.mk.injEq] at h
      have h0 := h (fun _ => undef)
      have hc := (Cnd.is_of c' [] [] [] (by rw [h0.2.2.1]; exact hL) h0.2.2.2 rfl).1
      refine WpE.of_wp (run_ok hct hlp n c _ _ _ _ _ _ hq hc) ⟨he, ?_⟩
      have e : T = cutV keep fg f.st := funext fun d => ((h d).2.1).symm
      rw [e]
      exact fun {_ _ _ _ _ _ _} hl hs => WeakF.cut h0.1 hl hs
    · have := h (fun _ => undef); simp at this
  · have := h (fun _ => undef); simp at this

/-! ### laid$1 -/
def unu (l : List SV) : List Int := l.map fun
  | .val (.int .u32 x) => x
  | _ => 0
def fn8 (l : List Int) : Nat → Int := fun k => l.getD k 0
noncomputable def xlA (s : ByteArray) (x0 : Nat → Int) : Nat → (Nat → Int) × (Nat → Int)
  | 0 => (x0, fun _ => 0)
  | t + 1 => (rndF (xlA s x0 t).1 (KL.getD t 0) (nwF s t (xlA s x0 t).2), laF s t (xlA s x0 t).2)
noncomputable def hpI (ini : List Int) (s : ByteArray) : List SO :=
  [globS, .cells true (ini.map u), .cells true (List.replicate 8 (.num .u32 0)), .cells true (ini.map u), .cells true [.val (.string s)], .fx .dfb, lopS ini s]
noncomputable def stT (ini : List Int) (s : ByteArray) (t : Nat) (d : Nat → Value) : St := stS ini s t (xlA s (fn8 ini) t).1 (xlA s (fn8 ini) t).2 d
noncomputable def hpO (ini : List Int) (s : ByteArray) : List SO := (stT ini s 64 (fun _ => undef)).hp
noncomputable def a35 : Code := cL (code 35)
noncomputable def b35 : Code := cL (cR (code 35))
def bId : Code → Nat
  | .block id _ => id
  | _ => 0
noncomputable def id35 : Nat := bId (cR (cR (code 35)))
theorem code35 : code 35 = .seq a35 (.seq b35 (.block id35 (.loop lb))) := by kernel_rfl
noncomputable def s35 (ini : List Int) (s : ByteArray) : St := ⟨[.hdl 6, .ptr 4 0] ++ List.replicate 87 (.val undef), hpI ini s⟩
theorem a35_good (i0 i1 i2 i3 i4 i5 i6 i7 : Int) (s : ByteArray) : goodR (run X1 60 a35 (s35 [i0, i1, i2, i3, i4, i5, i6, i7] s).tm (s35 [i0, i1, i2, i3, i4, i5, i6, i7] s).hp []) .normal [] := by
  unfold goodR; kernel_rfl
noncomputable def s35b (ini : List Int) (s : ByteArray) : St := (finOf (run X1 60 a35 (s35 ini s).tm (s35 ini s).hp [])).st
/-- As it stands at first. -/
noncomputable def stN (ini : List Int) (s : ByteArray) (d : Nat → Value) : St := ⟨tmS 0 d, hpI ini s ++ [.cells true (List.replicate 16 (.num .u32 0))]⟩
theorem b35_gives (i0 i1 i2 i3 i4 i5 i6 i7 : Int) (s : ByteArray) (d : Nat → Value) : givesS 7 keepS fgS (run X1 60 b35 (s35b [i0, i1, i2, i3, i4, i5, i6, i7] s).tm (s35b [i0, i1, i2, i3, i4, i5, i6, i7] s).hp []) (stN [i0, i1, i2, i3, i4, i5, i6, i7] s d) [] d := by
  unfold givesS; kernel_rfl
theorem weakF_trans {n0 : Nat} {s : St} {T U : (Nat → Value) → St} (h : WeakF n0 s T) (k : ∀ d, Weak n0 (T d) (U d)) : WeakF n0 s U := fun {_ _ _ _ _ _ _} hn hs => by
  obtain ⟨d, μ', h'⟩ := h hn hs
  obtain ⟨μ'', h''⟩ := k d hn h'
  exact ⟨d, μ'', h''⟩
theorem wpE_weakF {P : Program} {c : Code} {n0 : Nat} {s : St} {T : (Nat → Value) → St} {F : Fin → Prop} (hw : WeakF n0 s T) (h : ∀ d, WpE P c n0 (T d) F) : WpE P c n0 s F :=
  fun ro ds B w₀ η μ a w hn hs Q hQ => by
    obtain ⟨d, μ', hs'⟩ := hw hn hs
    exact h d ro ds B w₀ η μ' a w hn hs' Q hQ
/-- Cells, said otherwise. -/
theorem weak_cells {n0 : Nat} {tm : List SV} {hp : List SO} {k : Nat} {wr : Bool} {l l' : List SV} (hk : hp[k]? = some (.cells wr l)) (hl : l'.length = l.length) (hR : ∀ (i : Nat) (s s' : SV), l[i]? = some s → l'[i]? = some s' → ∀ (η : Env) (v : Value), R η s v → R η s' v) :
    Weak n0 ⟨tm, hp⟩ ⟨tm, hp.set k (.cells wr l')⟩ := by
  intro ds B w₀ η μ a w hn hs
  have hlt : k < hp.length := (List.getElem?_eq_some_iff.1 hk).1
  have get : ∀ (j : Nat) (o : SO), (hp.set k (.cells wr l'))[j]? = some o → (j = k ∧ o = .cells wr l') ∨ (j ≠ k ∧ hp[j]? = some o) := by
    intro j o h
    by_cases e : j = k
    · subst e
      rw [List.getElem?_set_self hlt] at h
      exact .inl ⟨rfl, (Option.some.inj h).symm⟩
    · rw [List.getElem?_set_ne (Ne.symm e)] at h
      exact .inr ⟨e, h⟩
  have row : ∀ (j : Nat) (o : SO) (w1 : Bool) (l1 : List SV), (hp.set k (.cells wr l'))[j]? = some o → o.row = some (w1, l1) → ∃ o' l2, hp[j]? = some o' ∧ o'.row = some (w1, l2) := by
    intro j o w1 l1 h hr
    rcases get j o h with ⟨rfl, rfl⟩ | ⟨_, h'⟩
    · simp only [SO.row, Option.some.injEq, Prod.mk.injEq] at hr
      obtain ⟨rfl, rfl⟩ := hr
      exact ⟨_, _, hk, rfl⟩
    · exact ⟨_, _, h', hr⟩
  refine ⟨μ, hs.tm, hs.df, ⟨by rw [hs.hr.len]; simp, fun j o hj => ?_, ?_⟩, hs.below, hs.hB⟩
  · rcases get j o hj with ⟨rfl, rfl⟩ | ⟨_, h'⟩
    · refine ⟨fun wr' l1 hro => ?_, trivial⟩
      simp only [SO.row, Option.some.injEq, Prod.mk.injEq] at hro
      obtain ⟨rfl, rfl⟩ := hro
      obtain ⟨b, p, e1, e2, e3, e4⟩ := (hs.hr.blk j _ hk).1 wr l rfl
      refine ⟨b, p, e1, e2, e3, fun i s hi => ?_⟩
      have hlt2 : i < l.length := by rw [← hl]; exact (List.getElem?_eq_some_iff.1 hi).1
      have h0 := List.getElem?_eq_getElem hlt2
      obtain ⟨⟨v, v1, v2, v3⟩, v4⟩ := e4 i _ h0
      exact ⟨⟨v, v1, hR i _ _ h0 hi _ _ v2, v3⟩, v4⟩
    · exact hs.hr.blk j o h'
  · intro k₁ k₂ s₁ s₂ l₁ wr₂ l₂ b₁ o₁ b₂ o₂ h1 r1 h2 r2 hne e1 e2
    obtain ⟨p1, m1, q1, t1⟩ := row _ _ _ _ h1 r1
    obtain ⟨p2, m2, q2, t2⟩ := row _ _ _ _ h2 r2
    exact hs.hr.apart k₁ k₂ p1 p2 m1 wr₂ m2 b₁ o₁ b₂ o₂ q1 t1 q2 t2 hne e1 e2
theorem stN_weak (i0 i1 i2 i3 i4 i5 i6 i7 : Int) (s : ByteArray) (d : Nat → Value) : Weak 7 (stN [i0, i1, i2, i3, i4, i5, i6, i7] s d) (stT [i0, i1, i2, i3, i4, i5, i6, i7] s 0 d) := by
  refine weak_cells (k := 7) (wr := true) (l := List.replicate 16 (.num .u32 0)) (l' := List.replicate 16 (u 0)) rfl rfl fun i s s' h1 h2 η v hR => ?_
  rw [List.getElem?_replicate] at h1 h2
  split at h1
  · simp only [Option.some.injEq] at h1
    rename_i hi
    rw [if_pos hi] at h2
    simp only [Option.some.injEq] at h2
    subst h1; subst h2
    simpa only [R, u] using hR
  · simp at h1
theorem lb_end (i0 i1 i2 i3 i4 i5 i6 i7 : Int) (s : ByteArray) (d : Nat → Value) : goodR (run X1 60 lb (stT [i0, i1, i2, i3, i4, i5, i6, i7] s 64 d).tm (stT [i0, i1, i2, i3, i4, i5, i6, i7] s 64 d).hp []) (.exit id35) [] := by
  unfold goodR; kernel_rfl
theorem lb_end_hp (i0 i1 i2 i3 i4 i5 i6 i7 : Int) (s : ByteArray) (d : Nat → Value) : (finOf (run X1 60 lb (stT [i0, i1, i2, i3, i4, i5, i6, i7] s 64 d).tm (stT [i0, i1, i2, i3, i4, i5, i6, i7] s 64 d).hp [])).hp = hpO [i0, i1, i2, i3, i4, i5, i6, i7] s := by
  kernel_rfl
/-! ### contracts, put together; a call at the top -/
abbrev Raw := FuncId → List SV → List SO → Option (SV × Cnd)
def Raw.Ok (g : Raw) : Prop := ∀ f args hp s c, g f args hp = some (s, c) → c.Is → ∀ (B : Nat) (η : Env) (w : World) (vs : List Value), HR B η hp w → Rs η args vs →
    Calls Tryd.prog f vs.toArray w (fun e w' => ∃ v, e = .returned v ∧ R [] s v ∧ Below w.heap.size w w')
/-- The result of a run at the top. -/
def outV (r : Rr (SV × Option (List SO))) (s : SV) (L : List Prop) : Option (SV × List Prop × List SV) × Option (SV × List Prop × List SV) :=
  match r with
  | .ok (s', _) [] c => (some (s', c.props [], c.lefts []), some (s, L, c.rights []))
  | _ => (none, some (s, L, []))
def givesV (r : Rr (SV × Option (List SO))) (s : SV) (L : List Prop) : Prop := (outV r s L).1 = (outV r s L).2
theorem callsV {P : Program} {X : Cx} (hX : X.P = P) (hct : CtOk X) (hlp : LpOk X) (n : Nat) {f : FuncId} {args : List SV} {hp : List SO} {ans : List Bool} {s : SV} {L : List Prop} (h : givesV (topR X (run X n) f args hp ans) s L) (hL : AllP L) (hs : s.free = true) {η : Env} {w : World} (hr : HR w.heap.size η hp w) {vs : List Value} (hargs : Rs η args vs) :
    Calls P f vs.toArray w (fun e w' => ∃ v, e = .returned v ∧ R [] s v ∧ Below w.heap.size w w') := by
  subst hX
  unfold givesV at h
  generalize hq : topR X (run X n) f args hp ans = r at h
  unfold outV at h
  split at h
  · rename_i s' ho c'
    simp only [Option.some.injEq, Prod.mk.injEq] at h
    obtain ⟨rfl, h2, h3⟩ := h
    have hc := (Cnd.is_of c' [] [] [] (by rw [h2]; exact hL) h3 rfl).1
    refine (topR_ok hct hlp n hq hc hr (Nat.le_refl _) hargs).mono fun e w' hq => ?_
    obtain ⟨v, μ, rfl, hR, _, hb⟩ := hq
    exact ⟨v, rfl, R.free _ _ hs hR, hb⟩
  · simp at h
abbrev noG : Raw := fun _ _ _ => none
theorem noG_ok : Raw.Ok noG := fun _ _ _ _ _ h => by simp at h
def Raw.or (a b : Raw) : Raw := fun f args hp => match a f args hp with | some r => some r | none => b f args hp
theorem Raw.or_ok {a b : Raw} (ha : a.Ok) (hb : b.Ok) : (a.or b).Ok := by
  intro f args hp s c h
  unfold Raw.or at h
  split at h
  · rename_i r hr
    simp only [Option.some.injEq] at h; subst h
    exact ha f args hp s c hr
  · exact hb f args hp s c h
end Go.Proofs.YtgefcokanfbpbaaDoor
