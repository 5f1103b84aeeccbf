/-
  Walks of functions, reckoned through, and what they give (part W06t). No condition beyond what each says. By an AI agent.
-/
import Derived.Test.YtacgamdbmllaoaaDoorW06b
namespace Go.Proofs.YtacgamdbmllaoaaDoor
open Go.Ex
open Go.RowKit (Below)
set_option linter.unusedVariables false
/-- One block alone. -/
theorem HR.single {B : Nat} {η : Env} {hp : List SO} {w : World} (h : HR B η hp w) {k : Nat} {wr : Bool} {l : List SV} (hk : hp[k]? = some (.cells wr l)) (hf : frees l = true) :
    ∃ v, η[k]? = some v ∧ ∀ B', HR B' [v] [.cells false l] w := by
  have hlt : k < η.length := by rw [h.len]; exact (List.getElem?_eq_some_iff.1 hk).1
  refine ⟨η[k], List.getElem?_eq_getElem hlt, fun B' => ⟨rfl, fun j o hj => ?_, ?_⟩⟩
  · have : j = 0 ∧ o = .cells false l := by
      cases j with
      | zero => simp at hj; exact ⟨rfl, hj.symm⟩
      | succ j => simp at hj
    obtain ⟨rfl, rfl⟩ := this
    refine ⟨fun wr' l' hro => ?_, trivial⟩
    obtain ⟨b, p, e1, e2, e3, e4⟩ := (h.blk k _ hk).1 wr l rfl
    simp only [SO.row, Option.some.injEq, Prod.mk.injEq] at hro
    obtain ⟨rfl, rfl⟩ := hro
    refine ⟨b, p, ?_, e2, (fun e => by cases e), fun i s hi => ?_⟩
    · rw [List.getElem?_eq_getElem hlt] at e1
      simpa using e1
    · obtain ⟨⟨v, v1, v2, v3⟩, v4⟩ := e4 i s hi
      have hsf : s.free = true := by
        have : ∀ (l : List SV) (i : Nat), frees l = true → l[i]? = some s → s.free = true := by
          intro l
          induction l with
          | nil => intro i _ h; simp at h
          | cons x r ih =>
            intro i hf h
            simp only [frees, Bool.and_eq_true] at hf
            cases i with
            | zero => simp at h; subst h; exact hf.1
            | succ i => exact ih i hf.2 (by simpa using h)
        exact this _ _ hf hi
      exact ⟨⟨v, v1, R.free s v hsf v2, v3⟩, fun e => by cases e⟩
  · intro k₁ k₂ s₁ s₂ l₁ wr₂ l₂ b₁ o₁ b₂ o₂ h1 r1 h2 r2 hne e1 e2
    have z : ∀ (k : Nat) (s : SO), ([SO.cells false l] : List SO)[k]? = some s → k = 0 := by
      intro k s hk
      cases k with
      | zero => rfl
      | succ k => simp at hk
    exact absurd ((z _ _ h1).trans (z _ _ h2).symm) hne
noncomputable def XN : Cx := conned (Con.nil (P := Tryd.prog))
def outH (r : Rr (SV × Option (List SO))) (s : SV) : Option (SV × List Prop × List SV) × Option (SV × List Prop × List SV) :=
  match r with
  | .ok (s', _) [] c => (some (s', c.props [], c.lefts []), some (s, [], c.rights []))
  | _ => (none, some (s, [], []))
def givesH (r : Rr (SV × Option (List SO))) (s : SV) : Prop := (outH r s).1 = (outH r s).2
theorem calls_gives {P : Program} (C : Con P) (n : Nat) {f : FuncId} {args : List SV} {hp : List SO} {s : SV} (h : givesH (callR (conned C) (run (conned C) n) f args hp []) s) (hs : s.free = true) {η : Env} {w : World} (hr : HR w.heap.size η hp w) {vs : List Value} (hargs : Rs η args vs) :
    Calls P f vs.toArray w (fun e w' => ∃ v, e = .returned v ∧ R [] s v ∧ Below w.heap.size w w') := by
  unfold givesH at h
  generalize hq : callR (conned C) (run (conned C) n) f args hp [] = r at h
  unfold outH at h
  split at h
  · rename_i s' ho c'
    simp only [Option.some.injEq, Prod.mk.injEq] at h
    obtain ⟨rfl, h2, h3⟩ := h
    have hc := (Cnd.is_of c' [] [] [] (by rw [h2]; trivial) h3 rfl).1
    refine (callR_ok (conned_ct C) (run_ok (conned_ct C) (conned_lp C) n) f args hp [] _ _ _ _ hq hc w.heap.size η w vs hr (Nat.le_refl _) hargs).2.mono fun e w' hq => ?_
    obtain ⟨v, μ, rfl, hR, _, hb⟩ := hq
    exact ⟨v, rfl, R.free _ _ hs hR, hb⟩
  · simp at h
set_option maxRecDepth 1000000 in
theorem t7 (x : Int) : givesH (callR XN (run XN 60) 85 [u x, .slc 0 0 2 2] [.cells false [.num .i64 7, .num .i64 18]] []) (u (tur2 x 7 18)) := by unfold givesH; kernel_rfl
set_option maxRecDepth 1000000 in
theorem t17 (x : Int) : givesH (callR XN (run XN 60) 85 [u x, .slc 0 0 2 2] [.cells false [.num .i64 17, .num .i64 19]] []) (u (tur2 x 17 19)) := by unfold givesH; kernel_rfl
set_option maxRecDepth 1000000 in
theorem t6 (x : Int) : givesH (callR XN (run XN 60) 85 [u x, .slc 0 0 3 3] [.cells false [.num .i64 6, .num .i64 11, .num .i64 25]] []) (u (tur3 x 6 11 25)) := by unfold givesH; kernel_rfl
set_option maxRecDepth 1000000 in
theorem t2 (x : Int) : givesH (callR XN (run XN 60) 85 [u x, .slc 0 0 3 3] [.cells false [.num .i64 2, .num .i64 13, .num .i64 22]] []) (u (tur3 x 2 13 22)) := by unfold givesH; kernel_rfl
/-- What 'turned' gives. -/
def turV (x : Int) : List SV → Option SV
  | [.num .i64 7, .num .i64 18] => some (u (tur2 x 7 18))
  | [.num .i64 17, .num .i64 19] => some (u (tur2 x 17 19))
  | [.num .i64 6, .num .i64 11, .num .i64 25] => some (u (tur3 x 6 11 25))
  | [.num .i64 2, .num .i64 13, .num .i64 22] => some (u (tur3 x 2 13 22))
  | _ => none
theorem turV_ok {x : Int} {l : List SV} {s : SV} (h : turV x l = some s) : frees l = true ∧ s.free = true ∧ givesH (callR XN (run XN 60) 85 [u x, .slc 0 0 l.length l.length] [.cells false l] []) s := by
  unfold turV at h
  split at h <;> simp only [Option.some.injEq, reduceCtorEq] at h <;> subst h
  · exact ⟨rfl, rfl, t7 x⟩
  · exact ⟨rfl, rfl, t17 x⟩
  · exact ⟨rfl, rfl, t6 x⟩
  · exact ⟨rfl, rfl, t2 x⟩
def turG (args : List SV) (hp : List SO) : Option (SV × Cnd) :=
  match args with
  | [.val (.int .u32 x), .slc k 0 n c] =>
    match hp[k]? with
    | some (.cells _ l) => if l.length = n ∧ n = c then (match turV x l with | some s => some (s, .tt) | none => none) else none
    | _ => none
  | _ => none
theorem turG_ok : ∀ args hp s c, turG args hp = some (s, c) → c.Is → ∀ (B : Nat) (η : Env) (w : World) (vs : List Value), HR B η hp w → Rs η args vs →
    Calls Tryd.prog 85 vs.toArray w (fun e w' => ∃ v, e = .returned v ∧ R [] s v ∧ Below w.heap.size w w') := by
  intro args hp s c h _ B η w vs hr hargs
  unfold turG at h
  split at h
  · rename_i x k n cc
    split at h
    · rename_i wr l hk
      split at h
      · rename_i hn
        obtain ⟨rfl, rfl⟩ := hn
        split at h
        · rename_i s' hs
          simp only [Option.some.injEq, Prod.mk.injEq] at h
          obtain ⟨rfl, _⟩ := h
          obtain ⟨g1, g2, g3⟩ := turV_ok hs
          obtain ⟨v, e1, e2⟩ := HR.single hr hk g1
          refine calls_gives _ _ g3 g2 (e2 w.heap.size) ?_
          obtain ⟨a, r, rfl, h1, h2⟩ := hargs.cons_inv
          obtain ⟨b, r2, rfl, h3, h4⟩ := h2.cons_inv
          simp only [Rs] at h4; subst h4
          refine Rs.cons (by simpa only [R, u] using h1) (Rs.cons ?_ Rs.nil)
          obtain ⟨b', o', q1, q2⟩ := h3
          rw [e1] at q1
          simp only [Option.some.injEq] at q1
          subst q1
          exact ⟨b', o', rfl, q2⟩
        · simp at h
      · simp at h
    · simp at h
  · simp at h
noncomputable def turC : Con Tryd.prog := Con.oneH 85 turG turG_ok
noncomputable def X1 : Cx := conned turC
noncomputable def roundS1 (ini : List Int) (s : ByteArray) (t : Nat) (x la : Nat → Int) (d d' : Nat → Value) : Prop :=
  givesS 7 keepS fgS (run X1 60 lb (stS ini s t x la d).tm (stS ini s t x la d).hp []) (stS ini s (t + 1) (rndF x (KL.getD t 0) (nwF s t la)) (laF s t la) d') (LS ini s t) d'
end Go.Proofs.YtacgamdbmllaoaaDoor
