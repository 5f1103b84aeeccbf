/-
  Walks of functions, reckoned through, and what they give (part W06D). No condition beyond what each says. By an AI agent.
-/
import Derived.Test.YtgefcokanfbpbaaDoorW06r0
import Derived.Test.YtgefcokanfbpbaaDoorW06r1
import Derived.Test.YtgefcokanfbpbaaDoorW06r2
import Derived.Test.YtgefcokanfbpbaaDoorW06r3
import Derived.Test.YtgefcokanfbpbaaDoorW06r4
import Derived.Test.YtgefcokanfbpbaaDoorW06r5
import Derived.Test.YtgefcokanfbpbaaDoorW06r6
import Derived.Test.YtgefcokanfbpbaaDoorW06r7
import Derived.Test.YtgefcokanfbpbaaDoorW06C
import Derived.Test.YtgefcokanfbpbaaDoorExS
namespace Go.Proofs.YtgefcokanfbpbaaDoor
open Go.Ex
open Go.RowKit (Below)
set_option linter.unusedVariables false
set_option maxRecDepth 1000000
theorem round_t (i0 i1 i2 i3 i4 i5 i6 i7 : Int) (s : ByteArray) (x la : Nat → Int) (d d' : Nat → Value) : ∀ t : Nat, t < 64 → roundS1 [i0, i1, i2, i3, i4, i5, i6, i7] s t x la d d'
  | 0, _ => round_0 _ _ _ _ _ _ _ _ _ _ _ _ _
  | 1, _ => round_1 _ _ _ _ _ _ _ _ _ _ _ _ _
  | 2, _ => round_2 _ _ _ _ _ _ _ _ _ _ _ _ _
  | 3, _ => round_3 _ _ _ _ _ _ _ _ _ _ _ _ _
  | 4, _ => round_4 _ _ _ _ _ _ _ _ _ _ _ _ _
  | 5, _ => round_5 _ _ _ _ _ _ _ _ _ _ _ _ _
  | 6, _ => round_6 _ _ _ _ _ _ _ _ _ _ _ _ _
  | 7, _ => round_7 _ _ _ _ _ _ _ _ _ _ _ _ _
  | 8, _ => round_8 _ _ _ _ _ _ _ _ _ _ _ _ _
  | 9, _ => round_9 _ _ _ _ _ _ _ _ _ _ _ _ _
  | 10, _ => round_10 _ _ _ _ _ _ _ _ _ _ _ _ _
  | 11, _ => round_11 _ _ _ _ _ _ _ _ _ _ _ _ _
  | 12, _ => round_12 _ _ _ _ _ _ _ _ _ _ _ _ _
  | 13, _ => round_13 _ _ _ _ _ _ _ _ _ _ _ _ _
  | 14, _ => round_14 _ _ _ _ _ _ _ _ _ _ _ _ _
  | 15, _ => round_15 _ _ _ _ _ _ _ _ _ _ _ _ _
  | 16, _ => round_16 _ _ _ _ _ _ _ _ _ _ _ _ _
  | 17, _ => round_17 _ _ _ _ _ _ _ _ _ _ _ _ _
  | 18, _ => round_18 _ _ _ _ _ _ _ _ _ _ _ _ _
  | 19, _ => round_19 _ _ _ _ _ _ _ _ _ _ _ _ _
  | 20, _ => round_20 _ _ _ _ _ _ _ _ _ _ _ _ _
  | 21, _ => round_21 _ _ _ _ _ _ _ _ _ _ _ _ _
  | 22, _ => round_22 _ _ _ _ _ _ _ _ _ _ _ _ _
  | 23, _ => round_23 _ _ _ _ _ _ _ _ _ _ _ _ _
  | 24, _ => round_24 _ _ _ _ _ _ _ _ _ _ _ _ _
  | 25, _ => round_25 _ _ _ _ _ _ _ _ _ _ _ _ _
  | 26, _ => round_26 _ _ _ _ _ _ _ _ _ _ _ _ _
  | 27, _ => round_27 _ _ _ _ _ _ _ _ _ _ _ _ _
  | 28, _ => round_28 _ _ _ _ _ _ _ _ _ _ _ _ _
  | 29, _ => round_29 _ _ _ _ _ _ _ _ _ _ _ _ _
  | 30, _ => round_30 _ _ _ _ _ _ _ _ _ _ _ _ _
  | 31, _ => round_31 _ _ _ _ _ _ _ _ _ _ _ _ _
  | 32, _ => round_32 _ _ _ _ _ _ _ _ _ _ _ _ _
  | 33, _ => round_33 _ _ _ _ _ _ _ _ _ _ _ _ _
  | 34, _ => round_34 _ _ _ _ _ _ _ _ _ _ _ _ _
  | 35, _ => round_35 _ _ _ _ _ _ _ _ _ _ _ _ _
  | 36, _ => round_36 _ _ _ _ _ _ _ _ _ _ _ _ _
  | 37, _ => round_37 _ _ _ _ _ _ _ _ _ _ _ _ _
  | 38, _ => round_38 _ _ _ _ _ _ _ _ _ _ _ _ _
  | 39, _ => round_39 _ _ _ _ _ _ _ _ _ _ _ _ _
  | 40, _ => round_40 _ _ _ _ _ _ _ _ _ _ _ _ _
  | 41, _ => round_41 _ _ _ _ _ _ _ _ _ _ _ _ _
  | 42, _ => round_42 _ _ _ _ _ _ _ _ _ _ _ _ _
  | 43, _ => round_43 _ _ _ _ _ _ _ _ _ _ _ _ _
  | 44, _ => round_44 _ _ _ _ _ _ _ _ _ _ _ _ _
  | 45, _ => round_45 _ _ _ _ _ _ _ _ _ _ _ _ _
  | 46, _ => round_46 _ _ _ _ _ _ _ _ _ _ _ _ _
  | 47, _ => round_47 _ _ _ _ _ _ _ _ _ _ _ _ _
  | 48, _ => round_48 _ _ _ _ _ _ _ _ _ _ _ _ _
  | 49, _ => round_49 _ _ _ _ _ _ _ _ _ _ _ _ _
  | 50, _ => round_50 _ _ _ _ _ _ _ _ _ _ _ _ _
  | 51, _ => round_51 _ _ _ _ _ _ _ _ _ _ _ _ _
  | 52, _ => round_52 _ _ _ _ _ _ _ _ _ _ _ _ _
  | 53, _ => round_53 _ _ _ _ _ _ _ _ _ _ _ _ _
  | 54, _ => round_54 _ _ _ _ _ _ _ _ _ _ _ _ _
  | 55, _ => round_55 _ _ _ _ _ _ _ _ _ _ _ _ _
  | 56, _ => round_56 _ _ _ _ _ _ _ _ _ _ _ _ _
  | 57, _ => round_57 _ _ _ _ _ _ _ _ _ _ _ _ _
  | 58, _ => round_58 _ _ _ _ _ _ _ _ _ _ _ _ _
  | 59, _ => round_59 _ _ _ _ _ _ _ _ _ _ _ _ _
  | 60, _ => round_60 _ _ _ _ _ _ _ _ _ _ _ _ _
  | 61, _ => round_61 _ _ _ _ _ _ _ _ _ _ _ _ _
  | 62, _ => round_62 _ _ _ _ _ _ _ _ _ _ _ _ _
  | 63, _ => round_63 _ _ _ _ _ _ _ _ _ _ _ _ _
  | t + 64, h => absurd h (by omega)
theorem allP_rep {p : Prop} (hp : p) {r : List Prop} (hr : AllP r) : ∀ n : Nat, AllP (List.replicate n p ++ r)
  | 0 => hr
  | n + 1 => ⟨hp, allP_rep hp hr n⟩
theorem LS_all (ini : List Int) (s : ByteArray) (hs : s.size = 64) (t : Nat) (ht : t < 64) : AllP (LS ini s t) := by
  unfold LS
  split
  · exact ⟨⟨by omega, by omega⟩, rfl, rfl, trivial⟩
  · exact allP_rep (fxE_t _) (r := [_, _]) ⟨fxE_t _, fxE_t _, trivial⟩ 6
noncomputable def fn35 : Func := (Tryd.prog.funcs[35]?).getD default
theorem fn35_at : Tryd.prog.funcs[35]? = some fn35 := by kernel_rfl
theorem fn35_body : fn35.body = some (code 35) := by kernel_rfl
theorem fn35_res (tm : List SV) (hp : List SO) : resultsS Tryd.prog fn35 tm hp = some (.tup []) := by kernel_rfl
theorem fn35_tm (ini : List Int) (s : ByteArray) : (⟨[.hdl 6, .ptr 4 0] ++ List.replicate (fn35.ntmps - 2) (.val undef), hpI ini s⟩ : St) = s35 ini s := by kernel_rfl
theorem loop35 (i0 i1 i2 i3 i4 i5 i6 i7 : Int) (s : ByteArray) (hs : s.size = 64) (d : Nat → Value) :
    WpE Tryd.prog (.loop lb) 7 (stT [i0, i1, i2, i3, i4, i5, i6, i7] s 0 d) (fun r => r.e = .exit id35 ∧ r.hp = hpO [i0, i1, i2, i3, i4, i5, i6, i7] s) := by
  refine WpE.loopF (γ := {t : Nat // t ≤ 64} × (Nat → Value)) (S := fun g => stT [i0, i1, i2, i3, i4, i5, i6, i7] s g.1.1 g.2) (m := fun g => 64 - g.1.1) (fun g => ?_) (⟨0, Nat.zero_le _⟩, d)
  obtain ⟨⟨t, ht⟩, d⟩ := g
  by_cases h : t < 64
  · refine (wpE_round (X := X1) rfl (conned_ct turC) (conned_lp turC) (n := 60) (keep := keepS) (fg := fgS) (T := fun d' => stT [i0, i1, i2, i3, i4, i5, i6, i7] s (t + 1) d') (L := fun _ => LS [i0, i1, i2, i3, i4, i5, i6, i7] s t)
      (fun d' => round_t i0 i1 i2 i3 i4 i5 i6 i7 s _ _ d d' t h) (LS_all _ s hs t h)).mono fun r hr => .inl ⟨hr.1, _, hr.2, fun d' => ⟨(⟨t + 1, h⟩, d'), ?_, rfl⟩⟩
    show 64 - (t + 1) < 64 - t
    omega
  · have e : t = 64 := by omega
    subst e
    refine (wpE_run (X := X1) rfl (conned_ct turC) (conned_lp turC) (n0 := 7) (s := stT [i0, i1, i2, i3, i4, i5, i6, i7] s 64 d) (lb_end i0 i1 i2 i3 i4 i5 i6 i7 s d) trivial).mono fun r hr => .inr ⟨by rw [hr.1]; exact (fun e => by cases e), hr.1, ?_⟩
    rw [hr.2]
    exact lb_end_hp i0 i1 i2 i3 i4 i5 i6 i7 s d
theorem body35 (i0 i1 i2 i3 i4 i5 i6 i7 : Int) (s : ByteArray) (hs : s.size = 64) :
    WpE Tryd.prog (code 35) 7 (s35 [i0, i1, i2, i3, i4, i5, i6, i7] s) (fun r => r.e = .normal ∧ r.hp = hpO [i0, i1, i2, i3, i4, i5, i6, i7] s) := by
  rw [code35]
  refine WpE.seq (wpE_run (X := X1) rfl (conned_ct turC) (conned_lp turC) (a35_good i0 i1 i2 i3 i4 i5 i6 i7 s) trivial) (fun r hr hn => ?_) (fun r hr hne => absurd hr.1 hne)
  obtain ⟨_, rfl⟩ := hr
  refine WpE.seq (wpE_round (X := X1) rfl (conned_ct turC) (conned_lp turC) (s := s35b [i0, i1, i2, i3, i4, i5, i6, i7] s) (L := fun _ => []) (b35_gives i0 i1 i2 i3 i4 i5 i6 i7 s) trivial) (fun r hr hn => ?_) (fun r hr hne => absurd hr.1 hne)
  refine wpE_weakF hr.2 fun d => WpE.weak (stN_weak i0 i1 i2 i3 i4 i5 i6 i7 s d) (WpE.block (loop35 i0 i1 i2 i3 i4 i5 i6 i7 s hs d) fun r hr => ?_)
  obtain ⟨h1, h2⟩ := hr
  unfold Fin.unblock
  rw [h1]
  simp only [if_true]
  exact ⟨trivial, h2⟩
theorem call35 (ini : List Int) (hi : ini.length = 8) (s : ByteArray) (hs : s.size = 64) {B : Nat} {η : Env} {w : World} {vs : List Value} (hr : HR B η (hpI ini s) w) (hB : B ≤ w.heap.size) (hargs : Rs η [.hdl 6, .ptr 4 0] vs) :
    Calls Tryd.prog 35 vs.toArray w (fun e w' => ∃ v μ, e = .returned v ∧ R (η ++ μ) (.tup []) v ∧ HR B (η ++ μ) (hpO ini s) w' ∧ Below B w w') := by
  match ini, hi with
  | [i0, i1, i2, i3, i4, i5, i6, i7], _ =>
    have hb := body35 i0 i1 i2 i3 i4 i5 i6 i7 s hs
    rw [← fn35_tm] at hb
    refine (calls_of_wpE fn35_at fn35_body (args := [.hdl 6, .ptr 4 0]) (hp := hpI [i0, i1, i2, i3, i4, i5, i6, i7] s) (F := fun r => r.e = .normal ∧ r.hp = hpO [i0, i1, i2, i3, i4, i5, i6, i7] s) (G := fun s' hp' => s' = .tup [] ∧ hp' = hpO [i0, i1, i2, i3, i4, i5, i6, i7] s) hb (fun r hr => ⟨.inl hr.1, _, fn35_res _ _, rfl, hr.2⟩) hr hB hargs).mono fun e w' hq => ?_
    obtain ⟨v, μ, s', hp', e1, e2, e3, e4, rfl, rfl⟩ := hq
    exact ⟨v, μ, e1, e2, e3, e4⟩
/-- What the rounds give, when they give z. -/
noncomputable def hpZ (z : List Int → ByteArray → (Nat → Int) × (Nat → Int)) (ini : List Int) (s : ByteArray) : List SO := (stS ini s 64 (z ini s).1 (z ini s).2 (fun _ => undef)).hp
noncomputable def zL (ini : List Int) (s : ByteArray) : (Nat → Int) × (Nat → Int) := xlA s (fn8 ini) 64
theorem hpZ_eq (ini : List Int) (s : ByteArray) : hpZ zL ini s = hpO ini s := rfl
def P35 (args : List SV) (hp hi : List SO) (ini : List Int) (s : ByteArray) : Prop := s.size = 64 ∧ ini.length = 8 ∧ args = [.hdl 6, .ptr 4 0] ∧ hp = hi
noncomputable def ct35 (z : List Int → ByteArray → (Nat → Int) × (Nat → Int)) (args : List SV) (hp : List SO) : Option (SV × Option (List SO) × Cnd) :=
  match hp with
  | .glob _ _ :: .cells _ l :: _ :: _ :: .cells _ [.val (.string s)] :: _ => some (.tup [], some (hpZ z (unu l) s), .pr (P35 args hp (hpI (unu l) s) (unu l) s))
  | _ => none
noncomputable def X2 (z : List Int → ByteArray → (Nat → Int) × (Nat → Int)) : Cx :=
  ⟨Tryd.prog, fun f args hp => if f = 35 then ct35 z args hp else X1.ct f args hp, fun _ _ _ _ => none⟩
theorem X2_lp (z : List Int → ByteArray → (Nat → Int) × (Nat → Int)) : LpOk (X2 z) := fun _ _ _ _ _ _ _ h => by simp [X2] at h
theorem X2_ct : CtOk (X2 zL) := by
  intro f args hp s ho c h hc B η w vs hr hB hargs
  simp only [X2] at h
  split at h
  · rename_i hf
    subst hf
    unfold ct35 at h
    split at h
    · simp only [Option.some.injEq, Prod.mk.injEq] at h
      obtain ⟨rfl, rfl, rfl⟩ := h
      obtain ⟨h1, h2, h3, h4⟩ := hc
      subst h3
      rw [h4] at hr
      rw [hpZ_eq]
      exact call35 _ h2 _ h1 hr hB hargs
    · simp at h
  · exact conned_ct turC f args hp s ho c h hc B η w vs hr hB hargs
/-- What a block makes of eight words. -/
noncomputable def tkF (z : List Int → ByteArray → (Nat → Int) × (Nat → Int)) (ini : List Int) (s : ByteArray) : List Int :=
  (List.range 8).map fun k => add32 ((z ini s).1 k) (ini.getD k 0)
def outL (r : Rr (SV × Option (List SO))) (s : SV) (L : List Prop) : Option (SV × List Prop × List SV) × Option (SV × List Prop × List SV) :=
  match r with
  | .ok (s', _) [] c => (some (s', c.props [], c.lefts []), some (s, L, c.rights []))
  | _ => (none, some (s, L, []))
def givesL (r : Rr (SV × Option (List SO))) (s : SV) (L : List Prop) : Prop := (outL r s L).1 = (outL r s L).2
theorem taken_gives (z : List Int → ByteArray → (Nat → Int) × (Nat → Int)) (i0 i1 i2 i3 i4 i5 i6 i7 : Int) (s : ByteArray) :
    givesL (callR (X2 z) (run (X2 z) 60) 23 [.agg ([i0, i1, i2, i3, i4, i5, i6, i7].map u), .val (.string s)] [globS] []) (.agg ((tkF z [i0, i1, i2, i3, i4, i5, i6, i7] s).map u)) [P35 [.hdl 6, .ptr 4 0] (hpI [i0, i1, i2, i3, i4, i5, i6, i7] s) (hpI [i0, i1, i2, i3, i4, i5, i6, i7] s) [i0, i1, i2, i3, i4, i5, i6, i7] s] := by
  unfold givesL; kernel_rfl
/-- A package's variable alone. -/
theorem HR.glob {B : Nat} {η : Env} {hp : List SO} {w : World} (h : HR B η hp w) {k g : Nat} {l : List SV} (hk : hp[k]? = some (.glob g l)) (hf : frees l = true) :
    ∃ v, ∀ B', HR B' [v] [.glob g l] w := by
  have hlt : k < η.length := by rw [h.len]; exact (List.getElem?_eq_some_iff.1 hk).1
  have he := List.getElem?_eq_getElem hlt
  refine ⟨η[k], fun B' => ⟨rfl, fun j o hj => ?_, ?_⟩⟩
  · have : j = 0 ∧ o = .glob g l := by
      cases j with
      | zero => simp at hj; exact ⟨rfl, hj.symm⟩
      | succ j => simp at hj
    obtain ⟨rfl, rfl⟩ := this
    have hb := h.blk k _ hk
    refine ⟨fun wr' l' hro => ?_, ?_⟩
    · obtain ⟨b, p, e1, e2, e3, e4⟩ := hb.1 false l rfl
      simp only [SO.row, Option.some.injEq, Prod.mk.injEq] at hro
      obtain ⟨rfl, rfl⟩ := hro
      refine ⟨b, p, ?_, e2, (fun e => by cases e), fun i s hi => ?_⟩
      · rw [he] at e1
        simpa using e1
      · obtain ⟨⟨v, v1, v2, v3⟩, v4⟩ := e4 i s hi
        have hsf : s.free = true := by
          have : ∀ (l : List SV) (i : Nat), frees l = true → l[i]? = some s → s.free = true := by
            intro l
            induction l with
            | nil => intro i _ h; simp at h
            | cons x r ih =>
              intro i hf h
              simp only [frees, Bool.and_eq_true] at hf
              cases i with
              | zero => simp at h; subst h; exact hf.1
              | succ i => exact ih i hf.2 (by simpa using h)
          exact this _ _ hf hi
        exact ⟨⟨v, v1, R.free s v hsf v2, v3⟩, fun e => by cases e⟩
    · have := hb.2
      simp only [OwnIs] at this ⊢
      rw [he] at this
      simpa using this
  · intro k₁ k₂ s₁ s₂ l₁ wr₂ l₂ b₁ o₁ b₂ o₂ h1 r1 h2 r2 hne e1 e2
    cases k₁ with
    | zero =>
      simp at h1; subst h1
      simp [SO.row] at r1
    | succ k => simp at h1
theorem callsL {P : Program} {X : Cx} (hX : X.P = P) (hct : CtOk X) (hlp : LpOk X) (n : Nat) {f : FuncId} {args : List SV} {hp : List SO} {s : SV} {L : List Prop} (h : givesL (callR X (run X n) f args hp []) s L) (hL : AllP L) (hs : s.free = true) {η : Env} {w : World} (hr : HR w.heap.size η hp w) {vs : List Value} (hargs : Rs η args vs) :
    Calls P f vs.toArray w (fun e w' => ∃ v, e = .returned v ∧ R [] s v ∧ Below w.heap.size w w') := by
  subst hX
  unfold givesL at h
  generalize hq : callR X (run X n) f args hp [] = r at h
  unfold outL at h
  split at h
  · rename_i s' ho c'
    simp only [Option.some.injEq, Prod.mk.injEq] at h
    obtain ⟨rfl, h2, h3⟩ := h
    have hc := (Cnd.is_of c' [] [] [] (by rw [h2]; exact hL) h3 rfl).1
    refine (callR_ok hct (run_ok hct hlp n) f args hp [] _ _ _ _ hq hc w.heap.size η w vs hr (Nat.le_refl _) hargs).2.mono fun e w' hq => ?_
    obtain ⟨v, μ, rfl, hR, _, hb⟩ := hq
    exact ⟨v, rfl, R.free _ _ hs hR, hb⟩
  · simp at h
theorem frees_u : ∀ l : List Int, frees (l.map u) = true
  | [] => rfl
  | x :: l => by simp only [List.map_cons, frees, Bool.and_eq_true]; exact ⟨rfl, frees_u l⟩
theorem call23 (ini : List Int) (hi : ini.length = 8) (s : ByteArray) (hs : s.size = 64) {B : Nat} {η : Env} {hp : List SO} {k : Nat} {w : World} {vs : List Value} (hr : HR B η hp w) (hk : hp[k]? = some globS) (hargs : Rs [] [.agg (ini.map u), .val (.string s)] vs) :
    Calls Tryd.prog 23 vs.toArray w (fun e w' => ∃ v, e = .returned v ∧ R [] (.agg ((tkF zL ini s).map u)) v ∧ Below w.heap.size w w') := by
  obtain ⟨v, hv⟩ := HR.glob hr hk (by decide)
  match ini, hi with
  | [i0, i1, i2, i3, i4, i5, i6, i7], hi =>
    exact callsL (X := X2 zL) rfl X2_ct (X2_lp _) 60 (taken_gives zL i0 i1 i2 i3 i4 i5 i6 i7 s) ⟨⟨hs, rfl, rfl, rfl⟩, trivial⟩ (by simp only [SV.free]; exact frees_u _) (hv _) (Rs.free _ _ (by simp only [frees, SV.free, Bool.and_true]; exact frees_u _) hargs)
/-! ### taken, as a contract -/
def unw (l : List SV) : List Int := l.map fun
  | .val (.int .u32 x) => x
  | .num .u32 x => x
  | _ => 0
def wAll : List SV → Bool
  | [] => true
  | .val (.int .u32 _) :: l => wAll l
  | .num .u32 _ :: l => wAll l
  | _ => false
theorem wAll_R {η : Env} : ∀ {l : List SV} {vs : List Value}, wAll l = true → Rs η l vs → Rs [] ((unw l).map u) vs
  | [], vs, _, h => by simp only [Rs] at h; subst h; exact Rs.nil
  | x :: l, vs, hw, h => by
    obtain ⟨v, r, rfl, h1, h2⟩ := h
    unfold wAll at hw
    split at hw
    · rename_i e; cases e
    · rename_i e
      obtain ⟨rfl, rfl⟩ := List.cons.inj e
      exact Rs.cons (by simpa only [R, u] using h1) (wAll_R hw h2)
    · rename_i e
      obtain ⟨rfl, rfl⟩ := List.cons.inj e
      exact Rs.cons (by simpa only [R, u] using h1) (wAll_R hw h2)
    · cases hw
def glL : List SV := KL.map fun z => .num .u32 z
def P23 (l : List SV) (s : ByteArray) (g : Nat) (gl : List SV) : Prop := s.size = 64 ∧ l.length = 8 ∧ wAll l = true ∧ g = 0 ∧ gl = glL
noncomputable def takenG (z : List Int → ByteArray → (Nat → Int) × (Nat → Int)) (args : List SV) (hp : List SO) : Option (SV × Cnd) :=
  match args with
  | [.agg l, sv] =>
    match hp with
    | .glob g gl :: _ =>
      match sv.val? with
      | some (.string s) => some (.agg ((tkF z (unw l) s).map u), .pr (P23 l s g gl))
      | _ => none
    | _ => none
  | _ => none
theorem takenG_ok : ∀ args hp s c, takenG zL args hp = some (s, c) → c.Is → ∀ (B : Nat) (η : Env) (w : World) (vs : List Value), HR B η hp w → Rs η args vs →
    Calls Tryd.prog 23 vs.toArray w (fun e w' => ∃ v, e = .returned v ∧ R [] s v ∧ Below w.heap.size w w') := by
  intro args hp s c h hc B η w vs hr hargs
  unfold takenG at h
  split at h
  · rename_i l sv
    split at h
    · rename_i g gl r
      split at h
      · rename_i s0 hv
        simp only [Option.some.injEq, Prod.mk.injEq] at h
        obtain ⟨rfl, rfl⟩ := h
        obtain ⟨h1, h2, h3, rfl, rfl⟩ := hc
        refine call23 (unw l) (by simp [unw, h2]) s0 h1 hr (k := 0) rfl ?_
        obtain ⟨a, r, rfl, g1, g2⟩ := hargs.cons_inv
        obtain ⟨b, r2, rfl, g3, g4⟩ := g2.cons_inv
        simp only [Rs] at g4; subst g4
        have := SV.val?_R hv g3
        subst this
        obtain ⟨x, q1, q2⟩ := g1
        exact Rs.cons ⟨x, q1, wAll_R h3 q2⟩ (Rs.cons (by simp only [R]) Rs.nil)
      · simp at h
    · simp at h
  · simp at h
noncomputable def X3 (z : List Int → ByteArray → (Nat → Int) × (Nat → Int)) : Cx := ⟨Tryd.prog, fun f args hp => if f = 23 then (match takenG z args hp with | some (s, c) => some (s, none, c) | none => none) else none, fun _ _ _ _ => none⟩
theorem X3_lp (z : List Int → ByteArray → (Nat → Int) × (Nat → Int)) : LpOk (X3 z) := fun _ _ _ _ _ _ _ h => by simp [X3] at h
theorem tkF_free (z : List Int → ByteArray → (Nat → Int) × (Nat → Int)) (ini : List Int) (s : ByteArray) : (SV.agg ((tkF z ini s).map u)).free = true := by simp only [SV.free]; exact frees_u _
theorem X3_ct : CtOk (X3 zL) := by
  intro f args hp s ho c h hc B η w vs hr hB hargs
  simp only [X3] at h
  split at h
  · rename_i hf
    subst hf
    split at h
    · rename_i s1 c1 h1
      simp only [Option.some.injEq, Prod.mk.injEq] at h
      obtain ⟨rfl, rfl, rfl⟩ := h
      refine (takenG_ok args hp s1 c1 h1 hc B η w vs hr hargs).mono fun e w' hq => ?_
      obtain ⟨v, rfl, hR, hb⟩ := hq
      exact ⟨v, [], rfl, hR.ext (η := []), by simpa using hr.below hb, hb.mono hB⟩
    · simp at h
  · simp at h
/-! ### temporaries forgotten -/
def fgT (d : Nat → Value) (fg : List Nat) : Nat → List SV → List SV
  | _, [] => []
  | i, s :: l => (if fg.contains i then .val (d i) else s) :: fgT d fg (i + 1) l
theorem fgT_R {η : Env} {d : Nat → Value} {fg : List Nat} : ∀ {l : List SV} {vs : List Value} {i : Nat}, Rs η l vs → (∀ (j : Nat) (v : Value), vs[j]? = some v → d (i + j) = v) → Rs η (fgT d fg i l) vs
  | [], vs, i, h, _ => by simpa only [fgT, Rs] using h
  | s :: l, vs, i, h, hd => by
    obtain ⟨v, r, rfl, h1, h2⟩ := h
    refine Rs.cons ?_ (fgT_R h2 fun j x hx => ?_)
    · split
      · simp only [R]
        exact (hd 0 v rfl).symm
      · exact h1
    · have := hd (j + 1) x (by simpa using hx)
      rwa [show i + 1 + j = i + (j + 1) by omega]
theorem weakF_fg {n0 : Nat} (fg : List Nat) (s : St) : WeakF n0 s (fun d => ⟨fgT d fg 0 s.tm, s.hp⟩) := fun {ds B w₀ η μ a w} hn hs =>
  ⟨fun i => (a.tmps.toList[i]?).getD undef, μ, fgT_R hs.tm fun j v hv => by simp only [Nat.zero_add]; rw [hv]; rfl, hs.df, hs.hr, hs.below, hs.hB⟩
def outT (fg : List Nat) (r : Rr Fin) (e : XE) (T : St) (L : List Prop) (d : Nat → Value) : Option (XE × St × List Prop × List SV) × Option (XE × St × List Prop × List SV) :=
  match r with
  | .ok f [] c => (some (f.e, ⟨fgT d fg 0 f.tm, f.hp⟩, c.props [], c.lefts []), some (e, T, L, c.rights []))
  | _ => (none, some (e, T, L, []))
def givesT (fg : List Nat) (r : Rr Fin) (e : XE) (T : St) (L : List Prop) (d : Nat → Value) : Prop := (outT fg r e T L d).1 = (outT fg r e T L d).2
theorem wpE_fg {P : Program} {X : Cx} (hX : X.P = P) (hct : CtOk X) (hlp : LpOk X) {n n0 : Nat} {fg : List Nat} {c : Code} {s : St} {ans : List Bool} {e : XE} {T : (Nat → Value) → St} {L : List Prop} (h : ∀ d, givesT fg (run X n c s.tm s.hp ans) e (T d) L d) (hL : AllP L) :
    WpE P c n0 s (fun r => r.e = e ∧ WeakF n0 r.st T ∧ r.hp = (T (fun _ => undef)).hp) := by
  subst hX
  generalize hq : run X n c s.tm s.hp ans = r at h
  unfold givesT outT at h
  split at h
  · rename_i f c'
    simp only [Option.some.injEq, Prod.mk.injEq] at h
    have h0 := h (fun _ => undef)
    have hc := (Cnd.is_of c' [] [] [] (by rw [h0.2.2.1]; exact hL) h0.2.2.2 rfl).1
    refine WpE.of_wp (run_ok hct hlp n c _ _ _ _ _ _ hq hc) ⟨h0.1, ?_, congrArg St.hp h0.2.1⟩
    have e : T = fun d => ⟨fgT d fg 0 f.tm, f.hp⟩ := funext fun d => ((h d).2.1).symm
    rw [e]
    exact fun {_ _ _ _ _ _ _} hn hs => weakF_fg fg f.st hn hs
  · have := h (fun _ => undef); simp at this

/-! ### Write -/
noncomputable def blkS (s : ByteArray) : ByteArray := ⟨((List.range 64).map (bAt s)).toArray⟩
noncomputable def rstS (s : ByteArray) : ByteArray := s.extract 64 s.size
theorem rstS_size (s : ByteArray) : (rstS s).size = s.size - 64 := by simp [rstS]
abbrev Z := List Int → ByteArray → (Nat → Int) × (Nat → Int)
theorem tkF_len (z : Z) (ini : List Int) (s : ByteArray) : (tkF z ini s).length = 8 := by simp [tkF]
/-- What is behind a text: the words, and what is left. -/
noncomputable def finW (z : Z) (ini : List Int) (s : ByteArray) : List Int × ByteArray :=
  if h : 64 ≤ s.size then finW z (tkF z ini (blkS s)) (rstS s) else (ini, s)
termination_by s.size
decreasing_by rw [rstS_size]; omega
theorem finW_len (z : Z) (ini : List Int) (s : ByteArray) (h : ini.length = 8) : (finW z ini s).1.length = 8 := by
  rw [finW]
  split
  · exact finW_len z _ _ (tkF_len z _ _)
  · exact h
termination_by s.size
decreasing_by rw [rstS_size]; omega
noncomputable def LB14 : Code := cLp (cB (cR (cR (cR (code 14)))))
noncomputable def id14 : Nat := bId (cR (cR (cR (code 14))))
theorem code14 : code 14 = .seq (cL (code 14)) (.seq (cL (cR (code 14))) (.seq (cL (cR (cR (code 14)))) (.block id14 (.loop LB14)))) := by kernel_rfl
def fgW : List Nat := List.range' 2 49
noncomputable def hW (ini : List Int) (s : ByteArray) (m : Int) (r : List SO) : List SO := globS :: .cells true (ini.map u ++ [.val (.string s), .val (.int .u64 m)]) :: .dead :: r
noncomputable def sW (ini : List Int) (s : ByteArray) (m : Int) (t : ByteArray) (r : List SO) (d : Nat → Value) : St :=
  ⟨[.ptr 1 0, .val (.string t)] ++ fgW.map (fun i => .val (d i)), hW ini s m r⟩
noncomputable def LW (ini : List Int) (s : ByteArray) (m : Int) (r : List SO) : List Prop :=
  [decide ((s.size : Int) ≥ 64) = true, 0 ≤ Int.toNat 64 ∧ Int.toNat 64 ≤ s.size, P23 (ini.map u) (blkS s) 0 glL, r = r, r = r, 0 ≤ (64 : Int) ∧ (64 : Int) ≤ (s.size : Int) ∧ (s.size : Int) ≤ (s.size : Int)]
theorem w14_round (z : Z) (x0 x1 x2 x3 x4 x5 x6 x7 m : Int) (s t : ByteArray) (r : List SO) (d d' : Nat → Value) :
    givesT fgW (run (X3 z) 60 LB14 (sW [x0, x1, x2, x3, x4, x5, x6, x7] s m t r d).tm (sW [x0, x1, x2, x3, x4, x5, x6, x7] s m t r d).hp [true]) .normal (sW (tkF z [x0, x1, x2, x3, x4, x5, x6, x7] (blkS s)) (rstS s) m t r d') (LW [x0, x1, x2, x3, x4, x5, x6, x7] s m r) d' := by
  unfold givesT; kernel_rfl
theorem w14_end (z : Z) (x0 x1 x2 x3 x4 x5 x6 x7 m : Int) (s t : ByteArray) (r : List SO) (d d' : Nat → Value) :
    givesT fgW (run (X3 z) 60 LB14 (sW [x0, x1, x2, x3, x4, x5, x6, x7] s m t r d).tm (sW [x0, x1, x2, x3, x4, x5, x6, x7] s m t r d).hp [false]) (.exit id14) (sW [x0, x1, x2, x3, x4, x5, x6, x7] s m t r d') [decide ((s.size : Int) ≥ 64) = false] d' := by
  unfold givesT; kernel_rfl
noncomputable def w64 (m : Int) (t : ByteArray) : Int := IntKind.u64.wrap (m + IntKind.u64.wrap (t.size : Int))
noncomputable def s14 (ini : List Int) (s : ByteArray) (m : Int) (t : ByteArray) (r : List SO) : St := ⟨[.ptr 1 0, .val (.string t)] ++ List.replicate 49 (.val undef), hW ini s m r⟩
noncomputable def s14a (z : Z) (ini : List Int) (s : ByteArray) (m : Int) (t : ByteArray) (r : List SO) : St := (finOf (run (X3 z) 60 (cL (code 14)) (s14 ini s m t r).tm (s14 ini s m t r).hp [])).st
noncomputable def s14b (z : Z) (ini : List Int) (s : ByteArray) (m : Int) (t : ByteArray) (r : List SO) : St := (finOf (run (X3 z) 60 (cL (cR (code 14))) (s14a z ini s m t r).tm (s14a z ini s m t r).hp [])).st
theorem w14_a (z : Z) (x0 x1 x2 x3 x4 x5 x6 x7 m : Int) (s t : ByteArray) (r : List SO) : goodR (run (X3 z) 60 (cL (code 14)) (s14 [x0, x1, x2, x3, x4, x5, x6, x7] s m t r).tm (s14 [x0, x1, x2, x3, x4, x5, x6, x7] s m t r).hp []) .normal [] := by
  unfold goodR; kernel_rfl
theorem w14_b (z : Z) (x0 x1 x2 x3 x4 x5 x6 x7 m : Int) (s t : ByteArray) (r : List SO) : goodR (run (X3 z) 60 (cL (cR (code 14))) (s14a z [x0, x1, x2, x3, x4, x5, x6, x7] s m t r).tm (s14a z [x0, x1, x2, x3, x4, x5, x6, x7] s m t r).hp []) .normal [] := by
  unfold goodR; kernel_rfl
theorem w14_c (z : Z) (x0 x1 x2 x3 x4 x5 x6 x7 m : Int) (s t : ByteArray) (r : List SO) (d : Nat → Value) :
    givesT fgW (run (X3 z) 60 (cL (cR (cR (code 14)))) (s14b z [x0, x1, x2, x3, x4, x5, x6, x7] s m t r).tm (s14b z [x0, x1, x2, x3, x4, x5, x6, x7] s m t r).hp []) .normal (sW [x0, x1, x2, x3, x4, x5, x6, x7] (s ++ t) (w64 m t) t r d) [s.size + t.size ≤ 9223372036854775807] d := by
  unfold givesT; kernel_rfl
theorem blkS_size (s : ByteArray) : (blkS s).size = 64 := by
  show (((List.range 64).map (bAt s)).toArray).size = 64
  simp
theorem wAll_u : ∀ l : List Int, wAll (l.map u) = true
  | [] => rfl
  | x :: l => wAll_u l
theorem LW_all (ini : List Int) (hi : ini.length = 8) (s : ByteArray) (hs : 64 ≤ s.size) (m : Int) (r : List SO) : AllP (LW ini s m r) := by
  have p : P23 (ini.map u) (blkS s) 0 glL := ⟨blkS_size s, by simp [hi], wAll_u ini, rfl, rfl⟩
  have b : 0 ≤ Int.toNat 64 ∧ Int.toNat 64 ≤ s.size := ⟨Nat.zero_le _, hs⟩
  have q : decide ((s.size : Int) ≥ 64) = true := by simp; omega
  exact ⟨q, b, p, rfl, rfl, ⟨by omega, by omega, by omega⟩, trivial⟩
/-- The loop. -/
theorem loop14 (ini : List Int) (hi : ini.length = 8) (s : ByteArray) (m : Int) (t : ByteArray) (r : List SO) (d : Nat → Value) (n0 : Nat) :
    WpE Tryd.prog (.loop LB14) n0 (sW ini s m t r d) (fun f => f.e = .exit id14 ∧ f.hp = hW (finW zL ini s).1 (finW zL ini s).2 m r) := by
  refine WpE.loopF (γ := {g : List Int × ByteArray // g.1.length = 8 ∧ finW zL g.1 g.2 = finW zL ini s} × (Nat → Value)) (S := fun g => sW g.1.1.1 g.1.1.2 m t r g.2) (m := fun g => g.1.1.2.size) (fun g => ?_) (⟨(ini, s), hi, rfl⟩, d)
  obtain ⟨⟨⟨l, s'⟩, hl, hf⟩, d⟩ := g
  match l, hl with
  | [x0, x1, x2, x3, x4, x5, x6, x7], hl =>
    by_cases h : 64 ≤ s'.size
    · refine (wpE_fg (X := X3 zL) rfl X3_ct (X3_lp zL) (fg := fgW) (n := 60) (ans := [true]) (s := sW [x0, x1, x2, x3, x4, x5, x6, x7] s' m t r d) (T := fun d' => sW (tkF zL [x0, x1, x2, x3, x4, x5, x6, x7] (blkS s')) (rstS s') m t r d')
        (fun d' => w14_round zL x0 x1 x2 x3 x4 x5 x6 x7 m s' t r d d') (LW_all _ hl s' h m r)).mono fun f hr => .inl ⟨hr.1, _, hr.2.1, fun d' => ⟨(⟨(tkF zL [x0, x1, x2, x3, x4, x5, x6, x7] (blkS s'), rstS s'), tkF_len _ _ _, ?_⟩, d'), ?_, rfl⟩⟩
      · show finW zL _ _ = _
        rw [← hf]
        conv => rhs; rw [finW]
        simp only [h, dif_pos]
      · show (rstS s').size < s'.size
        rw [rstS_size]; omega
    · refine (wpE_fg (X := X3 zL) rfl X3_ct (X3_lp zL) (fg := fgW) (n := 60) (ans := [false]) (s := sW [x0, x1, x2, x3, x4, x5, x6, x7] s' m t r d) (T := fun d' => sW [x0, x1, x2, x3, x4, x5, x6, x7] s' m t r d')
        (fun d' => w14_end zL x0 x1 x2 x3 x4 x5 x6 x7 m s' t r d d') ⟨by simp; omega, trivial⟩).mono fun f hr => .inr ⟨by rw [hr.1]; exact (fun e => by cases e), hr.1, ?_⟩
      rw [hr.2.2, ← hf]
      have e : finW zL [x0, x1, x2, x3, x4, x5, x6, x7] s' = ([x0, x1, x2, x3, x4, x5, x6, x7], s') := by rw [finW]; simp only [h, dif_neg, not_false_iff]
      show hW _ _ m r = _
      rw [e]
noncomputable def fn14 : Func := (Tryd.prog.funcs[14]?).getD default
theorem fn14_at : Tryd.prog.funcs[14]? = some fn14 := by kernel_rfl
theorem fn14_body : fn14.body = some (code 14) := by kernel_rfl
theorem fn14_res (tm : List SV) (hp : List SO) : resultsS Tryd.prog fn14 tm hp = some (.tup []) := by kernel_rfl
theorem fn14_tm (t : ByteArray) : ([.ptr 1 0, .val (.string t)] ++ List.replicate (fn14.ntmps - [SV.ptr 1 0, .val (.string t)].length) (.val undef) : List SV) = [.ptr 1 0, .val (.string t)] ++ List.replicate 49 (.val undef) := by kernel_rfl
theorem body14 (ini : List Int) (hi : ini.length = 8) (s : ByteArray) (m : Int) (t : ByteArray) (r : List SO) (n0 : Nat) (hsz : s.size + t.size ≤ 9223372036854775807) :
    WpE Tryd.prog (code 14) n0 (s14 ini s m t r) (fun f => f.e = .normal ∧ f.hp = hW (finW zL ini (s ++ t)).1 (finW zL ini (s ++ t)).2 (w64 m t) r) := by
  match ini, hi with
  | [x0, x1, x2, x3, x4, x5, x6, x7], hi =>
    rw [code14]
    refine WpE.seq (wpE_run (X := X3 zL) rfl X3_ct (X3_lp zL) (w14_a zL x0 x1 x2 x3 x4 x5 x6 x7 m s t r) trivial) (fun f hf hn => ?_) (fun f hf hne => absurd hf.1 hne)
    obtain ⟨_, rfl⟩ := hf
    refine WpE.seq (wpE_run (X := X3 zL) rfl X3_ct (X3_lp zL) (s := s14a zL [x0, x1, x2, x3, x4, x5, x6, x7] s m t r) (w14_b zL x0 x1 x2 x3 x4 x5 x6 x7 m s t r) trivial) (fun f hf hn => ?_) (fun f hf hne => absurd hf.1 hne)
    obtain ⟨_, rfl⟩ := hf
    refine WpE.seq (wpE_fg (X := X3 zL) rfl X3_ct (X3_lp zL) (s := s14b zL [x0, x1, x2, x3, x4, x5, x6, x7] s m t r) (T := fun d => sW [x0, x1, x2, x3, x4, x5, x6, x7] (s ++ t) (w64 m t) t r d) (w14_c zL x0 x1 x2 x3 x4 x5 x6 x7 m s t r) ⟨hsz, trivial⟩) (fun f hf hn => ?_) (fun f hf hne => absurd hf.1 hne)
    refine wpE_weakF hf.2.1 fun d => WpE.block (loop14 _ hi (s ++ t) (w64 m t) t r d n0) fun f hf => ?_
    obtain ⟨h1, h2⟩ := hf
    unfold Fin.unblock
    rw [h1]
    simp only [if_true]
    exact ⟨trivial, h2⟩
theorem call14 (ini : List Int) (hi : ini.length = 8) (s : ByteArray) (m : Int) (t : ByteArray) (r : List SO) (hsz : s.size + t.size ≤ 9223372036854775807) {B : Nat} {η : Env} {w : World} {vs : List Value} (hr : HR B η (hW ini s m r) w) (hB : B ≤ w.heap.size) (hargs : Rs η [.ptr 1 0, .val (.string t)] vs) :
    Calls Tryd.prog 14 vs.toArray w (fun e w' => ∃ v μ, e = .returned v ∧ R (η ++ μ) (.tup []) v ∧ HR B (η ++ μ) (hW (finW zL ini (s ++ t)).1 (finW zL ini (s ++ t)).2 (w64 m t) r) w' ∧ Below B w w') := by
  have hb := body14 ini hi s m t r (hW ini s m r).length hsz
  unfold s14 at hb
  rw [← fn14_tm] at hb
  refine (calls_of_wpE fn14_at fn14_body (args := [.ptr 1 0, .val (.string t)]) (hp := hW ini s m r) (F := fun f => f.e = .normal ∧ f.hp = hW (finW zL ini (s ++ t)).1 (finW zL ini (s ++ t)).2 (w64 m t) r) (G := fun s' hp' => s' = .tup [] ∧ hp' = hW (finW zL ini (s ++ t)).1 (finW zL ini (s ++ t)).2 (w64 m t) r) hb (fun f hf => ⟨.inl hf.1, _, fn14_res _ _, rfl, hf.2⟩) hr hB hargs).mono fun e w' hq => ?_
  obtain ⟨v, μ, s', hp', e1, e2, e3, e4, rfl, rfl⟩ := hq
  exact ⟨v, μ, e1, e2, e3, e4⟩
noncomputable def cW (ini : List Int) (s : ByteArray) (m : Int) : List SV := ini.map u ++ [.val (.string s), .val (.int .u64 m)]
theorem cW_free (ini : List Int) (s : ByteArray) (m : Int) : frees (cW ini s m) = true := by
  unfold cW
  induction ini with
  | nil => rfl
  | cons x l ih => simp only [List.map_cons, List.cons_append, frees, Bool.and_eq_true]; exact ⟨rfl, ih⟩
/-- Wherever it lies. -/
theorem call14_any (ini : List Int) (hi : ini.length = 8) (s : ByteArray) (m : Int) (t : ByteArray) (hsz : s.size + t.size ≤ 9223372036854775807) {B : Nat} {η : Env} {hp : List SO} {k0 k : Nat} {w : World} {vs : List Value} (hr : HR B η hp w) (hB : B ≤ w.heap.size) (h0 : hp[k0]? = some globS) (hk : hp[k]? = some (.cells true (cW ini s m))) (hargs : Rs η [.ptr k 0, .val (.string t)] vs) :
    Calls Tryd.prog 14 vs.toArray w (fun e w' => ∃ v, e = .returned v ∧ R [] (.tup []) v ∧ HR B η (hp.set k (.cells true (cW (finW zL ini (s ++ t)).1 (finW zL ini (s ++ t)).2 (w64 m t)))) w' ∧ Below B w w') := by
  have l0 : k0 < η.length := by rw [hr.len]; exact (List.getElem?_eq_some_iff.1 h0).1
  have l1 : k < η.length := by rw [hr.len]; exact (List.getElem?_eq_some_iff.1 hk).1
  have e0 := List.getElem?_eq_getElem l0
  have e1 := List.getElem?_eq_getElem l1
  have ha := hr_ahead hr h0 hk (by decide) (cW_free ini s m) e0 e1
  have hargs' : Rs (η[k0] :: η[k] :: undef :: η) [.ptr 1 0, .val (.string t)] vs := by
    obtain ⟨a, q, rfl, g1, g2⟩ := hargs.cons_inv
    obtain ⟨b, q2, rfl, g3, g4⟩ := g2.cons_inv
    simp only [Rs] at g4; subst g4
    obtain ⟨b', o', q1, q2⟩ := g1
    rw [e1] at q1
    simp only [Option.some.injEq] at q1
    exact Rs.cons ⟨b', o', by simp [q1], q2⟩ (Rs.cons (by simpa only [R] using g3) Rs.nil)
  refine (call14 ini hi s m t _ hsz ha hB hargs').mono fun e w' hq => ?_
  obtain ⟨v, μ, rfl, hv, hr', hb⟩ := hq
  exact ⟨v, rfl, R.free _ _ rfl hv, hr_back hr hk (cW_free _ _ _) e1 hr', hb⟩
/-! ### what Digest gives -/
def lenB (m : Int) (k : Nat) : UInt8 := UInt8.ofNat (Int.toNat (IntKind.u8.wrap ((IntKind.u64.wrap (m * 8)).fdiv (2 ^ k))))
/-- The last one or two blocks, of what is left and of how much was written. -/
def padB (l : List UInt8) (m : Int) : List UInt8 :=
  l.map (fun b => UInt8.ofNat (Int.toNat (b.toNat : Int))) ++ UInt8.ofNat (Int.toNat 128) :: (List.replicate ((119 - l.length) % 64) (UInt8.ofNat (Int.toNat 0)) ++ [lenB m 56, lenB m 48, lenB m 40, lenB m 32, lenB m 24, lenB m 16, lenB m 8, lenB m 0])
def blkL (l : List UInt8) (m : Int) (i : Nat) : ByteArray := ⟨((((padB l m).drop (64 * i)).take 64)).toArray⟩
noncomputable def dgW (z : Z) (ini : List Int) (l : List UInt8) (m : Int) : List Int :=
  if l.length < 56 then tkF z ini (blkL l m 0) else tkF z (tkF z ini (blkL l m 0)) (blkL l m 1)
def dB (w : List Int) (i : Nat) : Int := IntKind.u8.wrap ((w.getD (i / 4) 0).fdiv (2 ^ (24 - 8 * (i % 4))))
def dgS (w : List Int) : SV := .agg ((List.range 32).map fun i => .val (.int .u8 (dB w i)))
noncomputable def hD (ini : List Int) (l : List UInt8) (m : Int) : List SO := [globS, .cells false (ini.map u ++ [.bts false l, .val (.int .u64 m)])]
noncomputable def LD (z : Z) (ini : List Int) (l : List UInt8) (m : Int) : List Prop :=
  if l.length < 56 then [P23 (ini.map u) (blkL l m 0) 0 glL] else [P23 (ini.map u) (blkL l m 0) 0 glL, P23 ((tkF z ini (blkL l m 0)).map u) (blkL l m 1) 0 glL, P23 ((tkF z ini (blkL l m 0)).map u) (blkL l m 1) 0 glL]
noncomputable def digR (z : Z) (ini : List Int) (l : List UInt8) (m : Int) : Prop :=
  givesL (callR (X3 z) (run (X3 z) 90) 13 [.ptr 1 0] (hD ini l m) []) (dgS (dgW z ini l m)) (LD z ini l m)
noncomputable def LD2 (z : Z) (ini : List Int) (l : List UInt8) (m : Int) : List Prop := [P23 (ini.map u) (blkL l m 0) 0 glL, P23 ((tkF z ini (blkL l m 0)).map u) (blkL l m 1) 0 glL]
noncomputable def digR2 (z : Z) (ini : List Int) (l : List UInt8) (m : Int) : Prop :=
  givesL (callR (X3 z) (run (X3 z) 90) 13 [.ptr 1 0] (hD ini l m) []) (dgS (dgW z ini l m)) (LD2 z ini l m)
end Go.Proofs.YtgefcokanfbpbaaDoor
