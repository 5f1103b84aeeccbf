/-
  EnterKnown: it returns true, whatever the arguments; they read as before. Its condition: the package's variable holds the words that its own text lays.
-/
import Derived.Test.YtacgamdbmllaoaaDoorK23e
import Derived.Test.YtacgamdbmllaoaaDoorW06w
namespace Go.Proofs.YtacgamdbmllaoaaDoor
open Go.Ex
open Go.RowKit (Below)
set_option linter.unusedVariables false
set_option maxRecDepth 1000000
theorem wpE_runA {P : Program} {X : Cx} (hX : X.P = P) (hct : CtOk X) (hlp : LpOk X) {n n0 : Nat} {c : Code} {s : St} {ans : List Bool} {e : XE} {L : List Prop} (h : goodR (run X n c s.tm s.hp ans) e L) (hL : AllP L) :
    WpE P c n0 s (fun r => r.e = e ∧ r = finOf (run X n c s.tm s.hp ans)) := by
  subst hX
  unfold goodR at h
  generalize hq : run X n c s.tm s.hp ans = r at h
  unfold outG at h
  split at h
  · rename_i f c'
    simp only [Option.some.injEq, Prod.mk.injEq] at h
    obtain ⟨h1, h2, h3⟩ := h
    have hc := (Cnd.is_of c' [] [] [] (by rw [h2]; exact hL) h3 rfl).1
    exact WpE.of_wp (run_ok hct hlp n c _ _ _ _ _ _ hq hc) ⟨h1, rfl⟩
  · simp at h
theorem bd6 (d : Nat → Value) : WpE Tryd.prog r4 1 (k6 d) (fun f => f.e = .ret ∧ f = f6 tkT shW lgW d) :=
  wpE_runA (X := XK tkT shW lgW) rfl (enX_ct enR3_ok) (enX_lp _) (s := k6 d) (ans := [false]) (kk6 tkT shW lgW d) ⟨⟨rfl, rfl, rfl⟩, rfl, ⟨rfl, rfl⟩, trivial⟩
theorem bd1 : WpE Tryd.prog (cL (code 4)) 1 k0 (fun f => f.e = .normal ∧ f.st = k1 tkT shW lgW) :=
  (wpE_runA (X := XK tkT shW lgW) rfl (enX_ct enR3_ok) (enX_lp _) (s := k0) (ans := []) (kk1 tkT shW lgW) trivial).mono fun f hf => ⟨hf.1, congrArg Fin.st hf.2⟩
theorem bd2 : WpE Tryd.prog (cL (cR (code 4))) 1 (k1 tkT shW lgW) (fun f => f.e = .normal ∧ f.st = k2 tkT shW lgW) :=
  (wpE_runA (X := XK tkT shW lgW) rfl (enX_ct enR3_ok) (enX_lp _) (s := k1 tkT shW lgW) (ans := []) (kk2 tkT shW lgW) trivial).mono fun f hf => ⟨hf.1, congrArg Fin.st hf.2⟩
theorem bd3 : WpE Tryd.prog (cL (cR (cR (code 4)))) 1 (k2 tkT shW lgW) (fun f => f.e = .normal ∧ f.st = k3 tkT shW lgW) :=
  (wpE_runA (X := XK tkT shW lgW) rfl (enX_ct enR3_ok) (enX_lp _) (s := k2 tkT shW lgW) (ans := []) (kk3 tkT shW lgW) trivial).mono fun f hf => ⟨hf.1, congrArg Fin.st hf.2⟩
theorem bd4 : WpE Tryd.prog (cL (cR (cR (cR (code 4))))) 1 (k3 tkT shW lgW) (fun f => f.e = .normal ∧ f.st = k4 tkT shW lgW) :=
  (wpE_runA (X := XK tkT shW lgW) rfl (enX_ct enR3_ok) (enX_lp _) (s := k3 tkT shW lgW) (ans := []) (kk4 tkT shW lgW) trivial).mono fun f hf => ⟨hf.1, congrArg Fin.st hf.2⟩
theorem bd5 : WpE Tryd.prog p4 1 (k4 tkT shW lgW) (fun f => f.e = .normal ∧ WeakF 1 f.st k6 ∧ f.hp = (k6 (fun _ => undef)).hp) :=
  wpE_fg (X := XK tkT shW lgW) rfl (enX_ct enR3_ok) (enX_lp _) (s := k4 tkT shW lgW) (T := k6) (fg := fgK) (ans := []) (kk5 tkT shW lgW) ⟨⟨rfl, rfl⟩, ⟨rfl, rfl, rfl⟩, ⟨rfl, rfl, rfl⟩, ⟨rfl, rfl⟩, ⟨rfl, rfl⟩, ⟨rfl, rfl⟩, ⟨rfl, rfl⟩, ⟨rfl, rfl, rfl⟩, ⟨rfl, rfl⟩, ⟨rfl, rfl, rfl⟩, ⟨rfl, rfl⟩, trivial⟩
theorem body4 : WpE Tryd.prog (code 4) 1 k0 (fun f => f.e = .ret ∧ ∃ d, f = f6 tkT shW lgW d) := by
  rw [code4]
  refine WpE.seq bd1 (fun f hf hn => ?_) (fun f hf hne => absurd hf.1 hne)
  rw [hf.2]
  refine WpE.seq bd2 (fun f hf hn => ?_) (fun f hf hne => absurd hf.1 hne)
  rw [hf.2]
  refine WpE.seq bd3 (fun f hf hn => ?_) (fun f hf hne => absurd hf.1 hne)
  rw [hf.2]
  refine WpE.seq bd4 (fun f hf hn => ?_) (fun f hf hne => absurd hf.1 hne)
  rw [hf.2]
  refine WpE.seq bd5 (fun f hf hn => ?_) (fun f hf hne => absurd hf.1 hne)
  exact wpE_weakF hf.2.1 fun d => (bd6 d).mono fun f hf => ⟨hf.1, d, hf.2⟩
theorem known_call {η : Env} {W : World} {vs : List Value} (hr : HR W.heap.size η [globS] W) (hargs : Rs η [] vs) :
    Calls Tryd.prog 4 vs.toArray W (fun e w' => ∃ v, e = .returned v ∧ v = .bool true ∧ Below W.heap.size W w') := by
  have hb := body4
  unfold k0 at hb
  rw [← fn4_tm] at hb
  refine (calls_of_wpE fn4_at fn4_body (args := []) (hp := [globS]) (F := fun f => f.e = .ret ∧ ∃ d, f = f6 tkT shW lgW d) (G := fun s' _ => s' = .bol true) hb (fun f hf => ⟨.inr hf.1, .bol true, by obtain ⟨d, e⟩ := hf.2; rw [e]; exact kk7 tkT shW lgW d, rfl⟩) hr (Nat.le_refl _) hargs).mono fun e w' hq => ?_
  obtain ⟨v, μ, s', hp', e1, e2, e3, e4, rfl⟩ := hq
  simp only [R] at e2
  exact ⟨v, e1, e2, e4⟩
end Go.Proofs.YtacgamdbmllaoaaDoor
namespace Go.Proofs.YtacgamdbmllaoaaDoor.enterKnown
open Go.Ex Go.ChangeShapes Go.WideShapes Go.ChangeAt Go.RowKit
set_option linter.unusedVariables false
set_option linter.unusedSimpArgs false
theorem walk (W : World) (hL : laidMet Tryd.prog laidL W) :
    Calls Tryd.prog 4 #[] W (fun e w' => e = .returned (.bool true) ∧ Below W.heap.size W w') :=
  law_of (f := 4) (args := []) (vs := []) Rs.nil hL fun hr hargs => known_call hr hargs

set_option maxRecDepth 100000 in
theorem lifted (os : Os) (started : os.Started) (H : Type) (enc : TypeId × Value → H) :
    ReturnsInHanded {} Tryd.checked os 4 .any (fun w args => (Rows.enterKnownSpec.pre enc Tryd.prog Tryd.f4 [] false w args ∧ laidMetH Tryd.prog Rows.enterKnownRow.laid w) ∧ sizedMet enc Tryd.prog Tryd.f4 (OpenSpec.ofChange Rows.enterKnownSpec) false w args)
      (Rows.enterKnownSpec.post enc Tryd.prog Tryd.f4 false true false false) := by
  refine returnsInHanded_of_change_and (C := Tryd.checked) (X := fun w _ => laidMetH Tryd.prog Rows.enterKnownRow.laid w) (fun _ _ _ hh h => h.of_heap hh) own started (by kernel_rfl) Tryd.func4
    (ChangeSpec.witness_shaped (enc := enc) (C := Tryd.checked) (os := os) (X := fun w _ => laidMetH Tryd.prog Rows.enterKnownRow.laid w) false (World.laidAll Tryd.prog os laidL) #[] 8 (World.laidAll_os _ _ _)
      (World.shaped_of_ZipB (by kernel_rfl) (by kernel_rfl)) (by kernel_rfl) (by kernel_rfl) (by kernel_rfl)
      (by rw [MakeChecks.laidMetH_plain _ _ _ (by kernel_rfl)]; exact laidMet_laidAll _ (by kernel_rfl) (by kernel_rfl))) ?_
  intro W base args ds gs before hval0 hW _ hsz0 hL _
  rw [MakeChecks.laidMetH_plain _ _ _ (by kernel_rfl)] at hL
  have hval : ∀ (j : Nat) t v, Tryd.f4.params[j]? = some t → args[j]? = some v → Value.okWide Tryd.prog W .any base t v := hval0
  have hW' := hW
  obtain ⟨p, q, hA0, hV, rfl, hfz, hnd⟩ := hW
  have hA : DataW.TrodAll enc Tryd.prog W 0 (fun _ => true) true Tryd.f4.params.toList args.toList ds p := hA0
  have hK := hA
  rw [Tryd.params4] at hA hval
  obtain ⟨hargs, rfl, rfl⟩ := trodAll_nil hA
  obtain rfl : args = #[] := by cases args; simp_all
  obtain ⟨rfl, rfl⟩ := trodVars_none hV
  clear hA0 hval0
  refine (walk   W hL).mono fun e W' ⟨he, bel⟩ => ?_
  subst he
  exact ⟨_, rfl, _, _, _, [], _, [], hW', trodAll_mk1 (shut_bool Tryd.underlying4 _), trodAll_below laidOut bel (by kernel_rfl) hK, rfl, bel.frame _, fun h => by cases h⟩
theorem over : Rows.enterKnownRow.holds Tryd.pinned (OpenSpec.ofChange Rows.enterKnownSpec) :=
  OpenClaim.holds_of_wide 4 Tryd.f4 rfl rfl rfl rfl rfl rfl rfl ⟨rfl, rfl, rfl, rfl, rfl⟩ rfl rfl rfl rfl rfl (by kernel_rfl) Tryd.func4 (by kernel_rfl)
    (of_decide_eq_true (by kernel_rfl)) (by unfold Func.isWrapper; first | (rw [if_pos (by decide +kernel)]; kernel_rfl) | (rw [if_neg (by decide +kernel)]; exact ⟨rfl, rfl⟩))
    (fun os started H enc _ => lifted os started H enc)
theorem proved : Rows.EnterKnownCardSaid :=
  Claim7.holds_tied_plain_at .later [] [.data] true (true, "712718fd8bc457794a3f0a1de34878048826cd629d5822be8bb47cfe0c189ce8") false over (fun _ h => by cases h) (by kernel_rfl) (fun _ h => by cases h) enterKnown_row_tie rfl ⟨rfl, rfl⟩ (by kernel_rfl) rfl
    (fun f fn hf hfn => by
      obtain rfl : f = 4 := Option.some.inj ((show Tryd.prog.funcNamed "plait/plaitlaw23.EnterKnown" = some 4 by kernel_rfl).symm.trans hf) |>.symm
      obtain rfl : fn = Tryd.f4 := (Option.some.inj (Tryd.func4.symm.trans hfn)).symm
      exact ⟨by kernel_rfl, fun j t ht => by
        rw [Tryd.params4] at ht
        have hm : t ∈ [] := by simpa using Array.mem_of_getElem? ht
        have hall : ([].all fun u => !Tryd.prog.wantsStandIn u) = true := by kernel_rfl
        exact (show Tryd.prog.wantsStandIn t = false by simpa using List.all_eq_true.1 hall t hm)⟩)
    (by kernel_rfl)
#print axioms proved
end Go.Proofs.YtacgamdbmllaoaaDoor.enterKnown
