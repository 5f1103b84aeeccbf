/-
  HashEdges: it returns true, whatever the arguments; they read as before. Its condition: the package's variable holds the words that its own text lays.
-/
import Derived.Test.YtgefcokanfbpbaaDoorK06E
import Derived.Test.YtgefcokanfbpbaaDoorW06w
namespace Go.Proofs.YtgefcokanfbpbaaDoor.hashEdges
open Go.Ex Go.ChangeShapes Go.WideShapes Go.ChangeAt Go.RowKit
set_option linter.unusedVariables false
set_option linter.unusedSimpArgs false
theorem walk (c bl : Int) (hc : IntKind.u8.has c) (hb : IntKind.u8.has bl) (W : World) (hL : laidMet Tryd.prog laidL W) :
    Calls Tryd.prog 4 #[.int .u8 c, .int .u8 bl] W (fun e w' => e = .returned (.bool true) ∧ Below W.heap.size W w') := by
  obtain ⟨v, hr⟩ := hr_laid hL W.heap.size
  refine (call4 c bl (has_u8 hc) (has_u8 hb) hr (vs := [.int .u8 c, .int .u8 bl]) (Rs.cons (by simp only [R]) (Rs.cons (by simp only [R]) Rs.nil))).mono fun e w' hq => ?_
  obtain ⟨v, e1, e2, hb⟩ := hq
  exact ⟨by rw [e1, e2], hb⟩

set_option maxRecDepth 100000 in
theorem lifted (os : Os) (started : os.Started) (H : Type) (enc : TypeId × Value → H) :
    ReturnsInHanded {} Tryd.checked os 4 .any (fun w args => (Rows.hashEdgesSpec.pre enc Tryd.prog Tryd.f4 [] false w args ∧ laidMetH Tryd.prog Rows.hashEdgesRow.laid w) ∧ sizedMet enc Tryd.prog Tryd.f4 (OpenSpec.ofChange Rows.hashEdgesSpec) false w args)
      (Rows.hashEdgesSpec.post enc Tryd.prog Tryd.f4 false true false false) := by
  refine returnsInHanded_of_change_and (C := Tryd.checked) (X := fun w _ => laidMetH Tryd.prog Rows.hashEdgesRow.laid w) (fun _ _ _ hh h => h.of_heap hh) own started (by kernel_rfl) Tryd.func4
    (ChangeSpec.witness_shaped (enc := enc) (C := Tryd.checked) (os := os) (X := fun w _ => laidMetH Tryd.prog Rows.hashEdgesRow.laid w) false (World.laidAll Tryd.prog os laidL) #[.int .u8 0, .int .u8 0] 8 (World.laidAll_os _ _ _)
      (World.shaped_of_ZipB (by kernel_rfl) (by kernel_rfl)) (by kernel_rfl) (by kernel_rfl) (by kernel_rfl)
      (by rw [MakeChecks.laidMetH_plain _ _ _ (by kernel_rfl)]; exact laidMet_laidAll _ (by kernel_rfl) (by kernel_rfl))) ?_
  intro W base args ds gs before hval0 hW _ hsz0 hL _
  rw [MakeChecks.laidMetH_plain _ _ _ (by kernel_rfl)] at hL
  have hval : ∀ (j : Nat) t v, Tryd.f4.params[j]? = some t → args[j]? = some v → Value.okWide Tryd.prog W .any base t v := hval0
  have hW' := hW
  obtain ⟨p, q, hA0, hV, rfl, hfz, hnd⟩ := hW
  have hA : DataW.TrodAll enc Tryd.prog W 0 (fun _ => true) true Tryd.f4.params.toList args.toList ds p := hA0
  have hK := hA
  rw [Tryd.params4] at hA hval
  obtain ⟨v0, vs0, d0, ds0, p0, q0, hargs, rfl, rfl, h0, r0⟩ := trodAll_cons hA
  obtain ⟨v1, vs1, d1, ds1, p1, q1, rfl, rfl, rfl, h1, r1⟩ := trodAll_cons r0
  obtain ⟨rfl, rfl, rfl⟩ := trodAll_nil r1
  obtain rfl : args = #[v0, v1] := by cases args; simp_all
  obtain ⟨rfl, rfl⟩ := trodVars_none hV
  obtain ⟨z0, rfl, b0⟩ := cell_int Tryd.underlying5 (val_cell (by kernel_rfl) (hval 0 5 v0 rfl rfl))
  obtain ⟨z1, rfl, b1⟩ := cell_int Tryd.underlying5 (val_cell (by kernel_rfl) (hval 1 5 v1 rfl rfl))
  clear hA0 hval0
  refine (walk z0 z1 b0 b1 W hL).mono fun e W' ⟨he, bel⟩ => ?_
  subst he
  exact ⟨_, rfl, _, _, _, [], _, [], hW', trodAll_mk1 (shut_bool Tryd.underlying4 _), trodAll_below laidOut bel (by kernel_rfl) hK, rfl, bel.frame _, fun h => by cases h⟩
theorem over : Rows.hashEdgesRow.holds Tryd.pinned (OpenSpec.ofChange Rows.hashEdgesSpec) :=
  OpenClaim.holds_of_wide 4 Tryd.f4 rfl rfl rfl rfl rfl rfl rfl ⟨rfl, rfl, rfl, rfl, rfl⟩ rfl rfl rfl rfl rfl (by kernel_rfl) Tryd.func4 (by kernel_rfl)
    (of_decide_eq_true (by kernel_rfl)) (by unfold Func.isWrapper; first | (rw [if_pos (by decide +kernel)]; kernel_rfl) | (rw [if_neg (by decide +kernel)]; exact ⟨rfl, rfl⟩))
    (fun os started H enc _ => lifted os started H enc)
theorem proved : Rows.HashEdgesCardSaid :=
  Claim7.holds_tied_plain_at .later [] [.data] true (true, "e0fa5907c2e1b4edf385be27c5d160ccce484b095ed7f6520272a764994f0aa5") false over (fun _ h => by cases h) (by kernel_rfl) (fun _ h => by cases h) hashEdges_row_tie rfl ⟨rfl, rfl⟩ (by kernel_rfl) rfl
    (fun f fn hf hfn => by
      obtain rfl : f = 4 := Option.some.inj ((show Tryd.prog.funcNamed "plait/plaitlaw06.HashEdges" = some 4 by kernel_rfl).symm.trans hf) |>.symm
      obtain rfl : fn = Tryd.f4 := (Option.some.inj (Tryd.func4.symm.trans hfn)).symm
      exact ⟨by kernel_rfl, fun j t ht => by
        rw [Tryd.params4] at ht
        have hm : t ∈ [5, 5] := by simpa using Array.mem_of_getElem? ht
        have hall : ([5, 5].all fun u => !Tryd.prog.wantsStandIn u) = true := by kernel_rfl
        exact (show Tryd.prog.wantsStandIn t = false by simpa using List.all_eq_true.1 hall t hm)⟩)
    (by kernel_rfl)
#print axioms proved
end Go.Proofs.YtgefcokanfbpbaaDoor.hashEdges
