/-
  CtrlLays: it returns true, whatever the arguments; they read as before. No condition. By an AI agent.
-/
import Derived.Test.YthmndlkhmihdhaaRows
import Derived.Test.YthmndlkhmihdhaaW13l
import Derived.WalkKit
import Derived.ProofKit
import Derived.OpenShut
import Derived.ShutString
import Derived.ChangeOld
import Derived.Below
import Derived.SizedLaws
namespace Go.Proofs.Ythmndlkhmihdhaa.ctrlLays
open Go.Ex Go.ChangeShapes Go.WideShapes Go.ChangeAt Go.RowKit
set_option linter.unusedVariables false
set_option linter.unusedSimpArgs false
theorem own : ownKnob Try.prog.godebug = none := by kernel_rfl
theorem laidOut : laidOutB Try.prog = true := by kernel_rfl
theorem walk (z0_0 : Bool) (z1 z2_0 z2_1 : Int) (b1 : 0 ≤ z1 ∧ z1 < 18446744073709551616) (b2_0 : -9223372036854775808 ≤ z2_0 ∧ z2_0 < 9223372036854775808) (b2_1 : -9223372036854775808 ≤ z2_1 ∧ z2_1 < 9223372036854775808) (w : World) :
    Calls Try.prog 3 #[.agg #[.bool z0_0], .int .u64 z1, .agg #[.int .i64 z2_0, .int .i64 z2_1]] w (fun e w' => e = .returned (.bool true) ∧ Below w.heap.size w w') :=
  walkL z0_0 z1 z2_0 z2_1 w

set_option maxRecDepth 100000 in
theorem lifted (os : Os) (started : os.Started) (H : Type) (enc : TypeId × Value → H) :
    ReturnsInHanded {} Try.checked os 3 .any (Rows.ctrlLaysSpec.pre6 enc Try.prog Try.f3 Rows.ctrlLaysRow.domain false) (Rows.ctrlLaysSpec.post enc Try.prog Try.f3 false true false false) := by
  refine returnsInHanded_of_change_sized (C := Try.checked) own started (by kernel_rfl) Try.func3
    (ChangeSpec.witness6 (enc := enc) (C := Try.checked) false ⟨#[], #[.agg #[.bool false], .int .u64 0, .agg #[.int .i64 0, .int .i64 0]], []⟩ 8 (by kernel_rfl) (by kernel_rfl) (by kernel_rfl) (by kernel_rfl)) ?_
  intro W base args ds gs before hval0 hW hcnd hsz0 _
  have hval : ∀ (j : Nat) t v, Try.f3.params[j]? = some t → args[j]? = some v → Value.okWide Try.prog W .any base t v := hval0
  have hW' := hW
  obtain ⟨p, q, hA0, hV, rfl, hfz, hnd⟩ := hW
  have hA : DataW.TrodAll enc Try.prog W 0 (fun _ => true) true Try.f3.params.toList args.toList ds p := hA0
  have hK := hA
  rw [Try.params3] at hA hval
  obtain ⟨v0, vs0, d0, ds0, p0, q0, hargs, rfl, rfl, h0, r0⟩ := trodAll_cons hA
  obtain ⟨v1, vs1, d1, ds1, p1, q1, rfl, rfl, rfl, h1, r1⟩ := trodAll_cons r0
  obtain ⟨v2, vs2, d2, ds2, p2, q2, rfl, rfl, rfl, h2, r2⟩ := trodAll_cons r1
  obtain ⟨rfl, rfl, rfl⟩ := trodAll_nil r2
  obtain rfl : args = #[v0, v1, v2] := by cases args; simp_all
  obtain ⟨rfl, rfl⟩ := trodVars_none hV
  obtain ⟨cs0, rfl, k0⟩ := cells_of (P := Try.prog) (t := 23) (ts := [4]) (by kernel_rfl) (by kernel_rfl) (by kernel_rfl) (hval 0 23 v0 rfl rfl)
  obtain ⟨x0_0, t0_0, e0_0, o0_0, k0⟩ := k0
  obtain ⟨z0_0, rfl⟩ := cell_bool Try.underlying4 o0_0
  simp only [CellsAre] at k0
  obtain rfl : cs0 = #[.bool z0_0] := Array.toList_inj.1 (by rw [e0_0, k0])
  obtain ⟨z1, rfl, b1⟩ := cell_int Try.underlying24 (val_cell (by kernel_rfl) (hval 1 24 v1 rfl rfl))
  obtain ⟨cs2, rfl, k2⟩ := cells_of (P := Try.prog) (t := 26) (ts := [3, 3]) (by kernel_rfl) (by kernel_rfl) (by kernel_rfl) (hval 2 26 v2 rfl rfl)
  obtain ⟨x2_0, t2_0, e2_0, o2_0, k2⟩ := k2
  obtain ⟨z2_0, rfl, b2_0⟩ := cell_int Try.underlying3 o2_0
  obtain ⟨x2_1, t2_1, e2_1, o2_1, k2⟩ := k2
  obtain ⟨z2_1, rfl, b2_1⟩ := cell_int Try.underlying3 o2_1
  simp only [CellsAre] at k2
  obtain rfl : cs2 = #[.int .i64 z2_0, .int .i64 z2_1] := Array.toList_inj.1 (by rw [e2_0, e2_1, k2])
  clear hA0 hval0
  refine (walk z0_0 z1 z2_0 z2_1 (has_u64 b1) (has_i64 b2_0) (has_i64 b2_1) W).mono fun e W' ⟨he, bel⟩ => ?_
  subst he
  exact ⟨_, rfl, _, _, _, [], _, [], hW', trodAll_mk1 (shut_bool Try.underlying4 _), trodAll_below laidOut bel (by kernel_rfl) hK, rfl, bel.frame _, fun h => by cases h⟩
theorem over : Rows.ctrlLaysRow.holds Try.pinned (OpenSpec.ofChange Rows.ctrlLaysSpec) :=
  OpenClaim.holds_of_wide 3 Try.f3 rfl rfl rfl rfl rfl rfl rfl ⟨rfl, rfl, rfl, rfl, rfl⟩ rfl rfl rfl rfl rfl (by kernel_rfl) Try.func3 (by kernel_rfl)
    (of_decide_eq_true (by kernel_rfl)) (by unfold Func.isWrapper; first | (rw [if_pos (by decide +kernel)]; kernel_rfl) | (rw [if_neg (by decide +kernel)]; exact ⟨rfl, rfl⟩))
    (fun os started H enc _ => lifted os started H enc)
theorem proved : Rows.CtrlLaysSaid := over
#print axioms proved
end Go.Proofs.Ythmndlkhmihdhaa.ctrlLays
