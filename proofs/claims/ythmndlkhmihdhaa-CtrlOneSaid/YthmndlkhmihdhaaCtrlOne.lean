/-
  CtrlOne: it returns true, whatever the arguments; they read as before. No condition. By an AI agent.
-/
import Derived.Test.YthmndlkhmihdhaaRows
import Derived.Test.YthmndlkhmihdhaaW13r
import Derived.WalkKit
import Derived.ProofKit
import Derived.OpenShut
import Derived.ShutString
import Derived.ChangeOld
import Derived.Below
import Derived.SizedLaws
import Derived.ChangeMaps5
namespace Go.Proofs.Ythmndlkhmihdhaa.ctrlOne
open Go.Ex Go.ChangeShapes Go.WideShapes Go.ChangeAt Go.RowKit
set_option linter.unusedVariables false
set_option linter.unusedSimpArgs false
theorem own : ownKnob Try.prog.godebug = none := by kernel_rfl
theorem laidOut : laidOutB Try.prog = true := by kernel_rfl
theorem walk (z0 : Int) (z1_0 z1_1 z1_2 z1_3 z1_4 z1_5 z1_6 z1_7 z1_8 z2 : Int) (z3 : ByteArray) (b0 : 0 ≤ z0 ∧ z0 < 256) (b1_0 : 0 ≤ z1_0 ∧ z1_0 < 256) (b1_1 : 0 ≤ z1_1 ∧ z1_1 < 256) (b1_2 : 0 ≤ z1_2 ∧ z1_2 < 256) (b1_3 : 0 ≤ z1_3 ∧ z1_3 < 256) (b1_4 : 0 ≤ z1_4 ∧ z1_4 < 256) (b1_5 : 0 ≤ z1_5 ∧ z1_5 < 256) (b1_6 : 0 ≤ z1_6 ∧ z1_6 < 256) (b1_7 : 0 ≤ z1_7 ∧ z1_7 < 256) (b1_8 : 0 ≤ z1_8 ∧ z1_8 < 256) (b2 : 0 ≤ z2 ∧ z2 < 256) (b3 : z3.size ≤ 140737488355328) (w : World) :
    Calls Try.prog 6 #[.int .u8 z0, .agg #[.int .u8 z1_0, .int .u8 z1_1, .int .u8 z1_2, .int .u8 z1_3, .int .u8 z1_4, .int .u8 z1_5, .int .u8 z1_6, .int .u8 z1_7, .int .u8 z1_8], .int .u8 z2, .string z3] w (fun e w' => e = .returned (.bool true) ∧ Below w.heap.size w w') :=
  walkO z0 z1_0 z1_1 z1_2 z1_3 z1_4 z1_5 z1_6 z1_7 z1_8 z2 z3 b0 b2 b3 w

set_option maxRecDepth 100000 in
theorem lifted (os : Os) (started : os.Started) (H : Type) (enc : TypeId × Value → H) :
    ReturnsInHanded {} Try.checked os 6 .any (Rows.ctrlOneSpec.pre6 enc Try.prog Try.f6 Rows.ctrlOneRow.domain false) (Rows.ctrlOneSpec.post enc Try.prog Try.f6 false true false false) := by
  refine returnsInHanded_of_change_sized (C := Try.checked) own started (by kernel_rfl) Try.func6
    (ChangeSpec.witness6 (enc := enc) (C := Try.checked) false ⟨#[], #[.int .u8 0, .agg #[.int .u8 0, .int .u8 0, .int .u8 0, .int .u8 0, .int .u8 0, .int .u8 0, .int .u8 0, .int .u8 0, .int .u8 0], .int .u8 0, .string ByteArray.empty], []⟩ 8 (by kernel_rfl) (by kernel_rfl) (by kernel_rfl) (by kernel_rfl)) ?_
  intro W base args ds gs before hval0 hW hcnd hsz0 _
  have hval : ∀ (j : Nat) t v, Try.f6.params[j]? = some t → args[j]? = some v → Value.okWide Try.prog W .any base t v := hval0
  have hW' := hW
  obtain ⟨p, q, hA0, hV, rfl, hfz, hnd⟩ := hW
  have hA : DataW.TrodAll enc Try.prog W 0 (fun _ => true) true Try.f6.params.toList args.toList ds p := hA0
  have hK := hA
  rw [Try.params6] at hA hval
  obtain ⟨v0, vs0, d0, ds0, p0, q0, hargs, rfl, rfl, h0, r0⟩ := trodAll_cons hA
  obtain ⟨v1, vs1, d1, ds1, p1, q1, rfl, rfl, rfl, h1, r1⟩ := trodAll_cons r0
  obtain ⟨v2, vs2, d2, ds2, p2, q2, rfl, rfl, rfl, h2, r2⟩ := trodAll_cons r1
  obtain ⟨v3, vs3, d3, ds3, p3, q3, rfl, rfl, rfl, h3, r3⟩ := trodAll_cons r2
  obtain ⟨rfl, rfl, rfl⟩ := trodAll_nil r3
  obtain rfl : args = #[v0, v1, v2, v3] := by cases args; simp_all
  obtain ⟨rfl, rfl⟩ := trodVars_none hV
  obtain ⟨z0, rfl, b0⟩ := cell_int Try.underlying5 (val_cell (by kernel_rfl) (hval 0 5 v0 rfl rfl))
  obtain ⟨cs1, rfl, k1⟩ := cells_of (P := Try.prog) (t := 56) (ts := [5, 5, 5, 5, 5, 5, 5, 5, 5]) (by kernel_rfl) (by kernel_rfl) (by kernel_rfl) (hval 1 56 v1 rfl rfl)
  obtain ⟨x1_0, t1_0, e1_0, o1_0, k1⟩ := k1
  obtain ⟨z1_0, rfl, b1_0⟩ := cell_int Try.underlying5 o1_0
  obtain ⟨x1_1, t1_1, e1_1, o1_1, k1⟩ := k1
  obtain ⟨z1_1, rfl, b1_1⟩ := cell_int Try.underlying5 o1_1
  obtain ⟨x1_2, t1_2, e1_2, o1_2, k1⟩ := k1
  obtain ⟨z1_2, rfl, b1_2⟩ := cell_int Try.underlying5 o1_2
  obtain ⟨x1_3, t1_3, e1_3, o1_3, k1⟩ := k1
  obtain ⟨z1_3, rfl, b1_3⟩ := cell_int Try.underlying5 o1_3
  obtain ⟨x1_4, t1_4, e1_4, o1_4, k1⟩ := k1
  obtain ⟨z1_4, rfl, b1_4⟩ := cell_int Try.underlying5 o1_4
  obtain ⟨x1_5, t1_5, e1_5, o1_5, k1⟩ := k1
  obtain ⟨z1_5, rfl, b1_5⟩ := cell_int Try.underlying5 o1_5
  obtain ⟨x1_6, t1_6, e1_6, o1_6, k1⟩ := k1
  obtain ⟨z1_6, rfl, b1_6⟩ := cell_int Try.underlying5 o1_6
  obtain ⟨x1_7, t1_7, e1_7, o1_7, k1⟩ := k1
  obtain ⟨z1_7, rfl, b1_7⟩ := cell_int Try.underlying5 o1_7
  obtain ⟨x1_8, t1_8, e1_8, o1_8, k1⟩ := k1
  obtain ⟨z1_8, rfl, b1_8⟩ := cell_int Try.underlying5 o1_8
  simp only [CellsAre] at k1
  obtain rfl : cs1 = #[.int .u8 z1_0, .int .u8 z1_1, .int .u8 z1_2, .int .u8 z1_3, .int .u8 z1_4, .int .u8 z1_5, .int .u8 z1_6, .int .u8 z1_7, .int .u8 z1_8] := Array.toList_inj.1 (by rw [e1_0, e1_1, e1_2, e1_3, e1_4, e1_5, e1_6, e1_7, e1_8, k1])
  obtain ⟨z2, rfl, b2⟩ := cell_int Try.underlying5 (val_cell (by kernel_rfl) (hval 2 5 v2 rfl rfl))
  obtain ⟨z3, rfl, b3⟩ := cell_string Try.underlying9 (val_cell (by kernel_rfl) (hval 3 9 v3 rfl rfl))
  have zb3 : z3.size ≤ 140737488355328 := by
    obtain ⟨s', e1, e2, _, _⟩ := Go.ChangeMaps.open_string Try.underlying9 (hval 3 9 _ rfl rfl) h3
    have e3 := sized_string hsz0 (j := 3) (t := 9) (bytes := s'.data.toList) (by kernel_rfl) (by rw [e2]; rfl)
    have e4 := reachBytes_lt
    injection e1 with e1
    subst e1
    have e5 : z3.size = z3.data.toList.length := by rw [Array.length_toList]; rfl
    omega
  clear hA0 hval0
  refine (walk z0 z1_0 z1_1 z1_2 z1_3 z1_4 z1_5 z1_6 z1_7 z1_8 z2 z3 (has_u8 b0) (has_u8 b1_0) (has_u8 b1_1) (has_u8 b1_2) (has_u8 b1_3) (has_u8 b1_4) (has_u8 b1_5) (has_u8 b1_6) (has_u8 b1_7) (has_u8 b1_8) (has_u8 b2) zb3 W).mono fun e W' ⟨he, bel⟩ => ?_
  subst he
  exact ⟨_, rfl, _, _, _, [], _, [], hW', trodAll_mk1 (shut_bool Try.underlying4 _), trodAll_below laidOut bel (by kernel_rfl) hK, rfl, bel.frame _, fun h => by cases h⟩
theorem over : Rows.ctrlOneRow.holds Try.pinned (OpenSpec.ofChange Rows.ctrlOneSpec) :=
  OpenClaim.holds_of_wide 6 Try.f6 rfl rfl rfl rfl rfl rfl rfl ⟨rfl, rfl, rfl, rfl, rfl⟩ rfl rfl rfl rfl rfl (by kernel_rfl) Try.func6 (by kernel_rfl)
    (of_decide_eq_true (by kernel_rfl)) (by unfold Func.isWrapper; first | (rw [if_pos (by decide +kernel)]; kernel_rfl) | (rw [if_neg (by decide +kernel)]; exact ⟨rfl, rfl⟩))
    (fun os started H enc _ => lifted os started H enc)
theorem proved : Rows.CtrlOneSaid := over
#print axioms proved
end Go.Proofs.Ythmndlkhmihdhaa.ctrlOne
