/-
  AddrLays: it returns true, whatever the arguments; they read as before. No condition. By an AI agent.
-/
import Derived.Test.YtopillmjfpnmoaaRows
import Derived.Test.YtopillmjfpnmoaaW12l
import Derived.WalkKit
import Derived.ProofKit
import Derived.OpenShut
import Derived.ShutString
import Derived.ChangeOld
import Derived.Below
import Derived.SizedLaws
namespace Go.Proofs.Ytopillmjfpnmoaa.addrLays
open Go.Ex Go.ChangeShapes Go.WideShapes Go.ChangeAt Go.RowKit
set_option linter.unusedVariables false
set_option linter.unusedSimpArgs false
theorem own : ownKnob Try.prog.godebug = none := by kernel_rfl
theorem laidOut : laidOutB Try.prog = true := by kernel_rfl
theorem walk (z0_0 : Bool) (z0_1 : Int) (z0_2 : ByteArray) (z0_3 : Bool) (z0_4 : Int) (z0_5 z1 : ByteArray) (b0_1 : -9223372036854775808 ≤ z0_1 ∧ z0_1 < 9223372036854775808) (b0_2 : z0_2.size ≤ 9223372036854775807) (b0_4 : -9223372036854775808 ≤ z0_4 ∧ z0_4 < 9223372036854775808) (b0_5 : z0_5.size ≤ 9223372036854775807) (b1 : z1.size ≤ 9223372036854775807) (w : World) :
    Calls Try.prog 3 #[.agg #[.bool z0_0, .int .i64 z0_1, .string z0_2, .bool z0_3, .int .i64 z0_4, .string z0_5], .string z1] w (fun e w' => e = .returned (.bool true) ∧ Below w.heap.size w w') :=
  walkL z0_0 z0_1 z0_2 z0_3 z0_4 z0_5 z1 b0_1 b0_4 w

set_option maxRecDepth 100000 in
theorem lifted (os : Os) (started : os.Started) (H : Type) (enc : TypeId × Value → H) :
    ReturnsInHanded {} Try.checked os 3 .any (Rows.addrLaysSpec.pre6 enc Try.prog Try.f3 Rows.addrLaysRow.domain false) (Rows.addrLaysSpec.post enc Try.prog Try.f3 false true false false) := by
  refine returnsInHanded_of_change_sized (C := Try.checked) own started (by kernel_rfl) Try.func3
    (ChangeSpec.witness6 (enc := enc) (C := Try.checked) false ⟨#[], #[.agg #[.bool false, .int .i64 0, .string ByteArray.empty, .bool false, .int .i64 0, .string ByteArray.empty], .string ByteArray.empty], []⟩ 8 (by kernel_rfl) (by kernel_rfl) (by kernel_rfl) (by kernel_rfl)) ?_
  intro W base args ds gs before hval0 hW hcnd hsz0 _
  have hval : ∀ (j : Nat) t v, Try.f3.params[j]? = some t → args[j]? = some v → Value.okWide Try.prog W .any base t v := hval0
  have hW' := hW
  obtain ⟨p, q, hA0, hV, rfl, hfz, hnd⟩ := hW
  have hA : DataW.TrodAll enc Try.prog W 0 (fun _ => true) true Try.f3.params.toList args.toList ds p := hA0
  have hK := hA
  rw [Try.params3] at hA hval
  obtain ⟨v0, vs0, d0, ds0, p0, q0, hargs, rfl, rfl, h0, r0⟩ := trodAll_cons hA
  obtain ⟨v1, vs1, d1, ds1, p1, q1, rfl, rfl, rfl, h1, r1⟩ := trodAll_cons r0
  obtain ⟨rfl, rfl, rfl⟩ := trodAll_nil r1
  obtain rfl : args = #[v0, v1] := by cases args; simp_all
  obtain ⟨rfl, rfl⟩ := trodVars_none hV
  obtain ⟨cs0, rfl, k0⟩ := cells_of (P := Try.prog) (t := 23) (ts := [4, 3, 9, 4, 3, 9]) (by kernel_rfl) (by kernel_rfl) (by kernel_rfl) (hval 0 23 v0 rfl rfl)
  obtain ⟨x0_0, t0_0, e0_0, o0_0, k0⟩ := k0
  obtain ⟨z0_0, rfl⟩ := cell_bool Try.underlying4 o0_0
  obtain ⟨x0_1, t0_1, e0_1, o0_1, k0⟩ := k0
  obtain ⟨z0_1, rfl, b0_1⟩ := cell_int Try.underlying3 o0_1
  obtain ⟨x0_2, t0_2, e0_2, o0_2, k0⟩ := k0
  obtain ⟨z0_2, rfl, b0_2⟩ := cell_string Try.underlying9 o0_2
  obtain ⟨x0_3, t0_3, e0_3, o0_3, k0⟩ := k0
  obtain ⟨z0_3, rfl⟩ := cell_bool Try.underlying4 o0_3
  obtain ⟨x0_4, t0_4, e0_4, o0_4, k0⟩ := k0
  obtain ⟨z0_4, rfl, b0_4⟩ := cell_int Try.underlying3 o0_4
  obtain ⟨x0_5, t0_5, e0_5, o0_5, k0⟩ := k0
  obtain ⟨z0_5, rfl, b0_5⟩ := cell_string Try.underlying9 o0_5
  simp only [CellsAre] at k0
  obtain rfl : cs0 = #[.bool z0_0, .int .i64 z0_1, .string z0_2, .bool z0_3, .int .i64 z0_4, .string z0_5] := Array.toList_inj.1 (by rw [e0_0, e0_1, e0_2, e0_3, e0_4, e0_5, k0])
  obtain ⟨z1, rfl, b1⟩ := cell_string Try.underlying9 (val_cell (by kernel_rfl) (hval 1 9 v1 rfl rfl))
  clear hA0 hval0
  refine (walk z0_0 z0_1 z0_2 z0_3 z0_4 z0_5 z1 (has_i64 b0_1) (has_str b0_2) (has_i64 b0_4) (has_str b0_5) (has_str b1) W).mono fun e W' ⟨he, bel⟩ => ?_
  subst he
  exact ⟨_, rfl, _, _, _, [], _, [], hW', trodAll_mk1 (shut_bool Try.underlying4 _), trodAll_below laidOut bel (by kernel_rfl) hK, rfl, bel.frame _, fun h => by cases h⟩
theorem over : Rows.addrLaysRow.holds Try.pinned (OpenSpec.ofChange Rows.addrLaysSpec) :=
  OpenClaim.holds_of_wide 3 Try.f3 rfl rfl rfl rfl rfl rfl rfl ⟨rfl, rfl, rfl, rfl, rfl⟩ rfl rfl rfl rfl rfl (by kernel_rfl) Try.func3 (by kernel_rfl)
    (of_decide_eq_true (by kernel_rfl)) (by unfold Func.isWrapper; first | (rw [if_pos (by decide +kernel)]; kernel_rfl) | (rw [if_neg (by decide +kernel)]; exact ⟨rfl, rfl⟩))
    (fun os started H enc _ => lifted os started H enc)
theorem proved : Rows.AddrLaysSaid := over
#print axioms proved
end Go.Proofs.Ytopillmjfpnmoaa.addrLays
