/-
  AddrPasses: it returns true, whatever the arguments; they read as before. No condition. By an AI agent.
-/
import Derived.Test.YtopillmjfpnmoaaRows
import Derived.Test.YtopillmjfpnmoaaW12o
import Derived.WalkKit
import Derived.ProofKit
import Derived.OpenShut
import Derived.ShutString
import Derived.ChangeOld
import Derived.Below
import Derived.SizedLaws
import Derived.ChangeMaps5
namespace Go.Proofs.Ytopillmjfpnmoaa.addrPasses
open Go.Ex Go.ChangeShapes Go.WideShapes Go.ChangeAt Go.RowKit
set_option linter.unusedVariables false
set_option linter.unusedSimpArgs false
theorem own : ownKnob Try.prog.godebug = none := by kernel_rfl
theorem laidOut : laidOutB Try.prog = true := by kernel_rfl
theorem walk (z0_0 : Bool) (z0_1 : Bool) (z0_2 : Bool) (z0_3 : Int) (z0_4 : Int) (z0_5 : Int) (z0_6 : Int) (z0_7 : Int) (z0_8 : Int) (z0_9 : Int) (z0_10 : Int) (z0_11 : Int) (z0_12 : Int) (z0_13 : Int) (z0_14 : Int) (z0_15 : Int) (z0_16 : Int) (z0_17 : Int) (z0_18 : Int) (z0_19 : Int) (z0_20 : Int) (z0_21 : Int) (z0_22 : Int) (z0_23 : Int) (z0_24 : Int) (z0_25 : Int) (z0_26 : Int) (z0_27 : Int) (z0_28 : Int) (z1 : ByteArray) (z2 : Int) (b0_3 : 0 ≤ z0_3 ∧ z0_3 < 256) (b0_4 : 0 ≤ z0_4 ∧ z0_4 < 65536) (b0_5 : 0 ≤ z0_5 ∧ z0_5 < 256) (b0_6 : 0 ≤ z0_6 ∧ z0_6 < 256) (b0_7 : 0 ≤ z0_7 ∧ z0_7 < 256) (b0_8 : 0 ≤ z0_8 ∧ z0_8 < 256) (b0_9 : 0 ≤ z0_9 ∧ z0_9 < 256) (b0_10 : 0 ≤ z0_10 ∧ z0_10 < 256) (b0_11 : 0 ≤ z0_11 ∧ z0_11 < 256) (b0_12 : 0 ≤ z0_12 ∧ z0_12 < 256) (b0_13 : 0 ≤ z0_13 ∧ z0_13 < 256) (b0_14 : 0 ≤ z0_14 ∧ z0_14 < 256) (b0_15 : 0 ≤ z0_15 ∧ z0_15 < 256) (b0_16 : 0 ≤ z0_16 ∧ z0_16 < 256) (b0_17 : 0 ≤ z0_17 ∧ z0_17 < 256) (b0_18 : 0 ≤ z0_18 ∧ z0_18 < 256) (b0_19 : 0 ≤ z0_19 ∧ z0_19 < 256) (b0_20 : 0 ≤ z0_20 ∧ z0_20 < 256) (b0_21 : 0 ≤ z0_21 ∧ z0_21 < 256) (b0_22 : 0 ≤ z0_22 ∧ z0_22 < 256) (b0_23 : 0 ≤ z0_23 ∧ z0_23 < 256) (b0_24 : 0 ≤ z0_24 ∧ z0_24 < 256) (b0_25 : 0 ≤ z0_25 ∧ z0_25 < 256) (b0_26 : 0 ≤ z0_26 ∧ z0_26 < 256) (b0_27 : 0 ≤ z0_27 ∧ z0_27 < 256) (b0_28 : 0 ≤ z0_28 ∧ z0_28 < 256) (b1 : z1.size ≤ 140737488355328) (b2 : 0 ≤ z2 ∧ z2 < 256) (w : World) :
    Calls Try.prog 6 #[.agg #[.bool z0_0, .bool z0_1, .bool z0_2, .int .u8 z0_3, .int .u16 z0_4, .int .u8 z0_5, .int .u8 z0_6, .int .u8 z0_7, .int .u8 z0_8, .int .u8 z0_9, .int .u8 z0_10, .int .u8 z0_11, .int .u8 z0_12, .int .u8 z0_13, .int .u8 z0_14, .int .u8 z0_15, .int .u8 z0_16, .int .u8 z0_17, .int .u8 z0_18, .int .u8 z0_19, .int .u8 z0_20, .int .u8 z0_21, .int .u8 z0_22, .int .u8 z0_23, .int .u8 z0_24, .int .u8 z0_25, .int .u8 z0_26, .int .u8 z0_27, .int .u8 z0_28], .string z1, .int .u8 z2] w (fun e w' => e = .returned (.bool true) ∧ Below w.heap.size w w') :=
  walkP (DV.mk z0_0 z0_1 z0_2 z0_3 z0_4 z0_5 z0_6 z0_7 z0_8 z0_9 z0_10 z0_11 z0_12 z0_13 z0_14 z0_15 z0_16 z0_17 z0_18 z0_19 z0_20 z0_21 z0_22 z0_23 z0_24 z0_25 z0_26 z0_27 z0_28) z1 z2 ⟨b0_3, b0_4⟩ b1 b2 w

set_option maxRecDepth 100000 in
theorem lifted (os : Os) (started : os.Started) (H : Type) (enc : TypeId × Value → H) :
    ReturnsInHanded {} Try.checked os 6 .any (Rows.addrPassesSpec.pre6 enc Try.prog Try.f6 Rows.addrPassesRow.domain false) (Rows.addrPassesSpec.post enc Try.prog Try.f6 false true false false) := by
  refine returnsInHanded_of_change_sized (C := Try.checked) own started (by kernel_rfl) Try.func6
    (ChangeSpec.witness6 (enc := enc) (C := Try.checked) false ⟨#[], #[.agg #[.bool false, .bool false, .bool false, .int .u8 0, .int .u16 0, .int .u8 0, .int .u8 0, .int .u8 0, .int .u8 0, .int .u8 0, .int .u8 0, .int .u8 0, .int .u8 0, .int .u8 0, .int .u8 0, .int .u8 0, .int .u8 0, .int .u8 0, .int .u8 0, .int .u8 0, .int .u8 0, .int .u8 0, .int .u8 0, .int .u8 0, .int .u8 0, .int .u8 0, .int .u8 0, .int .u8 0, .int .u8 0], .string ByteArray.empty, .int .u8 0], []⟩ 8 (by kernel_rfl) (by kernel_rfl) (by kernel_rfl) (by kernel_rfl)) ?_
  intro W base args ds gs before hval0 hW hcnd hsz0 _
  have hval : ∀ (j : Nat) t v, Try.f6.params[j]? = some t → args[j]? = some v → Value.okWide Try.prog W .any base t v := hval0
  have hW' := hW
  obtain ⟨p, q, hA0, hV, rfl, hfz, hnd⟩ := hW
  have hA : DataW.TrodAll enc Try.prog W 0 (fun _ => true) true Try.f6.params.toList args.toList ds p := hA0
  have hK := hA
  rw [Try.params6] at hA hval
  obtain ⟨v0, vs0, d0, ds0, p0, q0, hargs, rfl, rfl, h0, r0⟩ := trodAll_cons hA
  obtain ⟨v1, vs1, d1, ds1, p1, q1, rfl, rfl, rfl, h1, r1⟩ := trodAll_cons r0
  obtain ⟨v2, vs2, d2, ds2, p2, q2, rfl, rfl, rfl, h2, r2⟩ := trodAll_cons r1
  obtain ⟨rfl, rfl, rfl⟩ := trodAll_nil r2
  obtain rfl : args = #[v0, v1, v2] := by cases args; simp_all
  obtain ⟨rfl, rfl⟩ := trodVars_none hV
  obtain ⟨cs0, rfl, k0⟩ := cells_of (P := Try.prog) (t := 35) (ts := [4, 4, 4, 5, 32, 5, 5, 5, 5, 5, 5, 5, 5, 5, 5, 5, 5, 5, 5, 5, 5, 5, 5, 5, 5, 5, 5, 5, 5]) (by kernel_rfl) (by kernel_rfl) (by kernel_rfl) (hval 0 35 v0 rfl rfl)
  obtain ⟨x0_0, t0_0, e0_0, o0_0, k0⟩ := k0
  obtain ⟨z0_0, rfl⟩ := cell_bool Try.underlying4 o0_0
  obtain ⟨x0_1, t0_1, e0_1, o0_1, k0⟩ := k0
  obtain ⟨z0_1, rfl⟩ := cell_bool Try.underlying4 o0_1
  obtain ⟨x0_2, t0_2, e0_2, o0_2, k0⟩ := k0
  obtain ⟨z0_2, rfl⟩ := cell_bool Try.underlying4 o0_2
  obtain ⟨x0_3, t0_3, e0_3, o0_3, k0⟩ := k0
  obtain ⟨z0_3, rfl, b0_3⟩ := cell_int Try.underlying5 o0_3
  obtain ⟨x0_4, t0_4, e0_4, o0_4, k0⟩ := k0
  obtain ⟨z0_4, rfl, b0_4⟩ := cell_int Try.underlying32 o0_4
  obtain ⟨x0_5, t0_5, e0_5, o0_5, k0⟩ := k0
  obtain ⟨z0_5, rfl, b0_5⟩ := cell_int Try.underlying5 o0_5
  obtain ⟨x0_6, t0_6, e0_6, o0_6, k0⟩ := k0
  obtain ⟨z0_6, rfl, b0_6⟩ := cell_int Try.underlying5 o0_6
  obtain ⟨x0_7, t0_7, e0_7, o0_7, k0⟩ := k0
  obtain ⟨z0_7, rfl, b0_7⟩ := cell_int Try.underlying5 o0_7
  obtain ⟨x0_8, t0_8, e0_8, o0_8, k0⟩ := k0
  obtain ⟨z0_8, rfl, b0_8⟩ := cell_int Try.underlying5 o0_8
  obtain ⟨x0_9, t0_9, e0_9, o0_9, k0⟩ := k0
  obtain ⟨z0_9, rfl, b0_9⟩ := cell_int Try.underlying5 o0_9
  obtain ⟨x0_10, t0_10, e0_10, o0_10, k0⟩ := k0
  obtain ⟨z0_10, rfl, b0_10⟩ := cell_int Try.underlying5 o0_10
  obtain ⟨x0_11, t0_11, e0_11, o0_11, k0⟩ := k0
  obtain ⟨z0_11, rfl, b0_11⟩ := cell_int Try.underlying5 o0_11
  obtain ⟨x0_12, t0_12, e0_12, o0_12, k0⟩ := k0
  obtain ⟨z0_12, rfl, b0_12⟩ := cell_int Try.underlying5 o0_12
  obtain ⟨x0_13, t0_13, e0_13, o0_13, k0⟩ := k0
  obtain ⟨z0_13, rfl, b0_13⟩ := cell_int Try.underlying5 o0_13
  obtain ⟨x0_14, t0_14, e0_14, o0_14, k0⟩ := k0
  obtain ⟨z0_14, rfl, b0_14⟩ := cell_int Try.underlying5 o0_14
  obtain ⟨x0_15, t0_15, e0_15, o0_15, k0⟩ := k0
  obtain ⟨z0_15, rfl, b0_15⟩ := cell_int Try.underlying5 o0_15
  obtain ⟨x0_16, t0_16, e0_16, o0_16, k0⟩ := k0
  obtain ⟨z0_16, rfl, b0_16⟩ := cell_int Try.underlying5 o0_16
  obtain ⟨x0_17, t0_17, e0_17, o0_17, k0⟩ := k0
  obtain ⟨z0_17, rfl, b0_17⟩ := cell_int Try.underlying5 o0_17
  obtain ⟨x0_18, t0_18, e0_18, o0_18, k0⟩ := k0
  obtain ⟨z0_18, rfl, b0_18⟩ := cell_int Try.underlying5 o0_18
  obtain ⟨x0_19, t0_19, e0_19, o0_19, k0⟩ := k0
  obtain ⟨z0_19, rfl, b0_19⟩ := cell_int Try.underlying5 o0_19
  obtain ⟨x0_20, t0_20, e0_20, o0_20, k0⟩ := k0
  obtain ⟨z0_20, rfl, b0_20⟩ := cell_int Try.underlying5 o0_20
  obtain ⟨x0_21, t0_21, e0_21, o0_21, k0⟩ := k0
  obtain ⟨z0_21, rfl, b0_21⟩ := cell_int Try.underlying5 o0_21
  obtain ⟨x0_22, t0_22, e0_22, o0_22, k0⟩ := k0
  obtain ⟨z0_22, rfl, b0_22⟩ := cell_int Try.underlying5 o0_22
  obtain ⟨x0_23, t0_23, e0_23, o0_23, k0⟩ := k0
  obtain ⟨z0_23, rfl, b0_23⟩ := cell_int Try.underlying5 o0_23
  obtain ⟨x0_24, t0_24, e0_24, o0_24, k0⟩ := k0
  obtain ⟨z0_24, rfl, b0_24⟩ := cell_int Try.underlying5 o0_24
  obtain ⟨x0_25, t0_25, e0_25, o0_25, k0⟩ := k0
  obtain ⟨z0_25, rfl, b0_25⟩ := cell_int Try.underlying5 o0_25
  obtain ⟨x0_26, t0_26, e0_26, o0_26, k0⟩ := k0
  obtain ⟨z0_26, rfl, b0_26⟩ := cell_int Try.underlying5 o0_26
  obtain ⟨x0_27, t0_27, e0_27, o0_27, k0⟩ := k0
  obtain ⟨z0_27, rfl, b0_27⟩ := cell_int Try.underlying5 o0_27
  obtain ⟨x0_28, t0_28, e0_28, o0_28, k0⟩ := k0
  obtain ⟨z0_28, rfl, b0_28⟩ := cell_int Try.underlying5 o0_28
  simp only [CellsAre] at k0
  obtain rfl : cs0 = #[.bool z0_0, .bool z0_1, .bool z0_2, .int .u8 z0_3, .int .u16 z0_4, .int .u8 z0_5, .int .u8 z0_6, .int .u8 z0_7, .int .u8 z0_8, .int .u8 z0_9, .int .u8 z0_10, .int .u8 z0_11, .int .u8 z0_12, .int .u8 z0_13, .int .u8 z0_14, .int .u8 z0_15, .int .u8 z0_16, .int .u8 z0_17, .int .u8 z0_18, .int .u8 z0_19, .int .u8 z0_20, .int .u8 z0_21, .int .u8 z0_22, .int .u8 z0_23, .int .u8 z0_24, .int .u8 z0_25, .int .u8 z0_26, .int .u8 z0_27, .int .u8 z0_28] := Array.toList_inj.1 (by rw [e0_0, e0_1, e0_2, e0_3, e0_4, e0_5, e0_6, e0_7, e0_8, e0_9, e0_10, e0_11, e0_12, e0_13, e0_14, e0_15, e0_16, e0_17, e0_18, e0_19, e0_20, e0_21, e0_22, e0_23, e0_24, e0_25, e0_26, e0_27, e0_28, k0])
  obtain ⟨z1, rfl, b1⟩ := cell_string Try.underlying9 (val_cell (by kernel_rfl) (hval 1 9 v1 rfl rfl))
  have zb1 : z1.size ≤ 140737488355328 := by
    obtain ⟨s', e1, e2, _, _⟩ := Go.ChangeMaps.open_string Try.underlying9 (hval 1 9 _ rfl rfl) h1
    have e3 := sized_string hsz0 (j := 1) (t := 9) (bytes := s'.data.toList) (by kernel_rfl) (by rw [e2]; rfl)
    have e4 := reachBytes_lt
    injection e1 with e1
    subst e1
    have e5 : z1.size = z1.data.toList.length := by rw [Array.length_toList]; rfl
    omega
  obtain ⟨z2, rfl, b2⟩ := cell_int Try.underlying5 (val_cell (by kernel_rfl) (hval 2 5 v2 rfl rfl))
  clear hA0 hval0
  refine (walk z0_0 z0_1 z0_2 z0_3 z0_4 z0_5 z0_6 z0_7 z0_8 z0_9 z0_10 z0_11 z0_12 z0_13 z0_14 z0_15 z0_16 z0_17 z0_18 z0_19 z0_20 z0_21 z0_22 z0_23 z0_24 z0_25 z0_26 z0_27 z0_28 z1 z2 (has_u8 b0_3) (has_u16 b0_4) (has_u8 b0_5) (has_u8 b0_6) (has_u8 b0_7) (has_u8 b0_8) (has_u8 b0_9) (has_u8 b0_10) (has_u8 b0_11) (has_u8 b0_12) (has_u8 b0_13) (has_u8 b0_14) (has_u8 b0_15) (has_u8 b0_16) (has_u8 b0_17) (has_u8 b0_18) (has_u8 b0_19) (has_u8 b0_20) (has_u8 b0_21) (has_u8 b0_22) (has_u8 b0_23) (has_u8 b0_24) (has_u8 b0_25) (has_u8 b0_26) (has_u8 b0_27) (has_u8 b0_28) zb1 (has_u8 b2) W).mono fun e W' ⟨he, bel⟩ => ?_
  subst he
  exact ⟨_, rfl, _, _, _, [], _, [], hW', trodAll_mk1 (shut_bool Try.underlying4 _), trodAll_below laidOut bel (by kernel_rfl) hK, rfl, bel.frame _, fun h => by cases h⟩
theorem over : Rows.addrPassesRow.holds Try.pinned (OpenSpec.ofChange Rows.addrPassesSpec) :=
  OpenClaim.holds_of_wide 6 Try.f6 rfl rfl rfl rfl rfl rfl rfl ⟨rfl, rfl, rfl, rfl, rfl⟩ rfl rfl rfl rfl rfl (by kernel_rfl) Try.func6 (by kernel_rfl)
    (of_decide_eq_true (by kernel_rfl)) (by unfold Func.isWrapper; first | (rw [if_pos (by decide +kernel)]; kernel_rfl) | (rw [if_neg (by decide +kernel)]; exact ⟨rfl, rfl⟩))
    (fun os started H enc _ => lifted os started H enc)
theorem proved : Rows.AddrPassesSaid := over
#print axioms proved
end Go.Proofs.Ytopillmjfpnmoaa.addrPasses
