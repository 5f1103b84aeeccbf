/-
  AddrBack: it returns true, whatever the arguments; they read as before. No condition. By an AI agent.
-/
import Derived.Test.YtopillmjfpnmoaaRows
import Derived.Test.YtopillmjfpnmoaaW12n
import Derived.WalkKit
import Derived.ProofKit
import Derived.OpenShut
import Derived.ShutString
import Derived.ChangeOld
import Derived.Below
import Derived.SizedLaws
import Derived.ChangeMaps5
namespace Go.Proofs.Ytopillmjfpnmoaa.addrBack
open Go.Ex Go.ChangeShapes Go.WideShapes Go.ChangeAt Go.RowKit
set_option linter.unusedVariables false
set_option linter.unusedSimpArgs false
theorem own : ownKnob Try.prog.godebug = none := by kernel_rfl
theorem laidOut : laidOutB Try.prog = true := by kernel_rfl
theorem walk (z0_0 : Bool) (z0_1 : Bool) (z0_2 : Bool) (z0_3 : Int) (z0_4 : Int) (z0_5 : Int) (z0_6 : Int) (z0_7 : Int) (z0_8 : Int) (z0_9 : Int) (z0_10 : Int) (z0_11 : Int) (z0_12 : Int) (z0_13 : Int) (z0_14 : Int) (z0_15 : Int) (z0_16 : Int) (z0_17 : Int) (z0_18 : Int) (z0_19 : Int) (z0_20 : Int) (z0_21 : Int) (z0_22 : Int) (z0_23 : Int) (z0_24 : Int) (z0_25 : Int) (z0_26 : Int) (z0_27 : Int) (z0_28 : Int) (z1_0 : Bool) (z1_1 : Bool) (z1_2 : Bool) (z1_3 : Int) (z1_4 : Int) (z1_5 : Int) (z1_6 : Int) (z1_7 : Int) (z1_8 : Int) (z1_9 : Int) (z1_10 : Int) (z1_11 : Int) (z1_12 : Int) (z1_13 : Int) (z1_14 : Int) (z1_15 : Int) (z1_16 : Int) (z1_17 : Int) (z1_18 : Int) (z1_19 : Int) (z1_20 : Int) (z1_21 : Int) (z1_22 : Int) (z1_23 : Int) (z1_24 : Int) (z1_25 : Int) (z1_26 : Int) (z1_27 : Int) (z1_28 : Int) (z2 : ByteArray) (b0_3 : 0 ≤ z0_3 ∧ z0_3 < 256) (b0_4 : 0 ≤ z0_4 ∧ z0_4 < 65536) (b0_5 : 0 ≤ z0_5 ∧ z0_5 < 256) (b0_6 : 0 ≤ z0_6 ∧ z0_6 < 256) (b0_7 : 0 ≤ z0_7 ∧ z0_7 < 256) (b0_8 : 0 ≤ z0_8 ∧ z0_8 < 256) (b0_9 : 0 ≤ z0_9 ∧ z0_9 < 256) (b0_10 : 0 ≤ z0_10 ∧ z0_10 < 256) (b0_11 : 0 ≤ z0_11 ∧ z0_11 < 256) (b0_12 : 0 ≤ z0_12 ∧ z0_12 < 256) (b0_13 : 0 ≤ z0_13 ∧ z0_13 < 256) (b0_14 : 0 ≤ z0_14 ∧ z0_14 < 256) (b0_15 : 0 ≤ z0_15 ∧ z0_15 < 256) (b0_16 : 0 ≤ z0_16 ∧ z0_16 < 256) (b0_17 : 0 ≤ z0_17 ∧ z0_17 < 256) (b0_18 : 0 ≤ z0_18 ∧ z0_18 < 256) (b0_19 : 0 ≤ z0_19 ∧ z0_19 < 256) (b0_20 : 0 ≤ z0_20 ∧ z0_20 < 256) (b0_21 : 0 ≤ z0_21 ∧ z0_21 < 256) (b0_22 : 0 ≤ z0_22 ∧ z0_22 < 256) (b0_23 : 0 ≤ z0_23 ∧ z0_23 < 256) (b0_24 : 0 ≤ z0_24 ∧ z0_24 < 256) (b0_25 : 0 ≤ z0_25 ∧ z0_25 < 256) (b0_26 : 0 ≤ z0_26 ∧ z0_26 < 256) (b0_27 : 0 ≤ z0_27 ∧ z0_27 < 256) (b0_28 : 0 ≤ z0_28 ∧ z0_28 < 256) (b1_3 : 0 ≤ z1_3 ∧ z1_3 < 256) (b1_4 : 0 ≤ z1_4 ∧ z1_4 < 65536) (b1_5 : 0 ≤ z1_5 ∧ z1_5 < 256) (b1_6 : 0 ≤ z1_6 ∧ z1_6 < 256) (b1_7 : 0 ≤ z1_7 ∧ z1_7 < 256) (b1_8 : 0 ≤ z1_8 ∧ z1_8 < 256) (b1_9 : 0 ≤ z1_9 ∧ z1_9 < 256) (b1_10 : 0 ≤ z1_10 ∧ z1_10 < 256) (b1_11 : 0 ≤ z1_11 ∧ z1_11 < 256) (b1_12 : 0 ≤ z1_12 ∧ z1_12 < 256) (b1_13 : 0 ≤ z1_13 ∧ z1_13 < 256) (b1_14 : 0 ≤ z1_14 ∧ z1_14 < 256) (b1_15 : 0 ≤ z1_15 ∧ z1_15 < 256) (b1_16 : 0 ≤ z1_16 ∧ z1_16 < 256) (b1_17 : 0 ≤ z1_17 ∧ z1_17 < 256) (b1_18 : 0 ≤ z1_18 ∧ z1_18 < 256) (b1_19 : 0 ≤ z1_19 ∧ z1_19 < 256) (b1_20 : 0 ≤ z1_20 ∧ z1_20 < 256) (b1_21 : 0 ≤ z1_21 ∧ z1_21 < 256) (b1_22 : 0 ≤ z1_22 ∧ z1_22 < 256) (b1_23 : 0 ≤ z1_23 ∧ z1_23 < 256) (b1_24 : 0 ≤ z1_24 ∧ z1_24 < 256) (b1_25 : 0 ≤ z1_25 ∧ z1_25 < 256) (b1_26 : 0 ≤ z1_26 ∧ z1_26 < 256) (b1_27 : 0 ≤ z1_27 ∧ z1_27 < 256) (b1_28 : 0 ≤ z1_28 ∧ z1_28 < 256) (b2 : z2.size ≤ 140737488355328) (w : World) :
    Calls Try.prog 5 #[.agg #[.bool z0_0, .bool z0_1, .bool z0_2, .int .u8 z0_3, .int .u16 z0_4, .int .u8 z0_5, .int .u8 z0_6, .int .u8 z0_7, .int .u8 z0_8, .int .u8 z0_9, .int .u8 z0_10, .int .u8 z0_11, .int .u8 z0_12, .int .u8 z0_13, .int .u8 z0_14, .int .u8 z0_15, .int .u8 z0_16, .int .u8 z0_17, .int .u8 z0_18, .int .u8 z0_19, .int .u8 z0_20, .int .u8 z0_21, .int .u8 z0_22, .int .u8 z0_23, .int .u8 z0_24, .int .u8 z0_25, .int .u8 z0_26, .int .u8 z0_27, .int .u8 z0_28], .agg #[.bool z1_0, .bool z1_1, .bool z1_2, .int .u8 z1_3, .int .u16 z1_4, .int .u8 z1_5, .int .u8 z1_6, .int .u8 z1_7, .int .u8 z1_8, .int .u8 z1_9, .int .u8 z1_10, .int .u8 z1_11, .int .u8 z1_12, .int .u8 z1_13, .int .u8 z1_14, .int .u8 z1_15, .int .u8 z1_16, .int .u8 z1_17, .int .u8 z1_18, .int .u8 z1_19, .int .u8 z1_20, .int .u8 z1_21, .int .u8 z1_22, .int .u8 z1_23, .int .u8 z1_24, .int .u8 z1_25, .int .u8 z1_26, .int .u8 z1_27, .int .u8 z1_28], .string z2] w (fun e w' => e = .returned (.bool true) ∧ Below w.heap.size w w') :=
  walkB (DV.mk z0_0 z0_1 z0_2 z0_3 z0_4 z0_5 z0_6 z0_7 z0_8 z0_9 z0_10 z0_11 z0_12 z0_13 z0_14 z0_15 z0_16 z0_17 z0_18 z0_19 z0_20 z0_21 z0_22 z0_23 z0_24 z0_25 z0_26 z0_27 z0_28) (DV.mk z1_0 z1_1 z1_2 z1_3 z1_4 z1_5 z1_6 z1_7 z1_8 z1_9 z1_10 z1_11 z1_12 z1_13 z1_14 z1_15 z1_16 z1_17 z1_18 z1_19 z1_20 z1_21 z1_22 z1_23 z1_24 z1_25 z1_26 z1_27 z1_28) z2 ⟨b0_3, b0_4⟩ ⟨b1_3, b1_4⟩ b2 w

set_option maxRecDepth 100000 in
theorem lifted (os : Os) (started : os.Started) (H : Type) (enc : TypeId × Value → H) :
    ReturnsInHanded {} Try.checked os 5 .any (Rows.addrBackSpec.pre6 enc Try.prog Try.f5 Rows.addrBackRow.domain false) (Rows.addrBackSpec.post enc Try.prog Try.f5 false true false false) := by
  refine returnsInHanded_of_change_sized (C := Try.checked) own started (by kernel_rfl) Try.func5
    (ChangeSpec.witness6 (enc := enc) (C := Try.checked) false ⟨#[], #[.agg #[.bool false, .bool false, .bool false, .int .u8 0, .int .u16 0, .int .u8 0, .int .u8 0, .int .u8 0, .int .u8 0, .int .u8 0, .int .u8 0, .int .u8 0, .int .u8 0, .int .u8 0, .int .u8 0, .int .u8 0, .int .u8 0, .int .u8 0, .int .u8 0, .int .u8 0, .int .u8 0, .int .u8 0, .int .u8 0, .int .u8 0, .int .u8 0, .int .u8 0, .int .u8 0, .int .u8 0, .int .u8 0], .agg #[.bool false, .bool false, .bool false, .int .u8 0, .int .u16 0, .int .u8 0, .int .u8 0, .int .u8 0, .int .u8 0, .int .u8 0, .int .u8 0, .int .u8 0, .int .u8 0, .int .u8 0, .int .u8 0, .int .u8 0, .int .u8 0, .int .u8 0, .int .u8 0, .int .u8 0, .int .u8 0, .int .u8 0, .int .u8 0, .int .u8 0, .int .u8 0, .int .u8 0, .int .u8 0, .int .u8 0, .int .u8 0], .string ByteArray.empty], []⟩ 8 (by kernel_rfl) (by kernel_rfl) (by kernel_rfl) (by kernel_rfl)) ?_
  intro W base args ds gs before hval0 hW hcnd hsz0 _
  have hval : ∀ (j : Nat) t v, Try.f5.params[j]? = some t → args[j]? = some v → Value.okWide Try.prog W .any base t v := hval0
  have hW' := hW
  obtain ⟨p, q, hA0, hV, rfl, hfz, hnd⟩ := hW
  have hA : DataW.TrodAll enc Try.prog W 0 (fun _ => true) true Try.f5.params.toList args.toList ds p := hA0
  have hK := hA
  rw [Try.params5] at hA hval
  obtain ⟨v0, vs0, d0, ds0, p0, q0, hargs, rfl, rfl, h0, r0⟩ := trodAll_cons hA
  obtain ⟨v1, vs1, d1, ds1, p1, q1, rfl, rfl, rfl, h1, r1⟩ := trodAll_cons r0
  obtain ⟨v2, vs2, d2, ds2, p2, q2, rfl, rfl, rfl, h2, r2⟩ := trodAll_cons r1
  obtain ⟨rfl, rfl, rfl⟩ := trodAll_nil r2
  obtain rfl : args = #[v0, v1, v2] := by cases args; simp_all
  obtain ⟨rfl, rfl⟩ := trodVars_none hV
  obtain ⟨cs0, rfl, k0⟩ := cells_of (P := Try.prog) (t := 35) (ts := [4, 4, 4, 5, 32, 5, 5, 5, 5, 5, 5, 5, 5, 5, 5, 5, 5, 5, 5, 5, 5, 5, 5, 5, 5, 5, 5, 5, 5]) (by kernel_rfl) (by kernel_rfl) (by kernel_rfl) (hval 0 35 v0 rfl rfl)
  obtain ⟨x0_0, t0_0, e0_0, o0_0, k0⟩ := k0
  obtain ⟨z0_0, rfl⟩ := cell_bool Try.underlying4 o0_0
  obtain ⟨x0_1, t0_1, e0_1, o0_1, k0⟩ := k0
  obtain ⟨z0_1, rfl⟩ := cell_bool Try.underlying4 o0_1
  obtain ⟨x0_2, t0_2, e0_2, o0_2, k0⟩ := k0
  obtain ⟨z0_2, rfl⟩ := cell_bool Try.underlying4 o0_2
  obtain ⟨x0_3, t0_3, e0_3, o0_3, k0⟩ := k0
  obtain ⟨z0_3, rfl, b0_3⟩ := cell_int Try.underlying5 o0_3
  obtain ⟨x0_4, t0_4, e0_4, o0_4, k0⟩ := k0
  obtain ⟨z0_4, rfl, b0_4⟩ := cell_int Try.underlying32 o0_4
  obtain ⟨x0_5, t0_5, e0_5, o0_5, k0⟩ := k0
  obtain ⟨z0_5, rfl, b0_5⟩ := cell_int Try.underlying5 o0_5
  obtain ⟨x0_6, t0_6, e0_6, o0_6, k0⟩ := k0
  obtain ⟨z0_6, rfl, b0_6⟩ := cell_int Try.underlying5 o0_6
  obtain ⟨x0_7, t0_7, e0_7, o0_7, k0⟩ := k0
  obtain ⟨z0_7, rfl, b0_7⟩ := cell_int Try.underlying5 o0_7
  obtain ⟨x0_8, t0_8, e0_8, o0_8, k0⟩ := k0
  obtain ⟨z0_8, rfl, b0_8⟩ := cell_int Try.underlying5 o0_8
  obtain ⟨x0_9, t0_9, e0_9, o0_9, k0⟩ := k0
  obtain ⟨z0_9, rfl, b0_9⟩ := cell_int Try.underlying5 o0_9
  obtain ⟨x0_10, t0_10, e0_10, o0_10, k0⟩ := k0
  obtain ⟨z0_10, rfl, b0_10⟩ := cell_int Try.underlying5 o0_10
  obtain ⟨x0_11, t0_11, e0_11, o0_11, k0⟩ := k0
  obtain ⟨z0_11, rfl, b0_11⟩ := cell_int Try.underlying5 o0_11
  obtain ⟨x0_12, t0_12, e0_12, o0_12, k0⟩ := k0
  obtain ⟨z0_12, rfl, b0_12⟩ := cell_int Try.underlying5 o0_12
  obtain ⟨x0_13, t0_13, e0_13, o0_13, k0⟩ := k0
  obtain ⟨z0_13, rfl, b0_13⟩ := cell_int Try.underlying5 o0_13
  obtain ⟨x0_14, t0_14, e0_14, o0_14, k0⟩ := k0
  obtain ⟨z0_14, rfl, b0_14⟩ := cell_int Try.underlying5 o0_14
  obtain ⟨x0_15, t0_15, e0_15, o0_15, k0⟩ := k0
  obtain ⟨z0_15, rfl, b0_15⟩ := cell_int Try.underlying5 o0_15
  obtain ⟨x0_16, t0_16, e0_16, o0_16, k0⟩ := k0
  obtain ⟨z0_16, rfl, b0_16⟩ := cell_int Try.underlying5 o0_16
  obtain ⟨x0_17, t0_17, e0_17, o0_17, k0⟩ := k0
  obtain ⟨z0_17, rfl, b0_17⟩ := cell_int Try.underlying5 o0_17
  obtain ⟨x0_18, t0_18, e0_18, o0_18, k0⟩ := k0
  obtain ⟨z0_18, rfl, b0_18⟩ := cell_int Try.underlying5 o0_18
  obtain ⟨x0_19, t0_19, e0_19, o0_19, k0⟩ := k0
  obtain ⟨z0_19, rfl, b0_19⟩ := cell_int Try.underlying5 o0_19
  obtain ⟨x0_20, t0_20, e0_20, o0_20, k0⟩ := k0
  obtain ⟨z0_20, rfl, b0_20⟩ := cell_int Try.underlying5 o0_20
  obtain ⟨x0_21, t0_21, e0_21, o0_21, k0⟩ := k0
  obtain ⟨z0_21, rfl, b0_21⟩ := cell_int Try.underlying5 o0_21
  obtain ⟨x0_22, t0_22, e0_22, o0_22, k0⟩ := k0
  obtain ⟨z0_22, rfl, b0_22⟩ := cell_int Try.underlying5 o0_22
  obtain ⟨x0_23, t0_23, e0_23, o0_23, k0⟩ := k0
  obtain ⟨z0_23, rfl, b0_23⟩ := cell_int Try.underlying5 o0_23
  obtain ⟨x0_24, t0_24, e0_24, o0_24, k0⟩ := k0
  obtain ⟨z0_24, rfl, b0_24⟩ := cell_int Try.underlying5 o0_24
  obtain ⟨x0_25, t0_25, e0_25, o0_25, k0⟩ := k0
  obtain ⟨z0_25, rfl, b0_25⟩ := cell_int Try.underlying5 o0_25
  obtain ⟨x0_26, t0_26, e0_26, o0_26, k0⟩ := k0
  obtain ⟨z0_26, rfl, b0_26⟩ := cell_int Try.underlying5 o0_26
  obtain ⟨x0_27, t0_27, e0_27, o0_27, k0⟩ := k0
  obtain ⟨z0_27, rfl, b0_27⟩ := cell_int Try.underlying5 o0_27
  obtain ⟨x0_28, t0_28, e0_28, o0_28, k0⟩ := k0
  obtain ⟨z0_28, rfl, b0_28⟩ := cell_int Try.underlying5 o0_28
  simp only [CellsAre] at k0
  obtain rfl : cs0 = #[.bool z0_0, .bool z0_1, .bool z0_2, .int .u8 z0_3, .int .u16 z0_4, .int .u8 z0_5, .int .u8 z0_6, .int .u8 z0_7, .int .u8 z0_8, .int .u8 z0_9, .int .u8 z0_10, .int .u8 z0_11, .int .u8 z0_12, .int .u8 z0_13, .int .u8 z0_14, .int .u8 z0_15, .int .u8 z0_16, .int .u8 z0_17, .int .u8 z0_18, .int .u8 z0_19, .int .u8 z0_20, .int .u8 z0_21, .int .u8 z0_22, .int .u8 z0_23, .int .u8 z0_24, .int .u8 z0_25, .int .u8 z0_26, .int .u8 z0_27, .int .u8 z0_28] := Array.toList_inj.1 (by rw [e0_0, e0_1, e0_2, e0_3, e0_4, e0_5, e0_6, e0_7, e0_8, e0_9, e0_10, e0_11, e0_12, e0_13, e0_14, e0_15, e0_16, e0_17, e0_18, e0_19, e0_20, e0_21, e0_22, e0_23, e0_24, e0_25, e0_26, e0_27, e0_28, k0])
  obtain ⟨cs1, rfl, k1⟩ := cells_of (P := Try.prog) (t := 35) (ts := [4, 4, 4, 5, 32, 5, 5, 5, 5, 5, 5, 5, 5, 5, 5, 5, 5, 5, 5, 5, 5, 5, 5, 5, 5, 5, 5, 5, 5]) (by kernel_rfl) (by kernel_rfl) (by kernel_rfl) (hval 1 35 v1 rfl rfl)
  obtain ⟨x1_0, t1_0, e1_0, o1_0, k1⟩ := k1
  obtain ⟨z1_0, rfl⟩ := cell_bool Try.underlying4 o1_0
  obtain ⟨x1_1, t1_1, e1_1, o1_1, k1⟩ := k1
  obtain ⟨z1_1, rfl⟩ := cell_bool Try.underlying4 o1_1
  obtain ⟨x1_2, t1_2, e1_2, o1_2, k1⟩ := k1
  obtain ⟨z1_2, rfl⟩ := cell_bool Try.underlying4 o1_2
  obtain ⟨x1_3, t1_3, e1_3, o1_3, k1⟩ := k1
  obtain ⟨z1_3, rfl, b1_3⟩ := cell_int Try.underlying5 o1_3
  obtain ⟨x1_4, t1_4, e1_4, o1_4, k1⟩ := k1
  obtain ⟨z1_4, rfl, b1_4⟩ := cell_int Try.underlying32 o1_4
  obtain ⟨x1_5, t1_5, e1_5, o1_5, k1⟩ := k1
  obtain ⟨z1_5, rfl, b1_5⟩ := cell_int Try.underlying5 o1_5
  obtain ⟨x1_6, t1_6, e1_6, o1_6, k1⟩ := k1
  obtain ⟨z1_6, rfl, b1_6⟩ := cell_int Try.underlying5 o1_6
  obtain ⟨x1_7, t1_7, e1_7, o1_7, k1⟩ := k1
  obtain ⟨z1_7, rfl, b1_7⟩ := cell_int Try.underlying5 o1_7
  obtain ⟨x1_8, t1_8, e1_8, o1_8, k1⟩ := k1
  obtain ⟨z1_8, rfl, b1_8⟩ := cell_int Try.underlying5 o1_8
  obtain ⟨x1_9, t1_9, e1_9, o1_9, k1⟩ := k1
  obtain ⟨z1_9, rfl, b1_9⟩ := cell_int Try.underlying5 o1_9
  obtain ⟨x1_10, t1_10, e1_10, o1_10, k1⟩ := k1
  obtain ⟨z1_10, rfl, b1_10⟩ := cell_int Try.underlying5 o1_10
  obtain ⟨x1_11, t1_11, e1_11, o1_11, k1⟩ := k1
  obtain ⟨z1_11, rfl, b1_11⟩ := cell_int Try.underlying5 o1_11
  obtain ⟨x1_12, t1_12, e1_12, o1_12, k1⟩ := k1
  obtain ⟨z1_12, rfl, b1_12⟩ := cell_int Try.underlying5 o1_12
  obtain ⟨x1_13, t1_13, e1_13, o1_13, k1⟩ := k1
  obtain ⟨z1_13, rfl, b1_13⟩ := cell_int Try.underlying5 o1_13
  obtain ⟨x1_14, t1_14, e1_14, o1_14, k1⟩ := k1
  obtain ⟨z1_14, rfl, b1_14⟩ := cell_int Try.underlying5 o1_14
  obtain ⟨x1_15, t1_15, e1_15, o1_15, k1⟩ := k1
  obtain ⟨z1_15, rfl, b1_15⟩ := cell_int Try.underlying5 o1_15
  obtain ⟨x1_16, t1_16, e1_16, o1_16, k1⟩ := k1
  obtain ⟨z1_16, rfl, b1_16⟩ := cell_int Try.underlying5 o1_16
  obtain ⟨x1_17, t1_17, e1_17, o1_17, k1⟩ := k1
  obtain ⟨z1_17, rfl, b1_17⟩ := cell_int Try.underlying5 o1_17
  obtain ⟨x1_18, t1_18, e1_18, o1_18, k1⟩ := k1
  obtain ⟨z1_18, rfl, b1_18⟩ := cell_int Try.underlying5 o1_18
  obtain ⟨x1_19, t1_19, e1_19, o1_19, k1⟩ := k1
  obtain ⟨z1_19, rfl, b1_19⟩ := cell_int Try.underlying5 o1_19
  obtain ⟨x1_20, t1_20, e1_20, o1_20, k1⟩ := k1
  obtain ⟨z1_20, rfl, b1_20⟩ := cell_int Try.underlying5 o1_20
  obtain ⟨x1_21, t1_21, e1_21, o1_21, k1⟩ := k1
  obtain ⟨z1_21, rfl, b1_21⟩ := cell_int Try.underlying5 o1_21
  obtain ⟨x1_22, t1_22, e1_22, o1_22, k1⟩ := k1
  obtain ⟨z1_22, rfl, b1_22⟩ := cell_int Try.underlying5 o1_22
  obtain ⟨x1_23, t1_23, e1_23, o1_23, k1⟩ := k1
  obtain ⟨z1_23, rfl, b1_23⟩ := cell_int Try.underlying5 o1_23
  obtain ⟨x1_24, t1_24, e1_24, o1_24, k1⟩ := k1
  obtain ⟨z1_24, rfl, b1_24⟩ := cell_int Try.underlying5 o1_24
  obtain ⟨x1_25, t1_25, e1_25, o1_25, k1⟩ := k1
  obtain ⟨z1_25, rfl, b1_25⟩ := cell_int Try.underlying5 o1_25
  obtain ⟨x1_26, t1_26, e1_26, o1_26, k1⟩ := k1
  obtain ⟨z1_26, rfl, b1_26⟩ := cell_int Try.underlying5 o1_26
  obtain ⟨x1_27, t1_27, e1_27, o1_27, k1⟩ := k1
  obtain ⟨z1_27, rfl, b1_27⟩ := cell_int Try.underlying5 o1_27
  obtain ⟨x1_28, t1_28, e1_28, o1_28, k1⟩ := k1
  obtain ⟨z1_28, rfl, b1_28⟩ := cell_int Try.underlying5 o1_28
  simp only [CellsAre] at k1
  obtain rfl : cs1 = #[.bool z1_0, .bool z1_1, .bool z1_2, .int .u8 z1_3, .int .u16 z1_4, .int .u8 z1_5, .int .u8 z1_6, .int .u8 z1_7, .int .u8 z1_8, .int .u8 z1_9, .int .u8 z1_10, .int .u8 z1_11, .int .u8 z1_12, .int .u8 z1_13, .int .u8 z1_14, .int .u8 z1_15, .int .u8 z1_16, .int .u8 z1_17, .int .u8 z1_18, .int .u8 z1_19, .int .u8 z1_20, .int .u8 z1_21, .int .u8 z1_22, .int .u8 z1_23, .int .u8 z1_24, .int .u8 z1_25, .int .u8 z1_26, .int .u8 z1_27, .int .u8 z1_28] := Array.toList_inj.1 (by rw [e1_0, e1_1, e1_2, e1_3, e1_4, e1_5, e1_6, e1_7, e1_8, e1_9, e1_10, e1_11, e1_12, e1_13, e1_14, e1_15, e1_16, e1_17, e1_18, e1_19, e1_20, e1_21, e1_22, e1_23, e1_24, e1_25, e1_26, e1_27, e1_28, k1])
  obtain ⟨z2, rfl, b2⟩ := cell_string Try.underlying9 (val_cell (by kernel_rfl) (hval 2 9 v2 rfl rfl))
  have zb2 : z2.size ≤ 140737488355328 := by
    obtain ⟨s', e1, e2, _, _⟩ := Go.ChangeMaps.open_string Try.underlying9 (hval 2 9 _ rfl rfl) h2
    have e3 := sized_string hsz0 (j := 2) (t := 9) (bytes := s'.data.toList) (by kernel_rfl) (by rw [e2]; rfl)
    have e4 := reachBytes_lt
    injection e1 with e1
    subst e1
    have e5 : z2.size = z2.data.toList.length := by rw [Array.length_toList]; rfl
    omega
  clear hA0 hval0
  refine (walk z0_0 z0_1 z0_2 z0_3 z0_4 z0_5 z0_6 z0_7 z0_8 z0_9 z0_10 z0_11 z0_12 z0_13 z0_14 z0_15 z0_16 z0_17 z0_18 z0_19 z0_20 z0_21 z0_22 z0_23 z0_24 z0_25 z0_26 z0_27 z0_28 z1_0 z1_1 z1_2 z1_3 z1_4 z1_5 z1_6 z1_7 z1_8 z1_9 z1_10 z1_11 z1_12 z1_13 z1_14 z1_15 z1_16 z1_17 z1_18 z1_19 z1_20 z1_21 z1_22 z1_23 z1_24 z1_25 z1_26 z1_27 z1_28 z2 (has_u8 b0_3) (has_u16 b0_4) (has_u8 b0_5) (has_u8 b0_6) (has_u8 b0_7) (has_u8 b0_8) (has_u8 b0_9) (has_u8 b0_10) (has_u8 b0_11) (has_u8 b0_12) (has_u8 b0_13) (has_u8 b0_14) (has_u8 b0_15) (has_u8 b0_16) (has_u8 b0_17) (has_u8 b0_18) (has_u8 b0_19) (has_u8 b0_20) (has_u8 b0_21) (has_u8 b0_22) (has_u8 b0_23) (has_u8 b0_24) (has_u8 b0_25) (has_u8 b0_26) (has_u8 b0_27) (has_u8 b0_28) (has_u8 b1_3) (has_u16 b1_4) (has_u8 b1_5) (has_u8 b1_6) (has_u8 b1_7) (has_u8 b1_8) (has_u8 b1_9) (has_u8 b1_10) (has_u8 b1_11) (has_u8 b1_12) (has_u8 b1_13) (has_u8 b1_14) (has_u8 b1_15) (has_u8 b1_16) (has_u8 b1_17) (has_u8 b1_18) (has_u8 b1_19) (has_u8 b1_20) (has_u8 b1_21) (has_u8 b1_22) (has_u8 b1_23) (has_u8 b1_24) (has_u8 b1_25) (has_u8 b1_26) (has_u8 b1_27) (has_u8 b1_28) zb2 W).mono fun e W' ⟨he, bel⟩ => ?_
  subst he
  exact ⟨_, rfl, _, _, _, [], _, [], hW', trodAll_mk1 (shut_bool Try.underlying4 _), trodAll_below laidOut bel (by kernel_rfl) hK, rfl, bel.frame _, fun h => by cases h⟩
theorem over : Rows.addrBackRow.holds Try.pinned (OpenSpec.ofChange Rows.addrBackSpec) :=
  OpenClaim.holds_of_wide 5 Try.f5 rfl rfl rfl rfl rfl rfl rfl ⟨rfl, rfl, rfl, rfl, rfl⟩ rfl rfl rfl rfl rfl (by kernel_rfl) Try.func5 (by kernel_rfl)
    (of_decide_eq_true (by kernel_rfl)) (by unfold Func.isWrapper; first | (rw [if_pos (by decide +kernel)]; kernel_rfl) | (rw [if_neg (by decide +kernel)]; exact ⟨rfl, rfl⟩))
    (fun os started H enc _ => lifted os started H enc)
theorem proved : Rows.AddrBackSaid := over
#print axioms proved
end Go.Proofs.Ytopillmjfpnmoaa.addrBack
