/-
  AddrReads: it returns true, whatever the arguments; they read as before. No condition. By an AI agent.
-/
import Derived.Test.YtopillmjfpnmoaaRows
import Derived.Test.YtopillmjfpnmoaaW12m
import Derived.WalkKit
import Derived.ProofKit
import Derived.OpenShut
import Derived.ShutString
import Derived.ChangeOld
import Derived.Below
import Derived.SizedLaws
namespace Go.Proofs.Ytopillmjfpnmoaa.addrReads
open Go.Ex Go.ChangeShapes Go.WideShapes Go.ChangeAt Go.RowKit
set_option linter.unusedVariables false
set_option linter.unusedSimpArgs false
theorem own : ownKnob Try.prog.godebug = none := by kernel_rfl
theorem laidOut : laidOutB Try.prog = true := by kernel_rfl
theorem walk (z0 : ByteArray) (z1_0 : Bool) (z1_1 : Bool) (z1_2 : Bool) (z1_3 : Int) (z1_4 : Int) (z1_5 : Int) (z1_6 : Int) (z1_7 : Int) (z1_8 : Int) (z1_9 : Int) (z1_10 : Int) (z1_11 : Int) (z1_12 : Int) (z1_13 : Int) (z1_14 : Int) (z1_15 : Int) (z1_16 : Int) (z1_17 : Int) (z1_18 : Int) (z1_19 : Int) (z1_20 : Int) (z1_21 : Int) (z1_22 : Int) (z1_23 : Int) (z1_24 : Int) (z1_25 : Int) (z1_26 : Int) (z1_27 : Int) (z1_28 : Int) (z2_0 z2_1 : Int) (b0 : z0.size ≤ 9223372036854775807) (b1_3 : 0 ≤ z1_3 ∧ z1_3 < 256) (b1_4 : 0 ≤ z1_4 ∧ z1_4 < 65536) (b1_5 : 0 ≤ z1_5 ∧ z1_5 < 256) (b1_6 : 0 ≤ z1_6 ∧ z1_6 < 256) (b1_7 : 0 ≤ z1_7 ∧ z1_7 < 256) (b1_8 : 0 ≤ z1_8 ∧ z1_8 < 256) (b1_9 : 0 ≤ z1_9 ∧ z1_9 < 256) (b1_10 : 0 ≤ z1_10 ∧ z1_10 < 256) (b1_11 : 0 ≤ z1_11 ∧ z1_11 < 256) (b1_12 : 0 ≤ z1_12 ∧ z1_12 < 256) (b1_13 : 0 ≤ z1_13 ∧ z1_13 < 256) (b1_14 : 0 ≤ z1_14 ∧ z1_14 < 256) (b1_15 : 0 ≤ z1_15 ∧ z1_15 < 256) (b1_16 : 0 ≤ z1_16 ∧ z1_16 < 256) (b1_17 : 0 ≤ z1_17 ∧ z1_17 < 256) (b1_18 : 0 ≤ z1_18 ∧ z1_18 < 256) (b1_19 : 0 ≤ z1_19 ∧ z1_19 < 256) (b1_20 : 0 ≤ z1_20 ∧ z1_20 < 256) (b1_21 : 0 ≤ z1_21 ∧ z1_21 < 256) (b1_22 : 0 ≤ z1_22 ∧ z1_22 < 256) (b1_23 : 0 ≤ z1_23 ∧ z1_23 < 256) (b1_24 : 0 ≤ z1_24 ∧ z1_24 < 256) (b1_25 : 0 ≤ z1_25 ∧ z1_25 < 256) (b1_26 : 0 ≤ z1_26 ∧ z1_26 < 256) (b1_27 : 0 ≤ z1_27 ∧ z1_27 < 256) (b1_28 : 0 ≤ z1_28 ∧ z1_28 < 256) (b2_0 : 0 ≤ z2_0 ∧ z2_0 < 256) (b2_1 : 0 ≤ z2_1 ∧ z2_1 < 256) (w : World) :
    Calls Try.prog 4 #[.string z0, .agg #[.bool z1_0, .bool z1_1, .bool z1_2, .int .u8 z1_3, .int .u16 z1_4, .int .u8 z1_5, .int .u8 z1_6, .int .u8 z1_7, .int .u8 z1_8, .int .u8 z1_9, .int .u8 z1_10, .int .u8 z1_11, .int .u8 z1_12, .int .u8 z1_13, .int .u8 z1_14, .int .u8 z1_15, .int .u8 z1_16, .int .u8 z1_17, .int .u8 z1_18, .int .u8 z1_19, .int .u8 z1_20, .int .u8 z1_21, .int .u8 z1_22, .int .u8 z1_23, .int .u8 z1_24, .int .u8 z1_25, .int .u8 z1_26, .int .u8 z1_27, .int .u8 z1_28], .agg #[.int .u8 z2_0, .int .u8 z2_1]] w (fun e w' => e = .returned (.bool true) ∧ Below w.heap.size w w') :=
  walkR z0 (DV.mk z1_0 z1_1 z1_2 z1_3 z1_4 z1_5 z1_6 z1_7 z1_8 z1_9 z1_10 z1_11 z1_12 z1_13 z1_14 z1_15 z1_16 z1_17 z1_18 z1_19 z1_20 z1_21 z1_22 z1_23 z1_24 z1_25 z1_26 z1_27 z1_28) z2_0 z2_1 ⟨b1_3, b1_4⟩ b2_0 b2_1 w

set_option maxRecDepth 100000 in
theorem lifted (os : Os) (started : os.Started) (H : Type) (enc : TypeId × Value → H) :
    ReturnsInHanded {} Try.checked os 4 .any (Rows.addrReadsSpec.pre6 enc Try.prog Try.f4 Rows.addrReadsRow.domain false) (Rows.addrReadsSpec.post enc Try.prog Try.f4 false true false false) := by
  refine returnsInHanded_of_change_sized (C := Try.checked) own started (by kernel_rfl) Try.func4
    (ChangeSpec.witness6 (enc := enc) (C := Try.checked) false ⟨#[], #[.string ByteArray.empty, .agg #[.bool false, .bool false, .bool false, .int .u8 0, .int .u16 0, .int .u8 0, .int .u8 0, .int .u8 0, .int .u8 0, .int .u8 0, .int .u8 0, .int .u8 0, .int .u8 0, .int .u8 0, .int .u8 0, .int .u8 0, .int .u8 0, .int .u8 0, .int .u8 0, .int .u8 0, .int .u8 0, .int .u8 0, .int .u8 0, .int .u8 0, .int .u8 0, .int .u8 0, .int .u8 0, .int .u8 0, .int .u8 0], .agg #[.int .u8 0, .int .u8 0]], []⟩ 8 (by kernel_rfl) (by kernel_rfl) (by kernel_rfl) (by kernel_rfl)) ?_
  intro W base args ds gs before hval0 hW hcnd hsz0 _
  have hval : ∀ (j : Nat) t v, Try.f4.params[j]? = some t → args[j]? = some v → Value.okWide Try.prog W .any base t v := hval0
  have hW' := hW
  obtain ⟨p, q, hA0, hV, rfl, hfz, hnd⟩ := hW
  have hA : DataW.TrodAll enc Try.prog W 0 (fun _ => true) true Try.f4.params.toList args.toList ds p := hA0
  have hK := hA
  rw [Try.params4] at hA hval
  obtain ⟨v0, vs0, d0, ds0, p0, q0, hargs, rfl, rfl, h0, r0⟩ := trodAll_cons hA
  obtain ⟨v1, vs1, d1, ds1, p1, q1, rfl, rfl, rfl, h1, r1⟩ := trodAll_cons r0
  obtain ⟨v2, vs2, d2, ds2, p2, q2, rfl, rfl, rfl, h2, r2⟩ := trodAll_cons r1
  obtain ⟨rfl, rfl, rfl⟩ := trodAll_nil r2
  obtain rfl : args = #[v0, v1, v2] := by cases args; simp_all
  obtain ⟨rfl, rfl⟩ := trodVars_none hV
  obtain ⟨z0, rfl, b0⟩ := cell_string Try.underlying9 (val_cell (by kernel_rfl) (hval 0 9 v0 rfl rfl))
  obtain ⟨cs1, rfl, k1⟩ := cells_of (P := Try.prog) (t := 35) (ts := [4, 4, 4, 5, 32, 5, 5, 5, 5, 5, 5, 5, 5, 5, 5, 5, 5, 5, 5, 5, 5, 5, 5, 5, 5, 5, 5, 5, 5]) (by kernel_rfl) (by kernel_rfl) (by kernel_rfl) (hval 1 35 v1 rfl rfl)
  obtain ⟨x1_0, t1_0, e1_0, o1_0, k1⟩ := k1
  obtain ⟨z1_0, rfl⟩ := cell_bool Try.underlying4 o1_0
  obtain ⟨x1_1, t1_1, e1_1, o1_1, k1⟩ := k1
  obtain ⟨z1_1, rfl⟩ := cell_bool Try.underlying4 o1_1
  obtain ⟨x1_2, t1_2, e1_2, o1_2, k1⟩ := k1
  obtain ⟨z1_2, rfl⟩ := cell_bool Try.underlying4 o1_2
  obtain ⟨x1_3, t1_3, e1_3, o1_3, k1⟩ := k1
  obtain ⟨z1_3, rfl, b1_3⟩ := cell_int Try.underlying5 o1_3
  obtain ⟨x1_4, t1_4, e1_4, o1_4, k1⟩ := k1
  obtain ⟨z1_4, rfl, b1_4⟩ := cell_int Try.underlying32 o1_4
  obtain ⟨x1_5, t1_5, e1_5, o1_5, k1⟩ := k1
  obtain ⟨z1_5, rfl, b1_5⟩ := cell_int Try.underlying5 o1_5
  obtain ⟨x1_6, t1_6, e1_6, o1_6, k1⟩ := k1
  obtain ⟨z1_6, rfl, b1_6⟩ := cell_int Try.underlying5 o1_6
  obtain ⟨x1_7, t1_7, e1_7, o1_7, k1⟩ := k1
  obtain ⟨z1_7, rfl, b1_7⟩ := cell_int Try.underlying5 o1_7
  obtain ⟨x1_8, t1_8, e1_8, o1_8, k1⟩ := k1
  obtain ⟨z1_8, rfl, b1_8⟩ := cell_int Try.underlying5 o1_8
  obtain ⟨x1_9, t1_9, e1_9, o1_9, k1⟩ := k1
  obtain ⟨z1_9, rfl, b1_9⟩ := cell_int Try.underlying5 o1_9
  obtain ⟨x1_10, t1_10, e1_10, o1_10, k1⟩ := k1
  obtain ⟨z1_10, rfl, b1_10⟩ := cell_int Try.underlying5 o1_10
  obtain ⟨x1_11, t1_11, e1_11, o1_11, k1⟩ := k1
  obtain ⟨z1_11, rfl, b1_11⟩ := cell_int Try.underlying5 o1_11
  obtain ⟨x1_12, t1_12, e1_12, o1_12, k1⟩ := k1
  obtain ⟨z1_12, rfl, b1_12⟩ := cell_int Try.underlying5 o1_12
  obtain ⟨x1_13, t1_13, e1_13, o1_13, k1⟩ := k1
  obtain ⟨z1_13, rfl, b1_13⟩ := cell_int Try.underlying5 o1_13
  obtain ⟨x1_14, t1_14, e1_14, o1_14, k1⟩ := k1
  obtain ⟨z1_14, rfl, b1_14⟩ := cell_int Try.underlying5 o1_14
  obtain ⟨x1_15, t1_15, e1_15, o1_15, k1⟩ := k1
  obtain ⟨z1_15, rfl, b1_15⟩ := cell_int Try.underlying5 o1_15
  obtain ⟨x1_16, t1_16, e1_16, o1_16, k1⟩ := k1
  obtain ⟨z1_16, rfl, b1_16⟩ := cell_int Try.underlying5 o1_16
  obtain ⟨x1_17, t1_17, e1_17, o1_17, k1⟩ := k1
  obtain ⟨z1_17, rfl, b1_17⟩ := cell_int Try.underlying5 o1_17
  obtain ⟨x1_18, t1_18, e1_18, o1_18, k1⟩ := k1
  obtain ⟨z1_18, rfl, b1_18⟩ := cell_int Try.underlying5 o1_18
  obtain ⟨x1_19, t1_19, e1_19, o1_19, k1⟩ := k1
  obtain ⟨z1_19, rfl, b1_19⟩ := cell_int Try.underlying5 o1_19
  obtain ⟨x1_20, t1_20, e1_20, o1_20, k1⟩ := k1
  obtain ⟨z1_20, rfl, b1_20⟩ := cell_int Try.underlying5 o1_20
  obtain ⟨x1_21, t1_21, e1_21, o1_21, k1⟩ := k1
  obtain ⟨z1_21, rfl, b1_21⟩ := cell_int Try.underlying5 o1_21
  obtain ⟨x1_22, t1_22, e1_22, o1_22, k1⟩ := k1
  obtain ⟨z1_22, rfl, b1_22⟩ := cell_int Try.underlying5 o1_22
  obtain ⟨x1_23, t1_23, e1_23, o1_23, k1⟩ := k1
  obtain ⟨z1_23, rfl, b1_23⟩ := cell_int Try.underlying5 o1_23
  obtain ⟨x1_24, t1_24, e1_24, o1_24, k1⟩ := k1
  obtain ⟨z1_24, rfl, b1_24⟩ := cell_int Try.underlying5 o1_24
  obtain ⟨x1_25, t1_25, e1_25, o1_25, k1⟩ := k1
  obtain ⟨z1_25, rfl, b1_25⟩ := cell_int Try.underlying5 o1_25
  obtain ⟨x1_26, t1_26, e1_26, o1_26, k1⟩ := k1
  obtain ⟨z1_26, rfl, b1_26⟩ := cell_int Try.underlying5 o1_26
  obtain ⟨x1_27, t1_27, e1_27, o1_27, k1⟩ := k1
  obtain ⟨z1_27, rfl, b1_27⟩ := cell_int Try.underlying5 o1_27
  obtain ⟨x1_28, t1_28, e1_28, o1_28, k1⟩ := k1
  obtain ⟨z1_28, rfl, b1_28⟩ := cell_int Try.underlying5 o1_28
  simp only [CellsAre] at k1
  obtain rfl : cs1 = #[.bool z1_0, .bool z1_1, .bool z1_2, .int .u8 z1_3, .int .u16 z1_4, .int .u8 z1_5, .int .u8 z1_6, .int .u8 z1_7, .int .u8 z1_8, .int .u8 z1_9, .int .u8 z1_10, .int .u8 z1_11, .int .u8 z1_12, .int .u8 z1_13, .int .u8 z1_14, .int .u8 z1_15, .int .u8 z1_16, .int .u8 z1_17, .int .u8 z1_18, .int .u8 z1_19, .int .u8 z1_20, .int .u8 z1_21, .int .u8 z1_22, .int .u8 z1_23, .int .u8 z1_24, .int .u8 z1_25, .int .u8 z1_26, .int .u8 z1_27, .int .u8 z1_28] := Array.toList_inj.1 (by rw [e1_0, e1_1, e1_2, e1_3, e1_4, e1_5, e1_6, e1_7, e1_8, e1_9, e1_10, e1_11, e1_12, e1_13, e1_14, e1_15, e1_16, e1_17, e1_18, e1_19, e1_20, e1_21, e1_22, e1_23, e1_24, e1_25, e1_26, e1_27, e1_28, k1])
  obtain ⟨cs2, rfl, k2⟩ := cells_of (P := Try.prog) (t := 36) (ts := [5, 5]) (by kernel_rfl) (by kernel_rfl) (by kernel_rfl) (hval 2 36 v2 rfl rfl)
  obtain ⟨x2_0, t2_0, e2_0, o2_0, k2⟩ := k2
  obtain ⟨z2_0, rfl, b2_0⟩ := cell_int Try.underlying5 o2_0
  obtain ⟨x2_1, t2_1, e2_1, o2_1, k2⟩ := k2
  obtain ⟨z2_1, rfl, b2_1⟩ := cell_int Try.underlying5 o2_1
  simp only [CellsAre] at k2
  obtain rfl : cs2 = #[.int .u8 z2_0, .int .u8 z2_1] := Array.toList_inj.1 (by rw [e2_0, e2_1, k2])
  clear hA0 hval0
  refine (walk z0 z1_0 z1_1 z1_2 z1_3 z1_4 z1_5 z1_6 z1_7 z1_8 z1_9 z1_10 z1_11 z1_12 z1_13 z1_14 z1_15 z1_16 z1_17 z1_18 z1_19 z1_20 z1_21 z1_22 z1_23 z1_24 z1_25 z1_26 z1_27 z1_28 z2_0 z2_1 (has_str b0) (has_u8 b1_3) (has_u16 b1_4) (has_u8 b1_5) (has_u8 b1_6) (has_u8 b1_7) (has_u8 b1_8) (has_u8 b1_9) (has_u8 b1_10) (has_u8 b1_11) (has_u8 b1_12) (has_u8 b1_13) (has_u8 b1_14) (has_u8 b1_15) (has_u8 b1_16) (has_u8 b1_17) (has_u8 b1_18) (has_u8 b1_19) (has_u8 b1_20) (has_u8 b1_21) (has_u8 b1_22) (has_u8 b1_23) (has_u8 b1_24) (has_u8 b1_25) (has_u8 b1_26) (has_u8 b1_27) (has_u8 b1_28) (has_u8 b2_0) (has_u8 b2_1) W).mono fun e W' ⟨he, bel⟩ => ?_
  subst he
  exact ⟨_, rfl, _, _, _, [], _, [], hW', trodAll_mk1 (shut_bool Try.underlying4 _), trodAll_below laidOut bel (by kernel_rfl) hK, rfl, bel.frame _, fun h => by cases h⟩
theorem over : Rows.addrReadsRow.holds Try.pinned (OpenSpec.ofChange Rows.addrReadsSpec) :=
  OpenClaim.holds_of_wide 4 Try.f4 rfl rfl rfl rfl rfl rfl rfl ⟨rfl, rfl, rfl, rfl, rfl⟩ rfl rfl rfl rfl rfl (by kernel_rfl) Try.func4 (by kernel_rfl)
    (of_decide_eq_true (by kernel_rfl)) (by unfold Func.isWrapper; first | (rw [if_pos (by decide +kernel)]; kernel_rfl) | (rw [if_neg (by decide +kernel)]; exact ⟨rfl, rfl⟩))
    (fun os started H enc _ => lifted os started H enc)
theorem proved : Rows.AddrReadsSaid := over
#print axioms proved
end Go.Proofs.Ytopillmjfpnmoaa.addrReads
