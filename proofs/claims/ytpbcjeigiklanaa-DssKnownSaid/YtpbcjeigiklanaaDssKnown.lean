/-
  DssKnown: the closed statement returns true, by reckoning its call through. No condition. By an AI agent.
-/
import Derived.Test.YtpbcjeigiklanaaRows
import Derived.Test.YtpbcjeigiklanaaR11
import Derived.WalkKit
import Derived.ProofKit
import Derived.OpenShut
import Derived.ShutString
import Derived.ChangeOld
import Derived.Below
import Derived.SizedLaws
namespace Go.Proofs.Ytpbcjeigiklanaa.dssKnown
open Go.Ex Go.ChangeShapes Go.WideShapes Go.ChangeAt Go.RowKit
theorem own : ownKnob Try.prog.godebug = none := by kernel_rfl
set_option maxRecDepth 1000000 in
theorem worksT_r : saysTrue (callR X (run X 100) 12 [] [] []) = true := by kernel_rfl
noncomputable def worksT : Go.Ex.Told Try.prog := ⟨12, [], .bol true, told_true (X := X) (conned_ct _) (conned_lp _) 100 worksT_r⟩
set_option maxRecDepth 1000000 in
theorem laysX_r : saysTrue (callR X (run X 100) 17 [.agg [.bol true, .bol true, .bol true, .num .u64 18446744073709551615, .bol true, .bol true, .num .u64 18446744073709551615, .num .u32 4294967295, .num .i64 65535, .bol true, .num .u16 65535], .bts true [32, 31, 255, 255, 255, 255, 255, 255, 255, 255, 255, 255, 255, 255, 255, 255, 255, 255, 255, 255, 255, 255, 255, 255, 255, 255]] [] []) = true := by kernel_rfl
noncomputable def laysX : Go.Ex.Told Try.prog := ⟨17, [.agg [.bol true, .bol true, .bol true, .num .u64 18446744073709551615, .bol true, .bol true, .num .u64 18446744073709551615, .num .u32 4294967295, .num .i64 65535, .bol true, .num .u16 65535], .bts true [32, 31, 255, 255, 255, 255, 255, 255, 255, 255, 255, 255, 255, 255, 255, 255, 255, 255, 255, 255, 255, 255, 255, 255, 255, 255]], .bol true, told_true (X := X) (conned_ct _) (conned_lp _) 100 laysX_r⟩
noncomputable def T2 : List (Go.Ex.Told Try.prog) := [worksT, laysX]
noncomputable def YC : Con Try.prog := (Con.told T2).or repC
set_option maxRecDepth 1000000 in
theorem reckoned : saysTrue (callR (conned YC) (run (conned YC) 100) 8 [] [] []) = true := by kernel_rfl
theorem walk (W : World) : Calls Try.prog 8 #[] W (fun e w' => e = .returned (.bool true) ∧ Below W.heap.size W w') :=
  call_true (X := conned YC) (conned_ct _) (conned_lp _) 100 reckoned Rs.nil
set_option maxRecDepth 100000 in
theorem lifted (os : Os) (started : os.Started) (H : Type) (enc : TypeId × Value → H) :
    ReturnsInHanded {} Try.checked os 8 .any (Rows.dssKnownSpec.pre6 enc Try.prog Try.f8 Rows.dssKnownRow.domain false) (Rows.dssKnownSpec.post enc Try.prog Try.f8 false true false false) := by
  refine returnsInHanded_of_change_sized (C := Try.checked) own started (by kernel_rfl) Try.func8
    (ChangeSpec.witness6 (enc := enc) (C := Try.checked) false ⟨#[], #[], []⟩ 8 (by kernel_rfl) (by kernel_rfl) (by kernel_rfl) (by kernel_rfl)) ?_
  intro W base args ds gs before _ hW _ _ _
  have hW' := hW
  obtain ⟨p, q, hA0, hV, rfl, hfz, hnd⟩ := hW
  have hA : DataW.TrodAll enc Try.prog W 0 (fun _ => true) true Try.f8.params.toList args.toList ds p := hA0
  rw [Try.params8] at hA
  obtain ⟨hargs, rfl, rfl⟩ := trodAll_none hA
  obtain rfl : args = #[] := hargs
  obtain ⟨rfl, rfl⟩ := trodVars_none hV
  clear hA0
  refine (walk W).mono fun e W' ⟨he, bel⟩ => ?_
  subst he
  exact ⟨_, rfl, _, _, _, [], _, [], hW', trodAll_mk1 (shut_bool Try.underlying4 _), trodAll_mk0, rfl, bel.frame _, fun h => by cases h⟩
theorem over : Rows.dssKnownRow.holds Try.pinned (OpenSpec.ofChange Rows.dssKnownSpec) :=
  OpenClaim.holds_of_wide 8 Try.f8 rfl rfl rfl rfl rfl rfl rfl ⟨rfl, rfl, rfl, rfl, rfl⟩ rfl rfl rfl rfl rfl (by kernel_rfl) Try.func8 (by kernel_rfl)
    (of_decide_eq_true (by kernel_rfl)) (by unfold Func.isWrapper; first | (rw [if_pos (by decide +kernel)]; kernel_rfl) | (rw [if_neg (by decide +kernel)]; exact ⟨rfl, rfl⟩))
    (fun os started H enc _ => lifted os started H enc)
theorem proved : Rows.DssKnownSaid := over
#print axioms proved
end Go.Proofs.Ytpbcjeigiklanaa.dssKnown
