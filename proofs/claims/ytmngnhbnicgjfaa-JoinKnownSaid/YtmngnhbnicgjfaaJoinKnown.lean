/-
  JoinKnown: the closed statement returns true, by reckoning its call through. No condition. By an AI agent.
-/
import Derived.Test.YtmngnhbnicgjfaaRows
import Derived.Test.YtmngnhbnicgjfaaExM
import Derived.WalkKit
import Derived.ProofKit
import Derived.OpenShut
import Derived.ShutString
import Derived.ChangeOld
import Derived.Below
import Derived.SizedLaws
namespace Go.Proofs.Ytmngnhbnicgjfaa.joinKnown
open Go.Ex Go.ChangeShapes Go.WideShapes Go.ChangeAt Go.RowKit
theorem own : ownKnob Try.prog.godebug = none := by kernel_rfl
set_option maxRecDepth 1000000 in
theorem synO_r : saysTrue (callR (plain Try.prog) (run (plain Try.prog) 100) 16 [.agg [.num .i64 0, .bol true, .num .i64 2, .num .u32 258, .num .u32 5, .bts true []], .bts true [17, 2, 0, 0, 1, 2, 0, 0, 0, 5]] [] []) = true := by kernel_rfl
noncomputable def synO : Go.Ex.Told Try.prog := ⟨16, [.agg [.num .i64 0, .bol true, .num .i64 2, .num .u32 258, .num .u32 5, .bts true []], .bts true [17, 2, 0, 0, 1, 2, 0, 0, 0, 5]], .bol true, told_true (X := plain Try.prog) (plain_ct _) (plain_lp _) 100 synO_r⟩
set_option maxRecDepth 1000000 in
theorem ansO_r : saysTrue (callR (plain Try.prog) (run (plain Try.prog) 100) 16 [.agg [.num .i64 1, .bol false, .num .i64 3, .num .u32 0, .num .u32 1, .bts true [97, 98, 99, 100, 101, 102, 103, 104]], .bts true [16, 3, 97, 98, 99, 100, 101, 102, 103, 104, 0, 0, 0, 1]] [] []) = true := by kernel_rfl
noncomputable def ansO : Go.Ex.Told Try.prog := ⟨16, [.agg [.num .i64 1, .bol false, .num .i64 3, .num .u32 0, .num .u32 1, .bts true [97, 98, 99, 100, 101, 102, 103, 104]], .bts true [16, 3, 97, 98, 99, 100, 101, 102, 103, 104, 0, 0, 0, 1]], .bol true, told_true (X := plain Try.prog) (plain_ct _) (plain_lp _) 100 ansO_r⟩
set_option maxRecDepth 1000000 in
theorem thirdO_r : saysTrue (callR (plain Try.prog) (run (plain Try.prog) 100) 16 [.agg [.num .i64 2, .bol false, .num .i64 0, .num .u32 0, .num .u32 0, .bts true [122, 122, 122, 122, 122, 122, 122, 122, 122, 122, 122, 122, 122, 122, 122, 122, 122, 122, 122, 122]], .bts true [16, 0, 122, 122, 122, 122, 122, 122, 122, 122, 122, 122, 122, 122, 122, 122, 122, 122, 122, 122, 122, 122]] [] []) = true := by kernel_rfl
noncomputable def thirdO : Go.Ex.Told Try.prog := ⟨16, [.agg [.num .i64 2, .bol false, .num .i64 0, .num .u32 0, .num .u32 0, .bts true [122, 122, 122, 122, 122, 122, 122, 122, 122, 122, 122, 122, 122, 122, 122, 122, 122, 122, 122, 122]], .bts true [16, 0, 122, 122, 122, 122, 122, 122, 122, 122, 122, 122, 122, 122, 122, 122, 122, 122, 122, 122, 122, 122]], .bol true, told_true (X := plain Try.prog) (plain_ct _) (plain_lp _) 100 thirdO_r⟩
set_option maxRecDepth 1000000 in
theorem laidMost_r : saysTrue (callR (plain Try.prog) (run (plain Try.prog) 100) 16 [.agg [.num .i64 0, .bol false, .num .i64 255, .num .u32 4294967295, .num .u32 4294967295, .bts true []], .bts true [16, 255, 255, 255, 255, 255, 255, 255, 255, 255]] [] []) = true := by kernel_rfl
noncomputable def laidMost : Go.Ex.Told Try.prog := ⟨16, [.agg [.num .i64 0, .bol false, .num .i64 255, .num .u32 4294967295, .num .u32 4294967295, .bts true []], .bts true [16, 255, 255, 255, 255, 255, 255, 255, 255, 255]], .bol true, told_true (X := plain Try.prog) (plain_ct _) (plain_lp _) 100 laidMost_r⟩
set_option maxRecDepth 1000000 in
theorem laidNone_r : saysTrue (callR (plain Try.prog) (run (plain Try.prog) 100) 16 [.agg [.num .i64 0, .bol false, .num .i64 0, .num .u32 0, .num .u32 0, .bts true []], .bts true [16, 0, 0, 0, 0, 0, 0, 0, 0, 0]] [] []) = true := by kernel_rfl
noncomputable def laidNone : Go.Ex.Told Try.prog := ⟨16, [.agg [.num .i64 0, .bol false, .num .i64 0, .num .u32 0, .num .u32 0, .bts true []], .bts true [16, 0, 0, 0, 0, 0, 0, 0, 0, 0]], .bol true, told_true (X := plain Try.prog) (plain_ct _) (plain_lp _) 100 laidNone_r⟩
set_option maxRecDepth 1000000 in
theorem refForm_r : saysTrue (callR (plain Try.prog) (run (plain Try.prog) 100) 17 [.bts true [16], .num .i64 5] [] []) = true := by kernel_rfl
noncomputable def refForm : Go.Ex.Told Try.prog := ⟨17, [.bts true [16], .num .i64 5], .bol true, told_true (X := plain Try.prog) (plain_ct _) (plain_lp _) 100 refForm_r⟩
set_option maxRecDepth 1000000 in
theorem refKind_r : saysTrue (callR (plain Try.prog) (run (plain Try.prog) 100) 17 [.bts true [0, 49, 50, 51, 52, 53, 54, 55, 56, 57], .num .i64 7] [] []) = true := by kernel_rfl
noncomputable def refKind : Go.Ex.Told Try.prog := ⟨17, [.bts true [0, 49, 50, 51, 52, 53, 54, 55, 56, 57], .num .i64 7], .bol true, told_true (X := plain Try.prog) (plain_ct _) (plain_lp _) 100 refKind_r⟩
set_option maxRecDepth 1000000 in
theorem refLong_r : saysTrue (callR (plain Try.prog) (run (plain Try.prog) 100) 17 [.bts true [16, 49, 50, 51, 52, 53, 54, 55, 56, 57, 48, 49, 50, 51, 52, 53, 54, 55, 56, 57, 48, 49, 50, 51], .num .i64 5] [] []) = true := by kernel_rfl
noncomputable def refLong : Go.Ex.Told Try.prog := ⟨17, [.bts true [16, 49, 50, 51, 52, 53, 54, 55, 56, 57, 48, 49, 50, 51, 52, 53, 54, 55, 56, 57, 48, 49, 50, 51], .num .i64 5], .bol true, told_true (X := plain Try.prog) (plain_ct _) (plain_lp _) 100 refLong_r⟩
noncomputable def T1 : List (Go.Ex.Told Try.prog) := [synO, ansO, thirdO]
set_option maxRecDepth 1000000 in
theorem works_r : saysTrue (callR (tabled Try.prog T1) (run (tabled Try.prog T1) 100) 12 [] [] []) = true := by kernel_rfl
noncomputable def works : Go.Ex.Told Try.prog := ⟨12, [], .bol true, told_true (X := tabled Try.prog T1) (tabled_ct _ _) (tabled_lp _ _) 100 works_r⟩
noncomputable def T2 : List (Go.Ex.Told Try.prog) := [works, laidMost, laidNone, refForm, refKind, refLong]
set_option maxRecDepth 1000000 in
theorem reckoned : saysTrue (callR (tabled Try.prog T2) (run (tabled Try.prog T2) 100) 8 [] [] []) = true := by kernel_rfl
theorem walk (W : World) : Calls Try.prog 8 #[] W (fun e w' => e = .returned (.bool true) ∧ Below W.heap.size W w') :=
  call_true (X := tabled Try.prog T2) (tabled_ct _ _) (tabled_lp _ _) 100 reckoned Rs.nil
set_option maxRecDepth 100000 in
theorem lifted (os : Os) (started : os.Started) (H : Type) (enc : TypeId × Value → H) :
    ReturnsInHanded {} Try.checked os 8 .any (Rows.joinKnownSpec.pre6 enc Try.prog Try.f8 Rows.joinKnownRow.domain false) (Rows.joinKnownSpec.post enc Try.prog Try.f8 false true false false) := by
  refine returnsInHanded_of_change_sized (C := Try.checked) own started (by kernel_rfl) Try.func8
    (ChangeSpec.witness6 (enc := enc) (C := Try.checked) false ⟨#[], #[], []⟩ 8 (by kernel_rfl) (by kernel_rfl) (by kernel_rfl) (by kernel_rfl)) ?_
  intro W base args ds gs before _ hW _ _ _
  have hW' := hW
  obtain ⟨p, q, hA0, hV, rfl, hfz, hnd⟩ := hW
  have hA : DataW.TrodAll enc Try.prog W 0 (fun _ => true) true Try.f8.params.toList args.toList ds p := hA0
  rw [Try.params8] at hA
  obtain ⟨hargs, rfl, rfl⟩ := trodAll_none hA
  obtain rfl : args = #[] := hargs
  obtain ⟨rfl, rfl⟩ := trodVars_none hV
  clear hA0
  refine (walk W).mono fun e W' ⟨he, bel⟩ => ?_
  subst he
  exact ⟨_, rfl, _, _, _, [], _, [], hW', trodAll_mk1 (shut_bool Try.underlying4 _), trodAll_mk0, rfl, bel.frame _, fun h => by cases h⟩
theorem over : Rows.joinKnownRow.holds Try.pinned (OpenSpec.ofChange Rows.joinKnownSpec) :=
  OpenClaim.holds_of_wide 8 Try.f8 rfl rfl rfl rfl rfl rfl rfl ⟨rfl, rfl, rfl, rfl, rfl⟩ rfl rfl rfl rfl rfl (by kernel_rfl) Try.func8 (by kernel_rfl)
    (of_decide_eq_true (by kernel_rfl)) (by unfold Func.isWrapper; first | (rw [if_pos (by decide +kernel)]; kernel_rfl) | (rw [if_neg (by decide +kernel)]; exact ⟨rfl, rfl⟩))
    (fun os started H enc _ => lifted os started H enc)
theorem proved : Rows.JoinKnownSaid := over
#print axioms proved
end Go.Proofs.Ytmngnhbnicgjfaa.joinKnown
