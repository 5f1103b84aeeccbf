/-
  AddrKnown: the closed statement returns true, by reckoning its call through. No condition. By an AI agent.
-/
import Derived.Test.YtopillmjfpnmoaaRows
import Derived.Test.YtopillmjfpnmoaaR12
import Derived.WalkKit
import Derived.ProofKit
import Derived.OpenShut
import Derived.ShutString
import Derived.ChangeOld
import Derived.Below
import Derived.SizedLaws
namespace Go.Proofs.Ytopillmjfpnmoaa.addrKnown
open Go.Ex Go.ChangeShapes Go.WideShapes Go.ChangeAt Go.RowKit
theorem own : ownKnob Try.prog.godebug = none := by kernel_rfl
set_option maxRecDepth 1000000 in
theorem worksT_r : gives (callR X (run X 100) 13 [] [] []) (.bol true) [] := by unfold gives; kernel_rfl
noncomputable def worksT : Go.Ex.Told Try.prog := ⟨13, [], .bol true, fun _ _ h => con_gives _ _ _ worksT_r trivial rfl h⟩
set_option maxRecDepth 1000000 in
theorem laidW_r : gives (callR X (run X 100) 19 [.agg [.bol false, .num .i64 255, .bts true [48, 49, 50, 51, 52, 53, 54, 55, 56, 57, 97, 98, 99, 100, 101, 102], .bol true, .num .i64 65535, .bts true [49, 50, 51, 52, 53, 54, 55, 56]], .bts true [48, 255, 48, 49, 50, 51, 52, 53, 54, 55, 56, 57, 97, 98, 99, 100, 101, 102, 255, 255, 49, 50, 51, 52, 53, 54, 55, 56]] [] []) (.bol true) [] := by unfold gives; kernel_rfl
noncomputable def laidW : Go.Ex.Told Try.prog := ⟨19, [.agg [.bol false, .num .i64 255, .bts true [48, 49, 50, 51, 52, 53, 54, 55, 56, 57, 97, 98, 99, 100, 101, 102], .bol true, .num .i64 65535, .bts true [49, 50, 51, 52, 53, 54, 55, 56]], .bts true [48, 255, 48, 49, 50, 51, 52, 53, 54, 55, 56, 57, 97, 98, 99, 100, 101, 102, 255, 255, 49, 50, 51, 52, 53, 54, 55, 56]], .bol true, fun _ _ h => con_gives _ _ _ laidW_r trivial rfl h⟩
set_option maxRecDepth 1000000 in
theorem laidZ_r : gives (callR X (run X 100) 19 [.agg [.bol true, .num .i64 0, .bts true [0, 0, 0, 0], .bol true, .num .i64 0, .bts true []], .bts true [49, 0, 0, 0, 0, 0, 0, 0]] [] []) (.bol true) [] := by unfold gives; kernel_rfl
noncomputable def laidZ : Go.Ex.Told Try.prog := ⟨19, [.agg [.bol true, .num .i64 0, .bts true [0, 0, 0, 0], .bol true, .num .i64 0, .bts true []], .bts true [49, 0, 0, 0, 0, 0, 0, 0]], .bol true, fun _ _ h => con_gives _ _ _ laidZ_r trivial rfl h⟩
noncomputable def T2 : List (Go.Ex.Told Try.prog) := [worksT, laidW, laidZ]
noncomputable def YC : Con Try.prog := (Con.told T2).or joinC
set_option maxRecDepth 1000000 in
theorem reckoned : gives (callR (conned YC) (run (conned YC) 100) 8 [] [] []) (.bol true) [] := by unfold gives; kernel_rfl
theorem walk (W : World) : Calls Try.prog 8 #[] W (fun e w' => e = .returned (.bool true) ∧ Below W.heap.size W w') :=
  (con_gives _ _ _ reckoned trivial rfl Rs.nil).mono fun e w' ⟨v, h1, h2, h3⟩ => ⟨by simp only [R] at h2; rw [h1, h2], h3⟩
set_option maxRecDepth 100000 in
theorem lifted (os : Os) (started : os.Started) (H : Type) (enc : TypeId × Value → H) :
    ReturnsInHanded {} Try.checked os 8 .any (Rows.addrKnownSpec.pre6 enc Try.prog Try.f8 Rows.addrKnownRow.domain false) (Rows.addrKnownSpec.post enc Try.prog Try.f8 false true false false) := by
  refine returnsInHanded_of_change_sized (C := Try.checked) own started (by kernel_rfl) Try.func8
    (ChangeSpec.witness6 (enc := enc) (C := Try.checked) false ⟨#[], #[], []⟩ 8 (by kernel_rfl) (by kernel_rfl) (by kernel_rfl) (by kernel_rfl)) ?_
  intro W base args ds gs before _ hW _ _ _
  have hW' := hW
  obtain ⟨p, q, hA0, hV, rfl, hfz, hnd⟩ := hW
  have hA : DataW.TrodAll enc Try.prog W 0 (fun _ => true) true Try.f8.params.toList args.toList ds p := hA0
  rw [Try.params8] at hA
  obtain ⟨hargs, rfl, rfl⟩ := trodAll_none hA
  obtain rfl : args = #[] := hargs
  obtain ⟨rfl, rfl⟩ := trodVars_none hV
  clear hA0
  refine (walk W).mono fun e W' ⟨he, bel⟩ => ?_
  subst he
  exact ⟨_, rfl, _, _, _, [], _, [], hW', trodAll_mk1 (shut_bool Try.underlying4 _), trodAll_mk0, rfl, bel.frame _, fun h => by cases h⟩
theorem over : Rows.addrKnownRow.holds Try.pinned (OpenSpec.ofChange Rows.addrKnownSpec) :=
  OpenClaim.holds_of_wide 8 Try.f8 rfl rfl rfl rfl rfl rfl rfl ⟨rfl, rfl, rfl, rfl, rfl⟩ rfl rfl rfl rfl rfl (by kernel_rfl) Try.func8 (by kernel_rfl)
    (of_decide_eq_true (by kernel_rfl)) (by unfold Func.isWrapper; first | (rw [if_pos (by decide +kernel)]; kernel_rfl) | (rw [if_neg (by decide +kernel)]; exact ⟨rfl, rfl⟩))
    (fun os started H enc _ => lifted os started H enc)
theorem proved : Rows.AddrKnownSaid := over
#print axioms proved
end Go.Proofs.Ytopillmjfpnmoaa.addrKnown
