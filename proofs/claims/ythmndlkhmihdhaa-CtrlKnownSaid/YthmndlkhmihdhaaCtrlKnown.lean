/-
  CtrlKnown: the closed statement returns true, by reckoning its call through. No condition. By an AI agent.
-/
import Derived.Test.YthmndlkhmihdhaaRows
import Derived.Test.YthmndlkhmihdhaaW13c
import Derived.WalkKit
import Derived.ProofKit
import Derived.OpenShut
import Derived.ShutString
import Derived.ChangeOld
import Derived.Below
import Derived.SizedLaws
namespace Go.Proofs.Ythmndlkhmihdhaa.ctrlKnown
open Go.Ex Go.ChangeShapes Go.WideShapes Go.ChangeAt Go.RowKit
theorem own : ownKnob Try.prog.godebug = none := by kernel_rfl
noncomputable def YC : Con Try.prog := (Con.told [worksT]).or repC
set_option maxRecDepth 1000000 in
theorem reckoned : gives (callR (conned YC) (run (conned YC) 100) 7 [] [] []) (.bol true) [] := by unfold gives; kernel_rfl
theorem walk (W : World) : Calls Try.prog 7 #[] W (fun e w' => e = .returned (.bool true) ∧ Below W.heap.size W w') :=
  (con_gives _ _ _ reckoned trivial rfl Rs.nil).mono fun e w' ⟨v, h1, h2, h3⟩ => ⟨by simp only [R] at h2; rw [h1, h2], h3⟩
set_option maxRecDepth 100000 in
theorem lifted (os : Os) (started : os.Started) (H : Type) (enc : TypeId × Value → H) :
    ReturnsInHanded {} Try.checked os 7 .any (Rows.ctrlKnownSpec.pre6 enc Try.prog Try.f7 Rows.ctrlKnownRow.domain false) (Rows.ctrlKnownSpec.post enc Try.prog Try.f7 false true false false) := by
  refine returnsInHanded_of_change_sized (C := Try.checked) own started (by kernel_rfl) Try.func7
    (ChangeSpec.witness6 (enc := enc) (C := Try.checked) false ⟨#[], #[], []⟩ 8 (by kernel_rfl) (by kernel_rfl) (by kernel_rfl) (by kernel_rfl)) ?_
  intro W base args ds gs before _ hW _ _ _
  have hW' := hW
  obtain ⟨p, q, hA0, hV, rfl, hfz, hnd⟩ := hW
  have hA : DataW.TrodAll enc Try.prog W 0 (fun _ => true) true Try.f7.params.toList args.toList ds p := hA0
  rw [Try.params7] at hA
  obtain ⟨hargs, rfl, rfl⟩ := trodAll_none hA
  obtain rfl : args = #[] := hargs
  obtain ⟨rfl, rfl⟩ := trodVars_none hV
  clear hA0
  refine (walk W).mono fun e W' ⟨he, bel⟩ => ?_
  subst he
  exact ⟨_, rfl, _, _, _, [], _, [], hW', trodAll_mk1 (shut_bool Try.underlying4 _), trodAll_mk0, rfl, bel.frame _, fun h => by cases h⟩
theorem over : Rows.ctrlKnownRow.holds Try.pinned (OpenSpec.ofChange Rows.ctrlKnownSpec) :=
  OpenClaim.holds_of_wide 7 Try.f7 rfl rfl rfl rfl rfl rfl rfl ⟨rfl, rfl, rfl, rfl, rfl⟩ rfl rfl rfl rfl rfl (by kernel_rfl) Try.func7 (by kernel_rfl)
    (of_decide_eq_true (by kernel_rfl)) (by unfold Func.isWrapper; first | (rw [if_pos (by decide +kernel)]; kernel_rfl) | (rw [if_neg (by decide +kernel)]; exact ⟨rfl, rfl⟩))
    (fun os started H enc _ => lifted os started H enc)
theorem proved : Rows.CtrlKnownSaid := over
#print axioms proved
end Go.Proofs.Ythmndlkhmihdhaa.ctrlKnown
