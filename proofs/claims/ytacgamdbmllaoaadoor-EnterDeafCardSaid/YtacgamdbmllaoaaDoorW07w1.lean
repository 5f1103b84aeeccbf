/-
  Walks of functions, reckoned through, and what they give (part W07w1). No condition beyond what each says. By an AI agent.
-/
import Derived.Test.YtacgamdbmllaoaaDoorW07b
namespace Go.Proofs.YtacgamdbmllaoaaDoor
open Go.Ex
set_option maxRecDepth 1000000
theorem wrnd_28 (q : Rf) (b ws : Nat → Int) (d d' : Nat → Value) : wrnd q b ws 28 d d' := by unfold wrnd givesS; kernel_rfl
theorem wrnd_29 (q : Rf) (b ws : Nat → Int) (d d' : Nat → Value) : wrnd q b ws 29 d d' := by unfold wrnd givesS; kernel_rfl
theorem wrnd_30 (q : Rf) (b ws : Nat → Int) (d d' : Nat → Value) : wrnd q b ws 30 d d' := by unfold wrnd givesS; kernel_rfl
theorem wrnd_31 (q : Rf) (b ws : Nat → Int) (d d' : Nat → Value) : wrnd q b ws 31 d d' := by unfold wrnd givesS; kernel_rfl
theorem wrnd_32 (q : Rf) (b ws : Nat → Int) (d d' : Nat → Value) : wrnd q b ws 32 d d' := by unfold wrnd givesS; kernel_rfl
theorem wrnd_33 (q : Rf) (b ws : Nat → Int) (d d' : Nat → Value) : wrnd q b ws 33 d d' := by unfold wrnd givesS; kernel_rfl
theorem wrnd_34 (q : Rf) (b ws : Nat → Int) (d d' : Nat → Value) : wrnd q b ws 34 d d' := by unfold wrnd givesS; kernel_rfl
theorem wrnd_35 (q : Rf) (b ws : Nat → Int) (d d' : Nat → Value) : wrnd q b ws 35 d d' := by unfold wrnd givesS; kernel_rfl
theorem wrnd_36 (q : Rf) (b ws : Nat → Int) (d d' : Nat → Value) : wrnd q b ws 36 d d' := by unfold wrnd givesS; kernel_rfl
theorem wrnd_37 (q : Rf) (b ws : Nat → Int) (d d' : Nat → Value) : wrnd q b ws 37 d d' := by unfold wrnd givesS; kernel_rfl
theorem wrnd_38 (q : Rf) (b ws : Nat → Int) (d d' : Nat → Value) : wrnd q b ws 38 d d' := by unfold wrnd givesS; kernel_rfl
theorem wrnd_39 (q : Rf) (b ws : Nat → Int) (d d' : Nat → Value) : wrnd q b ws 39 d d' := by unfold wrnd givesS; kernel_rfl
end Go.Proofs.YtacgamdbmllaoaaDoor
