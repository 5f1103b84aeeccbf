/-
  Walks of functions, reckoned through, and what they give (part W07w0). No condition beyond what each says. By an AI agent.
-/
import Derived.Test.YtacgamdbmllaoaaDoorW07b
namespace Go.Proofs.YtacgamdbmllaoaaDoor
open Go.Ex
set_option maxRecDepth 1000000
theorem wrnd_16 (q : Rf) (b ws : Nat → Int) (d d' : Nat → Value) : wrnd q b ws 16 d d' := by unfold wrnd givesS; kernel_rfl
theorem wrnd_17 (q : Rf) (b ws : Nat → Int) (d d' : Nat → Value) : wrnd q b ws 17 d d' := by unfold wrnd givesS; kernel_rfl
theorem wrnd_18 (q : Rf) (b ws : Nat → Int) (d d' : Nat → Value) : wrnd q b ws 18 d d' := by unfold wrnd givesS; kernel_rfl
theorem wrnd_19 (q : Rf) (b ws : Nat → Int) (d d' : Nat → Value) : wrnd q b ws 19 d d' := by unfold wrnd givesS; kernel_rfl
theorem wrnd_20 (q : Rf) (b ws : Nat → Int) (d d' : Nat → Value) : wrnd q b ws 20 d d' := by unfold wrnd givesS; kernel_rfl
theorem wrnd_21 (q : Rf) (b ws : Nat → Int) (d d' : Nat → Value) : wrnd q b ws 21 d d' := by unfold wrnd givesS; kernel_rfl
theorem wrnd_22 (q : Rf) (b ws : Nat → Int) (d d' : Nat → Value) : wrnd q b ws 22 d d' := by unfold wrnd givesS; kernel_rfl
theorem wrnd_23 (q : Rf) (b ws : Nat → Int) (d d' : Nat → Value) : wrnd q b ws 23 d d' := by unfold wrnd givesS; kernel_rfl
theorem wrnd_24 (q : Rf) (b ws : Nat → Int) (d d' : Nat → Value) : wrnd q b ws 24 d d' := by unfold wrnd givesS; kernel_rfl
theorem wrnd_25 (q : Rf) (b ws : Nat → Int) (d d' : Nat → Value) : wrnd q b ws 25 d d' := by unfold wrnd givesS; kernel_rfl
theorem wrnd_26 (q : Rf) (b ws : Nat → Int) (d d' : Nat → Value) : wrnd q b ws 26 d d' := by unfold wrnd givesS; kernel_rfl
theorem wrnd_27 (q : Rf) (b ws : Nat → Int) (d d' : Nat → Value) : wrnd q b ws 27 d d' := by unfold wrnd givesS; kernel_rfl
end Go.Proofs.YtacgamdbmllaoaaDoor
