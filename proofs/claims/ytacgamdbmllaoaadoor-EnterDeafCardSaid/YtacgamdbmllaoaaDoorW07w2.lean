/-
  Walks of functions, reckoned through, and what they give (part W07w2). No condition beyond what each says. By an AI agent.
-/
import Derived.Test.YtacgamdbmllaoaaDoorW07b
namespace Go.Proofs.YtacgamdbmllaoaaDoor
open Go.Ex
set_option maxRecDepth 1000000
theorem wrnd_40 (q : Rf) (b ws : Nat → Int) (d d' : Nat → Value) : wrnd q b ws 40 d d' := by unfold wrnd givesS; kernel_rfl
theorem wrnd_41 (q : Rf) (b ws : Nat → Int) (d d' : Nat → Value) : wrnd q b ws 41 d d' := by unfold wrnd givesS; kernel_rfl
theorem wrnd_42 (q : Rf) (b ws : Nat → Int) (d d' : Nat → Value) : wrnd q b ws 42 d d' := by unfold wrnd givesS; kernel_rfl
theorem wrnd_43 (q : Rf) (b ws : Nat → Int) (d d' : Nat → Value) : wrnd q b ws 43 d d' := by unfold wrnd givesS; kernel_rfl
theorem wrnd_44 (q : Rf) (b ws : Nat → Int) (d d' : Nat → Value) : wrnd q b ws 44 d d' := by unfold wrnd givesS; kernel_rfl
theorem wrnd_45 (q : Rf) (b ws : Nat → Int) (d d' : Nat → Value) : wrnd q b ws 45 d d' := by unfold wrnd givesS; kernel_rfl
theorem wrnd_46 (q : Rf) (b ws : Nat → Int) (d d' : Nat → Value) : wrnd q b ws 46 d d' := by unfold wrnd givesS; kernel_rfl
theorem wrnd_47 (q : Rf) (b ws : Nat → Int) (d d' : Nat → Value) : wrnd q b ws 47 d d' := by unfold wrnd givesS; kernel_rfl
theorem wrnd_48 (q : Rf) (b ws : Nat → Int) (d d' : Nat → Value) : wrnd q b ws 48 d d' := by unfold wrnd givesS; kernel_rfl
theorem wrnd_49 (q : Rf) (b ws : Nat → Int) (d d' : Nat → Value) : wrnd q b ws 49 d d' := by unfold wrnd givesS; kernel_rfl
theorem wrnd_50 (q : Rf) (b ws : Nat → Int) (d d' : Nat → Value) : wrnd q b ws 50 d d' := by unfold wrnd givesS; kernel_rfl
theorem wrnd_51 (q : Rf) (b ws : Nat → Int) (d d' : Nat → Value) : wrnd q b ws 51 d d' := by unfold wrnd givesS; kernel_rfl
end Go.Proofs.YtacgamdbmllaoaaDoor
