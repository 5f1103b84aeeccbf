/-
  Walks of functions, reckoned through, and what they give (part W07w3). No condition beyond what each says. By an AI agent.
-/
import Derived.Test.YtacgamdbmllaoaaDoorW07b
namespace Go.Proofs.YtacgamdbmllaoaaDoor
open Go.Ex
set_option maxRecDepth 1000000
theorem wrnd_52 (q : Rf) (b ws : Nat → Int) (d d' : Nat → Value) : wrnd q b ws 52 d d' := by unfold wrnd givesS; kernel_rfl
theorem wrnd_53 (q : Rf) (b ws : Nat → Int) (d d' : Nat → Value) : wrnd q b ws 53 d d' := by unfold wrnd givesS; kernel_rfl
theorem wrnd_54 (q : Rf) (b ws : Nat → Int) (d d' : Nat → Value) : wrnd q b ws 54 d d' := by unfold wrnd givesS; kernel_rfl
theorem wrnd_55 (q : Rf) (b ws : Nat → Int) (d d' : Nat → Value) : wrnd q b ws 55 d d' := by unfold wrnd givesS; kernel_rfl
theorem wrnd_56 (q : Rf) (b ws : Nat → Int) (d d' : Nat → Value) : wrnd q b ws 56 d d' := by unfold wrnd givesS; kernel_rfl
theorem wrnd_57 (q : Rf) (b ws : Nat → Int) (d d' : Nat → Value) : wrnd q b ws 57 d d' := by unfold wrnd givesS; kernel_rfl
theorem wrnd_58 (q : Rf) (b ws : Nat → Int) (d d' : Nat → Value) : wrnd q b ws 58 d d' := by unfold wrnd givesS; kernel_rfl
theorem wrnd_59 (q : Rf) (b ws : Nat → Int) (d d' : Nat → Value) : wrnd q b ws 59 d d' := by unfold wrnd givesS; kernel_rfl
theorem wrnd_60 (q : Rf) (b ws : Nat → Int) (d d' : Nat → Value) : wrnd q b ws 60 d d' := by unfold wrnd givesS; kernel_rfl
theorem wrnd_61 (q : Rf) (b ws : Nat → Int) (d d' : Nat → Value) : wrnd q b ws 61 d d' := by unfold wrnd givesS; kernel_rfl
theorem wrnd_62 (q : Rf) (b ws : Nat → Int) (d d' : Nat → Value) : wrnd q b ws 62 d d' := by unfold wrnd givesS; kernel_rfl
theorem wrnd_63 (q : Rf) (b ws : Nat → Int) (d d' : Nat → Value) : wrnd q b ws 63 d d' := by unfold wrnd givesS; kernel_rfl
end Go.Proofs.YtacgamdbmllaoaaDoor
