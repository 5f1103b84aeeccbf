/-
  Walks of functions, reckoned through, and what they give (part W07v1). No condition beyond what each says. By an AI agent.
-/
import Derived.Test.YtacgamdbmllaoaaDoorW07b
namespace Go.Proofs.YtacgamdbmllaoaaDoor
open Go.Ex
set_option maxRecDepth 1000000
theorem vrnd_8 (q : Rf) (b ws : Nat → Int) (d d' : Nat → Value) : vrnd q b ws 8 d d' := by unfold vrnd givesS; kernel_rfl
theorem vrnd_9 (q : Rf) (b ws : Nat → Int) (d d' : Nat → Value) : vrnd q b ws 9 d d' := by unfold vrnd givesS; kernel_rfl
theorem vrnd_10 (q : Rf) (b ws : Nat → Int) (d d' : Nat → Value) : vrnd q b ws 10 d d' := by unfold vrnd givesS; kernel_rfl
theorem vrnd_11 (q : Rf) (b ws : Nat → Int) (d d' : Nat → Value) : vrnd q b ws 11 d d' := by unfold vrnd givesS; kernel_rfl
theorem vrnd_12 (q : Rf) (b ws : Nat → Int) (d d' : Nat → Value) : vrnd q b ws 12 d d' := by unfold vrnd givesS; kernel_rfl
theorem vrnd_13 (q : Rf) (b ws : Nat → Int) (d d' : Nat → Value) : vrnd q b ws 13 d d' := by unfold vrnd givesS; kernel_rfl
theorem vrnd_14 (q : Rf) (b ws : Nat → Int) (d d' : Nat → Value) : vrnd q b ws 14 d d' := by unfold vrnd givesS; kernel_rfl
theorem vrnd_15 (q : Rf) (b ws : Nat → Int) (d d' : Nat → Value) : vrnd q b ws 15 d d' := by unfold vrnd givesS; kernel_rfl
end Go.Proofs.YtacgamdbmllaoaaDoor
