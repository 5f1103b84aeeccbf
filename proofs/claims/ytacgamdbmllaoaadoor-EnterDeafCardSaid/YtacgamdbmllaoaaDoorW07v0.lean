/-
  Walks of functions, reckoned through, and what they give (part W07v0). No condition beyond what each says. By an AI agent.
-/
import Derived.Test.YtacgamdbmllaoaaDoorW07b
namespace Go.Proofs.YtacgamdbmllaoaaDoor
open Go.Ex
set_option maxRecDepth 1000000
theorem vrnd_0 (q : Rf) (b ws : Nat → Int) (d d' : Nat → Value) : vrnd0 q b ws d d' := by unfold vrnd0 givesS; kernel_rfl
theorem vrnd_1 (q : Rf) (b ws : Nat → Int) (d d' : Nat → Value) : vrnd q b ws 1 d d' := by unfold vrnd givesS; kernel_rfl
theorem vrnd_2 (q : Rf) (b ws : Nat → Int) (d d' : Nat → Value) : vrnd q b ws 2 d d' := by unfold vrnd givesS; kernel_rfl
theorem vrnd_3 (q : Rf) (b ws : Nat → Int) (d d' : Nat → Value) : vrnd q b ws 3 d d' := by unfold vrnd givesS; kernel_rfl
theorem vrnd_4 (q : Rf) (b ws : Nat → Int) (d d' : Nat → Value) : vrnd q b ws 4 d d' := by unfold vrnd givesS; kernel_rfl
theorem vrnd_5 (q : Rf) (b ws : Nat → Int) (d d' : Nat → Value) : vrnd q b ws 5 d d' := by unfold vrnd givesS; kernel_rfl
theorem vrnd_6 (q : Rf) (b ws : Nat → Int) (d d' : Nat → Value) : vrnd q b ws 6 d d' := by unfold vrnd givesS; kernel_rfl
theorem vrnd_7 (q : Rf) (b ws : Nat → Int) (d d' : Nat → Value) : vrnd q b ws 7 d d' := by unfold vrnd givesS; kernel_rfl
end Go.Proofs.YtacgamdbmllaoaaDoor
