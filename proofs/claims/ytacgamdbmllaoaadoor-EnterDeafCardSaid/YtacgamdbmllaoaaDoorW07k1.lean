/-
  Walks of functions, reckoned through, and what they give (part W07k1). No condition beyond what each says. By an AI agent.
-/
import Derived.Test.YtacgamdbmllaoaaDoorW07b
namespace Go.Proofs.YtacgamdbmllaoaaDoor
open Go.Ex
set_option maxRecDepth 1000000
theorem trnd_8 (q : Rf) (b x0 ws K x : Nat → Int) (d d' : Nat → Value) : trnd q b x0 ws K x 8 d d' := by unfold trnd givesS; kernel_rfl
theorem trnd_9 (q : Rf) (b x0 ws K x : Nat → Int) (d d' : Nat → Value) : trnd q b x0 ws K x 9 d d' := by unfold trnd givesS; kernel_rfl
theorem trnd_10 (q : Rf) (b x0 ws K x : Nat → Int) (d d' : Nat → Value) : trnd q b x0 ws K x 10 d d' := by unfold trnd givesS; kernel_rfl
theorem trnd_11 (q : Rf) (b x0 ws K x : Nat → Int) (d d' : Nat → Value) : trnd q b x0 ws K x 11 d d' := by unfold trnd givesS; kernel_rfl
theorem trnd_12 (q : Rf) (b x0 ws K x : Nat → Int) (d d' : Nat → Value) : trnd q b x0 ws K x 12 d d' := by unfold trnd givesS; kernel_rfl
theorem trnd_13 (q : Rf) (b x0 ws K x : Nat → Int) (d d' : Nat → Value) : trnd q b x0 ws K x 13 d d' := by unfold trnd givesS; kernel_rfl
theorem trnd_14 (q : Rf) (b x0 ws K x : Nat → Int) (d d' : Nat → Value) : trnd q b x0 ws K x 14 d d' := by unfold trnd givesS; kernel_rfl
theorem trnd_15 (q : Rf) (b x0 ws K x : Nat → Int) (d d' : Nat → Value) : trnd q b x0 ws K x 15 d d' := by unfold trnd givesS; kernel_rfl
end Go.Proofs.YtacgamdbmllaoaaDoor
