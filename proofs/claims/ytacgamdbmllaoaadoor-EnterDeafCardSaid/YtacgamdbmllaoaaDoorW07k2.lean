/-
  Walks of functions, reckoned through, and what they give (part W07k2). No condition beyond what each says. By an AI agent.
-/
import Derived.Test.YtacgamdbmllaoaaDoorW07b
namespace Go.Proofs.YtacgamdbmllaoaaDoor
open Go.Ex
set_option maxRecDepth 1000000
theorem trnd_16 (q : Rf) (b x0 ws K x : Nat → Int) (d d' : Nat → Value) : trnd q b x0 ws K x 16 d d' := by unfold trnd givesS; kernel_rfl
theorem trnd_17 (q : Rf) (b x0 ws K x : Nat → Int) (d d' : Nat → Value) : trnd q b x0 ws K x 17 d d' := by unfold trnd givesS; kernel_rfl
theorem trnd_18 (q : Rf) (b x0 ws K x : Nat → Int) (d d' : Nat → Value) : trnd q b x0 ws K x 18 d d' := by unfold trnd givesS; kernel_rfl
theorem trnd_19 (q : Rf) (b x0 ws K x : Nat → Int) (d d' : Nat → Value) : trnd q b x0 ws K x 19 d d' := by unfold trnd givesS; kernel_rfl
theorem trnd_20 (q : Rf) (b x0 ws K x : Nat → Int) (d d' : Nat → Value) : trnd q b x0 ws K x 20 d d' := by unfold trnd givesS; kernel_rfl
theorem trnd_21 (q : Rf) (b x0 ws K x : Nat → Int) (d d' : Nat → Value) : trnd q b x0 ws K x 21 d d' := by unfold trnd givesS; kernel_rfl
theorem trnd_22 (q : Rf) (b x0 ws K x : Nat → Int) (d d' : Nat → Value) : trnd q b x0 ws K x 22 d d' := by unfold trnd givesS; kernel_rfl
theorem trnd_23 (q : Rf) (b x0 ws K x : Nat → Int) (d d' : Nat → Value) : trnd q b x0 ws K x 23 d d' := by unfold trnd givesS; kernel_rfl
end Go.Proofs.YtacgamdbmllaoaaDoor
