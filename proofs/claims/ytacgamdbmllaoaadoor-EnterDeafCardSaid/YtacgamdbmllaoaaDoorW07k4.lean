/-
  Walks of functions, reckoned through, and what they give (part W07k4). No condition beyond what each says. By an AI agent.
-/
import Derived.Test.YtacgamdbmllaoaaDoorW07b
namespace Go.Proofs.YtacgamdbmllaoaaDoor
open Go.Ex
set_option maxRecDepth 1000000
theorem trnd_32 (q : Rf) (b x0 ws K x : Nat → Int) (d d' : Nat → Value) : trnd q b x0 ws K x 32 d d' := by unfold trnd givesS; kernel_rfl
theorem trnd_33 (q : Rf) (b x0 ws K x : Nat → Int) (d d' : Nat → Value) : trnd q b x0 ws K x 33 d d' := by unfold trnd givesS; kernel_rfl
theorem trnd_34 (q : Rf) (b x0 ws K x : Nat → Int) (d d' : Nat → Value) : trnd q b x0 ws K x 34 d d' := by unfold trnd givesS; kernel_rfl
theorem trnd_35 (q : Rf) (b x0 ws K x : Nat → Int) (d d' : Nat → Value) : trnd q b x0 ws K x 35 d d' := by unfold trnd givesS; kernel_rfl
theorem trnd_36 (q : Rf) (b x0 ws K x : Nat → Int) (d d' : Nat → Value) : trnd q b x0 ws K x 36 d d' := by unfold trnd givesS; kernel_rfl
theorem trnd_37 (q : Rf) (b x0 ws K x : Nat → Int) (d d' : Nat → Value) : trnd q b x0 ws K x 37 d d' := by unfold trnd givesS; kernel_rfl
theorem trnd_38 (q : Rf) (b x0 ws K x : Nat → Int) (d d' : Nat → Value) : trnd q b x0 ws K x 38 d d' := by unfold trnd givesS; kernel_rfl
theorem trnd_39 (q : Rf) (b x0 ws K x : Nat → Int) (d d' : Nat → Value) : trnd q b x0 ws K x 39 d d' := by unfold trnd givesS; kernel_rfl
end Go.Proofs.YtacgamdbmllaoaaDoor
