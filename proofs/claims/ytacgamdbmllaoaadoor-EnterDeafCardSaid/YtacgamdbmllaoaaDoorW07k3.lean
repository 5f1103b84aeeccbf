/-
  Walks of functions, reckoned through, and what they give (part W07k3). No condition beyond what each says. By an AI agent.
-/
import Derived.Test.YtacgamdbmllaoaaDoorW07b
namespace Go.Proofs.YtacgamdbmllaoaaDoor
open Go.Ex
set_option maxRecDepth 1000000
theorem trnd_24 (q : Rf) (b x0 ws K x : Nat → Int) (d d' : Nat → Value) : trnd q b x0 ws K x 24 d d' := by unfold trnd givesS; kernel_rfl
theorem trnd_25 (q : Rf) (b x0 ws K x : Nat → Int) (d d' : Nat → Value) : trnd q b x0 ws K x 25 d d' := by unfold trnd givesS; kernel_rfl
theorem trnd_26 (q : Rf) (b x0 ws K x : Nat → Int) (d d' : Nat → Value) : trnd q b x0 ws K x 26 d d' := by unfold trnd givesS; kernel_rfl
theorem trnd_27 (q : Rf) (b x0 ws K x : Nat → Int) (d d' : Nat → Value) : trnd q b x0 ws K x 27 d d' := by unfold trnd givesS; kernel_rfl
theorem trnd_28 (q : Rf) (b x0 ws K x : Nat → Int) (d d' : Nat → Value) : trnd q b x0 ws K x 28 d d' := by unfold trnd givesS; kernel_rfl
theorem trnd_29 (q : Rf) (b x0 ws K x : Nat → Int) (d d' : Nat → Value) : trnd q b x0 ws K x 29 d d' := by unfold trnd givesS; kernel_rfl
theorem trnd_30 (q : Rf) (b x0 ws K x : Nat → Int) (d d' : Nat → Value) : trnd q b x0 ws K x 30 d d' := by unfold trnd givesS; kernel_rfl
theorem trnd_31 (q : Rf) (b x0 ws K x : Nat → Int) (d d' : Nat → Value) : trnd q b x0 ws K x 31 d d' := by unfold trnd givesS; kernel_rfl
end Go.Proofs.YtacgamdbmllaoaaDoor
