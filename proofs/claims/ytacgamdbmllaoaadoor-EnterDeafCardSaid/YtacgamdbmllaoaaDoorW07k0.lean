/-
  Walks of functions, reckoned through, and what they give (part W07k0). No condition beyond what each says. By an AI agent.
-/
import Derived.Test.YtacgamdbmllaoaaDoorW07b
namespace Go.Proofs.YtacgamdbmllaoaaDoor
open Go.Ex
set_option maxRecDepth 1000000
theorem trnd_0 (q : Rf) (b x0 ws K x : Nat → Int) (d d' : Nat → Value) : trnd q b x0 ws K x 0 d d' := by unfold trnd givesS; kernel_rfl
theorem trnd_1 (q : Rf) (b x0 ws K x : Nat → Int) (d d' : Nat → Value) : trnd q b x0 ws K x 1 d d' := by unfold trnd givesS; kernel_rfl
theorem trnd_2 (q : Rf) (b x0 ws K x : Nat → Int) (d d' : Nat → Value) : trnd q b x0 ws K x 2 d d' := by unfold trnd givesS; kernel_rfl
theorem trnd_3 (q : Rf) (b x0 ws K x : Nat → Int) (d d' : Nat → Value) : trnd q b x0 ws K x 3 d d' := by unfold trnd givesS; kernel_rfl
theorem trnd_4 (q : Rf) (b x0 ws K x : Nat → Int) (d d' : Nat → Value) : trnd q b x0 ws K x 4 d d' := by unfold trnd givesS; kernel_rfl
theorem trnd_5 (q : Rf) (b x0 ws K x : Nat → Int) (d d' : Nat → Value) : trnd q b x0 ws K x 5 d d' := by unfold trnd givesS; kernel_rfl
theorem trnd_6 (q : Rf) (b x0 ws K x : Nat → Int) (d d' : Nat → Value) : trnd q b x0 ws K x 6 d d' := by unfold trnd givesS; kernel_rfl
theorem trnd_7 (q : Rf) (b x0 ws K x : Nat → Int) (d d' : Nat → Value) : trnd q b x0 ws K x 7 d d' := by unfold trnd givesS; kernel_rfl
end Go.Proofs.YtacgamdbmllaoaaDoor
