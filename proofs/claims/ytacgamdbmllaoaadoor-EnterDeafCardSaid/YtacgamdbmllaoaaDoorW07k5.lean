/-
  Walks of functions, reckoned through, and what they give (part W07k5). No condition beyond what each says. By an AI agent.
-/
import Derived.Test.YtacgamdbmllaoaaDoorW07b
namespace Go.Proofs.YtacgamdbmllaoaaDoor
open Go.Ex
set_option maxRecDepth 1000000
theorem trnd_40 (q : Rf) (b x0 ws K x : Nat → Int) (d d' : Nat → Value) : trnd q b x0 ws K x 40 d d' := by unfold trnd givesS; kernel_rfl
theorem trnd_41 (q : Rf) (b x0 ws K x : Nat → Int) (d d' : Nat → Value) : trnd q b x0 ws K x 41 d d' := by unfold trnd givesS; kernel_rfl
theorem trnd_42 (q : Rf) (b x0 ws K x : Nat → Int) (d d' : Nat → Value) : trnd q b x0 ws K x 42 d d' := by unfold trnd givesS; kernel_rfl
theorem trnd_43 (q : Rf) (b x0 ws K x : Nat → Int) (d d' : Nat → Value) : trnd q b x0 ws K x 43 d d' := by unfold trnd givesS; kernel_rfl
theorem trnd_44 (q : Rf) (b x0 ws K x : Nat → Int) (d d' : Nat → Value) : trnd q b x0 ws K x 44 d d' := by unfold trnd givesS; kernel_rfl
theorem trnd_45 (q : Rf) (b x0 ws K x : Nat → Int) (d d' : Nat → Value) : trnd q b x0 ws K x 45 d d' := by unfold trnd givesS; kernel_rfl
theorem trnd_46 (q : Rf) (b x0 ws K x : Nat → Int) (d d' : Nat → Value) : trnd q b x0 ws K x 46 d d' := by unfold trnd givesS; kernel_rfl
theorem trnd_47 (q : Rf) (b x0 ws K x : Nat → Int) (d d' : Nat → Value) : trnd q b x0 ws K x 47 d d' := by unfold trnd givesS; kernel_rfl
end Go.Proofs.YtacgamdbmllaoaaDoor
