/-
  Walks of functions, reckoned through, and what they give (part W07k7). No condition beyond what each says. By an AI agent.
-/
import Derived.Test.YtacgamdbmllaoaaDoorW07b
namespace Go.Proofs.YtacgamdbmllaoaaDoor
open Go.Ex
set_option maxRecDepth 1000000
theorem trnd_56 (q : Rf) (b x0 ws K x : Nat → Int) (d d' : Nat → Value) : trnd q b x0 ws K x 56 d d' := by unfold trnd givesS; kernel_rfl
theorem trnd_57 (q : Rf) (b x0 ws K x : Nat → Int) (d d' : Nat → Value) : trnd q b x0 ws K x 57 d d' := by unfold trnd givesS; kernel_rfl
theorem trnd_58 (q : Rf) (b x0 ws K x : Nat → Int) (d d' : Nat → Value) : trnd q b x0 ws K x 58 d d' := by unfold trnd givesS; kernel_rfl
theorem trnd_59 (q : Rf) (b x0 ws K x : Nat → Int) (d d' : Nat → Value) : trnd q b x0 ws K x 59 d d' := by unfold trnd givesS; kernel_rfl
theorem trnd_60 (q : Rf) (b x0 ws K x : Nat → Int) (d d' : Nat → Value) : trnd q b x0 ws K x 60 d d' := by unfold trnd givesS; kernel_rfl
theorem trnd_61 (q : Rf) (b x0 ws K x : Nat → Int) (d d' : Nat → Value) : trnd q b x0 ws K x 61 d d' := by unfold trnd givesS; kernel_rfl
theorem trnd_62 (q : Rf) (b x0 ws K x : Nat → Int) (d d' : Nat → Value) : trnd q b x0 ws K x 62 d d' := by unfold trnd givesS; kernel_rfl
theorem trnd_63 (q : Rf) (b x0 ws K x : Nat → Int) (d d' : Nat → Value) : trnd q b x0 ws K x 63 d d' := by unfold trnd givesS; kernel_rfl
end Go.Proofs.YtacgamdbmllaoaaDoor
