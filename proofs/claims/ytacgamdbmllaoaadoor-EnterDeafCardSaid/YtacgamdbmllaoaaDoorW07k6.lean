/-
  Walks of functions, reckoned through, and what they give (part W07k6). No condition beyond what each says. By an AI agent.
-/
import Derived.Test.YtacgamdbmllaoaaDoorW07b
namespace Go.Proofs.YtacgamdbmllaoaaDoor
open Go.Ex
set_option maxRecDepth 1000000
theorem trnd_48 (q : Rf) (b x0 ws K x : Nat → Int) (d d' : Nat → Value) : trnd q b x0 ws K x 48 d d' := by unfold trnd givesS; kernel_rfl
theorem trnd_49 (q : Rf) (b x0 ws K x : Nat → Int) (d d' : Nat → Value) : trnd q b x0 ws K x 49 d d' := by unfold trnd givesS; kernel_rfl
theorem trnd_50 (q : Rf) (b x0 ws K x : Nat → Int) (d d' : Nat → Value) : trnd q b x0 ws K x 50 d d' := by unfold trnd givesS; kernel_rfl
theorem trnd_51 (q : Rf) (b x0 ws K x : Nat → Int) (d d' : Nat → Value) : trnd q b x0 ws K x 51 d d' := by unfold trnd givesS; kernel_rfl
theorem trnd_52 (q : Rf) (b x0 ws K x : Nat → Int) (d d' : Nat → Value) : trnd q b x0 ws K x 52 d d' := by unfold trnd givesS; kernel_rfl
theorem trnd_53 (q : Rf) (b x0 ws K x : Nat → Int) (d d' : Nat → Value) : trnd q b x0 ws K x 53 d d' := by unfold trnd givesS; kernel_rfl
theorem trnd_54 (q : Rf) (b x0 ws K x : Nat → Int) (d d' : Nat → Value) : trnd q b x0 ws K x 54 d d' := by unfold trnd givesS; kernel_rfl
theorem trnd_55 (q : Rf) (b x0 ws K x : Nat → Int) (d d' : Nat → Value) : trnd q b x0 ws K x 55 d d' := by unfold trnd givesS; kernel_rfl
end Go.Proofs.YtacgamdbmllaoaaDoor
