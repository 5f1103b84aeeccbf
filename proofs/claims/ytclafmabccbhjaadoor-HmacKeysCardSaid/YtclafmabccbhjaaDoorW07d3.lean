/-
  Walks of functions, reckoned through, and what they give (part W07d3). No condition beyond what each says. By an AI agent.
-/
import Derived.Test.YtclafmabccbhjaaDoorW07c
namespace Go.Proofs.YtclafmabccbhjaaDoor
open Go.Ex
open Go.RowKit (Below)
set_option linter.unusedVariables false
set_option linter.unusedSimpArgs false
set_option maxRecDepth 1000000
theorem sum_8 (q : Rf) (G : TF) (PD : ByteArray → ByteArray) (s : ByteArray) : sumP q G PD s 8 := by unfold sumP givesV; kernel_rfl
theorem sum_9 (q : Rf) (G : TF) (PD : ByteArray → ByteArray) (s : ByteArray) : sumP q G PD s 9 := by unfold sumP givesV; kernel_rfl
theorem sum_10 (q : Rf) (G : TF) (PD : ByteArray → ByteArray) (s : ByteArray) : sumP q G PD s 10 := by unfold sumP givesV; kernel_rfl
end Go.Proofs.YtclafmabccbhjaaDoor
