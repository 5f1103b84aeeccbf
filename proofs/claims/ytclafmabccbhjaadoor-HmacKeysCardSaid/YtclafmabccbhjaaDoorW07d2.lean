/-
  Walks of functions, reckoned through, and what they give (part W07d2). No condition beyond what each says. By an AI agent.
-/
import Derived.Test.YtclafmabccbhjaaDoorW07c
namespace Go.Proofs.YtclafmabccbhjaaDoor
open Go.Ex
open Go.RowKit (Below)
set_option linter.unusedVariables false
set_option linter.unusedSimpArgs false
set_option maxRecDepth 1000000
theorem sum_5 (q : Rf) (G : TF) (PD : ByteArray → ByteArray) (s : ByteArray) : sumP q G PD s 5 := by unfold sumP givesV; kernel_rfl
theorem sum_6 (q : Rf) (G : TF) (PD : ByteArray → ByteArray) (s : ByteArray) : sumP q G PD s 6 := by unfold sumP givesV; kernel_rfl
theorem sum_7 (q : Rf) (G : TF) (PD : ByteArray → ByteArray) (s : ByteArray) : sumP q G PD s 7 := by unfold sumP givesV; kernel_rfl
end Go.Proofs.YtclafmabccbhjaaDoor
