/-
  Walks of functions, reckoned through, and what they give (part W06q0). No condition beyond what each says. By an AI agent.
-/
import Derived.Test.YtgefcokanfbpbaaDoorW06p
namespace Go.Proofs.YtgefcokanfbpbaaDoor
open Go.Ex
set_option maxRecDepth 1000000
theorem rnd8_0 (q : Sh) (d d' : Nat → Value) : rnd8 q 0 d d' := by unfold rnd8 givesS; kernel_rfl
end Go.Proofs.YtgefcokanfbpbaaDoor
