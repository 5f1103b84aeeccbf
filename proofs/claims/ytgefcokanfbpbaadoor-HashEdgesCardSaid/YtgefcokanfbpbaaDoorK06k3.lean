/-
  The digests of c^n differ, for 64 bytes c (part 3). No condition. By an AI agent.
-/
import Derived.Test.YtgefcokanfbpbaaDoorK06L
namespace Go.Proofs.YtgefcokanfbpbaaDoor
set_option maxRecDepth 1000000
theorem chk_3 : chk 192 64 263 = true := by kernel_rfl
end Go.Proofs.YtgefcokanfbpbaaDoor
