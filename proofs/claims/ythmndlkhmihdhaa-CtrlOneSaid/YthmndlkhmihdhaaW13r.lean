/-
  Walks of functions, reckoned through, and what they give (part W13r). No condition beyond what each says. By an AI agent.
-/
import Derived.Test.YthmndlkhmihdhaaW13q0
import Derived.Test.YthmndlkhmihdhaaW13q1
import Derived.Test.YthmndlkhmihdhaaW13q2
import Derived.Test.YthmndlkhmihdhaaW13q3
namespace Go.Proofs.Ythmndlkhmihdhaa
open Go.Ex
open Go.RowKit (Below)
set_option linter.unusedVariables false
set_option linter.unusedSimpArgs false
theorem walkO (c r0 r1 r2 r3 r4 r5 r6 r7 r8 n : Int) (s : ByteArray) (hc : 0 ≤ c ∧ c < 256) (hn : 0 ≤ n ∧ n < 256) (hs : s.size ≤ 140737488355328) (w : World) :
    Calls Try.prog 6 #[.int .u8 c, .agg #[.int .u8 r0, .int .u8 r1, .int .u8 r2, .int .u8 r3, .int .u8 r4, .int .u8 r5, .int .u8 r6, .int .u8 r7, .int .u8 r8], .int .u8 n, .string s] w (fun e w' => e = .returned (.bool true) ∧ Below w.heap.size w w') := by
  have h : c % 64 / 16 = 0 ∨ c % 64 / 16 = 1 ∨ c % 64 / 16 = 2 ∨ c % 64 / 16 = 3 := by omega
  rcases h with h | h | h | h
  · exact walkO0 c r0 r1 r2 r3 r4 r5 r6 r7 r8 n s hc h hn hs w
  · exact walkO1 c r0 r1 r2 r3 r4 r5 r6 r7 r8 n s hc h hn hs w
  · exact walkO2 c r0 r1 r2 r3 r4 r5 r6 r7 r8 n s hc h hn hs w
  · exact walkO3 c r0 r1 r2 r3 r4 r5 r6 r7 r8 n s hc h hn hs w
end Go.Proofs.Ythmndlkhmihdhaa
