/-
  Walks of functions, reckoned through, and what they give (part K08h8). No condition beyond what each says. By an AI agent.
-/
import Derived.Test.YtaeokmojogekaaaDoorK08h
namespace Go.Proofs.YtaeokmojogekaaaDoor
open Go.Ex
set_option maxRecDepth 1000000
theorem hm_16_8 (q : Sh) (a0 a1 a2 a3 a4 a5 a6 a7 a8 a9 a10 a11 a12 a13 a14 a15 b0 b1 b2 b3 b4 b5 b6 b7 : UInt8) : hmP q [a0, a1, a2, a3, a4, a5, a6, a7, a8, a9, a10, a11, a12, a13, a14, a15] [b0, b1, b2, b3, b4, b5, b6, b7] := by
  unfold hmP givesV; kernel_rfl
theorem hml_16_8 (q : Sh) (k t : List UInt8) (hk : k.length = 16) (ht : t.length = 8) : hmP q k t :=
  match k, hk, t, ht with
  | a0 :: a1 :: a2 :: a3 :: a4 :: a5 :: a6 :: a7 :: a8 :: a9 :: a10 :: a11 :: a12 :: a13 :: a14 :: a15 :: [], _, b0 :: b1 :: b2 :: b3 :: b4 :: b5 :: b6 :: b7 :: [], _ => hm_16_8 q a0 a1 a2 a3 a4 a5 a6 a7 a8 a9 a10 a11 a12 a13 a14 a15 b0 b1 b2 b3 b4 b5 b6 b7
end Go.Proofs.YtaeokmojogekaaaDoor
