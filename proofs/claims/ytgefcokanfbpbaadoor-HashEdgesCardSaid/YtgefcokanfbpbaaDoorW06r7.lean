/-
  Walks of functions, reckoned through, and what they give (part W06r7). No condition beyond what each says. By an AI agent.
-/
import Derived.Test.YtgefcokanfbpbaaDoorW06A
namespace Go.Proofs.YtgefcokanfbpbaaDoor
open Go.Ex
set_option maxRecDepth 1000000
theorem round_56 (i0 i1 i2 i3 i4 i5 i6 i7 : Int) (s : ByteArray) (x la : Nat → Int) (d d' : Nat → Value) : roundS1 [i0, i1, i2, i3, i4, i5, i6, i7] s 56 x la d d' := by
  unfold roundS1 givesS; kernel_rfl
theorem round_57 (i0 i1 i2 i3 i4 i5 i6 i7 : Int) (s : ByteArray) (x la : Nat → Int) (d d' : Nat → Value) : roundS1 [i0, i1, i2, i3, i4, i5, i6, i7] s 57 x la d d' := by
  unfold roundS1 givesS; kernel_rfl
theorem round_58 (i0 i1 i2 i3 i4 i5 i6 i7 : Int) (s : ByteArray) (x la : Nat → Int) (d d' : Nat → Value) : roundS1 [i0, i1, i2, i3, i4, i5, i6, i7] s 58 x la d d' := by
  unfold roundS1 givesS; kernel_rfl
theorem round_59 (i0 i1 i2 i3 i4 i5 i6 i7 : Int) (s : ByteArray) (x la : Nat → Int) (d d' : Nat → Value) : roundS1 [i0, i1, i2, i3, i4, i5, i6, i7] s 59 x la d d' := by
  unfold roundS1 givesS; kernel_rfl
theorem round_60 (i0 i1 i2 i3 i4 i5 i6 i7 : Int) (s : ByteArray) (x la : Nat → Int) (d d' : Nat → Value) : roundS1 [i0, i1, i2, i3, i4, i5, i6, i7] s 60 x la d d' := by
  unfold roundS1 givesS; kernel_rfl
theorem round_61 (i0 i1 i2 i3 i4 i5 i6 i7 : Int) (s : ByteArray) (x la : Nat → Int) (d d' : Nat → Value) : roundS1 [i0, i1, i2, i3, i4, i5, i6, i7] s 61 x la d d' := by
  unfold roundS1 givesS; kernel_rfl
theorem round_62 (i0 i1 i2 i3 i4 i5 i6 i7 : Int) (s : ByteArray) (x la : Nat → Int) (d d' : Nat → Value) : roundS1 [i0, i1, i2, i3, i4, i5, i6, i7] s 62 x la d d' := by
  unfold roundS1 givesS; kernel_rfl
theorem round_63 (i0 i1 i2 i3 i4 i5 i6 i7 : Int) (s : ByteArray) (x la : Nat → Int) (d d' : Nat → Value) : roundS1 [i0, i1, i2, i3, i4, i5, i6, i7] s 63 x la d d' := by
  unfold roundS1 givesS; kernel_rfl
end Go.Proofs.YtgefcokanfbpbaaDoor
