/-
  Walks of functions, reckoned through, and what they give (part W06r0). No condition beyond what each says. By an AI agent.
-/
import Derived.Test.YtgefcokanfbpbaaDoorW06A
namespace Go.Proofs.YtgefcokanfbpbaaDoor
open Go.Ex
set_option maxRecDepth 1000000
theorem round_0 (i0 i1 i2 i3 i4 i5 i6 i7 : Int) (s : ByteArray) (x la : Nat → Int) (d d' : Nat → Value) : roundS1 [i0, i1, i2, i3, i4, i5, i6, i7] s 0 x la d d' := by
  unfold roundS1 givesS; kernel_rfl
theorem round_1 (i0 i1 i2 i3 i4 i5 i6 i7 : Int) (s : ByteArray) (x la : Nat → Int) (d d' : Nat → Value) : roundS1 [i0, i1, i2, i3, i4, i5, i6, i7] s 1 x la d d' := by
  unfold roundS1 givesS; kernel_rfl
theorem round_2 (i0 i1 i2 i3 i4 i5 i6 i7 : Int) (s : ByteArray) (x la : Nat → Int) (d d' : Nat → Value) : roundS1 [i0, i1, i2, i3, i4, i5, i6, i7] s 2 x la d d' := by
  unfold roundS1 givesS; kernel_rfl
theorem round_3 (i0 i1 i2 i3 i4 i5 i6 i7 : Int) (s : ByteArray) (x la : Nat → Int) (d d' : Nat → Value) : roundS1 [i0, i1, i2, i3, i4, i5, i6, i7] s 3 x la d d' := by
  unfold roundS1 givesS; kernel_rfl
theorem round_4 (i0 i1 i2 i3 i4 i5 i6 i7 : Int) (s : ByteArray) (x la : Nat → Int) (d d' : Nat → Value) : roundS1 [i0, i1, i2, i3, i4, i5, i6, i7] s 4 x la d d' := by
  unfold roundS1 givesS; kernel_rfl
theorem round_5 (i0 i1 i2 i3 i4 i5 i6 i7 : Int) (s : ByteArray) (x la : Nat → Int) (d d' : Nat → Value) : roundS1 [i0, i1, i2, i3, i4, i5, i6, i7] s 5 x la d d' := by
  unfold roundS1 givesS; kernel_rfl
theorem round_6 (i0 i1 i2 i3 i4 i5 i6 i7 : Int) (s : ByteArray) (x la : Nat → Int) (d d' : Nat → Value) : roundS1 [i0, i1, i2, i3, i4, i5, i6, i7] s 6 x la d d' := by
  unfold roundS1 givesS; kernel_rfl
theorem round_7 (i0 i1 i2 i3 i4 i5 i6 i7 : Int) (s : ByteArray) (x la : Nat → Int) (d d' : Nat → Value) : roundS1 [i0, i1, i2, i3, i4, i5, i6, i7] s 7 x la d d' := by
  unfold roundS1 givesS; kernel_rfl
end Go.Proofs.YtgefcokanfbpbaaDoor
