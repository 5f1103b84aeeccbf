/-
  Walks of functions, reckoned through, and what they give (part W06r4). No condition beyond what each says. By an AI agent.
-/
import Derived.Test.YtgefcokanfbpbaaDoorW06A
namespace Go.Proofs.YtgefcokanfbpbaaDoor
open Go.Ex
set_option maxRecDepth 1000000
theorem round_32 (i0 i1 i2 i3 i4 i5 i6 i7 : Int) (s : ByteArray) (x la : Nat → Int) (d d' : Nat → Value) : roundS1 [i0, i1, i2, i3, i4, i5, i6, i7] s 32 x la d d' := by
  unfold roundS1 givesS; kernel_rfl
theorem round_33 (i0 i1 i2 i3 i4 i5 i6 i7 : Int) (s : ByteArray) (x la : Nat → Int) (d d' : Nat → Value) : roundS1 [i0, i1, i2, i3, i4, i5, i6, i7] s 33 x la d d' := by
  unfold roundS1 givesS; kernel_rfl
theorem round_34 (i0 i1 i2 i3 i4 i5 i6 i7 : Int) (s : ByteArray) (x la : Nat → Int) (d d' : Nat → Value) : roundS1 [i0, i1, i2, i3, i4, i5, i6, i7] s 34 x la d d' := by
  unfold roundS1 givesS; kernel_rfl
theorem round_35 (i0 i1 i2 i3 i4 i5 i6 i7 : Int) (s : ByteArray) (x la : Nat → Int) (d d' : Nat → Value) : roundS1 [i0, i1, i2, i3, i4, i5, i6, i7] s 35 x la d d' := by
  unfold roundS1 givesS; kernel_rfl
theorem round_36 (i0 i1 i2 i3 i4 i5 i6 i7 : Int) (s : ByteArray) (x la : Nat → Int) (d d' : Nat → Value) : roundS1 [i0, i1, i2, i3, i4, i5, i6, i7] s 36 x la d d' := by
  unfold roundS1 givesS; kernel_rfl
theorem round_37 (i0 i1 i2 i3 i4 i5 i6 i7 : Int) (s : ByteArray) (x la : Nat → Int) (d d' : Nat → Value) : roundS1 [i0, i1, i2, i3, i4, i5, i6, i7] s 37 x la d d' := by
  unfold roundS1 givesS; kernel_rfl
theorem round_38 (i0 i1 i2 i3 i4 i5 i6 i7 : Int) (s : ByteArray) (x la : Nat → Int) (d d' : Nat → Value) : roundS1 [i0, i1, i2, i3, i4, i5, i6, i7] s 38 x la d d' := by
  unfold roundS1 givesS; kernel_rfl
theorem round_39 (i0 i1 i2 i3 i4 i5 i6 i7 : Int) (s : ByteArray) (x la : Nat → Int) (d d' : Nat → Value) : roundS1 [i0, i1, i2, i3, i4, i5, i6, i7] s 39 x la d d' := by
  unfold roundS1 givesS; kernel_rfl
end Go.Proofs.YtgefcokanfbpbaaDoor
