/-
  Walks of functions, reckoned through, and what they give (part W06r3). No condition beyond what each says. By an AI agent.
-/
import Derived.Test.YtgefcokanfbpbaaDoorW06A
namespace Go.Proofs.YtgefcokanfbpbaaDoor
open Go.Ex
set_option maxRecDepth 1000000
theorem round_24 (i0 i1 i2 i3 i4 i5 i6 i7 : Int) (s : ByteArray) (x la : Nat → Int) (d d' : Nat → Value) : roundS1 [i0, i1, i2, i3, i4, i5, i6, i7] s 24 x la d d' := by
  unfold roundS1 givesS; kernel_rfl
theorem round_25 (i0 i1 i2 i3 i4 i5 i6 i7 : Int) (s : ByteArray) (x la : Nat → Int) (d d' : Nat → Value) : roundS1 [i0, i1, i2, i3, i4, i5, i6, i7] s 25 x la d d' := by
  unfold roundS1 givesS; kernel_rfl
theorem round_26 (i0 i1 i2 i3 i4 i5 i6 i7 : Int) (s : ByteArray) (x la : Nat → Int) (d d' : Nat → Value) : roundS1 [i0, i1, i2, i3, i4, i5, i6, i7] s 26 x la d d' := by
  unfold roundS1 givesS; kernel_rfl
theorem round_27 (i0 i1 i2 i3 i4 i5 i6 i7 : Int) (s : ByteArray) (x la : Nat → Int) (d d' : Nat → Value) : roundS1 [i0, i1, i2, i3, i4, i5, i6, i7] s 27 x la d d' := by
  unfold roundS1 givesS; kernel_rfl
theorem round_28 (i0 i1 i2 i3 i4 i5 i6 i7 : Int) (s : ByteArray) (x la : Nat → Int) (d d' : Nat → Value) : roundS1 [i0, i1, i2, i3, i4, i5, i6, i7] s 28 x la d d' := by
  unfold roundS1 givesS; kernel_rfl
theorem round_29 (i0 i1 i2 i3 i4 i5 i6 i7 : Int) (s : ByteArray) (x la : Nat → Int) (d d' : Nat → Value) : roundS1 [i0, i1, i2, i3, i4, i5, i6, i7] s 29 x la d d' := by
  unfold roundS1 givesS; kernel_rfl
theorem round_30 (i0 i1 i2 i3 i4 i5 i6 i7 : Int) (s : ByteArray) (x la : Nat → Int) (d d' : Nat → Value) : roundS1 [i0, i1, i2, i3, i4, i5, i6, i7] s 30 x la d d' := by
  unfold roundS1 givesS; kernel_rfl
theorem round_31 (i0 i1 i2 i3 i4 i5 i6 i7 : Int) (s : ByteArray) (x la : Nat → Int) (d d' : Nat → Value) : roundS1 [i0, i1, i2, i3, i4, i5, i6, i7] s 31 x la d d' := by
  unfold roundS1 givesS; kernel_rfl
end Go.Proofs.YtgefcokanfbpbaaDoor
