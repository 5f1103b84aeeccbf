/-
  Walks of functions, reckoned through, and what they give (part W06r6). No condition beyond what each says. By an AI agent.
-/
import Derived.Test.YtgefcokanfbpbaaDoorW06A
namespace Go.Proofs.YtgefcokanfbpbaaDoor
open Go.Ex
set_option maxRecDepth 1000000
theorem round_48 (i0 i1 i2 i3 i4 i5 i6 i7 : Int) (s : ByteArray) (x la : Nat → Int) (d d' : Nat → Value) : roundS1 [i0, i1, i2, i3, i4, i5, i6, i7] s 48 x la d d' := by
  unfold roundS1 givesS; kernel_rfl
theorem round_49 (i0 i1 i2 i3 i4 i5 i6 i7 : Int) (s : ByteArray) (x la : Nat → Int) (d d' : Nat → Value) : roundS1 [i0, i1, i2, i3, i4, i5, i6, i7] s 49 x la d d' := by
  unfold roundS1 givesS; kernel_rfl
theorem round_50 (i0 i1 i2 i3 i4 i5 i6 i7 : Int) (s : ByteArray) (x la : Nat → Int) (d d' : Nat → Value) : roundS1 [i0, i1, i2, i3, i4, i5, i6, i7] s 50 x la d d' := by
  unfold roundS1 givesS; kernel_rfl
theorem round_51 (i0 i1 i2 i3 i4 i5 i6 i7 : Int) (s : ByteArray) (x la : Nat → Int) (d d' : Nat → Value) : roundS1 [i0, i1, i2, i3, i4, i5, i6, i7] s 51 x la d d' := by
  unfold roundS1 givesS; kernel_rfl
theorem round_52 (i0 i1 i2 i3 i4 i5 i6 i7 : Int) (s : ByteArray) (x la : Nat → Int) (d d' : Nat → Value) : roundS1 [i0, i1, i2, i3, i4, i5, i6, i7] s 52 x la d d' := by
  unfold roundS1 givesS; kernel_rfl
theorem round_53 (i0 i1 i2 i3 i4 i5 i6 i7 : Int) (s : ByteArray) (x la : Nat → Int) (d d' : Nat → Value) : roundS1 [i0, i1, i2, i3, i4, i5, i6, i7] s 53 x la d d' := by
  unfold roundS1 givesS; kernel_rfl
theorem round_54 (i0 i1 i2 i3 i4 i5 i6 i7 : Int) (s : ByteArray) (x la : Nat → Int) (d d' : Nat → Value) : roundS1 [i0, i1, i2, i3, i4, i5, i6, i7] s 54 x la d d' := by
  unfold roundS1 givesS; kernel_rfl
theorem round_55 (i0 i1 i2 i3 i4 i5 i6 i7 : Int) (s : ByteArray) (x la : Nat → Int) (d d' : Nat → Value) : roundS1 [i0, i1, i2, i3, i4, i5, i6, i7] s 55 x la d d' := by
  unfold roundS1 givesS; kernel_rfl
end Go.Proofs.YtgefcokanfbpbaaDoor
