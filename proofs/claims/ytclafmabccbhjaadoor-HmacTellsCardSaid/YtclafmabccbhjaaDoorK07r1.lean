/-
  Walks of functions, reckoned through, and what they give (part K07r1). No condition beyond what each says. By an AI agent.
-/
import Derived.Test.YtclafmabccbhjaaDoorK07d
namespace Go.Proofs.YtclafmabccbhjaaDoor
open Go.Ex
open Go.RowKit (Below)
set_option linter.unusedVariables false
set_option maxRecDepth 1000000
theorem mt_16 (s : ByteArray) (c : Nat → Int) (y : Int) (d d' : Nat → Value) : mrt s c y 16 d d' := by unfold mrt givesX; kernel_rfl
theorem mf_16 (s : ByteArray) (c : Nat → Int) (y : Int) (d d' : Nat → Value) : mrf s c y 16 d d' := by unfold mrf givesX; kernel_rfl
theorem mt_17 (s : ByteArray) (c : Nat → Int) (y : Int) (d d' : Nat → Value) : mrt s c y 17 d d' := by unfold mrt givesX; kernel_rfl
theorem mf_17 (s : ByteArray) (c : Nat → Int) (y : Int) (d d' : Nat → Value) : mrf s c y 17 d d' := by unfold mrf givesX; kernel_rfl
theorem mt_18 (s : ByteArray) (c : Nat → Int) (y : Int) (d d' : Nat → Value) : mrt s c y 18 d d' := by unfold mrt givesX; kernel_rfl
theorem mf_18 (s : ByteArray) (c : Nat → Int) (y : Int) (d d' : Nat → Value) : mrf s c y 18 d d' := by unfold mrf givesX; kernel_rfl
theorem mt_19 (s : ByteArray) (c : Nat → Int) (y : Int) (d d' : Nat → Value) : mrt s c y 19 d d' := by unfold mrt givesX; kernel_rfl
theorem mf_19 (s : ByteArray) (c : Nat → Int) (y : Int) (d d' : Nat → Value) : mrf s c y 19 d d' := by unfold mrf givesX; kernel_rfl
theorem mt_20 (s : ByteArray) (c : Nat → Int) (y : Int) (d d' : Nat → Value) : mrt s c y 20 d d' := by unfold mrt givesX; kernel_rfl
theorem mf_20 (s : ByteArray) (c : Nat → Int) (y : Int) (d d' : Nat → Value) : mrf s c y 20 d d' := by unfold mrf givesX; kernel_rfl
theorem mt_21 (s : ByteArray) (c : Nat → Int) (y : Int) (d d' : Nat → Value) : mrt s c y 21 d d' := by unfold mrt givesX; kernel_rfl
theorem mf_21 (s : ByteArray) (c : Nat → Int) (y : Int) (d d' : Nat → Value) : mrf s c y 21 d d' := by unfold mrf givesX; kernel_rfl
theorem mt_22 (s : ByteArray) (c : Nat → Int) (y : Int) (d d' : Nat → Value) : mrt s c y 22 d d' := by unfold mrt givesX; kernel_rfl
theorem mf_22 (s : ByteArray) (c : Nat → Int) (y : Int) (d d' : Nat → Value) : mrf s c y 22 d d' := by unfold mrf givesX; kernel_rfl
theorem mt_23 (s : ByteArray) (c : Nat → Int) (y : Int) (d d' : Nat → Value) : mrt s c y 23 d d' := by unfold mrt givesX; kernel_rfl
theorem mf_23 (s : ByteArray) (c : Nat → Int) (y : Int) (d d' : Nat → Value) : mrf s c y 23 d d' := by unfold mrf givesX; kernel_rfl
theorem mt_24 (s : ByteArray) (c : Nat → Int) (y : Int) (d d' : Nat → Value) : mrt s c y 24 d d' := by unfold mrt givesX; kernel_rfl
theorem mf_24 (s : ByteArray) (c : Nat → Int) (y : Int) (d d' : Nat → Value) : mrf s c y 24 d d' := by unfold mrf givesX; kernel_rfl
theorem mt_25 (s : ByteArray) (c : Nat → Int) (y : Int) (d d' : Nat → Value) : mrt s c y 25 d d' := by unfold mrt givesX; kernel_rfl
theorem mf_25 (s : ByteArray) (c : Nat → Int) (y : Int) (d d' : Nat → Value) : mrf s c y 25 d d' := by unfold mrf givesX; kernel_rfl
theorem mt_26 (s : ByteArray) (c : Nat → Int) (y : Int) (d d' : Nat → Value) : mrt s c y 26 d d' := by unfold mrt givesX; kernel_rfl
theorem mf_26 (s : ByteArray) (c : Nat → Int) (y : Int) (d d' : Nat → Value) : mrf s c y 26 d d' := by unfold mrf givesX; kernel_rfl
theorem mt_27 (s : ByteArray) (c : Nat → Int) (y : Int) (d d' : Nat → Value) : mrt s c y 27 d d' := by unfold mrt givesX; kernel_rfl
theorem mf_27 (s : ByteArray) (c : Nat → Int) (y : Int) (d d' : Nat → Value) : mrf s c y 27 d d' := by unfold mrf givesX; kernel_rfl
theorem mt_28 (s : ByteArray) (c : Nat → Int) (y : Int) (d d' : Nat → Value) : mrt s c y 28 d d' := by unfold mrt givesX; kernel_rfl
theorem mf_28 (s : ByteArray) (c : Nat → Int) (y : Int) (d d' : Nat → Value) : mrf s c y 28 d d' := by unfold mrf givesX; kernel_rfl
theorem mt_29 (s : ByteArray) (c : Nat → Int) (y : Int) (d d' : Nat → Value) : mrt s c y 29 d d' := by unfold mrt givesX; kernel_rfl
theorem mf_29 (s : ByteArray) (c : Nat → Int) (y : Int) (d d' : Nat → Value) : mrf s c y 29 d d' := by unfold mrf givesX; kernel_rfl
theorem mt_30 (s : ByteArray) (c : Nat → Int) (y : Int) (d d' : Nat → Value) : mrt s c y 30 d d' := by unfold mrt givesX; kernel_rfl
theorem mf_30 (s : ByteArray) (c : Nat → Int) (y : Int) (d d' : Nat → Value) : mrf s c y 30 d d' := by unfold mrf givesX; kernel_rfl
theorem mt_31 (s : ByteArray) (c : Nat → Int) (y : Int) (d d' : Nat → Value) : mrt s c y 31 d d' := by unfold mrt givesX; kernel_rfl
theorem mf_31 (s : ByteArray) (c : Nat → Int) (y : Int) (d d' : Nat → Value) : mrf s c y 31 d d' := by unfold mrf givesX; kernel_rfl
end Go.Proofs.YtclafmabccbhjaaDoor
