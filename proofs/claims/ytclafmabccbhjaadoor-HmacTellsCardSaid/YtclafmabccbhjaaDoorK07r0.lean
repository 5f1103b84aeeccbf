/-
  Walks of functions, reckoned through, and what they give (part K07r0). No condition beyond what each says. By an AI agent.
-/
import Derived.Test.YtclafmabccbhjaaDoorK07d
namespace Go.Proofs.YtclafmabccbhjaaDoor
open Go.Ex
open Go.RowKit (Below)
set_option linter.unusedVariables false
set_option maxRecDepth 1000000
theorem mt_1 (s : ByteArray) (c : Nat → Int) (y : Int) (d d' : Nat → Value) : mrt s c y 1 d d' := by unfold mrt givesX; kernel_rfl
theorem mf_1 (s : ByteArray) (c : Nat → Int) (y : Int) (d d' : Nat → Value) : mrf s c y 1 d d' := by unfold mrf givesX; kernel_rfl
theorem mt_2 (s : ByteArray) (c : Nat → Int) (y : Int) (d d' : Nat → Value) : mrt s c y 2 d d' := by unfold mrt givesX; kernel_rfl
theorem mf_2 (s : ByteArray) (c : Nat → Int) (y : Int) (d d' : Nat → Value) : mrf s c y 2 d d' := by unfold mrf givesX; kernel_rfl
theorem mt_3 (s : ByteArray) (c : Nat → Int) (y : Int) (d d' : Nat → Value) : mrt s c y 3 d d' := by unfold mrt givesX; kernel_rfl
theorem mf_3 (s : ByteArray) (c : Nat → Int) (y : Int) (d d' : Nat → Value) : mrf s c y 3 d d' := by unfold mrf givesX; kernel_rfl
theorem mt_4 (s : ByteArray) (c : Nat → Int) (y : Int) (d d' : Nat → Value) : mrt s c y 4 d d' := by unfold mrt givesX; kernel_rfl
theorem mf_4 (s : ByteArray) (c : Nat → Int) (y : Int) (d d' : Nat → Value) : mrf s c y 4 d d' := by unfold mrf givesX; kernel_rfl
theorem mt_5 (s : ByteArray) (c : Nat → Int) (y : Int) (d d' : Nat → Value) : mrt s c y 5 d d' := by unfold mrt givesX; kernel_rfl
theorem mf_5 (s : ByteArray) (c : Nat → Int) (y : Int) (d d' : Nat → Value) : mrf s c y 5 d d' := by unfold mrf givesX; kernel_rfl
theorem mt_6 (s : ByteArray) (c : Nat → Int) (y : Int) (d d' : Nat → Value) : mrt s c y 6 d d' := by unfold mrt givesX; kernel_rfl
theorem mf_6 (s : ByteArray) (c : Nat → Int) (y : Int) (d d' : Nat → Value) : mrf s c y 6 d d' := by unfold mrf givesX; kernel_rfl
theorem mt_7 (s : ByteArray) (c : Nat → Int) (y : Int) (d d' : Nat → Value) : mrt s c y 7 d d' := by unfold mrt givesX; kernel_rfl
theorem mf_7 (s : ByteArray) (c : Nat → Int) (y : Int) (d d' : Nat → Value) : mrf s c y 7 d d' := by unfold mrf givesX; kernel_rfl
theorem mt_8 (s : ByteArray) (c : Nat → Int) (y : Int) (d d' : Nat → Value) : mrt s c y 8 d d' := by unfold mrt givesX; kernel_rfl
theorem mf_8 (s : ByteArray) (c : Nat → Int) (y : Int) (d d' : Nat → Value) : mrf s c y 8 d d' := by unfold mrf givesX; kernel_rfl
theorem mt_9 (s : ByteArray) (c : Nat → Int) (y : Int) (d d' : Nat → Value) : mrt s c y 9 d d' := by unfold mrt givesX; kernel_rfl
theorem mf_9 (s : ByteArray) (c : Nat → Int) (y : Int) (d d' : Nat → Value) : mrf s c y 9 d d' := by unfold mrf givesX; kernel_rfl
theorem mt_10 (s : ByteArray) (c : Nat → Int) (y : Int) (d d' : Nat → Value) : mrt s c y 10 d d' := by unfold mrt givesX; kernel_rfl
theorem mf_10 (s : ByteArray) (c : Nat → Int) (y : Int) (d d' : Nat → Value) : mrf s c y 10 d d' := by unfold mrf givesX; kernel_rfl
theorem mt_11 (s : ByteArray) (c : Nat → Int) (y : Int) (d d' : Nat → Value) : mrt s c y 11 d d' := by unfold mrt givesX; kernel_rfl
theorem mf_11 (s : ByteArray) (c : Nat → Int) (y : Int) (d d' : Nat → Value) : mrf s c y 11 d d' := by unfold mrf givesX; kernel_rfl
theorem mt_12 (s : ByteArray) (c : Nat → Int) (y : Int) (d d' : Nat → Value) : mrt s c y 12 d d' := by unfold mrt givesX; kernel_rfl
theorem mf_12 (s : ByteArray) (c : Nat → Int) (y : Int) (d d' : Nat → Value) : mrf s c y 12 d d' := by unfold mrf givesX; kernel_rfl
theorem mt_13 (s : ByteArray) (c : Nat → Int) (y : Int) (d d' : Nat → Value) : mrt s c y 13 d d' := by unfold mrt givesX; kernel_rfl
theorem mf_13 (s : ByteArray) (c : Nat → Int) (y : Int) (d d' : Nat → Value) : mrf s c y 13 d d' := by unfold mrf givesX; kernel_rfl
theorem mt_14 (s : ByteArray) (c : Nat → Int) (y : Int) (d d' : Nat → Value) : mrt s c y 14 d d' := by unfold mrt givesX; kernel_rfl
theorem mf_14 (s : ByteArray) (c : Nat → Int) (y : Int) (d d' : Nat → Value) : mrf s c y 14 d d' := by unfold mrf givesX; kernel_rfl
theorem mt_15 (s : ByteArray) (c : Nat → Int) (y : Int) (d d' : Nat → Value) : mrt s c y 15 d d' := by unfold mrt givesX; kernel_rfl
theorem mf_15 (s : ByteArray) (c : Nat → Int) (y : Int) (d d' : Nat → Value) : mrf s c y 15 d d' := by unfold mrf givesX; kernel_rfl
end Go.Proofs.YtclafmabccbhjaaDoor
