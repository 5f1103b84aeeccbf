/-
  Walks of functions, reckoned through, and what they give (part K07r2). No condition beyond what each says. By an AI agent.
-/
import Derived.Test.YtclafmabccbhjaaDoorK07d
namespace Go.Proofs.YtclafmabccbhjaaDoor
open Go.Ex
open Go.RowKit (Below)
set_option linter.unusedVariables false
set_option maxRecDepth 1000000
theorem mt_32 (s : ByteArray) (c : Nat → Int) (y : Int) (d d' : Nat → Value) : mrt s c y 32 d d' := by unfold mrt givesX; kernel_rfl
theorem mf_32 (s : ByteArray) (c : Nat → Int) (y : Int) (d d' : Nat → Value) : mrf s c y 32 d d' := by unfold mrf givesX; kernel_rfl
theorem mt_33 (s : ByteArray) (c : Nat → Int) (y : Int) (d d' : Nat → Value) : mrt s c y 33 d d' := by unfold mrt givesX; kernel_rfl
theorem mf_33 (s : ByteArray) (c : Nat → Int) (y : Int) (d d' : Nat → Value) : mrf s c y 33 d d' := by unfold mrf givesX; kernel_rfl
theorem mt_34 (s : ByteArray) (c : Nat → Int) (y : Int) (d d' : Nat → Value) : mrt s c y 34 d d' := by unfold mrt givesX; kernel_rfl
theorem mf_34 (s : ByteArray) (c : Nat → Int) (y : Int) (d d' : Nat → Value) : mrf s c y 34 d d' := by unfold mrf givesX; kernel_rfl
theorem mt_35 (s : ByteArray) (c : Nat → Int) (y : Int) (d d' : Nat → Value) : mrt s c y 35 d d' := by unfold mrt givesX; kernel_rfl
theorem mf_35 (s : ByteArray) (c : Nat → Int) (y : Int) (d d' : Nat → Value) : mrf s c y 35 d d' := by unfold mrf givesX; kernel_rfl
theorem mt_36 (s : ByteArray) (c : Nat → Int) (y : Int) (d d' : Nat → Value) : mrt s c y 36 d d' := by unfold mrt givesX; kernel_rfl
theorem mf_36 (s : ByteArray) (c : Nat → Int) (y : Int) (d d' : Nat → Value) : mrf s c y 36 d d' := by unfold mrf givesX; kernel_rfl
theorem mt_37 (s : ByteArray) (c : Nat → Int) (y : Int) (d d' : Nat → Value) : mrt s c y 37 d d' := by unfold mrt givesX; kernel_rfl
theorem mf_37 (s : ByteArray) (c : Nat → Int) (y : Int) (d d' : Nat → Value) : mrf s c y 37 d d' := by unfold mrf givesX; kernel_rfl
theorem mt_38 (s : ByteArray) (c : Nat → Int) (y : Int) (d d' : Nat → Value) : mrt s c y 38 d d' := by unfold mrt givesX; kernel_rfl
theorem mf_38 (s : ByteArray) (c : Nat → Int) (y : Int) (d d' : Nat → Value) : mrf s c y 38 d d' := by unfold mrf givesX; kernel_rfl
theorem mt_39 (s : ByteArray) (c : Nat → Int) (y : Int) (d d' : Nat → Value) : mrt s c y 39 d d' := by unfold mrt givesX; kernel_rfl
theorem mf_39 (s : ByteArray) (c : Nat → Int) (y : Int) (d d' : Nat → Value) : mrf s c y 39 d d' := by unfold mrf givesX; kernel_rfl
theorem mt_40 (s : ByteArray) (c : Nat → Int) (y : Int) (d d' : Nat → Value) : mrt s c y 40 d d' := by unfold mrt givesX; kernel_rfl
theorem mf_40 (s : ByteArray) (c : Nat → Int) (y : Int) (d d' : Nat → Value) : mrf s c y 40 d d' := by unfold mrf givesX; kernel_rfl
theorem mt_41 (s : ByteArray) (c : Nat → Int) (y : Int) (d d' : Nat → Value) : mrt s c y 41 d d' := by unfold mrt givesX; kernel_rfl
theorem mf_41 (s : ByteArray) (c : Nat → Int) (y : Int) (d d' : Nat → Value) : mrf s c y 41 d d' := by unfold mrf givesX; kernel_rfl
theorem mt_42 (s : ByteArray) (c : Nat → Int) (y : Int) (d d' : Nat → Value) : mrt s c y 42 d d' := by unfold mrt givesX; kernel_rfl
theorem mf_42 (s : ByteArray) (c : Nat → Int) (y : Int) (d d' : Nat → Value) : mrf s c y 42 d d' := by unfold mrf givesX; kernel_rfl
theorem mt_43 (s : ByteArray) (c : Nat → Int) (y : Int) (d d' : Nat → Value) : mrt s c y 43 d d' := by unfold mrt givesX; kernel_rfl
theorem mf_43 (s : ByteArray) (c : Nat → Int) (y : Int) (d d' : Nat → Value) : mrf s c y 43 d d' := by unfold mrf givesX; kernel_rfl
theorem mt_44 (s : ByteArray) (c : Nat → Int) (y : Int) (d d' : Nat → Value) : mrt s c y 44 d d' := by unfold mrt givesX; kernel_rfl
theorem mf_44 (s : ByteArray) (c : Nat → Int) (y : Int) (d d' : Nat → Value) : mrf s c y 44 d d' := by unfold mrf givesX; kernel_rfl
theorem mt_45 (s : ByteArray) (c : Nat → Int) (y : Int) (d d' : Nat → Value) : mrt s c y 45 d d' := by unfold mrt givesX; kernel_rfl
theorem mf_45 (s : ByteArray) (c : Nat → Int) (y : Int) (d d' : Nat → Value) : mrf s c y 45 d d' := by unfold mrf givesX; kernel_rfl
theorem mt_46 (s : ByteArray) (c : Nat → Int) (y : Int) (d d' : Nat → Value) : mrt s c y 46 d d' := by unfold mrt givesX; kernel_rfl
theorem mf_46 (s : ByteArray) (c : Nat → Int) (y : Int) (d d' : Nat → Value) : mrf s c y 46 d d' := by unfold mrf givesX; kernel_rfl
theorem mt_47 (s : ByteArray) (c : Nat → Int) (y : Int) (d d' : Nat → Value) : mrt s c y 47 d d' := by unfold mrt givesX; kernel_rfl
theorem mf_47 (s : ByteArray) (c : Nat → Int) (y : Int) (d d' : Nat → Value) : mrf s c y 47 d d' := by unfold mrf givesX; kernel_rfl
end Go.Proofs.YtclafmabccbhjaaDoor
