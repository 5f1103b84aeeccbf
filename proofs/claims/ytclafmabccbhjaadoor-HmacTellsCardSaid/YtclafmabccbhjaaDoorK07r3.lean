/-
  Walks of functions, reckoned through, and what they give (part K07r3). No condition beyond what each says. By an AI agent.
-/
import Derived.Test.YtclafmabccbhjaaDoorK07d
namespace Go.Proofs.YtclafmabccbhjaaDoor
open Go.Ex
open Go.RowKit (Below)
set_option linter.unusedVariables false
set_option maxRecDepth 1000000
theorem mt_48 (s : ByteArray) (c : Nat → Int) (y : Int) (d d' : Nat → Value) : mrt s c y 48 d d' := by unfold mrt givesX; kernel_rfl
theorem mf_48 (s : ByteArray) (c : Nat → Int) (y : Int) (d d' : Nat → Value) : mrf s c y 48 d d' := by unfold mrf givesX; kernel_rfl
theorem mt_49 (s : ByteArray) (c : Nat → Int) (y : Int) (d d' : Nat → Value) : mrt s c y 49 d d' := by unfold mrt givesX; kernel_rfl
theorem mf_49 (s : ByteArray) (c : Nat → Int) (y : Int) (d d' : Nat → Value) : mrf s c y 49 d d' := by unfold mrf givesX; kernel_rfl
theorem mt_50 (s : ByteArray) (c : Nat → Int) (y : Int) (d d' : Nat → Value) : mrt s c y 50 d d' := by unfold mrt givesX; kernel_rfl
theorem mf_50 (s : ByteArray) (c : Nat → Int) (y : Int) (d d' : Nat → Value) : mrf s c y 50 d d' := by unfold mrf givesX; kernel_rfl
theorem mt_51 (s : ByteArray) (c : Nat → Int) (y : Int) (d d' : Nat → Value) : mrt s c y 51 d d' := by unfold mrt givesX; kernel_rfl
theorem mf_51 (s : ByteArray) (c : Nat → Int) (y : Int) (d d' : Nat → Value) : mrf s c y 51 d d' := by unfold mrf givesX; kernel_rfl
theorem mt_52 (s : ByteArray) (c : Nat → Int) (y : Int) (d d' : Nat → Value) : mrt s c y 52 d d' := by unfold mrt givesX; kernel_rfl
theorem mf_52 (s : ByteArray) (c : Nat → Int) (y : Int) (d d' : Nat → Value) : mrf s c y 52 d d' := by unfold mrf givesX; kernel_rfl
theorem mt_53 (s : ByteArray) (c : Nat → Int) (y : Int) (d d' : Nat → Value) : mrt s c y 53 d d' := by unfold mrt givesX; kernel_rfl
theorem mf_53 (s : ByteArray) (c : Nat → Int) (y : Int) (d d' : Nat → Value) : mrf s c y 53 d d' := by unfold mrf givesX; kernel_rfl
theorem mt_54 (s : ByteArray) (c : Nat → Int) (y : Int) (d d' : Nat → Value) : mrt s c y 54 d d' := by unfold mrt givesX; kernel_rfl
theorem mf_54 (s : ByteArray) (c : Nat → Int) (y : Int) (d d' : Nat → Value) : mrf s c y 54 d d' := by unfold mrf givesX; kernel_rfl
theorem mt_55 (s : ByteArray) (c : Nat → Int) (y : Int) (d d' : Nat → Value) : mrt s c y 55 d d' := by unfold mrt givesX; kernel_rfl
theorem mf_55 (s : ByteArray) (c : Nat → Int) (y : Int) (d d' : Nat → Value) : mrf s c y 55 d d' := by unfold mrf givesX; kernel_rfl
theorem mt_56 (s : ByteArray) (c : Nat → Int) (y : Int) (d d' : Nat → Value) : mrt s c y 56 d d' := by unfold mrt givesX; kernel_rfl
theorem mf_56 (s : ByteArray) (c : Nat → Int) (y : Int) (d d' : Nat → Value) : mrf s c y 56 d d' := by unfold mrf givesX; kernel_rfl
theorem mt_57 (s : ByteArray) (c : Nat → Int) (y : Int) (d d' : Nat → Value) : mrt s c y 57 d d' := by unfold mrt givesX; kernel_rfl
theorem mf_57 (s : ByteArray) (c : Nat → Int) (y : Int) (d d' : Nat → Value) : mrf s c y 57 d d' := by unfold mrf givesX; kernel_rfl
theorem mt_58 (s : ByteArray) (c : Nat → Int) (y : Int) (d d' : Nat → Value) : mrt s c y 58 d d' := by unfold mrt givesX; kernel_rfl
theorem mf_58 (s : ByteArray) (c : Nat → Int) (y : Int) (d d' : Nat → Value) : mrf s c y 58 d d' := by unfold mrf givesX; kernel_rfl
theorem mt_59 (s : ByteArray) (c : Nat → Int) (y : Int) (d d' : Nat → Value) : mrt s c y 59 d d' := by unfold mrt givesX; kernel_rfl
theorem mf_59 (s : ByteArray) (c : Nat → Int) (y : Int) (d d' : Nat → Value) : mrf s c y 59 d d' := by unfold mrf givesX; kernel_rfl
theorem mt_60 (s : ByteArray) (c : Nat → Int) (y : Int) (d d' : Nat → Value) : mrt s c y 60 d d' := by unfold mrt givesX; kernel_rfl
theorem mf_60 (s : ByteArray) (c : Nat → Int) (y : Int) (d d' : Nat → Value) : mrf s c y 60 d d' := by unfold mrf givesX; kernel_rfl
theorem mt_61 (s : ByteArray) (c : Nat → Int) (y : Int) (d d' : Nat → Value) : mrt s c y 61 d d' := by unfold mrt givesX; kernel_rfl
theorem mf_61 (s : ByteArray) (c : Nat → Int) (y : Int) (d d' : Nat → Value) : mrf s c y 61 d d' := by unfold mrf givesX; kernel_rfl
theorem mt_62 (s : ByteArray) (c : Nat → Int) (y : Int) (d d' : Nat → Value) : mrt s c y 62 d d' := by unfold mrt givesX; kernel_rfl
theorem mf_62 (s : ByteArray) (c : Nat → Int) (y : Int) (d d' : Nat → Value) : mrf s c y 62 d d' := by unfold mrf givesX; kernel_rfl
theorem mt_63 (s : ByteArray) (c : Nat → Int) (y : Int) (d d' : Nat → Value) : mrt s c y 63 d d' := by unfold mrt givesX; kernel_rfl
theorem mf_63 (s : ByteArray) (c : Nat → Int) (y : Int) (d d' : Nat → Value) : mrf s c y 63 d d' := by unfold mrf givesX; kernel_rfl
end Go.Proofs.YtclafmabccbhjaaDoor
