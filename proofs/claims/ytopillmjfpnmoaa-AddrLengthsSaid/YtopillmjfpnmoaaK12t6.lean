/-
  Walks of functions, reckoned through, and what they give (part K12t6). No condition beyond what each says. By an AI agent.
-/
import Derived.Test.YtopillmjfpnmoaaK12a
namespace Go.Proofs.Ytopillmjfpnmoaa
open Go.Ex
open Go.RowKit (Below)
set_option linter.unusedVariables false
set_option linter.unusedSimpArgs false
set_option maxRecDepth 1000000
theorem t7f_33 (c lo : Int) (d : Nat → Value) : tail7 false c lo 33 d := by unfold tail7 givesT; kernel_rfl
theorem t7f_34 (c lo : Int) (d : Nat → Value) : tail7 false c lo 34 d := by unfold tail7 givesT; kernel_rfl
theorem t7f_35 (c lo : Int) (d : Nat → Value) : tail7 false c lo 35 d := by unfold tail7 givesT; kernel_rfl
theorem t7f_36 (c lo : Int) (d : Nat → Value) : tail7 false c lo 36 d := by unfold tail7 givesT; kernel_rfl
theorem t7f_37 (c lo : Int) (d : Nat → Value) : tail7 false c lo 37 d := by unfold tail7 givesT; kernel_rfl
theorem t7f_38 (c lo : Int) (d : Nat → Value) : tail7 false c lo 38 d := by unfold tail7 givesT; kernel_rfl
theorem t7f_39 (c lo : Int) (d : Nat → Value) : tail7 false c lo 39 d := by unfold tail7 givesT; kernel_rfl
theorem t7f_40 (c lo : Int) (d : Nat → Value) : tail7 false c lo 40 d := by unfold tail7 givesT; kernel_rfl
theorem t7f_41 (c lo : Int) (d : Nat → Value) : tail7 false c lo 41 d := by unfold tail7 givesT; kernel_rfl
theorem t7f_42 (c lo : Int) (d : Nat → Value) : tail7 false c lo 42 d := by unfold tail7 givesT; kernel_rfl
theorem t7f_43 (c lo : Int) (d : Nat → Value) : tail7 false c lo 43 d := by unfold tail7 givesT; kernel_rfl
theorem t7f_44 (c lo : Int) (d : Nat → Value) : tail7 false c lo 44 d := by unfold tail7 givesT; kernel_rfl
theorem t7f_45 (c lo : Int) (d : Nat → Value) : tail7 false c lo 45 d := by unfold tail7 givesT; kernel_rfl
theorem t7f_46 (c lo : Int) (d : Nat → Value) : tail7 false c lo 46 d := by unfold tail7 givesT; kernel_rfl
theorem t7f_47 (c lo : Int) (d : Nat → Value) : tail7 false c lo 47 d := by unfold tail7 givesT; kernel_rfl
theorem t7f_48 (c lo : Int) (d : Nat → Value) : tail7 false c lo 48 d := by unfold tail7 givesT; kernel_rfl
end Go.Proofs.Ytopillmjfpnmoaa
