/-
  Walks of functions, reckoned through, and what they give (part K12t5). No condition beyond what each says. By an AI agent.
-/
import Derived.Test.YtopillmjfpnmoaaK12a
namespace Go.Proofs.Ytopillmjfpnmoaa
open Go.Ex
open Go.RowKit (Below)
set_option linter.unusedVariables false
set_option linter.unusedSimpArgs false
set_option maxRecDepth 1000000
theorem t7f_17 (c lo : Int) (d : Nat → Value) : tail7 false c lo 17 d := by unfold tail7 givesT; kernel_rfl
theorem t7f_18 (c lo : Int) (d : Nat → Value) : tail7 false c lo 18 d := by unfold tail7 givesT; kernel_rfl
theorem t7f_19 (c lo : Int) (d : Nat → Value) : tail7 false c lo 19 d := by unfold tail7 givesT; kernel_rfl
theorem t7f_20 (c lo : Int) (d : Nat → Value) : tail7 false c lo 20 d := by unfold tail7 givesT; kernel_rfl
theorem t7f_21 (c lo : Int) (d : Nat → Value) : tail7 false c lo 21 d := by unfold tail7 givesT; kernel_rfl
theorem t7f_22 (c lo : Int) (d : Nat → Value) : tail7 false c lo 22 d := by unfold tail7 givesT; kernel_rfl
theorem t7f_23 (c lo : Int) (d : Nat → Value) : tail7 false c lo 23 d := by unfold tail7 givesT; kernel_rfl
theorem t7f_24 (c lo : Int) (d : Nat → Value) : tail7 false c lo 24 d := by unfold tail7 givesT; kernel_rfl
theorem t7f_25 (c lo : Int) (d : Nat → Value) : tail7 false c lo 25 d := by unfold tail7 givesT; kernel_rfl
theorem t7f_26 (c lo : Int) (d : Nat → Value) : tail7 false c lo 26 d := by unfold tail7 givesT; kernel_rfl
theorem t7f_27 (c lo : Int) (d : Nat → Value) : tail7 false c lo 27 d := by unfold tail7 givesT; kernel_rfl
theorem t7f_28 (c lo : Int) (d : Nat → Value) : tail7 false c lo 28 d := by unfold tail7 givesT; kernel_rfl
theorem t7f_29 (c lo : Int) (d : Nat → Value) : tail7 false c lo 29 d := by unfold tail7 givesT; kernel_rfl
theorem t7f_30 (c lo : Int) (d : Nat → Value) : tail7 false c lo 30 d := by unfold tail7 givesT; kernel_rfl
theorem t7f_31 (c lo : Int) (d : Nat → Value) : tail7 false c lo 31 d := by unfold tail7 givesT; kernel_rfl
theorem t7f_32 (c lo : Int) (d : Nat → Value) : tail7 false c lo 32 d := by unfold tail7 givesT; kernel_rfl
end Go.Proofs.Ytopillmjfpnmoaa
