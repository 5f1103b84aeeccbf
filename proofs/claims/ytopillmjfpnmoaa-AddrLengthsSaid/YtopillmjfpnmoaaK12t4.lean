/-
  Walks of functions, reckoned through, and what they give (part K12t4). No condition beyond what each says. By an AI agent.
-/
import Derived.Test.YtopillmjfpnmoaaK12a
namespace Go.Proofs.Ytopillmjfpnmoaa
open Go.Ex
open Go.RowKit (Below)
set_option linter.unusedVariables false
set_option linter.unusedSimpArgs false
set_option maxRecDepth 1000000
theorem t7f_1 (c lo : Int) (d : Nat → Value) : tail7 false c lo 1 d := by unfold tail7 givesT; kernel_rfl
theorem t7f_2 (c lo : Int) (d : Nat → Value) : tail7 false c lo 2 d := by unfold tail7 givesT; kernel_rfl
theorem t7f_3 (c lo : Int) (d : Nat → Value) : tail7 false c lo 3 d := by unfold tail7 givesT; kernel_rfl
theorem t7f_4 (c lo : Int) (d : Nat → Value) : tail7 false c lo 4 d := by unfold tail7 givesT; kernel_rfl
theorem t7f_5 (c lo : Int) (d : Nat → Value) : tail7 false c lo 5 d := by unfold tail7 givesT; kernel_rfl
theorem t7f_6 (c lo : Int) (d : Nat → Value) : tail7 false c lo 6 d := by unfold tail7 givesT; kernel_rfl
theorem t7f_7 (c lo : Int) (d : Nat → Value) : tail7 false c lo 7 d := by unfold tail7 givesT; kernel_rfl
theorem t7f_8 (c lo : Int) (d : Nat → Value) : tail7 false c lo 8 d := by unfold tail7 givesT; kernel_rfl
theorem t7f_9 (c lo : Int) (d : Nat → Value) : tail7 false c lo 9 d := by unfold tail7 givesT; kernel_rfl
theorem t7f_10 (c lo : Int) (d : Nat → Value) : tail7 false c lo 10 d := by unfold tail7 givesT; kernel_rfl
theorem t7f_11 (c lo : Int) (d : Nat → Value) : tail7 false c lo 11 d := by unfold tail7 givesT; kernel_rfl
theorem t7f_12 (c lo : Int) (d : Nat → Value) : tail7 false c lo 12 d := by unfold tail7 givesT; kernel_rfl
theorem t7f_13 (c lo : Int) (d : Nat → Value) : tail7 false c lo 13 d := by unfold tail7 givesT; kernel_rfl
theorem t7f_14 (c lo : Int) (d : Nat → Value) : tail7 false c lo 14 d := by unfold tail7 givesT; kernel_rfl
theorem t7f_15 (c lo : Int) (d : Nat → Value) : tail7 false c lo 15 d := by unfold tail7 givesT; kernel_rfl
theorem t7f_16 (c lo : Int) (d : Nat → Value) : tail7 false c lo 16 d := by unfold tail7 givesT; kernel_rfl
end Go.Proofs.Ytopillmjfpnmoaa
