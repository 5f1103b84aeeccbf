/-
  Walks of functions, reckoned through, and what they give (part K12t0). No condition beyond what each says. By an AI agent.
-/
import Derived.Test.YtopillmjfpnmoaaK12a
namespace Go.Proofs.Ytopillmjfpnmoaa
open Go.Ex
open Go.RowKit (Below)
set_option linter.unusedVariables false
set_option linter.unusedSimpArgs false
set_option maxRecDepth 1000000
theorem t7t_1 (c lo : Int) (d : Nat → Value) : tail7 true c lo 1 d := by unfold tail7 givesT; kernel_rfl
theorem t7t_2 (c lo : Int) (d : Nat → Value) : tail7 true c lo 2 d := by unfold tail7 givesT; kernel_rfl
theorem t7t_3 (c lo : Int) (d : Nat → Value) : tail7 true c lo 3 d := by unfold tail7 givesT; kernel_rfl
theorem t7t_4 (c lo : Int) (d : Nat → Value) : tail7 true c lo 4 d := by unfold tail7 givesT; kernel_rfl
theorem t7t_5 (c lo : Int) (d : Nat → Value) : tail7 true c lo 5 d := by unfold tail7 givesT; kernel_rfl
theorem t7t_6 (c lo : Int) (d : Nat → Value) : tail7 true c lo 6 d := by unfold tail7 givesT; kernel_rfl
theorem t7t_7 (c lo : Int) (d : Nat → Value) : tail7 true c lo 7 d := by unfold tail7 givesT; kernel_rfl
theorem t7t_8 (c lo : Int) (d : Nat → Value) : tail7 true c lo 8 d := by unfold tail7 givesT; kernel_rfl
theorem t7t_9 (c lo : Int) (d : Nat → Value) : tail7 true c lo 9 d := by unfold tail7 givesT; kernel_rfl
theorem t7t_10 (c lo : Int) (d : Nat → Value) : tail7 true c lo 10 d := by unfold tail7 givesT; kernel_rfl
theorem t7t_11 (c lo : Int) (d : Nat → Value) : tail7 true c lo 11 d := by unfold tail7 givesT; kernel_rfl
theorem t7t_12 (c lo : Int) (d : Nat → Value) : tail7 true c lo 12 d := by unfold tail7 givesT; kernel_rfl
theorem t7t_13 (c lo : Int) (d : Nat → Value) : tail7 true c lo 13 d := by unfold tail7 givesT; kernel_rfl
theorem t7t_14 (c lo : Int) (d : Nat → Value) : tail7 true c lo 14 d := by unfold tail7 givesT; kernel_rfl
theorem t7t_15 (c lo : Int) (d : Nat → Value) : tail7 true c lo 15 d := by unfold tail7 givesT; kernel_rfl
theorem t7t_16 (c lo : Int) (d : Nat → Value) : tail7 true c lo 16 d := by unfold tail7 givesT; kernel_rfl
end Go.Proofs.Ytopillmjfpnmoaa
