/-
  Walks of functions, reckoned through, and what they give (part K12t1). No condition beyond what each says. By an AI agent.
-/
import Derived.Test.YtopillmjfpnmoaaK12a
namespace Go.Proofs.Ytopillmjfpnmoaa
open Go.Ex
open Go.RowKit (Below)
set_option linter.unusedVariables false
set_option linter.unusedSimpArgs false
set_option maxRecDepth 1000000
theorem t7t_17 (c lo : Int) (d : Nat → Value) : tail7 true c lo 17 d := by unfold tail7 givesT; kernel_rfl
theorem t7t_18 (c lo : Int) (d : Nat → Value) : tail7 true c lo 18 d := by unfold tail7 givesT; kernel_rfl
theorem t7t_19 (c lo : Int) (d : Nat → Value) : tail7 true c lo 19 d := by unfold tail7 givesT; kernel_rfl
theorem t7t_20 (c lo : Int) (d : Nat → Value) : tail7 true c lo 20 d := by unfold tail7 givesT; kernel_rfl
theorem t7t_21 (c lo : Int) (d : Nat → Value) : tail7 true c lo 21 d := by unfold tail7 givesT; kernel_rfl
theorem t7t_22 (c lo : Int) (d : Nat → Value) : tail7 true c lo 22 d := by unfold tail7 givesT; kernel_rfl
theorem t7t_23 (c lo : Int) (d : Nat → Value) : tail7 true c lo 23 d := by unfold tail7 givesT; kernel_rfl
theorem t7t_24 (c lo : Int) (d : Nat → Value) : tail7 true c lo 24 d := by unfold tail7 givesT; kernel_rfl
theorem t7t_25 (c lo : Int) (d : Nat → Value) : tail7 true c lo 25 d := by unfold tail7 givesT; kernel_rfl
theorem t7t_26 (c lo : Int) (d : Nat → Value) : tail7 true c lo 26 d := by unfold tail7 givesT; kernel_rfl
theorem t7t_27 (c lo : Int) (d : Nat → Value) : tail7 true c lo 27 d := by unfold tail7 givesT; kernel_rfl
theorem t7t_28 (c lo : Int) (d : Nat → Value) : tail7 true c lo 28 d := by unfold tail7 givesT; kernel_rfl
theorem t7t_29 (c lo : Int) (d : Nat → Value) : tail7 true c lo 29 d := by unfold tail7 givesT; kernel_rfl
theorem t7t_30 (c lo : Int) (d : Nat → Value) : tail7 true c lo 30 d := by unfold tail7 givesT; kernel_rfl
theorem t7t_31 (c lo : Int) (d : Nat → Value) : tail7 true c lo 31 d := by unfold tail7 givesT; kernel_rfl
theorem t7t_32 (c lo : Int) (d : Nat → Value) : tail7 true c lo 32 d := by unfold tail7 givesT; kernel_rfl
end Go.Proofs.Ytopillmjfpnmoaa
