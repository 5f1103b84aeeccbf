/-
  Walks of functions, reckoned through, and what they give (part K12t3). No condition beyond what each says. By an AI agent.
-/
import Derived.Test.YtopillmjfpnmoaaK12a
namespace Go.Proofs.Ytopillmjfpnmoaa
open Go.Ex
open Go.RowKit (Below)
set_option linter.unusedVariables false
set_option linter.unusedSimpArgs false
set_option maxRecDepth 1000000
theorem t7t_49 (c lo : Int) (d : Nat → Value) : tail7 true c lo 49 d := by unfold tail7 givesT; kernel_rfl
theorem t7t_50 (c lo : Int) (d : Nat → Value) : tail7 true c lo 50 d := by unfold tail7 givesT; kernel_rfl
theorem t7t_51 (c lo : Int) (d : Nat → Value) : tail7 true c lo 51 d := by unfold tail7 givesT; kernel_rfl
theorem t7t_52 (c lo : Int) (d : Nat → Value) : tail7 true c lo 52 d := by unfold tail7 givesT; kernel_rfl
theorem t7t_53 (c lo : Int) (d : Nat → Value) : tail7 true c lo 53 d := by unfold tail7 givesT; kernel_rfl
theorem t7t_54 (c lo : Int) (d : Nat → Value) : tail7 true c lo 54 d := by unfold tail7 givesT; kernel_rfl
theorem t7t_55 (c lo : Int) (d : Nat → Value) : tail7 true c lo 55 d := by unfold tail7 givesT; kernel_rfl
theorem t7t_56 (c lo : Int) (d : Nat → Value) : tail7 true c lo 56 d := by unfold tail7 givesT; kernel_rfl
theorem t7t_57 (c lo : Int) (d : Nat → Value) : tail7 true c lo 57 d := by unfold tail7 givesT; kernel_rfl
theorem t7t_58 (c lo : Int) (d : Nat → Value) : tail7 true c lo 58 d := by unfold tail7 givesT; kernel_rfl
theorem t7t_59 (c lo : Int) (d : Nat → Value) : tail7 true c lo 59 d := by unfold tail7 givesT; kernel_rfl
theorem t7t_60 (c lo : Int) (d : Nat → Value) : tail7 true c lo 60 d := by unfold tail7 givesT; kernel_rfl
theorem t7t_61 (c lo : Int) (d : Nat → Value) : tail7 true c lo 61 d := by unfold tail7 givesT; kernel_rfl
theorem t7t_62 (c lo : Int) (d : Nat → Value) : tail7 true c lo 62 d := by unfold tail7 givesT; kernel_rfl
theorem t7t_63 (c lo : Int) (d : Nat → Value) : tail7 true c lo 63 d := by unfold tail7 givesT; kernel_rfl
theorem t7t_64 (c lo : Int) (d : Nat → Value) : tail7 true c lo 64 d := by unfold tail7 givesT; kernel_rfl
end Go.Proofs.Ytopillmjfpnmoaa
