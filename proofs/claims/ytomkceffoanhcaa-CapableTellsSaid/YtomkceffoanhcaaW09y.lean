/-
  Walks of functions, reckoned through, and what they give (part W09y). No condition beyond what each says. By an AI agent.
-/
import Derived.Test.YtomkceffoanhcaaW09k
import Derived.Test.YtomkceffoanhcaaW09h
import Derived.Test.YtomkceffoanhcaaR09
namespace Go.Proofs.Ytomkceffoanhcaa
open Go.Ex
set_option maxRecDepth 1000000 in
theorem worksR : saysTrue (callR (conned repC) (run (conned repC) 100) 11 [] [] []) = true := by kernel_rfl
noncomputable def worksT : Go.Ex.Told Try.prog := ⟨11, [], .bol true, told_true (X := conned repC) (conned_ct _) (conned_lp _) 100 worksR⟩
noncomputable def allC2 : Con Try.prog := decC.or (encC.or (repC.or (Con.told [worksT])))
noncomputable def Z : Cx := conned allC2
end Go.Proofs.Ytomkceffoanhcaa
