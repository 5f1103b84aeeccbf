/-
  Walks of functions, reckoned through, and what they give (part W09w). No condition beyond what each says. By an AI agent.
-/
import Derived.Test.YtomkceffoanhcaaW09g
import Derived.Test.YtomkceffoanhcaaR09
namespace Go.Proofs.Ytomkceffoanhcaa
open Go.Ex
set_option maxRecDepth 1000000 in
theorem worksR : saysTrue (callR X (run X 100) 11 [] [] []) = true := by kernel_rfl
noncomputable def worksT : Go.Ex.Told Try.prog := ⟨11, [], .bol true, told_true (X := X) (conned_ct _) (conned_lp _) 100 worksR⟩
noncomputable def allC : Con Try.prog := encC.or (refEncC.or (repC.or (Con.told [worksT])))
noncomputable def Y : Cx := conned allC
end Go.Proofs.Ytomkceffoanhcaa
