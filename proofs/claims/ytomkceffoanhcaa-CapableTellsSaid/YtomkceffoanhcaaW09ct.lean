/-
  Walks of functions, reckoned through, and what they give (part W09ct). No condition beyond what each says. By an AI agent.
-/
import Derived.Test.YtomkceffoanhcaaW09g
import Derived.Test.YtomkceffoanhcaaW09rd
import Derived.Test.YtomkceffoanhcaaW09fi
namespace Go.Proofs.Ytomkceffoanhcaa
open Go.Ex
open Go.RowKit (Below)
set_option linter.unusedVariables false
set_option linter.unusedSimpArgs false
noncomputable def tellC : Con Try.prog := fitC.or (refEncC.or (decC.or (refDecC.or (repC.or (Con.told [worksT])))))
noncomputable def YT : Cx := conned tellC
end Go.Proofs.Ytomkceffoanhcaa
