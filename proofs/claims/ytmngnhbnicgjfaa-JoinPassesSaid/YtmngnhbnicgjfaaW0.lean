/-
  Walks of functions, reckoned through, and what they give (part W0). No condition beyond what each says. By an AI agent.
-/
import Derived.Test.YtmngnhbnicgjfaaExP
import Derived.Test.YtmngnhbnicgjfaaChecked
namespace Go.Proofs.Ytmngnhbnicgjfaa
open Go.Ex
noncomputable def X := conned (P := Try.prog) Con.nil
end Go.Proofs.Ytmngnhbnicgjfaa
