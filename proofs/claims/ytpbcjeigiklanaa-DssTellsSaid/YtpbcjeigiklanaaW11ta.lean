/-
  Walks of functions, reckoned through, and what they give (part W11ta). No condition beyond what each says. By an AI agent.
-/
import Derived.Test.YtpbcjeigiklanaaW11j0
import Derived.Test.YtpbcjeigiklanaaW11h
import Derived.Test.YtpbcjeigiklanaaW11p
import Derived.Test.YtpbcjeigiklanaaW11r
import Derived.Test.YtpbcjeigiklanaaR11
namespace Go.Proofs.Ytpbcjeigiklanaa
open Go.Ex
open Go.RowKit (Below)
set_option linter.unusedVariables false
set_option linter.unusedSimpArgs false
theorem fit_rng (x : SG) (h : Rng x) : Rng (fitS x) := by
  obtain ⟨h1, h2, h3, h4⟩ := h
  have m1 : 0 ≤ x.ack.tmod 4294967296 ∧ x.ack.tmod 4294967296 < 18446744073709551616 := by rw [tm _ _ h1.1]; omega
  have m2 : 0 ≤ x.dsn.tmod 4294967296 ∧ x.dsn.tmod 4294967296 < 18446744073709551616 := by rw [tm _ _ h2.1]; omega
  unfold fitS Rng
  split <;> (refine ⟨?_, ?_, ?_, ?_⟩) <;> simp only [] <;> (repeat' split) <;> first | assumption | omega
set_option maxRecDepth 1000000 in
theorem worksR : saysTrue (callR X (run X 100) 12 [] [] []) = true := by kernel_rfl
noncomputable def worksT : Go.Ex.Told Try.prog := ⟨12, [], .bol true, told_true (X := X) (conned_ct _) (conned_lp _) 100 worksR⟩
noncomputable def refEncC : Con Try.prog := Con.ofVals 11 encG (encG_ok fun x r w => ref_enc_calls x r.1 r.2.1 r.2.2.1 r.2.2.2 w)
noncomputable def tellC : Con Try.prog := fitC.or (refEncC.or (decC.or (refDecC.or (repC.or (Con.told [worksT])))))
noncomputable def YT : Cx := conned tellC
end Go.Proofs.Ytpbcjeigiklanaa
