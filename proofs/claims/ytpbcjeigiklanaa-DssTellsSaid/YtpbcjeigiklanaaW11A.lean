/-
  Walks of functions, reckoned through, and what they give (part W11A). No condition beyond what each says. By an AI agent.
-/
import Derived.Test.YtpbcjeigiklanaaW11S
namespace Go.Proofs.Ytpbcjeigiklanaa
open Go.Ex
open Go.RowKit (Below)
set_option linter.unusedVariables false
set_option linter.unusedSimpArgs false
theorem args1 {l : List SV} {xs : List Value} (hl : SV.vals l = some xs) {vs : List Value} (hv : Rs [] [.agg l] vs) : vs = [.agg xs.toArray] := by
  obtain ⟨v, r, rfl, hv1, hr⟩ := hv.cons_inv
  simp only [Rs] at hr; subst hr
  obtain ⟨us, rfl, hus⟩ := hv1
  have e := SV.vals_R hl hus
  rw [← e]
def fitS (x : SG) : SG :=
  match x.hm with
  | false => ⟨false, true, x.la, (match x.la with | true => x.ack | false => x.ack.tmod 4294967296), false, false, 0, 0, 0, false, 0⟩
  | true => ⟨x.fin, x.ha, (match x.ha with | true => x.la | false => false), (match x.ha with | true => (match x.la with | true => x.ack | false => x.ack.tmod 4294967296) | false => 0), true, x.ld,
      (match x.ld with | true => x.dsn | false => x.dsn.tmod 4294967296), x.ssn, IntKind.i64.wrap ((IntKind.u64.wrap x.ln).tmod 65536), x.hs, (match x.hs with | true => x.sm | false => 0)⟩
def Rng (x : SG) : Prop := (0 ≤ x.ack ∧ x.ack < 18446744073709551616) ∧ (0 ≤ x.dsn ∧ x.dsn < 18446744073709551616) ∧ (0 ≤ x.ssn ∧ x.ssn < 4294967296) ∧ (0 ≤ x.sm ∧ x.sm < 65536)
end Go.Proofs.Ytpbcjeigiklanaa
