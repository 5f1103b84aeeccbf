/-
  Walks of functions, reckoned through, and what they give (part W09k). No condition beyond what each says. By an AI agent.
-/
import Derived.Test.YtomkceffoanhcaaW09e
namespace Go.Proofs.Ytomkceffoanhcaa
open Go.Ex
open Go.RowKit (Below)
set_option linter.unusedVariables false
set_option linter.unusedSimpArgs false
theorem args1 {args : List SV} {l : List SV} {xs : List Value} (hl : SV.vals l = some xs) {vs : List Value} (hv : Rs [] [.agg l] vs) : vs = [.agg xs.toArray] := by
  obtain ⟨v, r, rfl, hv1, hr⟩ := hv.cons_inv
  simp only [Rs] at hr; subst hr
  obtain ⟨us, rfl, hus⟩ := hv1
  have e := SV.vals_R hl hus
  rw [← e]
def encG (args : List SV) : Option (SV × Prop) :=
  match args with
  | [.agg l] =>
    match SV.vals l with
    | some [.int .i64 fo, .int .i64 ver, .bool su, .bool al, .int .u64 own, .int .u64 peer, .int .i64 ln, .int .u16 sm] =>
      some (.tup [.val (.string (enc ⟨fo, ver, su, al, own, peer, ln, sm⟩).1), .val (.int .i64 (enc ⟨fo, ver, su, al, own, peer, ln, sm⟩).2)], ((0 ≤ own ∧ own < 18446744073709551616) ∧ (0 ≤ peer ∧ peer < 18446744073709551616) ∧ (0 ≤ sm ∧ sm < 65536)))
    | _ => none
  | _ => none
theorem encG_ok {f : FuncId} (h : ∀ (x : CV), (0 ≤ x.own ∧ x.own < 18446744073709551616) → (0 ≤ x.peer ∧ x.peer < 18446744073709551616) → (0 ≤ x.sm ∧ x.sm < 65536) → ∀ (w : World),
    Calls Try.prog f #[x.v] w (fun e w' => e = .returned (.tuple #[.string (enc x).1, .int .i64 (enc x).2]) ∧ Below w.heap.size w w')) :
    ∀ args s p, encG args = some (s, p) → p → s.pln = true ∧ ∀ (w : World) (vs : List Value), Rs [] args vs →
    Calls Try.prog f vs.toArray w (fun e w' => e = .returned s.toV ∧ Below w.heap.size w w') := by
  intro args s p hg hp
  unfold encG at hg
  split at hg
  · rename_i l
    split at hg
    · rename_i fo ver su al own peer ln sm hl
      simp only [Option.some.injEq, Prod.mk.injEq] at hg
      obtain ⟨rfl, rfl⟩ := hg
      refine ⟨rfl, fun w vs hv => ?_⟩
      obtain rfl := args1 (args := []) hl hv
      exact h ⟨fo, ver, su, al, own, peer, ln, sm⟩ hp.1 hp.2.1 hp.2.2 w
    · simp at hg
  · simp at hg
noncomputable def encC : Con Try.prog := Con.ofVals 9 encG (encG_ok enc_calls)
end Go.Proofs.Ytomkceffoanhcaa
