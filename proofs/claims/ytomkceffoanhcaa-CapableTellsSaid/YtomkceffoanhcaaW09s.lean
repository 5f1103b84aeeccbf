/-
  Walks of functions, reckoned through, and what they give (part W09s). No condition beyond what each says. By an AI agent.
-/
import Derived.Test.YtomkceffoanhcaaW09p
namespace Go.Proofs.Ytomkceffoanhcaa
open Go.Ex
open Go.RowKit (Below)
set_option linter.unusedVariables false
set_option linter.unusedSimpArgs false

def fF (x : CV) : Int := IntKind.i64.wrap ((IntKind.u64.wrap x.fo).tmod 5)
def fV (x : CV) : Int := IntKind.i64.wrap ((IntKind.u64.wrap x.ver).tmod 16)
def fL (x : CV) : Int := IntKind.i64.wrap ((IntKind.u64.wrap x.ln).tmod 65536)
def fit0 (x : CV) : CV := ⟨fF x, fV x, x.sums, x.alone, 0, 0, 0, 0⟩
def fit1 (x : CV) : CV := ⟨fF x, fV x, x.sums, x.alone, x.own, 0, 0, 0⟩
def fit2 (x : CV) : CV := ⟨fF x, fV x, x.sums, x.alone, x.own, x.peer, 0, 0⟩
def fit3 (x : CV) : CV := ⟨fF x, fV x, x.sums, x.alone, x.own, x.peer, fL x, 0⟩
def fit4 (x : CV) : CV := ⟨fF x, fV x, x.sums, x.alone, x.own, x.peer, fL x, x.sm⟩

theorem cv_beq (x y : CV) : (x.fo == y.fo && (x.ver == y.ver && (x.sums == y.sums && (x.alone == y.alone && (x.own == y.own && (x.peer == y.peer && (x.ln == y.ln && (x.sm == y.sm && true)))))))) = true ↔ x = y := by
  obtain ⟨a, b, c, d, e, f, g, h⟩ := x
  obtain ⟨a', b', c', d', e', f', g', h'⟩ := y
  simp only [Bool.and_eq_true, beq_iff_eq, Bool.and_true, CV.mk.injEq]
theorem fF_range (x : CV) : 0 ≤ fF x ∧ fF x < 5 := by
  unfold fF
  have h : 0 ≤ IntKind.u64.wrap x.fo := by rw [wu64]; omega
  rw [tm _ _ h, wi64]; omega
theorem fV_range (x : CV) : 0 ≤ fV x ∧ fV x < 16 := by
  unfold fV
  have h : 0 ≤ IntKind.u64.wrap x.ver := by rw [wu64]; omega
  rw [tm _ _ h, wi64]; omega
theorem fL_range (x : CV) : 0 ≤ fL x ∧ fL x < 65536 := by
  unfold fL
  have h : 0 ≤ IntKind.u64.wrap x.ln := by rw [wu64]; omega
  rw [tm _ _ h, wi64]; omega
theorem enc_not (x : CV) (h : ¬ (enc x).2 = 0) : (enc x).1 = ⟨#[]⟩ := by
  unfold enc at h ⊢
  split at h
  · exact absurd rfl h
  · rename_i hm; rw [if_neg hm]
theorem enc_may (x : CV) (h : (enc x).2 = 0) : may x := by
  unfold enc at h
  split at h
  · assumption
  · exact absurd h (by decide)
end Go.Proofs.Ytomkceffoanhcaa
