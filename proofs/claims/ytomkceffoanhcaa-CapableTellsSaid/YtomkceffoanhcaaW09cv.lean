/-
  Walks of functions, reckoned through, and what they give (part W09cv). No condition beyond what each says. By an AI agent.
-/
import Derived.Test.YtomkceffoanhcaaW09cu
namespace Go.Proofs.Ytomkceffoanhcaa
open Go.Ex
open Go.RowKit (Below)
set_option linter.unusedVariables false
set_option linter.unusedSimpArgs false
set_option maxHeartbeats 4000000 in
theorem walk0 (x : CV) (hr : Rng x) (a b : Int) (ka : 0 ≤ a ∧ a < 256) (raw : ByteArray) (hz : raw.size ≤ 140737488355328) (w : World) : Calls Try.prog 4 #[x.v, .int .u8 a, .int .u8 b, .string raw] w (fun e w' => e = .returned (.bool true) ∧ Below w.heap.size w w') := by
  have hargs : Rs [] [x.sv, .val (.int .u8 a), .val (.int .u8 b), .val (.string raw)] [x.v, .int .u8 a, .int .u8 b, .string raw] :=
    Rs.cons (by exact ⟨_, rfl, by simp [Rs, R]⟩) (Rs.cons (by simp only [R]) (Rs.cons (by simp only [R]) (Rs.cons (by simp only [R]) Rs.nil)))
  have rf := fit_rng x hr
  have fm := fit_may x
  obtain ⟨_, _, hfs, hfs2⟩ := back (fitS x) fm rf
  have g1 : (enc (fitS x)).1.size ≤ 28 := by omega
  have g2 : 2 ≤ (enc (fitS x)).1.size := by omega
  have d0 : decide (((enc (fitS x)).1.size : Int) > 0) = true := decide_eq_true (by omega)
  have n0 : ((enc (fitS x)).1.size : Int) ≠ 0 := by omega
  have wa : IntKind.i64.wrap a = a := by rw [wi64]; omega
  have ws : IntKind.i64.wrap (((enc (fitS x)).1.size : Int) + 1) = ((enc (fitS x)).1.size : Int) + 1 := by rw [wi64]; omega
  have q1 : 0 ≤ a1 x a ∧ a1 x a < ((enc (fitS x)).1.size : Int) := by
    unfold a1
    rw [wa, tm _ _ ka.1]
    exact ⟨Int.emod_nonneg _ n0, Int.emod_lt_of_pos _ (by omega)⟩
  have q1n : (a1 x a).toNat < (enc (fitS x)).1.size := by omega
  have n1 : IntKind.i64.wrap (((enc (fitS x)).1.size : Int) + 1) ≠ 0 := by rw [ws]; omega
  have q2 : 0 ≤ a2 x a ∧ a2 x a ≤ ((enc (fitS x)).1.size : Int) := by
    unfold a2
    rw [wa, ws, tm _ _ ka.1]
    refine ⟨Int.emod_nonneg _ (by omega), ?_⟩
    have := Int.emod_lt_of_pos a (show 0 < ((enc (fitS x)).1.size : Int) + 1 by omega)
    omega
  have z0 : (enc (fitS x)).1.size ≤ 9223372036854775807 := by omega
  have zB' : (xB x a b).size = (enc (fitS x)).1.size := setB_size _ _ _
  have zB : (xB x a b).size ≤ 9223372036854775807 := by omega
  have zC : (xC x a).size ≤ 9223372036854775807 := by unfold xC; rw [ByteArray.size_extract]; omega
  have zD' : (xD x raw).size = (enc (fitS x)).1.size + raw.size := by unfold xD; rw [ByteArray.size_append]
  have zD : (xD x raw).size ≤ 9223372036854775807 := by omega
  have zr : raw.size ≤ 9223372036854775807 := by omega
  have z1 : (enc (fitS x)).1.size + raw.size ≤ 9223372036854775807 := by omega
  have z2 : 1 + raw.size ≤ 9223372036854775807 := by omega
  exact leaf (ctell_0 x a b raw) (by simp only [AllP, and_true, true_and, rf.1.1, rf.1.2, rf.2.1.1, rf.2.1.2, rf.2.2.1, rf.2.2.2, d0, n0, q1.1, q1.2, q1n, n1, q2.1, q2.2, z0, zB, zB', zC, zD, zr, z1, z2, (w8r _).1, (w8r _).2, bne_self_eq_false, beq_self_eq_true, Bool.and_true, Bool.and_self, Bool.false_eq_true, if_false, Bool.not_true, Bool.not_false, Int.le_refl, ne_eq, not_false_eq_true]) rfl hargs rfl rfl
end Go.Proofs.Ytomkceffoanhcaa
