/-
  Walks of functions, reckoned through, and what they give (part W11pb). No condition beyond what each says. By an AI agent.
-/
import Derived.Test.YtpbcjeigiklanaaW11pa
namespace Go.Proofs.Ytpbcjeigiklanaa
open Go.Ex
open Go.RowKit (Below)
set_option linter.unusedVariables false
set_option linter.unusedSimpArgs false

set_option maxHeartbeats 4000000 in
theorem walk0 (x : SG) (hr : Rng x) (b0 b1 : Int) (k0 : 0 ≤ b0 ∧ b0 < 256) (k1 : 0 ≤ b1 ∧ b1 < 256) (w : World) : Calls Try.prog 6 #[x.v, .agg #[.int .u8 b0, .int .u8 b1]] w (fun e w' => e = .returned (.bool true) ∧ Below w.heap.size w w') := by
  have hargs : Rs [] [x.sv, .agg [.val (.int .u8 b0), .val (.int .u8 b1)]] [x.v, .agg #[.int .u8 b0, .int .u8 b1]] := Rs.cons (by exact ⟨_, rfl, by simp [Rs, R]⟩) (Rs.cons (by exact ⟨_, rfl, by simp [Rs, R]⟩) Rs.nil)
  have rf := fit_rng x hr
  have fm := fit_may x hr
  obtain ⟨hfd, hfe, hfs⟩ := back (fitS x) fm rf
  have f28 := size28 (fitS x)
  have h2 : 2 ≤ (enc (fitS x)).1.size := by rw [hfs]; exact size2 _
  have t1 : (0 : Int) < ((enc (fitS x)).1.size : Int) := by omega
  have t2 : (1 : Int) < ((enc (fitS x)).1.size : Int) := by omega
  have t3 : ¬ ((enc (fitS x)).1.size : Int) < 2 := by omega
  have t4 : 0 < (enc (fitS x)).1.size := by omega
  have t5 : 1 < (enc (fitS x)).1.size := by omega
  have t6 : (enc (fitS x)).1.size ≤ 9223372036854775807 := by omega
  have z1 : (o1 x b0).size = (enc (fitS x)).1.size := orM_size _ _ _ _
  have z2 : (o2 x b0 b1).size = (enc (fitS x)).1.size := (orM_size _ _ _ _).trans z1
  have z3 : (o3 x b0 b1).size = (enc (fitS x)).1.size := (orM_size _ _ _ _).trans z2
  have z4 : (o4 x b0 b1).size = (enc (fitS x)).1.size := (orM_size _ _ _ _).trans z2
  have d2 := dec_o2 x b0 b1 fm h2 k0 k1
  cases ca : (fitS x).ha <;> cases cm : (fitS x).hm
  · exfalso; rcases fm.1 with e | e
    · rw [ca] at e; cases e
    · rw [cm] at e; cases e
  · have dd := dec_o3 x b0 b1 fm h2 k0 k1 ca
    exact leaf (dpass_2 x b0 b1) (by simp only [AllP, and_true, true_and, rf.1.1, rf.1.2, rf.2.1.1, rf.2.1.2, rf.2.2.1.1, rf.2.2.1.2, rf.2.2.2.1, rf.2.2.2.2, hfe, z1, z2, z3, z4, t1, t2, t3, t4, t5, t6, (w8r _).1, (w8r _).2, hfd, ca, cm, bne_self_eq_false, beq_self_eq_true, Bool.not_true, Bool.not_false, decide_false, decide_true, Int.le_refl, show (0 : Int) ≤ 1 by decide, dd]) rfl hargs (by simp only [SV.toV, hfd, ca, cm, dd, if_true, beq_self_eq_true, Bool.and_true, Bool.and_self]) rfl
  · have dd := dec_o4 x b0 b1 fm h2 k0 k1 cm
    exact leaf (dpass_1 x b0 b1) (by simp only [AllP, and_true, true_and, rf.1.1, rf.1.2, rf.2.1.1, rf.2.1.2, rf.2.2.1.1, rf.2.2.1.2, rf.2.2.2.1, rf.2.2.2.2, hfe, z1, z2, z3, z4, t1, t2, t3, t4, t5, t6, (w8r _).1, (w8r _).2, hfd, ca, cm, bne_self_eq_false, beq_self_eq_true, Bool.not_true, Bool.not_false, decide_false, decide_true, Int.le_refl, show (0 : Int) ≤ 1 by decide, dd]) rfl hargs (by simp only [SV.toV, hfd, ca, cm, dd, if_true, beq_self_eq_true, Bool.and_true, Bool.and_self]) rfl
  · have dd := d2
    exact leaf (dpass_0 x b0 b1) (by simp only [AllP, and_true, true_and, rf.1.1, rf.1.2, rf.2.1.1, rf.2.1.2, rf.2.2.1.1, rf.2.2.1.2, rf.2.2.2.1, rf.2.2.2.2, hfe, z1, z2, z3, z4, t1, t2, t3, t4, t5, t6, (w8r _).1, (w8r _).2, hfd, ca, cm, bne_self_eq_false, beq_self_eq_true, Bool.not_true, Bool.not_false, decide_false, decide_true, Int.le_refl, show (0 : Int) ≤ 1 by decide, dd]) rfl hargs (by simp only [SV.toV, hfd, ca, cm, dd, if_true, beq_self_eq_true, Bool.and_true, Bool.and_self]) rfl
end Go.Proofs.Ytpbcjeigiklanaa
