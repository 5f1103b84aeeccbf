/-
  Walks of functions, reckoned through, and what they give (part W09pb). No condition beyond what each says. By an AI agent.
-/
import Derived.Test.YtomkceffoanhcaaW09pa
namespace Go.Proofs.Ytomkceffoanhcaa
open Go.Ex
open Go.RowKit (Below)
set_option linter.unusedVariables false
set_option linter.unusedSimpArgs false

set_option maxHeartbeats 4000000 in
theorem walk0 (x : CV) (hr : Rng x) (b n : Int) (kb : 0 ≤ b ∧ b < 256) (kn : 0 ≤ n ∧ n < 256) (w : World) : Calls Try.prog 6 #[x.v, .int .u8 b, .int .u8 n] w (fun e w' => e = .returned (.bool true) ∧ Below w.heap.size w w') := by
  have hargs : Rs [] [x.sv, .val (.int .u8 b), .val (.int .u8 n)] [x.v, .int .u8 b, .int .u8 n] := Rs.cons (by exact ⟨_, rfl, by simp [Rs, R]⟩) (Rs.cons (by simp only [R]) (Rs.cons (by simp only [R]) Rs.nil))
  have rf := fit_rng x hr
  have fm := fit_may x
  obtain ⟨hfd, hfe, h2, h22⟩ := back (fitS x) fm rf
  have t1 : (1 : Int) < ((enc (fitS x)).1.size : Int) := by omega
  have t3 : ¬ ((enc (fitS x)).1.size : Int) < 2 := by omega
  have t4 : 1 < (enc (fitS x)).1.size := by omega
  have z1 : (o1 x b).size = (enc (fitS x)).1.size := orM_size _ _ _ _
  have dd := dec_o1 x b kb h2
  have hK : K0 n = n % 40 := by
    unfold K0
    rw [show IntKind.i64.wrap n = n by rw [wi64]; omega, tm _ _ kn.1]
  have k0 : 0 ≤ K0 n := by omega
  have k40 : K0 n < 40 := by omega
  have tz : (T0 x).size = (enc (fitS x)).1.size + 40 := by unfold T0; rw [ByteArray.size_append]; rfl
  have s1 : (enc (fitS x)).1.size + 40 ≤ 9223372036854775807 := by omega
  have s2 : K0 n ≤ ((T0 x).size : Int) := by omega
  by_cases c0 : K0 n = 0
  · have d0 : (K0 n == 0) = true := by rw [beq_iff_eq]; exact c0
    exact leaf (cpass_0 x b n) (by simp only [AllP, and_true, true_and, rf.1.1, rf.1.2, rf.2.1.1, rf.2.1.2, rf.2.2.1, rf.2.2.2, hfe, z1, t1, t3, t4, k0, s1, s2, (w8r _).1, (w8r _).2, dd, hfd, bne_self_eq_false, beq_self_eq_true, Bool.and_true, Bool.and_self, Bool.false_eq_true, if_false, Bool.not_true, Bool.not_false, decide_false, decide_true, Int.le_refl, show (0 : Int) ≤ 1 by decide, d0]) rfl hargs rfl rfl
  have d0 : (K0 n == 0) = false := by rw [beq_eq_false_iff_ne]; exact c0
  by_cases c1 : K0 n = 2
  · have d1 : (K0 n == 2) = true := by rw [beq_iff_eq]; exact c1
    exact leaf (cpass_1 x b n) (by simp only [AllP, and_true, true_and, rf.1.1, rf.1.2, rf.2.1.1, rf.2.1.2, rf.2.2.1, rf.2.2.2, hfe, z1, t1, t3, t4, k0, s1, s2, (w8r _).1, (w8r _).2, dd, hfd, bne_self_eq_false, beq_self_eq_true, Bool.and_true, Bool.and_self, Bool.false_eq_true, if_false, Bool.not_true, Bool.not_false, decide_false, decide_true, Int.le_refl, show (0 : Int) ≤ 1 by decide, d0, d1]) rfl hargs rfl rfl
  have d1 : (K0 n == 2) = false := by rw [beq_eq_false_iff_ne]; exact c1
  by_cases c2 : K0 n = 10
  · have d2 : (K0 n == 10) = true := by rw [beq_iff_eq]; exact c2
    exact leaf (cpass_2 x b n) (by simp only [AllP, and_true, true_and, rf.1.1, rf.1.2, rf.2.1.1, rf.2.1.2, rf.2.2.1, rf.2.2.2, hfe, z1, t1, t3, t4, k0, s1, s2, (w8r _).1, (w8r _).2, dd, hfd, bne_self_eq_false, beq_self_eq_true, Bool.and_true, Bool.and_self, Bool.false_eq_true, if_false, Bool.not_true, Bool.not_false, decide_false, decide_true, Int.le_refl, show (0 : Int) ≤ 1 by decide, d0, d1, d2]) rfl hargs rfl rfl
  have d2 : (K0 n == 10) = false := by rw [beq_eq_false_iff_ne]; exact c2
  by_cases c3 : K0 n = 18
  · have d3 : (K0 n == 18) = true := by rw [beq_iff_eq]; exact c3
    exact leaf (cpass_3 x b n) (by simp only [AllP, and_true, true_and, rf.1.1, rf.1.2, rf.2.1.1, rf.2.1.2, rf.2.2.1, rf.2.2.2, hfe, z1, t1, t3, t4, k0, s1, s2, (w8r _).1, (w8r _).2, dd, hfd, bne_self_eq_false, beq_self_eq_true, Bool.and_true, Bool.and_self, Bool.false_eq_true, if_false, Bool.not_true, Bool.not_false, decide_false, decide_true, Int.le_refl, show (0 : Int) ≤ 1 by decide, d0, d1, d2, d3]) rfl hargs rfl rfl
  have d3 : (K0 n == 18) = false := by rw [beq_eq_false_iff_ne]; exact c3
  by_cases c4 : K0 n = 20
  · have d4 : (K0 n == 20) = true := by rw [beq_iff_eq]; exact c4
    exact leaf (cpass_4 x b n) (by simp only [AllP, and_true, true_and, rf.1.1, rf.1.2, rf.2.1.1, rf.2.1.2, rf.2.2.1, rf.2.2.2, hfe, z1, t1, t3, t4, k0, s1, s2, (w8r _).1, (w8r _).2, dd, hfd, bne_self_eq_false, beq_self_eq_true, Bool.and_true, Bool.and_self, Bool.false_eq_true, if_false, Bool.not_true, Bool.not_false, decide_false, decide_true, Int.le_refl, show (0 : Int) ≤ 1 by decide, d0, d1, d2, d3, d4]) rfl hargs rfl rfl
  have d4 : (K0 n == 20) = false := by rw [beq_eq_false_iff_ne]; exact c4
  by_cases c5 : K0 n = 22
  · have d5 : (K0 n == 22) = true := by rw [beq_iff_eq]; exact c5
    exact leaf (cpass_5 x b n) (by simp only [AllP, and_true, true_and, rf.1.1, rf.1.2, rf.2.1.1, rf.2.1.2, rf.2.2.1, rf.2.2.2, hfe, z1, t1, t3, t4, k0, s1, s2, (w8r _).1, (w8r _).2, dd, hfd, bne_self_eq_false, beq_self_eq_true, Bool.and_true, Bool.and_self, Bool.false_eq_true, if_false, Bool.not_true, Bool.not_false, decide_false, decide_true, Int.le_refl, show (0 : Int) ≤ 1 by decide, d0, d1, d2, d3, d4, d5]) rfl hargs rfl rfl
  have d5 : (K0 n == 22) = false := by rw [beq_eq_false_iff_ne]; exact c5
  have u := U0_dec x n (by omega) k40 c1 c2 c3 c4 c5
  exact leaf (cpass_6 x b n) (by simp only [AllP, and_true, true_and, rf.1.1, rf.1.2, rf.2.1.1, rf.2.1.2, rf.2.2.1, rf.2.2.2, hfe, z1, t1, t3, t4, k0, s1, s2, (w8r _).1, (w8r _).2, dd, hfd, bne_self_eq_false, beq_self_eq_true, Bool.and_true, Bool.and_self, Bool.false_eq_true, if_false, Bool.not_true, Bool.not_false, decide_false, decide_true, Int.le_refl, show (0 : Int) ≤ 1 by decide, d0, d1, d2, d3, d4, d5, u, CV.none]) rfl hargs (by simp only [SV.toV, u, CV.none]; rfl) rfl
end Go.Proofs.Ytomkceffoanhcaa
