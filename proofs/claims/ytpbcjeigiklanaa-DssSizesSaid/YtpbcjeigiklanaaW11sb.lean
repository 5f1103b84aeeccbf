/-
  Walks of functions, reckoned through, and what they give (part W11sb). No condition beyond what each says. By an AI agent.
-/
import Derived.Test.YtpbcjeigiklanaaW11sa
namespace Go.Proofs.Ytpbcjeigiklanaa
open Go.Ex
open Go.RowKit (Below)
set_option linter.unusedVariables false
set_option linter.unusedSimpArgs false

set_option maxHeartbeats 16000000 in
theorem walk0 (x : SG) (hr : Rng x) (n : Int) (hn : 0 ≤ n ∧ n < 256) (w : World) : Calls Try.prog 7 #[x.v, .int .u8 n] w (fun e w' => e = .returned (.bool true) ∧ Below w.heap.size w w') := by
  have hargs : Rs [] [x.sv, .val (.int .u8 n)] [x.v, .int .u8 n] := Rs.cons (by exact ⟨_, rfl, by simp [Rs, R]⟩) (Rs.cons (by simp only [R]) Rs.nil)
  have rf := fit_rng x hr
  have fm := fit_may x hr
  obtain ⟨hfd, hfe, hfs⟩ := back (fitS x) fm rf
  have f28 := size28 (fitS x)
  have h2 : 2 ≤ (enc (fitS x)).1.size := by rw [hfs]; exact size2 _
  have t3 : ¬ ((enc (fitS x)).1.size : Int) < 2 := by omega
  have hK : K7 n = n % 40 := by
    unfold K7
    rw [show IntKind.i64.wrap n = n by rw [wi64]; omega, tm _ _ hn.1]
  have k0 : 0 ≤ K7 n := by omega
  have k40 : K7 n < 40 := by omega
  have tz : (T7 x).size = (enc (fitS x)).1.size + 40 := by unfold T7; rw [ByteArray.size_append]; rfl
  have s1 : (enc (fitS x)).1.size + 40 ≤ 9223372036854775807 := by omega
  have s2 : K7 n ≤ ((T7 x).size : Int) := by omega
  have s3 : (U7 x n).size ≤ 9223372036854775807 := by
    have : (U7 x n).size ≤ (T7 x).size := by
      unfold U7; rw [ByteArray.size_extract]; omega
    omega
  have U := U7_dec x n fm
  have nk : 2 ≤ K7 n → (U7 x n).size = (K7 n).toNat := fun h => (U h k40).1
  have nd : 2 ≤ K7 n → dec (U7 x n) = decF (U7 x n) (fitS x).ha (fitS x).la (fitS x).hm (fitS x).ld (hF (U7 x n)) := fun h => (U h k40).2
  have m := fm
  obtain ⟨m1, m2, m3, m4, _⟩ := m
  unfold sizeOf' at hfs
  clear U hK hn hr
  cases ca : (fitS x).ha <;> cases cl : (fitS x).la <;> cases cm : (fitS x).hm <;> cases cd : (fitS x).ld <;> cases ch : (fitS x).hs <;> rw [ca, cl, cm, cd, ch] at hfs <;> rw [ca, cl, cm, cd] at nd
  · exfalso; rw [ca, cm] at m1; rw [ca, cl] at m2; rw [cm, cd, ch] at m4; simp at m1 m2 m4
  · exfalso; rw [ca, cm] at m1; rw [ca, cl] at m2; rw [cm, cd, ch] at m4; simp at m1 m2 m4
  · exfalso; rw [ca, cm] at m1; rw [ca, cl] at m2; rw [cm, cd, ch] at m4; simp at m1 m2 m4
  · exfalso; rw [ca, cm] at m1; rw [ca, cl] at m2; rw [cm, cd, ch] at m4; simp at m1 m2 m4
  · have zz : ((enc (fitS x)).1.size : Int) = 12 := by rw [hfs]; rfl
    have d0 : decide ((12 : Int) < 2) = false := by decide
    by_cases q1 : K7 n < 2
    · have d1 : decide (K7 n < 2) = true := decide_eq_true q1
      exact leaf (dsz0_8 x n) (by simp only [AllP, and_true, true_and, rf.1.1, rf.1.2, rf.2.1.1, rf.2.1.2, rf.2.2.1.1, rf.2.2.1.2, rf.2.2.2.1, rf.2.2.2.2, hfe, t3, k0, s1, s2, s3, ca, cl, cm, cd, ch, zz, d0, bne_self_eq_false, beq_self_eq_true, Bool.not_true, Bool.not_false, decide_false, decide_true, Int.le_refl, d1]) rfl hargs (by simp only [SV.toV, zz, beq_self_eq_true]) rfl
    have d1 : decide (K7 n < 2) = false := decide_eq_false q1
    have u1 := nk (by omega)
    have u2 := nd (by omega)
    by_cases q2 : K7 n = 12
    · have d2 : (K7 n == 12) = true := by rw [beq_iff_eq]; exact q2
      have d3 : (K7 n != 12) = false := by rw [bne_eq_false_iff_eq]; exact q2
      rw [dF_o rfl (by show (U7 x n).size = 12; omega)] at u2
      exact leaf (dsz0_9 x n) (by simp only [AllP, and_true, true_and, rf.1.1, rf.1.2, rf.2.1.1, rf.2.1.2, rf.2.2.1.1, rf.2.2.1.2, rf.2.2.2.1, rf.2.2.2.2, hfe, t3, k0, s1, s2, s3, ca, cl, cm, cd, ch, zz, d0, bne_self_eq_false, beq_self_eq_true, Bool.not_true, Bool.not_false, decide_false, decide_true, Int.le_refl, d1, d2, d3, u2]) rfl hargs (by simp only [SV.toV, u2, d3]; rfl) rfl
    have d2 : (K7 n == 12) = false := by rw [beq_eq_false_iff_ne]; exact q2
    have d3 : (K7 n != 12) = true := by rw [bne_iff_ne]; exact q2
    by_cases q3 : K7 n = 14
    · have d4 : (K7 n == 14) = true := by rw [beq_iff_eq]; exact q3
      rw [dF_h rfl (by show (U7 x n).size = 12 + 2; omega)] at u2
      exact leaf (dsz0_10 x n) (by simp only [AllP, and_true, true_and, rf.1.1, rf.1.2, rf.2.1.1, rf.2.1.2, rf.2.2.1.1, rf.2.2.1.2, rf.2.2.2.1, rf.2.2.2.2, hfe, t3, k0, s1, s2, s3, ca, cl, cm, cd, ch, zz, d0, bne_self_eq_false, beq_self_eq_true, Bool.not_true, Bool.not_false, decide_false, decide_true, Int.le_refl, d1, d2, d3, d4, u2]) rfl hargs (by simp only [SV.toV, u2, d3]; rfl) rfl
    have d4 : (K7 n == 14) = false := by rw [beq_eq_false_iff_ne]; exact q3
    by_cases q4 : K7 n < 12
    · have d5 : decide (K7 n < 12) = true := decide_eq_true q4
      rw [dF_s rfl (by show (U7 x n).size < 12; omega)] at u2
      exact leaf (dsz0_11 x n) (by simp only [AllP, and_true, true_and, rf.1.1, rf.1.2, rf.2.1.1, rf.2.1.2, rf.2.2.1.1, rf.2.2.1.2, rf.2.2.2.1, rf.2.2.2.2, hfe, t3, k0, s1, s2, s3, ca, cl, cm, cd, ch, zz, d0, bne_self_eq_false, beq_self_eq_true, Bool.not_true, Bool.not_false, decide_false, decide_true, Int.le_refl, d1, d2, d3, d4, d5, u2]) rfl hargs (by simp only [SV.toV, u2, SG.none]; rfl) rfl
    have d5 : decide (K7 n < 12) = false := decide_eq_false q4
    rw [dF_f (by show 12 < (U7 x n).size; omega) (Or.inr (by show ¬ (U7 x n).size = 12 + 2; omega))] at u2
    exact leaf (dsz0_12 x n) (by simp only [AllP, and_true, true_and, rf.1.1, rf.1.2, rf.2.1.1, rf.2.1.2, rf.2.2.1.1, rf.2.2.1.2, rf.2.2.2.1, rf.2.2.2.2, hfe, t3, k0, s1, s2, s3, ca, cl, cm, cd, ch, zz, d0, bne_self_eq_false, beq_self_eq_true, Bool.not_true, Bool.not_false, decide_false, decide_true, Int.le_refl, d1, d2, d3, d4, d5, u2]) rfl hargs (by simp only [SV.toV, u2, SG.none]; rfl) rfl
  · have zz : ((enc (fitS x)).1.size : Int) = 14 := by rw [hfs]; rfl
    have d0 : decide ((14 : Int) < 2) = false := by decide
    by_cases q1 : K7 n < 2
    · have d1 : decide (K7 n < 2) = true := decide_eq_true q1
      exact leaf (dsz0_13 x n) (by simp only [AllP, and_true, true_and, rf.1.1, rf.1.2, rf.2.1.1, rf.2.1.2, rf.2.2.1.1, rf.2.2.1.2, rf.2.2.2.1, rf.2.2.2.2, hfe, t3, k0, s1, s2, s3, ca, cl, cm, cd, ch, zz, d0, bne_self_eq_false, beq_self_eq_true, Bool.not_true, Bool.not_false, decide_false, decide_true, Int.le_refl, d1]) rfl hargs (by simp only [SV.toV, zz, beq_self_eq_true]) rfl
    have d1 : decide (K7 n < 2) = false := decide_eq_false q1
    have u1 := nk (by omega)
    have u2 := nd (by omega)
    by_cases q2 : K7 n = 12
    · have d2 : (K7 n == 12) = true := by rw [beq_iff_eq]; exact q2
      have d3 : (K7 n != 12) = false := by rw [bne_eq_false_iff_eq]; exact q2
      rw [dF_o rfl (by show (U7 x n).size = 12; omega)] at u2
      exact leaf (dsz0_14 x n) (by simp only [AllP, and_true, true_and, rf.1.1, rf.1.2, rf.2.1.1, rf.2.1.2, rf.2.2.1.1, rf.2.2.1.2, rf.2.2.2.1, rf.2.2.2.2, hfe, t3, k0, s1, s2, s3, ca, cl, cm, cd, ch, zz, d0, bne_self_eq_false, beq_self_eq_true, Bool.not_true, Bool.not_false, decide_false, decide_true, Int.le_refl, d1, d2, d3, u2]) rfl hargs (by simp only [SV.toV, u2, d3]; rfl) rfl
    have d2 : (K7 n == 12) = false := by rw [beq_eq_false_iff_ne]; exact q2
    have d3 : (K7 n != 12) = true := by rw [bne_iff_ne]; exact q2
    by_cases q3 : K7 n = 14
    · have d4 : (K7 n == 14) = true := by rw [beq_iff_eq]; exact q3
      rw [dF_h rfl (by show (U7 x n).size = 12 + 2; omega)] at u2
      exact leaf (dsz0_15 x n) (by simp only [AllP, and_true, true_and, rf.1.1, rf.1.2, rf.2.1.1, rf.2.1.2, rf.2.2.1.1, rf.2.2.1.2, rf.2.2.2.1, rf.2.2.2.2, hfe, t3, k0, s1, s2, s3, ca, cl, cm, cd, ch, zz, d0, bne_self_eq_false, beq_self_eq_true, Bool.not_true, Bool.not_false, decide_false, decide_true, Int.le_refl, d1, d2, d3, d4, u2]) rfl hargs (by simp only [SV.toV, u2, d3]; rfl) rfl
    have d4 : (K7 n == 14) = false := by rw [beq_eq_false_iff_ne]; exact q3
    by_cases q4 : K7 n < 12
    · have d5 : decide (K7 n < 12) = true := decide_eq_true q4
      rw [dF_s rfl (by show (U7 x n).size < 12; omega)] at u2
      exact leaf (dsz0_16 x n) (by simp only [AllP, and_true, true_and, rf.1.1, rf.1.2, rf.2.1.1, rf.2.1.2, rf.2.2.1.1, rf.2.2.1.2, rf.2.2.2.1, rf.2.2.2.2, hfe, t3, k0, s1, s2, s3, ca, cl, cm, cd, ch, zz, d0, bne_self_eq_false, beq_self_eq_true, Bool.not_true, Bool.not_false, decide_false, decide_true, Int.le_refl, d1, d2, d3, d4, d5, u2]) rfl hargs (by simp only [SV.toV, u2, SG.none]; rfl) rfl
    have d5 : decide (K7 n < 12) = false := decide_eq_false q4
    rw [dF_f (by show 12 < (U7 x n).size; omega) (Or.inr (by show ¬ (U7 x n).size = 12 + 2; omega))] at u2
    exact leaf (dsz0_17 x n) (by simp only [AllP, and_true, true_and, rf.1.1, rf.1.2, rf.2.1.1, rf.2.1.2, rf.2.2.1.1, rf.2.2.1.2, rf.2.2.2.1, rf.2.2.2.2, hfe, t3, k0, s1, s2, s3, ca, cl, cm, cd, ch, zz, d0, bne_self_eq_false, beq_self_eq_true, Bool.not_true, Bool.not_false, decide_false, decide_true, Int.le_refl, d1, d2, d3, d4, d5, u2]) rfl hargs (by simp only [SV.toV, u2, SG.none]; rfl) rfl
  · have zz : ((enc (fitS x)).1.size : Int) = 16 := by rw [hfs]; rfl
    have d0 : decide ((16 : Int) < 2) = false := by decide
    by_cases q1 : K7 n < 2
    · have d1 : decide (K7 n < 2) = true := decide_eq_true q1
      exact leaf (dsz0_18 x n) (by simp only [AllP, and_true, true_and, rf.1.1, rf.1.2, rf.2.1.1, rf.2.1.2, rf.2.2.1.1, rf.2.2.1.2, rf.2.2.2.1, rf.2.2.2.2, hfe, t3, k0, s1, s2, s3, ca, cl, cm, cd, ch, zz, d0, bne_self_eq_false, beq_self_eq_true, Bool.not_true, Bool.not_false, decide_false, decide_true, Int.le_refl, d1]) rfl hargs (by simp only [SV.toV, zz, beq_self_eq_true]) rfl
    have d1 : decide (K7 n < 2) = false := decide_eq_false q1
    have u1 := nk (by omega)
    have u2 := nd (by omega)
    by_cases q2 : K7 n = 16
    · have d2 : (K7 n == 16) = true := by rw [beq_iff_eq]; exact q2
      have d3 : (K7 n != 16) = false := by rw [bne_eq_false_iff_eq]; exact q2
      rw [dF_o rfl (by show (U7 x n).size = 16; omega)] at u2
      exact leaf (dsz0_19 x n) (by simp only [AllP, and_true, true_and, rf.1.1, rf.1.2, rf.2.1.1, rf.2.1.2, rf.2.2.1.1, rf.2.2.1.2, rf.2.2.2.1, rf.2.2.2.2, hfe, t3, k0, s1, s2, s3, ca, cl, cm, cd, ch, zz, d0, bne_self_eq_false, beq_self_eq_true, Bool.not_true, Bool.not_false, decide_false, decide_true, Int.le_refl, d1, d2, d3, u2]) rfl hargs (by simp only [SV.toV, u2, d3]; rfl) rfl
    have d2 : (K7 n == 16) = false := by rw [beq_eq_false_iff_ne]; exact q2
    have d3 : (K7 n != 16) = true := by rw [bne_iff_ne]; exact q2
    by_cases q3 : K7 n = 18
    · have d4 : (K7 n == 18) = true := by rw [beq_iff_eq]; exact q3
      rw [dF_h rfl (by show (U7 x n).size = 16 + 2; omega)] at u2
      exact leaf (dsz0_20 x n) (by simp only [AllP, and_true, true_and, rf.1.1, rf.1.2, rf.2.1.1, rf.2.1.2, rf.2.2.1.1, rf.2.2.1.2, rf.2.2.2.1, rf.2.2.2.2, hfe, t3, k0, s1, s2, s3, ca, cl, cm, cd, ch, zz, d0, bne_self_eq_false, beq_self_eq_true, Bool.not_true, Bool.not_false, decide_false, decide_true, Int.le_refl, d1, d2, d3, d4, u2]) rfl hargs (by simp only [SV.toV, u2, d3]; rfl) rfl
    have d4 : (K7 n == 18) = false := by rw [beq_eq_false_iff_ne]; exact q3
    by_cases q4 : K7 n < 16
    · have d5 : decide (K7 n < 16) = true := decide_eq_true q4
      rw [dF_s rfl (by show (U7 x n).size < 16; omega)] at u2
      exact leaf (dsz0_21 x n) (by simp only [AllP, and_true, true_and, rf.1.1, rf.1.2, rf.2.1.1, rf.2.1.2, rf.2.2.1.1, rf.2.2.1.2, rf.2.2.2.1, rf.2.2.2.2, hfe, t3, k0, s1, s2, s3, ca, cl, cm, cd, ch, zz, d0, bne_self_eq_false, beq_self_eq_true, Bool.not_true, Bool.not_false, decide_false, decide_true, Int.le_refl, d1, d2, d3, d4, d5, u2]) rfl hargs (by simp only [SV.toV, u2, SG.none]; rfl) rfl
    have d5 : decide (K7 n < 16) = false := decide_eq_false q4
    rw [dF_f (by show 16 < (U7 x n).size; omega) (Or.inr (by show ¬ (U7 x n).size = 16 + 2; omega))] at u2
    exact leaf (dsz0_22 x n) (by simp only [AllP, and_true, true_and, rf.1.1, rf.1.2, rf.2.1.1, rf.2.1.2, rf.2.2.1.1, rf.2.2.1.2, rf.2.2.2.1, rf.2.2.2.2, hfe, t3, k0, s1, s2, s3, ca, cl, cm, cd, ch, zz, d0, bne_self_eq_false, beq_self_eq_true, Bool.not_true, Bool.not_false, decide_false, decide_true, Int.le_refl, d1, d2, d3, d4, d5, u2]) rfl hargs (by simp only [SV.toV, u2, SG.none]; rfl) rfl
  · have zz : ((enc (fitS x)).1.size : Int) = 18 := by rw [hfs]; rfl
    have d0 : decide ((18 : Int) < 2) = false := by decide
    by_cases q1 : K7 n < 2
    · have d1 : decide (K7 n < 2) = true := decide_eq_true q1
      exact leaf (dsz0_23 x n) (by simp only [AllP, and_true, true_and, rf.1.1, rf.1.2, rf.2.1.1, rf.2.1.2, rf.2.2.1.1, rf.2.2.1.2, rf.2.2.2.1, rf.2.2.2.2, hfe, t3, k0, s1, s2, s3, ca, cl, cm, cd, ch, zz, d0, bne_self_eq_false, beq_self_eq_true, Bool.not_true, Bool.not_false, decide_false, decide_true, Int.le_refl, d1]) rfl hargs (by simp only [SV.toV, zz, beq_self_eq_true]) rfl
    have d1 : decide (K7 n < 2) = false := decide_eq_false q1
    have u1 := nk (by omega)
    have u2 := nd (by omega)
    by_cases q2 : K7 n = 16
    · have d2 : (K7 n == 16) = true := by rw [beq_iff_eq]; exact q2
      have d3 : (K7 n != 16) = false := by rw [bne_eq_false_iff_eq]; exact q2
      rw [dF_o rfl (by show (U7 x n).size = 16; omega)] at u2
      exact leaf (dsz0_24 x n) (by simp only [AllP, and_true, true_and, rf.1.1, rf.1.2, rf.2.1.1, rf.2.1.2, rf.2.2.1.1, rf.2.2.1.2, rf.2.2.2.1, rf.2.2.2.2, hfe, t3, k0, s1, s2, s3, ca, cl, cm, cd, ch, zz, d0, bne_self_eq_false, beq_self_eq_true, Bool.not_true, Bool.not_false, decide_false, decide_true, Int.le_refl, d1, d2, d3, u2]) rfl hargs (by simp only [SV.toV, u2, d3]; rfl) rfl
    have d2 : (K7 n == 16) = false := by rw [beq_eq_false_iff_ne]; exact q2
    have d3 : (K7 n != 16) = true := by rw [bne_iff_ne]; exact q2
    by_cases q3 : K7 n = 18
    · have d4 : (K7 n == 18) = true := by rw [beq_iff_eq]; exact q3
      rw [dF_h rfl (by show (U7 x n).size = 16 + 2; omega)] at u2
      exact leaf (dsz0_25 x n) (by simp only [AllP, and_true, true_and, rf.1.1, rf.1.2, rf.2.1.1, rf.2.1.2, rf.2.2.1.1, rf.2.2.1.2, rf.2.2.2.1, rf.2.2.2.2, hfe, t3, k0, s1, s2, s3, ca, cl, cm, cd, ch, zz, d0, bne_self_eq_false, beq_self_eq_true, Bool.not_true, Bool.not_false, decide_false, decide_true, Int.le_refl, d1, d2, d3, d4, u2]) rfl hargs (by simp only [SV.toV, u2, d3]; rfl) rfl
    have d4 : (K7 n == 18) = false := by rw [beq_eq_false_iff_ne]; exact q3
    by_cases q4 : K7 n < 16
    · have d5 : decide (K7 n < 16) = true := decide_eq_true q4
      rw [dF_s rfl (by show (U7 x n).size < 16; omega)] at u2
      exact leaf (dsz0_26 x n) (by simp only [AllP, and_true, true_and, rf.1.1, rf.1.2, rf.2.1.1, rf.2.1.2, rf.2.2.1.1, rf.2.2.1.2, rf.2.2.2.1, rf.2.2.2.2, hfe, t3, k0, s1, s2, s3, ca, cl, cm, cd, ch, zz, d0, bne_self_eq_false, beq_self_eq_true, Bool.not_true, Bool.not_false, decide_false, decide_true, Int.le_refl, d1, d2, d3, d4, d5, u2]) rfl hargs (by simp only [SV.toV, u2, SG.none]; rfl) rfl
    have d5 : decide (K7 n < 16) = false := decide_eq_false q4
    rw [dF_f (by show 16 < (U7 x n).size; omega) (Or.inr (by show ¬ (U7 x n).size = 16 + 2; omega))] at u2
    exact leaf (dsz0_27 x n) (by simp only [AllP, and_true, true_and, rf.1.1, rf.1.2, rf.2.1.1, rf.2.1.2, rf.2.2.1.1, rf.2.2.1.2, rf.2.2.2.1, rf.2.2.2.2, hfe, t3, k0, s1, s2, s3, ca, cl, cm, cd, ch, zz, d0, bne_self_eq_false, beq_self_eq_true, Bool.not_true, Bool.not_false, decide_false, decide_true, Int.le_refl, d1, d2, d3, d4, d5, u2]) rfl hargs (by simp only [SV.toV, u2, SG.none]; rfl) rfl
  · exfalso; rw [ca, cm] at m1; rw [ca, cl] at m2; rw [cm, cd, ch] at m4; simp at m1 m2 m4
  · exfalso; rw [ca, cm] at m1; rw [ca, cl] at m2; rw [cm, cd, ch] at m4; simp at m1 m2 m4
  · exfalso; rw [ca, cm] at m1; rw [ca, cl] at m2; rw [cm, cd, ch] at m4; simp at m1 m2 m4
  · exfalso; rw [ca, cm] at m1; rw [ca, cl] at m2; rw [cm, cd, ch] at m4; simp at m1 m2 m4
  · exfalso; rw [ca, cm] at m1; rw [ca, cl] at m2; rw [cm, cd, ch] at m4; simp at m1 m2 m4
  · exfalso; rw [ca, cm] at m1; rw [ca, cl] at m2; rw [cm, cd, ch] at m4; simp at m1 m2 m4
  · exfalso; rw [ca, cm] at m1; rw [ca, cl] at m2; rw [cm, cd, ch] at m4; simp at m1 m2 m4
  · exfalso; rw [ca, cm] at m1; rw [ca, cl] at m2; rw [cm, cd, ch] at m4; simp at m1 m2 m4
  · have zz : ((enc (fitS x)).1.size : Int) = 6 := by rw [hfs]; rfl
    have d0 : decide ((6 : Int) < 2) = false := by decide
    by_cases q1 : K7 n < 2
    · have d1 : decide (K7 n < 2) = true := decide_eq_true q1
      exact leaf (dsz0_0 x n) (by simp only [AllP, and_true, true_and, rf.1.1, rf.1.2, rf.2.1.1, rf.2.1.2, rf.2.2.1.1, rf.2.2.1.2, rf.2.2.2.1, rf.2.2.2.2, hfe, t3, k0, s1, s2, s3, ca, cl, cm, cd, ch, zz, d0, bne_self_eq_false, beq_self_eq_true, Bool.not_true, Bool.not_false, decide_false, decide_true, Int.le_refl, d1]) rfl hargs (by simp only [SV.toV, zz, beq_self_eq_true]) rfl
    have d1 : decide (K7 n < 2) = false := decide_eq_false q1
    have u1 := nk (by omega)
    have u2 := nd (by omega)
    by_cases q2 : K7 n = 6
    · have d2 : (K7 n == 6) = true := by rw [beq_iff_eq]; exact q2
      have d3 : (K7 n != 6) = false := by rw [bne_eq_false_iff_eq]; exact q2
      rw [dF_o rfl (by show (U7 x n).size = 6; omega)] at u2
      exact leaf (dsz0_1 x n) (by simp only [AllP, and_true, true_and, rf.1.1, rf.1.2, rf.2.1.1, rf.2.1.2, rf.2.2.1.1, rf.2.2.1.2, rf.2.2.2.1, rf.2.2.2.2, hfe, t3, k0, s1, s2, s3, ca, cl, cm, cd, ch, zz, d0, bne_self_eq_false, beq_self_eq_true, Bool.not_true, Bool.not_false, decide_false, decide_true, Int.le_refl, d1, d2, d3, u2]) rfl hargs (by simp only [SV.toV, u2, d3]; rfl) rfl
    have d2 : (K7 n == 6) = false := by rw [beq_eq_false_iff_ne]; exact q2
    have d3 : (K7 n != 6) = true := by rw [bne_iff_ne]; exact q2
    by_cases q3 : K7 n = 8
    · have d4 : (K7 n == 8) = true := by rw [beq_iff_eq]; exact q3
      have d5 : decide (K7 n < 6) = false := decide_eq_false (by omega)
      rw [dF_f (by show 6 < (U7 x n).size; omega) (Or.inl rfl)] at u2
      exact leaf (dsz0_68 x n) (by simp only [AllP, and_true, true_and, rf.1.1, rf.1.2, rf.2.1.1, rf.2.1.2, rf.2.2.1.1, rf.2.2.1.2, rf.2.2.2.1, rf.2.2.2.2, hfe, t3, k0, s1, s2, s3, ca, cl, cm, cd, ch, zz, d0, bne_self_eq_false, beq_self_eq_true, Bool.not_true, Bool.not_false, decide_false, decide_true, Int.le_refl, d1, d2, d3, d4, d5, u2]) rfl hargs (by simp only [SV.toV, u2, SG.none]; rfl) rfl
    have d4 : (K7 n == 8) = false := by rw [beq_eq_false_iff_ne]; exact q3
    by_cases q4 : K7 n < 6
    · have d5 : decide (K7 n < 6) = true := decide_eq_true q4
      rw [dF_s rfl (by show (U7 x n).size < 6; omega)] at u2
      exact leaf (dsz0_2 x n) (by simp only [AllP, and_true, true_and, rf.1.1, rf.1.2, rf.2.1.1, rf.2.1.2, rf.2.2.1.1, rf.2.2.1.2, rf.2.2.2.1, rf.2.2.2.2, hfe, t3, k0, s1, s2, s3, ca, cl, cm, cd, ch, zz, d0, bne_self_eq_false, beq_self_eq_true, Bool.not_true, Bool.not_false, decide_false, decide_true, Int.le_refl, d1, d2, d3, d4, d5, u2]) rfl hargs (by simp only [SV.toV, u2, SG.none]; rfl) rfl
    have d5 : decide (K7 n < 6) = false := decide_eq_false q4
    rw [dF_f (by show 6 < (U7 x n).size; omega) (Or.inl rfl)] at u2
    exact leaf (dsz0_3 x n) (by simp only [AllP, and_true, true_and, rf.1.1, rf.1.2, rf.2.1.1, rf.2.1.2, rf.2.2.1.1, rf.2.2.1.2, rf.2.2.2.1, rf.2.2.2.2, hfe, t3, k0, s1, s2, s3, ca, cl, cm, cd, ch, zz, d0, bne_self_eq_false, beq_self_eq_true, Bool.not_true, Bool.not_false, decide_false, decide_true, Int.le_refl, d1, d2, d3, d4, d5, u2]) rfl hargs (by simp only [SV.toV, u2, SG.none]; rfl) rfl
  · exfalso; rw [ca, cm] at m1; rw [ca, cl] at m2; rw [cm, cd, ch] at m4; simp at m1 m2 m4
  · exfalso; rw [ca, cm] at m1; rw [ca, cl] at m2; rw [cm, cd, ch] at m4; simp at m1 m2 m4
  · exfalso; rw [ca, cm] at m1; rw [ca, cl] at m2; rw [cm, cd, ch] at m4; simp at m1 m2 m4
  · have zz : ((enc (fitS x)).1.size : Int) = 16 := by rw [hfs]; rfl
    have d0 : decide ((16 : Int) < 2) = false := by decide
    by_cases q1 : K7 n < 2
    · have d1 : decide (K7 n < 2) = true := decide_eq_true q1
      exact leaf (dsz0_28 x n) (by simp only [AllP, and_true, true_and, rf.1.1, rf.1.2, rf.2.1.1, rf.2.1.2, rf.2.2.1.1, rf.2.2.1.2, rf.2.2.2.1, rf.2.2.2.2, hfe, t3, k0, s1, s2, s3, ca, cl, cm, cd, ch, zz, d0, bne_self_eq_false, beq_self_eq_true, Bool.not_true, Bool.not_false, decide_false, decide_true, Int.le_refl, d1]) rfl hargs (by simp only [SV.toV, zz, beq_self_eq_true]) rfl
    have d1 : decide (K7 n < 2) = false := decide_eq_false q1
    have u1 := nk (by omega)
    have u2 := nd (by omega)
    by_cases q2 : K7 n = 16
    · have d2 : (K7 n == 16) = true := by rw [beq_iff_eq]; exact q2
      have d3 : (K7 n != 16) = false := by rw [bne_eq_false_iff_eq]; exact q2
      rw [dF_o rfl (by show (U7 x n).size = 16; omega)] at u2
      exact leaf (dsz0_29 x n) (by simp only [AllP, and_true, true_and, rf.1.1, rf.1.2, rf.2.1.1, rf.2.1.2, rf.2.2.1.1, rf.2.2.1.2, rf.2.2.2.1, rf.2.2.2.2, hfe, t3, k0, s1, s2, s3, ca, cl, cm, cd, ch, zz, d0, bne_self_eq_false, beq_self_eq_true, Bool.not_true, Bool.not_false, decide_false, decide_true, Int.le_refl, d1, d2, d3, u2]) rfl hargs (by simp only [SV.toV, u2, d3]; rfl) rfl
    have d2 : (K7 n == 16) = false := by rw [beq_eq_false_iff_ne]; exact q2
    have d3 : (K7 n != 16) = true := by rw [bne_iff_ne]; exact q2
    by_cases q3 : K7 n = 18
    · have d4 : (K7 n == 18) = true := by rw [beq_iff_eq]; exact q3
      rw [dF_h rfl (by show (U7 x n).size = 16 + 2; omega)] at u2
      exact leaf (dsz0_30 x n) (by simp only [AllP, and_true, true_and, rf.1.1, rf.1.2, rf.2.1.1, rf.2.1.2, rf.2.2.1.1, rf.2.2.1.2, rf.2.2.2.1, rf.2.2.2.2, hfe, t3, k0, s1, s2, s3, ca, cl, cm, cd, ch, zz, d0, bne_self_eq_false, beq_self_eq_true, Bool.not_true, Bool.not_false, decide_false, decide_true, Int.le_refl, d1, d2, d3, d4, u2]) rfl hargs (by simp only [SV.toV, u2, d3]; rfl) rfl
    have d4 : (K7 n == 18) = false := by rw [beq_eq_false_iff_ne]; exact q3
    by_cases q4 : K7 n < 16
    · have d5 : decide (K7 n < 16) = true := decide_eq_true q4
      rw [dF_s rfl (by show (U7 x n).size < 16; omega)] at u2
      exact leaf (dsz0_31 x n) (by simp only [AllP, and_true, true_and, rf.1.1, rf.1.2, rf.2.1.1, rf.2.1.2, rf.2.2.1.1, rf.2.2.1.2, rf.2.2.2.1, rf.2.2.2.2, hfe, t3, k0, s1, s2, s3, ca, cl, cm, cd, ch, zz, d0, bne_self_eq_false, beq_self_eq_true, Bool.not_true, Bool.not_false, decide_false, decide_true, Int.le_refl, d1, d2, d3, d4, d5, u2]) rfl hargs (by simp only [SV.toV, u2, SG.none]; rfl) rfl
    have d5 : decide (K7 n < 16) = false := decide_eq_false q4
    rw [dF_f (by show 16 < (U7 x n).size; omega) (Or.inr (by show ¬ (U7 x n).size = 16 + 2; omega))] at u2
    exact leaf (dsz0_32 x n) (by simp only [AllP, and_true, true_and, rf.1.1, rf.1.2, rf.2.1.1, rf.2.1.2, rf.2.2.1.1, rf.2.2.1.2, rf.2.2.2.1, rf.2.2.2.2, hfe, t3, k0, s1, s2, s3, ca, cl, cm, cd, ch, zz, d0, bne_self_eq_false, beq_self_eq_true, Bool.not_true, Bool.not_false, decide_false, decide_true, Int.le_refl, d1, d2, d3, d4, d5, u2]) rfl hargs (by simp only [SV.toV, u2, SG.none]; rfl) rfl
  · have zz : ((enc (fitS x)).1.size : Int) = 18 := by rw [hfs]; rfl
    have d0 : decide ((18 : Int) < 2) = false := by decide
    by_cases q1 : K7 n < 2
    · have d1 : decide (K7 n < 2) = true := decide_eq_true q1
      exact leaf (dsz0_33 x n) (by simp only [AllP, and_true, true_and, rf.1.1, rf.1.2, rf.2.1.1, rf.2.1.2, rf.2.2.1.1, rf.2.2.1.2, rf.2.2.2.1, rf.2.2.2.2, hfe, t3, k0, s1, s2, s3, ca, cl, cm, cd, ch, zz, d0, bne_self_eq_false, beq_self_eq_true, Bool.not_true, Bool.not_false, decide_false, decide_true, Int.le_refl, d1]) rfl hargs (by simp only [SV.toV, zz, beq_self_eq_true]) rfl
    have d1 : decide (K7 n < 2) = false := decide_eq_false q1
    have u1 := nk (by omega)
    have u2 := nd (by omega)
    by_cases q2 : K7 n = 16
    · have d2 : (K7 n == 16) = true := by rw [beq_iff_eq]; exact q2
      have d3 : (K7 n != 16) = false := by rw [bne_eq_false_iff_eq]; exact q2
      rw [dF_o rfl (by show (U7 x n).size = 16; omega)] at u2
      exact leaf (dsz0_34 x n) (by simp only [AllP, and_true, true_and, rf.1.1, rf.1.2, rf.2.1.1, rf.2.1.2, rf.2.2.1.1, rf.2.2.1.2, rf.2.2.2.1, rf.2.2.2.2, hfe, t3, k0, s1, s2, s3, ca, cl, cm, cd, ch, zz, d0, bne_self_eq_false, beq_self_eq_true, Bool.not_true, Bool.not_false, decide_false, decide_true, Int.le_refl, d1, d2, d3, u2]) rfl hargs (by simp only [SV.toV, u2, d3]; rfl) rfl
    have d2 : (K7 n == 16) = false := by rw [beq_eq_false_iff_ne]; exact q2
    have d3 : (K7 n != 16) = true := by rw [bne_iff_ne]; exact q2
    by_cases q3 : K7 n = 18
    · have d4 : (K7 n == 18) = true := by rw [beq_iff_eq]; exact q3
      rw [dF_h rfl (by show (U7 x n).size = 16 + 2; omega)] at u2
      exact leaf (dsz0_35 x n) (by simp only [AllP, and_true, true_and, rf.1.1, rf.1.2, rf.2.1.1, rf.2.1.2, rf.2.2.1.1, rf.2.2.1.2, rf.2.2.2.1, rf.2.2.2.2, hfe, t3, k0, s1, s2, s3, ca, cl, cm, cd, ch, zz, d0, bne_self_eq_false, beq_self_eq_true, Bool.not_true, Bool.not_false, decide_false, decide_true, Int.le_refl, d1, d2, d3, d4, u2]) rfl hargs (by simp only [SV.toV, u2, d3]; rfl) rfl
    have d4 : (K7 n == 18) = false := by rw [beq_eq_false_iff_ne]; exact q3
    by_cases q4 : K7 n < 16
    · have d5 : decide (K7 n < 16) = true := decide_eq_true q4
      rw [dF_s rfl (by show (U7 x n).size < 16; omega)] at u2
      exact leaf (dsz0_36 x n) (by simp only [AllP, and_true, true_and, rf.1.1, rf.1.2, rf.2.1.1, rf.2.1.2, rf.2.2.1.1, rf.2.2.1.2, rf.2.2.2.1, rf.2.2.2.2, hfe, t3, k0, s1, s2, s3, ca, cl, cm, cd, ch, zz, d0, bne_self_eq_false, beq_self_eq_true, Bool.not_true, Bool.not_false, decide_false, decide_true, Int.le_refl, d1, d2, d3, d4, d5, u2]) rfl hargs (by simp only [SV.toV, u2, SG.none]; rfl) rfl
    have d5 : decide (K7 n < 16) = false := decide_eq_false q4
    rw [dF_f (by show 16 < (U7 x n).size; omega) (Or.inr (by show ¬ (U7 x n).size = 16 + 2; omega))] at u2
    exact leaf (dsz0_37 x n) (by simp only [AllP, and_true, true_and, rf.1.1, rf.1.2, rf.2.1.1, rf.2.1.2, rf.2.2.1.1, rf.2.2.1.2, rf.2.2.2.1, rf.2.2.2.2, hfe, t3, k0, s1, s2, s3, ca, cl, cm, cd, ch, zz, d0, bne_self_eq_false, beq_self_eq_true, Bool.not_true, Bool.not_false, decide_false, decide_true, Int.le_refl, d1, d2, d3, d4, d5, u2]) rfl hargs (by simp only [SV.toV, u2, SG.none]; rfl) rfl
  · have zz : ((enc (fitS x)).1.size : Int) = 20 := by rw [hfs]; rfl
    have d0 : decide ((20 : Int) < 2) = false := by decide
    by_cases q1 : K7 n < 2
    · have d1 : decide (K7 n < 2) = true := decide_eq_true q1
      exact leaf (dsz0_38 x n) (by simp only [AllP, and_true, true_and, rf.1.1, rf.1.2, rf.2.1.1, rf.2.1.2, rf.2.2.1.1, rf.2.2.1.2, rf.2.2.2.1, rf.2.2.2.2, hfe, t3, k0, s1, s2, s3, ca, cl, cm, cd, ch, zz, d0, bne_self_eq_false, beq_self_eq_true, Bool.not_true, Bool.not_false, decide_false, decide_true, Int.le_refl, d1]) rfl hargs (by simp only [SV.toV, zz, beq_self_eq_true]) rfl
    have d1 : decide (K7 n < 2) = false := decide_eq_false q1
    have u1 := nk (by omega)
    have u2 := nd (by omega)
    by_cases q2 : K7 n = 20
    · have d2 : (K7 n == 20) = true := by rw [beq_iff_eq]; exact q2
      have d3 : (K7 n != 20) = false := by rw [bne_eq_false_iff_eq]; exact q2
      rw [dF_o rfl (by show (U7 x n).size = 20; omega)] at u2
      exact leaf (dsz0_39 x n) (by simp only [AllP, and_true, true_and, rf.1.1, rf.1.2, rf.2.1.1, rf.2.1.2, rf.2.2.1.1, rf.2.2.1.2, rf.2.2.2.1, rf.2.2.2.2, hfe, t3, k0, s1, s2, s3, ca, cl, cm, cd, ch, zz, d0, bne_self_eq_false, beq_self_eq_true, Bool.not_true, Bool.not_false, decide_false, decide_true, Int.le_refl, d1, d2, d3, u2]) rfl hargs (by simp only [SV.toV, u2, d3]; rfl) rfl
    have d2 : (K7 n == 20) = false := by rw [beq_eq_false_iff_ne]; exact q2
    have d3 : (K7 n != 20) = true := by rw [bne_iff_ne]; exact q2
    by_cases q3 : K7 n = 22
    · have d4 : (K7 n == 22) = true := by rw [beq_iff_eq]; exact q3
      rw [dF_h rfl (by show (U7 x n).size = 20 + 2; omega)] at u2
      exact leaf (dsz0_40 x n) (by simp only [AllP, and_true, true_and, rf.1.1, rf.1.2, rf.2.1.1, rf.2.1.2, rf.2.2.1.1, rf.2.2.1.2, rf.2.2.2.1, rf.2.2.2.2, hfe, t3, k0, s1, s2, s3, ca, cl, cm, cd, ch, zz, d0, bne_self_eq_false, beq_self_eq_true, Bool.not_true, Bool.not_false, decide_false, decide_true, Int.le_refl, d1, d2, d3, d4, u2]) rfl hargs (by simp only [SV.toV, u2, d3]; rfl) rfl
    have d4 : (K7 n == 22) = false := by rw [beq_eq_false_iff_ne]; exact q3
    by_cases q4 : K7 n < 20
    · have d5 : decide (K7 n < 20) = true := decide_eq_true q4
      rw [dF_s rfl (by show (U7 x n).size < 20; omega)] at u2
      exact leaf (dsz0_41 x n) (by simp only [AllP, and_true, true_and, rf.1.1, rf.1.2, rf.2.1.1, rf.2.1.2, rf.2.2.1.1, rf.2.2.1.2, rf.2.2.2.1, rf.2.2.2.2, hfe, t3, k0, s1, s2, s3, ca, cl, cm, cd, ch, zz, d0, bne_self_eq_false, beq_self_eq_true, Bool.not_true, Bool.not_false, decide_false, decide_true, Int.le_refl, d1, d2, d3, d4, d5, u2]) rfl hargs (by simp only [SV.toV, u2, SG.none]; rfl) rfl
    have d5 : decide (K7 n < 20) = false := decide_eq_false q4
    rw [dF_f (by show 20 < (U7 x n).size; omega) (Or.inr (by show ¬ (U7 x n).size = 20 + 2; omega))] at u2
    exact leaf (dsz0_42 x n) (by simp only [AllP, and_true, true_and, rf.1.1, rf.1.2, rf.2.1.1, rf.2.1.2, rf.2.2.1.1, rf.2.2.1.2, rf.2.2.2.1, rf.2.2.2.2, hfe, t3, k0, s1, s2, s3, ca, cl, cm, cd, ch, zz, d0, bne_self_eq_false, beq_self_eq_true, Bool.not_true, Bool.not_false, decide_false, decide_true, Int.le_refl, d1, d2, d3, d4, d5, u2]) rfl hargs (by simp only [SV.toV, u2, SG.none]; rfl) rfl
  · have zz : ((enc (fitS x)).1.size : Int) = 22 := by rw [hfs]; rfl
    have d0 : decide ((22 : Int) < 2) = false := by decide
    by_cases q1 : K7 n < 2
    · have d1 : decide (K7 n < 2) = true := decide_eq_true q1
      exact leaf (dsz0_43 x n) (by simp only [AllP, and_true, true_and, rf.1.1, rf.1.2, rf.2.1.1, rf.2.1.2, rf.2.2.1.1, rf.2.2.1.2, rf.2.2.2.1, rf.2.2.2.2, hfe, t3, k0, s1, s2, s3, ca, cl, cm, cd, ch, zz, d0, bne_self_eq_false, beq_self_eq_true, Bool.not_true, Bool.not_false, decide_false, decide_true, Int.le_refl, d1]) rfl hargs (by simp only [SV.toV, zz, beq_self_eq_true]) rfl
    have d1 : decide (K7 n < 2) = false := decide_eq_false q1
    have u1 := nk (by omega)
    have u2 := nd (by omega)
    by_cases q2 : K7 n = 20
    · have d2 : (K7 n == 20) = true := by rw [beq_iff_eq]; exact q2
      have d3 : (K7 n != 20) = false := by rw [bne_eq_false_iff_eq]; exact q2
      rw [dF_o rfl (by show (U7 x n).size = 20; omega)] at u2
      exact leaf (dsz0_44 x n) (by simp only [AllP, and_true, true_and, rf.1.1, rf.1.2, rf.2.1.1, rf.2.1.2, rf.2.2.1.1, rf.2.2.1.2, rf.2.2.2.1, rf.2.2.2.2, hfe, t3, k0, s1, s2, s3, ca, cl, cm, cd, ch, zz, d0, bne_self_eq_false, beq_self_eq_true, Bool.not_true, Bool.not_false, decide_false, decide_true, Int.le_refl, d1, d2, d3, u2]) rfl hargs (by simp only [SV.toV, u2, d3]; rfl) rfl
    have d2 : (K7 n == 20) = false := by rw [beq_eq_false_iff_ne]; exact q2
    have d3 : (K7 n != 20) = true := by rw [bne_iff_ne]; exact q2
    by_cases q3 : K7 n = 22
    · have d4 : (K7 n == 22) = true := by rw [beq_iff_eq]; exact q3
      rw [dF_h rfl (by show (U7 x n).size = 20 + 2; omega)] at u2
      exact leaf (dsz0_45 x n) (by simp only [AllP, and_true, true_and, rf.1.1, rf.1.2, rf.2.1.1, rf.2.1.2, rf.2.2.1.1, rf.2.2.1.2, rf.2.2.2.1, rf.2.2.2.2, hfe, t3, k0, s1, s2, s3, ca, cl, cm, cd, ch, zz, d0, bne_self_eq_false, beq_self_eq_true, Bool.not_true, Bool.not_false, decide_false, decide_true, Int.le_refl, d1, d2, d3, d4, u2]) rfl hargs (by simp only [SV.toV, u2, d3]; rfl) rfl
    have d4 : (K7 n == 22) = false := by rw [beq_eq_false_iff_ne]; exact q3
    by_cases q4 : K7 n < 20
    · have d5 : decide (K7 n < 20) = true := decide_eq_true q4
      rw [dF_s rfl (by show (U7 x n).size < 20; omega)] at u2
      exact leaf (dsz0_46 x n) (by simp only [AllP, and_true, true_and, rf.1.1, rf.1.2, rf.2.1.1, rf.2.1.2, rf.2.2.1.1, rf.2.2.1.2, rf.2.2.2.1, rf.2.2.2.2, hfe, t3, k0, s1, s2, s3, ca, cl, cm, cd, ch, zz, d0, bne_self_eq_false, beq_self_eq_true, Bool.not_true, Bool.not_false, decide_false, decide_true, Int.le_refl, d1, d2, d3, d4, d5, u2]) rfl hargs (by simp only [SV.toV, u2, SG.none]; rfl) rfl
    have d5 : decide (K7 n < 20) = false := decide_eq_false q4
    rw [dF_f (by show 20 < (U7 x n).size; omega) (Or.inr (by show ¬ (U7 x n).size = 20 + 2; omega))] at u2
    exact leaf (dsz0_47 x n) (by simp only [AllP, and_true, true_and, rf.1.1, rf.1.2, rf.2.1.1, rf.2.1.2, rf.2.2.1.1, rf.2.2.1.2, rf.2.2.2.1, rf.2.2.2.2, hfe, t3, k0, s1, s2, s3, ca, cl, cm, cd, ch, zz, d0, bne_self_eq_false, beq_self_eq_true, Bool.not_true, Bool.not_false, decide_false, decide_true, Int.le_refl, d1, d2, d3, d4, d5, u2]) rfl hargs (by simp only [SV.toV, u2, SG.none]; rfl) rfl
  · have zz : ((enc (fitS x)).1.size : Int) = 10 := by rw [hfs]; rfl
    have d0 : decide ((10 : Int) < 2) = false := by decide
    by_cases q1 : K7 n < 2
    · have d1 : decide (K7 n < 2) = true := decide_eq_true q1
      exact leaf (dsz0_4 x n) (by simp only [AllP, and_true, true_and, rf.1.1, rf.1.2, rf.2.1.1, rf.2.1.2, rf.2.2.1.1, rf.2.2.1.2, rf.2.2.2.1, rf.2.2.2.2, hfe, t3, k0, s1, s2, s3, ca, cl, cm, cd, ch, zz, d0, bne_self_eq_false, beq_self_eq_true, Bool.not_true, Bool.not_false, decide_false, decide_true, Int.le_refl, d1]) rfl hargs (by simp only [SV.toV, zz, beq_self_eq_true]) rfl
    have d1 : decide (K7 n < 2) = false := decide_eq_false q1
    have u1 := nk (by omega)
    have u2 := nd (by omega)
    by_cases q2 : K7 n = 10
    · have d2 : (K7 n == 10) = true := by rw [beq_iff_eq]; exact q2
      have d3 : (K7 n != 10) = false := by rw [bne_eq_false_iff_eq]; exact q2
      rw [dF_o rfl (by show (U7 x n).size = 10; omega)] at u2
      exact leaf (dsz0_5 x n) (by simp only [AllP, and_true, true_and, rf.1.1, rf.1.2, rf.2.1.1, rf.2.1.2, rf.2.2.1.1, rf.2.2.1.2, rf.2.2.2.1, rf.2.2.2.2, hfe, t3, k0, s1, s2, s3, ca, cl, cm, cd, ch, zz, d0, bne_self_eq_false, beq_self_eq_true, Bool.not_true, Bool.not_false, decide_false, decide_true, Int.le_refl, d1, d2, d3, u2]) rfl hargs (by simp only [SV.toV, u2, d3]; rfl) rfl
    have d2 : (K7 n == 10) = false := by rw [beq_eq_false_iff_ne]; exact q2
    have d3 : (K7 n != 10) = true := by rw [bne_iff_ne]; exact q2
    by_cases q3 : K7 n = 12
    · have d4 : (K7 n == 12) = true := by rw [beq_iff_eq]; exact q3
      have d5 : decide (K7 n < 10) = false := decide_eq_false (by omega)
      rw [dF_f (by show 10 < (U7 x n).size; omega) (Or.inl rfl)] at u2
      exact leaf (dsz0_69 x n) (by simp only [AllP, and_true, true_and, rf.1.1, rf.1.2, rf.2.1.1, rf.2.1.2, rf.2.2.1.1, rf.2.2.1.2, rf.2.2.2.1, rf.2.2.2.2, hfe, t3, k0, s1, s2, s3, ca, cl, cm, cd, ch, zz, d0, bne_self_eq_false, beq_self_eq_true, Bool.not_true, Bool.not_false, decide_false, decide_true, Int.le_refl, d1, d2, d3, d4, d5, u2]) rfl hargs (by simp only [SV.toV, u2, SG.none]; rfl) rfl
    have d4 : (K7 n == 12) = false := by rw [beq_eq_false_iff_ne]; exact q3
    by_cases q4 : K7 n < 10
    · have d5 : decide (K7 n < 10) = true := decide_eq_true q4
      rw [dF_s rfl (by show (U7 x n).size < 10; omega)] at u2
      exact leaf (dsz0_6 x n) (by simp only [AllP, and_true, true_and, rf.1.1, rf.1.2, rf.2.1.1, rf.2.1.2, rf.2.2.1.1, rf.2.2.1.2, rf.2.2.2.1, rf.2.2.2.2, hfe, t3, k0, s1, s2, s3, ca, cl, cm, cd, ch, zz, d0, bne_self_eq_false, beq_self_eq_true, Bool.not_true, Bool.not_false, decide_false, decide_true, Int.le_refl, d1, d2, d3, d4, d5, u2]) rfl hargs (by simp only [SV.toV, u2, SG.none]; rfl) rfl
    have d5 : decide (K7 n < 10) = false := decide_eq_false q4
    rw [dF_f (by show 10 < (U7 x n).size; omega) (Or.inl rfl)] at u2
    exact leaf (dsz0_7 x n) (by simp only [AllP, and_true, true_and, rf.1.1, rf.1.2, rf.2.1.1, rf.2.1.2, rf.2.2.1.1, rf.2.2.1.2, rf.2.2.2.1, rf.2.2.2.2, hfe, t3, k0, s1, s2, s3, ca, cl, cm, cd, ch, zz, d0, bne_self_eq_false, beq_self_eq_true, Bool.not_true, Bool.not_false, decide_false, decide_true, Int.le_refl, d1, d2, d3, d4, d5, u2]) rfl hargs (by simp only [SV.toV, u2, SG.none]; rfl) rfl
  · exfalso; rw [ca, cm] at m1; rw [ca, cl] at m2; rw [cm, cd, ch] at m4; simp at m1 m2 m4
  · exfalso; rw [ca, cm] at m1; rw [ca, cl] at m2; rw [cm, cd, ch] at m4; simp at m1 m2 m4
  · exfalso; rw [ca, cm] at m1; rw [ca, cl] at m2; rw [cm, cd, ch] at m4; simp at m1 m2 m4
  · have zz : ((enc (fitS x)).1.size : Int) = 20 := by rw [hfs]; rfl
    have d0 : decide ((20 : Int) < 2) = false := by decide
    by_cases q1 : K7 n < 2
    · have d1 : decide (K7 n < 2) = true := decide_eq_true q1
      exact leaf (dsz0_48 x n) (by simp only [AllP, and_true, true_and, rf.1.1, rf.1.2, rf.2.1.1, rf.2.1.2, rf.2.2.1.1, rf.2.2.1.2, rf.2.2.2.1, rf.2.2.2.2, hfe, t3, k0, s1, s2, s3, ca, cl, cm, cd, ch, zz, d0, bne_self_eq_false, beq_self_eq_true, Bool.not_true, Bool.not_false, decide_false, decide_true, Int.le_refl, d1]) rfl hargs (by simp only [SV.toV, zz, beq_self_eq_true]) rfl
    have d1 : decide (K7 n < 2) = false := decide_eq_false q1
    have u1 := nk (by omega)
    have u2 := nd (by omega)
    by_cases q2 : K7 n = 20
    · have d2 : (K7 n == 20) = true := by rw [beq_iff_eq]; exact q2
      have d3 : (K7 n != 20) = false := by rw [bne_eq_false_iff_eq]; exact q2
      rw [dF_o rfl (by show (U7 x n).size = 20; omega)] at u2
      exact leaf (dsz0_49 x n) (by simp only [AllP, and_true, true_and, rf.1.1, rf.1.2, rf.2.1.1, rf.2.1.2, rf.2.2.1.1, rf.2.2.1.2, rf.2.2.2.1, rf.2.2.2.2, hfe, t3, k0, s1, s2, s3, ca, cl, cm, cd, ch, zz, d0, bne_self_eq_false, beq_self_eq_true, Bool.not_true, Bool.not_false, decide_false, decide_true, Int.le_refl, d1, d2, d3, u2]) rfl hargs (by simp only [SV.toV, u2, d3]; rfl) rfl
    have d2 : (K7 n == 20) = false := by rw [beq_eq_false_iff_ne]; exact q2
    have d3 : (K7 n != 20) = true := by rw [bne_iff_ne]; exact q2
    by_cases q3 : K7 n = 22
    · have d4 : (K7 n == 22) = true := by rw [beq_iff_eq]; exact q3
      rw [dF_h rfl (by show (U7 x n).size = 20 + 2; omega)] at u2
      exact leaf (dsz0_50 x n) (by simp only [AllP, and_true, true_and, rf.1.1, rf.1.2, rf.2.1.1, rf.2.1.2, rf.2.2.1.1, rf.2.2.1.2, rf.2.2.2.1, rf.2.2.2.2, hfe, t3, k0, s1, s2, s3, ca, cl, cm, cd, ch, zz, d0, bne_self_eq_false, beq_self_eq_true, Bool.not_true, Bool.not_false, decide_false, decide_true, Int.le_refl, d1, d2, d3, d4, u2]) rfl hargs (by simp only [SV.toV, u2, d3]; rfl) rfl
    have d4 : (K7 n == 22) = false := by rw [beq_eq_false_iff_ne]; exact q3
    by_cases q4 : K7 n < 20
    · have d5 : decide (K7 n < 20) = true := decide_eq_true q4
      rw [dF_s rfl (by show (U7 x n).size < 20; omega)] at u2
      exact leaf (dsz0_51 x n) (by simp only [AllP, and_true, true_and, rf.1.1, rf.1.2, rf.2.1.1, rf.2.1.2, rf.2.2.1.1, rf.2.2.1.2, rf.2.2.2.1, rf.2.2.2.2, hfe, t3, k0, s1, s2, s3, ca, cl, cm, cd, ch, zz, d0, bne_self_eq_false, beq_self_eq_true, Bool.not_true, Bool.not_false, decide_false, decide_true, Int.le_refl, d1, d2, d3, d4, d5, u2]) rfl hargs (by simp only [SV.toV, u2, SG.none]; rfl) rfl
    have d5 : decide (K7 n < 20) = false := decide_eq_false q4
    rw [dF_f (by show 20 < (U7 x n).size; omega) (Or.inr (by show ¬ (U7 x n).size = 20 + 2; omega))] at u2
    exact leaf (dsz0_52 x n) (by simp only [AllP, and_true, true_and, rf.1.1, rf.1.2, rf.2.1.1, rf.2.1.2, rf.2.2.1.1, rf.2.2.1.2, rf.2.2.2.1, rf.2.2.2.2, hfe, t3, k0, s1, s2, s3, ca, cl, cm, cd, ch, zz, d0, bne_self_eq_false, beq_self_eq_true, Bool.not_true, Bool.not_false, decide_false, decide_true, Int.le_refl, d1, d2, d3, d4, d5, u2]) rfl hargs (by simp only [SV.toV, u2, SG.none]; rfl) rfl
  · have zz : ((enc (fitS x)).1.size : Int) = 22 := by rw [hfs]; rfl
    have d0 : decide ((22 : Int) < 2) = false := by decide
    by_cases q1 : K7 n < 2
    · have d1 : decide (K7 n < 2) = true := decide_eq_true q1
      exact leaf (dsz0_53 x n) (by simp only [AllP, and_true, true_and, rf.1.1, rf.1.2, rf.2.1.1, rf.2.1.2, rf.2.2.1.1, rf.2.2.1.2, rf.2.2.2.1, rf.2.2.2.2, hfe, t3, k0, s1, s2, s3, ca, cl, cm, cd, ch, zz, d0, bne_self_eq_false, beq_self_eq_true, Bool.not_true, Bool.not_false, decide_false, decide_true, Int.le_refl, d1]) rfl hargs (by simp only [SV.toV, zz, beq_self_eq_true]) rfl
    have d1 : decide (K7 n < 2) = false := decide_eq_false q1
    have u1 := nk (by omega)
    have u2 := nd (by omega)
    by_cases q2 : K7 n = 20
    · have d2 : (K7 n == 20) = true := by rw [beq_iff_eq]; exact q2
      have d3 : (K7 n != 20) = false := by rw [bne_eq_false_iff_eq]; exact q2
      rw [dF_o rfl (by show (U7 x n).size = 20; omega)] at u2
      exact leaf (dsz0_54 x n) (by simp only [AllP, and_true, true_and, rf.1.1, rf.1.2, rf.2.1.1, rf.2.1.2, rf.2.2.1.1, rf.2.2.1.2, rf.2.2.2.1, rf.2.2.2.2, hfe, t3, k0, s1, s2, s3, ca, cl, cm, cd, ch, zz, d0, bne_self_eq_false, beq_self_eq_true, Bool.not_true, Bool.not_false, decide_false, decide_true, Int.le_refl, d1, d2, d3, u2]) rfl hargs (by simp only [SV.toV, u2, d3]; rfl) rfl
    have d2 : (K7 n == 20) = false := by rw [beq_eq_false_iff_ne]; exact q2
    have d3 : (K7 n != 20) = true := by rw [bne_iff_ne]; exact q2
    by_cases q3 : K7 n = 22
    · have d4 : (K7 n == 22) = true := by rw [beq_iff_eq]; exact q3
      rw [dF_h rfl (by show (U7 x n).size = 20 + 2; omega)] at u2
      exact leaf (dsz0_55 x n) (by simp only [AllP, and_true, true_and, rf.1.1, rf.1.2, rf.2.1.1, rf.2.1.2, rf.2.2.1.1, rf.2.2.1.2, rf.2.2.2.1, rf.2.2.2.2, hfe, t3, k0, s1, s2, s3, ca, cl, cm, cd, ch, zz, d0, bne_self_eq_false, beq_self_eq_true, Bool.not_true, Bool.not_false, decide_false, decide_true, Int.le_refl, d1, d2, d3, d4, u2]) rfl hargs (by simp only [SV.toV, u2, d3]; rfl) rfl
    have d4 : (K7 n == 22) = false := by rw [beq_eq_false_iff_ne]; exact q3
    by_cases q4 : K7 n < 20
    · have d5 : decide (K7 n < 20) = true := decide_eq_true q4
      rw [dF_s rfl (by show (U7 x n).size < 20; omega)] at u2
      exact leaf (dsz0_56 x n) (by simp only [AllP, and_true, true_and, rf.1.1, rf.1.2, rf.2.1.1, rf.2.1.2, rf.2.2.1.1, rf.2.2.1.2, rf.2.2.2.1, rf.2.2.2.2, hfe, t3, k0, s1, s2, s3, ca, cl, cm, cd, ch, zz, d0, bne_self_eq_false, beq_self_eq_true, Bool.not_true, Bool.not_false, decide_false, decide_true, Int.le_refl, d1, d2, d3, d4, d5, u2]) rfl hargs (by simp only [SV.toV, u2, SG.none]; rfl) rfl
    have d5 : decide (K7 n < 20) = false := decide_eq_false q4
    rw [dF_f (by show 20 < (U7 x n).size; omega) (Or.inr (by show ¬ (U7 x n).size = 20 + 2; omega))] at u2
    exact leaf (dsz0_57 x n) (by simp only [AllP, and_true, true_and, rf.1.1, rf.1.2, rf.2.1.1, rf.2.1.2, rf.2.2.1.1, rf.2.2.1.2, rf.2.2.2.1, rf.2.2.2.2, hfe, t3, k0, s1, s2, s3, ca, cl, cm, cd, ch, zz, d0, bne_self_eq_false, beq_self_eq_true, Bool.not_true, Bool.not_false, decide_false, decide_true, Int.le_refl, d1, d2, d3, d4, d5, u2]) rfl hargs (by simp only [SV.toV, u2, SG.none]; rfl) rfl
  · have zz : ((enc (fitS x)).1.size : Int) = 24 := by rw [hfs]; rfl
    have d0 : decide ((24 : Int) < 2) = false := by decide
    by_cases q1 : K7 n < 2
    · have d1 : decide (K7 n < 2) = true := decide_eq_true q1
      exact leaf (dsz0_58 x n) (by simp only [AllP, and_true, true_and, rf.1.1, rf.1.2, rf.2.1.1, rf.2.1.2, rf.2.2.1.1, rf.2.2.1.2, rf.2.2.2.1, rf.2.2.2.2, hfe, t3, k0, s1, s2, s3, ca, cl, cm, cd, ch, zz, d0, bne_self_eq_false, beq_self_eq_true, Bool.not_true, Bool.not_false, decide_false, decide_true, Int.le_refl, d1]) rfl hargs (by simp only [SV.toV, zz, beq_self_eq_true]) rfl
    have d1 : decide (K7 n < 2) = false := decide_eq_false q1
    have u1 := nk (by omega)
    have u2 := nd (by omega)
    by_cases q2 : K7 n = 24
    · have d2 : (K7 n == 24) = true := by rw [beq_iff_eq]; exact q2
      have d3 : (K7 n != 24) = false := by rw [bne_eq_false_iff_eq]; exact q2
      rw [dF_o rfl (by show (U7 x n).size = 24; omega)] at u2
      exact leaf (dsz0_59 x n) (by simp only [AllP, and_true, true_and, rf.1.1, rf.1.2, rf.2.1.1, rf.2.1.2, rf.2.2.1.1, rf.2.2.1.2, rf.2.2.2.1, rf.2.2.2.2, hfe, t3, k0, s1, s2, s3, ca, cl, cm, cd, ch, zz, d0, bne_self_eq_false, beq_self_eq_true, Bool.not_true, Bool.not_false, decide_false, decide_true, Int.le_refl, d1, d2, d3, u2]) rfl hargs (by simp only [SV.toV, u2, d3]; rfl) rfl
    have d2 : (K7 n == 24) = false := by rw [beq_eq_false_iff_ne]; exact q2
    have d3 : (K7 n != 24) = true := by rw [bne_iff_ne]; exact q2
    by_cases q3 : K7 n = 26
    · have d4 : (K7 n == 26) = true := by rw [beq_iff_eq]; exact q3
      rw [dF_h rfl (by show (U7 x n).size = 24 + 2; omega)] at u2
      exact leaf (dsz0_60 x n) (by simp only [AllP, and_true, true_and, rf.1.1, rf.1.2, rf.2.1.1, rf.2.1.2, rf.2.2.1.1, rf.2.2.1.2, rf.2.2.2.1, rf.2.2.2.2, hfe, t3, k0, s1, s2, s3, ca, cl, cm, cd, ch, zz, d0, bne_self_eq_false, beq_self_eq_true, Bool.not_true, Bool.not_false, decide_false, decide_true, Int.le_refl, d1, d2, d3, d4, u2]) rfl hargs (by simp only [SV.toV, u2, d3]; rfl) rfl
    have d4 : (K7 n == 26) = false := by rw [beq_eq_false_iff_ne]; exact q3
    by_cases q4 : K7 n < 24
    · have d5 : decide (K7 n < 24) = true := decide_eq_true q4
      rw [dF_s rfl (by show (U7 x n).size < 24; omega)] at u2
      exact leaf (dsz0_61 x n) (by simp only [AllP, and_true, true_and, rf.1.1, rf.1.2, rf.2.1.1, rf.2.1.2, rf.2.2.1.1, rf.2.2.1.2, rf.2.2.2.1, rf.2.2.2.2, hfe, t3, k0, s1, s2, s3, ca, cl, cm, cd, ch, zz, d0, bne_self_eq_false, beq_self_eq_true, Bool.not_true, Bool.not_false, decide_false, decide_true, Int.le_refl, d1, d2, d3, d4, d5, u2]) rfl hargs (by simp only [SV.toV, u2, SG.none]; rfl) rfl
    have d5 : decide (K7 n < 24) = false := decide_eq_false q4
    rw [dF_f (by show 24 < (U7 x n).size; omega) (Or.inr (by show ¬ (U7 x n).size = 24 + 2; omega))] at u2
    exact leaf (dsz0_62 x n) (by simp only [AllP, and_true, true_and, rf.1.1, rf.1.2, rf.2.1.1, rf.2.1.2, rf.2.2.1.1, rf.2.2.1.2, rf.2.2.2.1, rf.2.2.2.2, hfe, t3, k0, s1, s2, s3, ca, cl, cm, cd, ch, zz, d0, bne_self_eq_false, beq_self_eq_true, Bool.not_true, Bool.not_false, decide_false, decide_true, Int.le_refl, d1, d2, d3, d4, d5, u2]) rfl hargs (by simp only [SV.toV, u2, SG.none]; rfl) rfl
  · have zz : ((enc (fitS x)).1.size : Int) = 26 := by rw [hfs]; rfl
    have d0 : decide ((26 : Int) < 2) = false := by decide
    by_cases q1 : K7 n < 2
    · have d1 : decide (K7 n < 2) = true := decide_eq_true q1
      exact leaf (dsz0_63 x n) (by simp only [AllP, and_true, true_and, rf.1.1, rf.1.2, rf.2.1.1, rf.2.1.2, rf.2.2.1.1, rf.2.2.1.2, rf.2.2.2.1, rf.2.2.2.2, hfe, t3, k0, s1, s2, s3, ca, cl, cm, cd, ch, zz, d0, bne_self_eq_false, beq_self_eq_true, Bool.not_true, Bool.not_false, decide_false, decide_true, Int.le_refl, d1]) rfl hargs (by simp only [SV.toV, zz, beq_self_eq_true]) rfl
    have d1 : decide (K7 n < 2) = false := decide_eq_false q1
    have u1 := nk (by omega)
    have u2 := nd (by omega)
    by_cases q2 : K7 n = 24
    · have d2 : (K7 n == 24) = true := by rw [beq_iff_eq]; exact q2
      have d3 : (K7 n != 24) = false := by rw [bne_eq_false_iff_eq]; exact q2
      rw [dF_o rfl (by show (U7 x n).size = 24; omega)] at u2
      exact leaf (dsz0_64 x n) (by simp only [AllP, and_true, true_and, rf.1.1, rf.1.2, rf.2.1.1, rf.2.1.2, rf.2.2.1.1, rf.2.2.1.2, rf.2.2.2.1, rf.2.2.2.2, hfe, t3, k0, s1, s2, s3, ca, cl, cm, cd, ch, zz, d0, bne_self_eq_false, beq_self_eq_true, Bool.not_true, Bool.not_false, decide_false, decide_true, Int.le_refl, d1, d2, d3, u2]) rfl hargs (by simp only [SV.toV, u2, d3]; rfl) rfl
    have d2 : (K7 n == 24) = false := by rw [beq_eq_false_iff_ne]; exact q2
    have d3 : (K7 n != 24) = true := by rw [bne_iff_ne]; exact q2
    by_cases q3 : K7 n = 26
    · have d4 : (K7 n == 26) = true := by rw [beq_iff_eq]; exact q3
      rw [dF_h rfl (by show (U7 x n).size = 24 + 2; omega)] at u2
      exact leaf (dsz0_65 x n) (by simp only [AllP, and_true, true_and, rf.1.1, rf.1.2, rf.2.1.1, rf.2.1.2, rf.2.2.1.1, rf.2.2.1.2, rf.2.2.2.1, rf.2.2.2.2, hfe, t3, k0, s1, s2, s3, ca, cl, cm, cd, ch, zz, d0, bne_self_eq_false, beq_self_eq_true, Bool.not_true, Bool.not_false, decide_false, decide_true, Int.le_refl, d1, d2, d3, d4, u2]) rfl hargs (by simp only [SV.toV, u2, d3]; rfl) rfl
    have d4 : (K7 n == 26) = false := by rw [beq_eq_false_iff_ne]; exact q3
    by_cases q4 : K7 n < 24
    · have d5 : decide (K7 n < 24) = true := decide_eq_true q4
      rw [dF_s rfl (by show (U7 x n).size < 24; omega)] at u2
      exact leaf (dsz0_66 x n) (by simp only [AllP, and_true, true_and, rf.1.1, rf.1.2, rf.2.1.1, rf.2.1.2, rf.2.2.1.1, rf.2.2.1.2, rf.2.2.2.1, rf.2.2.2.2, hfe, t3, k0, s1, s2, s3, ca, cl, cm, cd, ch, zz, d0, bne_self_eq_false, beq_self_eq_true, Bool.not_true, Bool.not_false, decide_false, decide_true, Int.le_refl, d1, d2, d3, d4, d5, u2]) rfl hargs (by simp only [SV.toV, u2, SG.none]; rfl) rfl
    have d5 : decide (K7 n < 24) = false := decide_eq_false q4
    rw [dF_f (by show 24 < (U7 x n).size; omega) (Or.inr (by show ¬ (U7 x n).size = 24 + 2; omega))] at u2
    exact leaf (dsz0_67 x n) (by simp only [AllP, and_true, true_and, rf.1.1, rf.1.2, rf.2.1.1, rf.2.1.2, rf.2.2.1.1, rf.2.2.1.2, rf.2.2.2.1, rf.2.2.2.2, hfe, t3, k0, s1, s2, s3, ca, cl, cm, cd, ch, zz, d0, bne_self_eq_false, beq_self_eq_true, Bool.not_true, Bool.not_false, decide_false, decide_true, Int.le_refl, d1, d2, d3, d4, d5, u2]) rfl hargs (by simp only [SV.toV, u2, SG.none]; rfl) rfl
end Go.Proofs.Ytpbcjeigiklanaa
