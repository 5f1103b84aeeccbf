/-
  Walks of functions, reckoned through, and what they give (part W11u). No condition beyond what each says. By an AI agent.
-/
import Derived.Test.YtpbcjeigiklanaaW11t
namespace Go.Proofs.Ytpbcjeigiklanaa
open Go.Ex
open Go.RowKit (Below)
set_option linter.unusedVariables false
set_option linter.unusedSimpArgs false

set_option maxHeartbeats 4000000 in
theorem walk0 (x : SG) (hr : Rng x) (raw : ByteArray) (hz : raw.size ≤ 140737488355328) (w : World) : Calls Try.prog 5 #[x.v, .string raw] w (fun e w' => e = .returned (.bool true) ∧ Below w.heap.size w w') := by
  have hargs : Rs [] [x.sv, .val (.string raw)] [x.v, .string raw] := Rs.cons (by exact ⟨_, rfl, by simp [Rs, R]⟩) (Rs.cons (by simp only [R]) Rs.nil)
  have ra := hr.1
  have rd := hr.2.1
  have rs := hr.2.2.1
  have rm := hr.2.2.2
  have rf := fit_rng x hr
  have fm := fit_may x hr
  obtain ⟨hfd, hfe, hfs⟩ := back (fitS x) fm rf
  have f28 := size28 (fitS x)
  have hT := T2_size raw
  have s1 : raw.size ≤ 9223372036854775807 := by omega
  have s2 : 1 + raw.size ≤ 9223372036854775807 := by omega
  have s3 : (T2 raw).size ≤ 9223372036854775807 := by omega
  have s4 : (enc (fitS x)).1.size ≤ 9223372036854775807 := by omega
  have s5 : ¬ ((enc (fitS x)).1.size : Int) > 28 := by omega
  by_cases hxe : (enc x).2 = 0
  · obtain ⟨hxd, _, hxs⟩ := back x (enc_may x hxe) hr
    have g28 := size28 x
    have x28 : ¬ ((enc x).1.size : Int) > 28 := by omega
    have x29 : (enc x).1.size ≤ 9223372036854775807 := by omega
    by_cases hp : (dec raw).2 = 0
    · have hq : ¬ (dec (T2 raw)).2 = 0 := fun e => by
        obtain ⟨_, _, _, _, _, _, _, p1⟩ := raw_facts raw hp
        obtain ⟨_, _, _, _, _, _, _, p2⟩ := raw_facts (T2 raw) e
        omega
      have qn := dec_none (T2 raw) hq
      obtain ⟨pr, pe, pz, p2, p0, p1, px, po⟩ := raw_facts (raw) hp
      have pt1 : (0 : Int) < ((raw).size : Int) := by omega
      have pt2 : (1 : Int) < ((raw).size : Int) := by omega
      have pt3 : (2 : Int) ≤ ((raw).size : Int) := by omega
      have pt4 : ¬ ((raw).size : Int) < 2 := by omega
      have pu := pr.2.2.1.1
      exact leaf (dback_0 x raw) (by simp only [AllP, and_true, true_and, ra.1, ra.2, rd.1, rd.2, rs.1, rs.2, rm.1, rm.2, rf.1.1, rf.1.2, rf.2.1.1, rf.2.1.2, rf.2.2.1.1, rf.2.2.1.2, rf.2.2.2.1, rf.2.2.2.2, hfd, hfe, s1, s2, s3, s4, s5, bne_self_eq_false, beq_self_eq_true, Bool.and_self, Bool.and_true, Bool.true_and, Bool.false_eq_true, Bool.true_eq_false, if_false, if_true, Bool.not_true, Bool.not_false, bne_iff_ne, ne_eq, decide_eq_false_iff_not, not_false_eq_true, not_true_eq_false, decide_false, decide_true, ba_toList_beq, hxd, hxe, x28, x29, hp, hq, qn, SG.none, pr.1.1, pr.1.2, pr.2.1.1, pr.2.1.2, pr.2.2.1.1, pr.2.2.1.2, pr.2.2.2.1, pr.2.2.2.2, pe, p0, p1, px, pz, pt1, pt2, pt3, pt4, show (0 : Int) ≤ 1 by decide, show (0 : Int) ≤ 2 by decide, Int.le_refl]) rfl hargs rfl rfl
    have pn := dec_none raw hp
    by_cases hq : (dec (T2 raw)).2 = 0
    · obtain ⟨qr, qe, qz, q2, q0, q1, qx, qo⟩ := raw_facts (T2 raw) hq
      have qt1 : (0 : Int) < ((T2 raw).size : Int) := by omega
      have qt2 : (1 : Int) < ((T2 raw).size : Int) := by omega
      have qt3 : (2 : Int) ≤ ((T2 raw).size : Int) := by omega
      have qt4 : ¬ ((T2 raw).size : Int) < 2 := by omega
      have qu := qr.2.2.1.1
      exact leaf (dback_2 x raw) (by simp only [AllP, and_true, true_and, ra.1, ra.2, rd.1, rd.2, rs.1, rs.2, rm.1, rm.2, rf.1.1, rf.1.2, rf.2.1.1, rf.2.1.2, rf.2.2.1.1, rf.2.2.1.2, rf.2.2.2.1, rf.2.2.2.2, hfd, hfe, s1, s2, s3, s4, s5, bne_self_eq_false, beq_self_eq_true, Bool.and_self, Bool.and_true, Bool.true_and, Bool.false_eq_true, Bool.true_eq_false, if_false, if_true, Bool.not_true, Bool.not_false, bne_iff_ne, ne_eq, decide_eq_false_iff_not, not_false_eq_true, not_true_eq_false, decide_false, decide_true, ba_toList_beq, hxd, hxe, x28, x29, hp, hq, pn, SG.none, qr.1.1, qr.1.2, qr.2.1.1, qr.2.1.2, qr.2.2.1.1, qr.2.2.1.2, qr.2.2.2.1, qr.2.2.2.2, qe, q0, q1, qx, qz, qt1, qt2, qt3, qt4, show (0 : Int) ≤ 1 by decide, show (0 : Int) ≤ 2 by decide, Int.le_refl]) rfl hargs rfl rfl
    have qn := dec_none (T2 raw) hq
    exact leaf (dback_1 x raw) (by simp only [AllP, and_true, true_and, ra.1, ra.2, rd.1, rd.2, rs.1, rs.2, rm.1, rm.2, rf.1.1, rf.1.2, rf.2.1.1, rf.2.1.2, rf.2.2.1.1, rf.2.2.1.2, rf.2.2.2.1, rf.2.2.2.2, hfd, hfe, s1, s2, s3, s4, s5, bne_self_eq_false, beq_self_eq_true, Bool.and_self, Bool.and_true, Bool.true_and, Bool.false_eq_true, Bool.true_eq_false, if_false, if_true, Bool.not_true, Bool.not_false, bne_iff_ne, ne_eq, decide_eq_false_iff_not, not_false_eq_true, not_true_eq_false, decide_false, decide_true, ba_toList_beq, hxd, hxe, x28, x29, hp, hq, pn, qn, SG.none]) rfl hargs rfl rfl
  · have hxm := enc_not x hxe
    by_cases hp : (dec raw).2 = 0
    · have hq : ¬ (dec (T2 raw)).2 = 0 := fun e => by
        obtain ⟨_, _, _, _, _, _, _, p1⟩ := raw_facts raw hp
        obtain ⟨_, _, _, _, _, _, _, p2⟩ := raw_facts (T2 raw) e
        omega
      have qn := dec_none (T2 raw) hq
      obtain ⟨pr, pe, pz, p2, p0, p1, px, po⟩ := raw_facts (raw) hp
      have pt1 : (0 : Int) < ((raw).size : Int) := by omega
      have pt2 : (1 : Int) < ((raw).size : Int) := by omega
      have pt3 : (2 : Int) ≤ ((raw).size : Int) := by omega
      have pt4 : ¬ ((raw).size : Int) < 2 := by omega
      have pu := pr.2.2.1.1
      exact leaf (dback_3 x raw) (by simp only [AllP, and_true, true_and, ra.1, ra.2, rd.1, rd.2, rs.1, rs.2, rm.1, rm.2, rf.1.1, rf.1.2, rf.2.1.1, rf.2.1.2, rf.2.2.1.1, rf.2.2.1.2, rf.2.2.2.1, rf.2.2.2.2, hfd, hfe, s1, s2, s3, s4, s5, bne_self_eq_false, beq_self_eq_true, Bool.and_self, Bool.and_true, Bool.true_and, Bool.false_eq_true, Bool.true_eq_false, if_false, if_true, Bool.not_true, Bool.not_false, bne_iff_ne, ne_eq, decide_eq_false_iff_not, not_false_eq_true, not_true_eq_false, decide_false, decide_true, ba_toList_beq, hxm, hxe, ba_none, decide_true, hp, hq, qn, SG.none, pr.1.1, pr.1.2, pr.2.1.1, pr.2.1.2, pr.2.2.1.1, pr.2.2.1.2, pr.2.2.2.1, pr.2.2.2.2, pe, p0, p1, px, pz, pt1, pt2, pt3, pt4, show (0 : Int) ≤ 1 by decide, show (0 : Int) ≤ 2 by decide, Int.le_refl]) rfl hargs rfl rfl
    have pn := dec_none raw hp
    by_cases hq : (dec (T2 raw)).2 = 0
    · obtain ⟨qr, qe, qz, q2, q0, q1, qx, qo⟩ := raw_facts (T2 raw) hq
      have qt1 : (0 : Int) < ((T2 raw).size : Int) := by omega
      have qt2 : (1 : Int) < ((T2 raw).size : Int) := by omega
      have qt3 : (2 : Int) ≤ ((T2 raw).size : Int) := by omega
      have qt4 : ¬ ((T2 raw).size : Int) < 2 := by omega
      have qu := qr.2.2.1.1
      exact leaf (dback_5 x raw) (by simp only [AllP, and_true, true_and, ra.1, ra.2, rd.1, rd.2, rs.1, rs.2, rm.1, rm.2, rf.1.1, rf.1.2, rf.2.1.1, rf.2.1.2, rf.2.2.1.1, rf.2.2.1.2, rf.2.2.2.1, rf.2.2.2.2, hfd, hfe, s1, s2, s3, s4, s5, bne_self_eq_false, beq_self_eq_true, Bool.and_self, Bool.and_true, Bool.true_and, Bool.false_eq_true, Bool.true_eq_false, if_false, if_true, Bool.not_true, Bool.not_false, bne_iff_ne, ne_eq, decide_eq_false_iff_not, not_false_eq_true, not_true_eq_false, decide_false, decide_true, ba_toList_beq, hxm, hxe, ba_none, decide_true, hp, hq, pn, SG.none, qr.1.1, qr.1.2, qr.2.1.1, qr.2.1.2, qr.2.2.1.1, qr.2.2.1.2, qr.2.2.2.1, qr.2.2.2.2, qe, q0, q1, qx, qz, qt1, qt2, qt3, qt4, show (0 : Int) ≤ 1 by decide, show (0 : Int) ≤ 2 by decide, Int.le_refl]) rfl hargs rfl rfl
    have qn := dec_none (T2 raw) hq
    exact leaf (dback_4 x raw) (by simp only [AllP, and_true, true_and, ra.1, ra.2, rd.1, rd.2, rs.1, rs.2, rm.1, rm.2, rf.1.1, rf.1.2, rf.2.1.1, rf.2.1.2, rf.2.2.1.1, rf.2.2.1.2, rf.2.2.2.1, rf.2.2.2.2, hfd, hfe, s1, s2, s3, s4, s5, bne_self_eq_false, beq_self_eq_true, Bool.and_self, Bool.and_true, Bool.true_and, Bool.false_eq_true, Bool.true_eq_false, if_false, if_true, Bool.not_true, Bool.not_false, bne_iff_ne, ne_eq, decide_eq_false_iff_not, not_false_eq_true, not_true_eq_false, decide_false, decide_true, ba_toList_beq, hxm, hxe, ba_none, decide_true, hp, hq, pn, qn, SG.none]) rfl hargs rfl rfl
end Go.Proofs.Ytpbcjeigiklanaa
