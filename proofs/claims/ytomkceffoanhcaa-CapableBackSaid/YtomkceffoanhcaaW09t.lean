/-
  Walks of functions, reckoned through, and what they give (part W09t). No condition beyond what each says. By an AI agent.
-/
import Derived.Test.YtomkceffoanhcaaW09q
import Derived.Test.YtomkceffoanhcaaW09r
namespace Go.Proofs.Ytomkceffoanhcaa
open Go.Ex
open Go.RowKit (Below)
set_option linter.unusedVariables false
set_option linter.unusedSimpArgs false


theorem raw_facts (raw : ByteArray) (h : (dec raw).2 = 0) :
    ((0 ≤ (dec raw).1.own ∧ (dec raw).1.own < 18446744073709551616) ∧ (0 ≤ (dec raw).1.peer ∧ (dec raw).1.peer < 18446744073709551616) ∧ 0 ≤ (dec raw).1.sm ∧ (dec raw).1.sm < 65536) ∧ (enc (dec raw).1).2 = 0 ∧
    (enc (dec raw).1).1.size = raw.size ∧ 2 ≤ raw.size ∧ byteAt (enc (dec raw).1).1 0 = byteAt raw 0 ∧
    byteAt (enc (dec raw).1).1 1 = IntKind.u8.wrap ((BitVec.ofInt 8 (byteAt raw 1) &&& BitVec.ofInt 8 161).toNat : Int) ∧
    (enc (dec raw).1).1.extract 2 ((enc (dec raw).1).1.size : Int).toNat = raw.extract 2 (raw.size : Int).toNat := by
  obtain ⟨hm, hr, he, h2, h22, hodd, l, hl, hx, hn⟩ := again raw h
  have hz : (enc (dec raw).1).1.size = raw.size := by rw [hl, size_mk]; simp; omega
  have hb := (bAt raw 1).toNat_lt
  refine ⟨hr, he, hz, h2, ?_, ?_, ?_⟩
  · rw [show ((0 : Int)) = ((0 : Nat) : Int) from rfl, byteAt_eq _ 0 (by omega), byteAt_eq _ 0 (by omega), hl]; rfl
  · rw [show ((1 : Int)) = ((1 : Nat) : Int) from rfl, byteAt_eq _ 1 (by omega), byteAt_eq _ 1 (by omega), show (BitVec.ofInt 8 (161 : Int)) = BitVec.ofInt 8 ((161 : Nat) : Int) from rfl, andN _ 161 (by decide), wu8, ← flag_and _ hodd, hl]
    have := (flag (decide (128 ≤ (bAt raw 1).toNat)) (decide ((bAt raw 1).toNat / 32 % 2 = 1))).toNat_lt
    show (((flag (decide (128 ≤ (bAt raw 1).toNat)) (decide ((bAt raw 1).toNat / 32 % 2 = 1))).toNat : Nat) : Int) = _
    omega
  · rw [hz, Int.toNat_natCast, hx, hl, ba_extract, ← hn]
    congr 2
    simp


set_option maxHeartbeats 16000000 in
theorem walk0 (x : CV) (hr : Rng x) (raw : ByteArray) (w : World) : Calls Try.prog 5 #[x.v, .string raw] w (fun e w' => e = .returned (.bool true) ∧ Below w.heap.size w w') := by
  have hargs : Rs [] [x.sv, .val (.string raw)] [x.v, .string raw] := Rs.cons (by exact ⟨_, rfl, by simp [Rs, R]⟩) (Rs.cons (by simp only [R]) Rs.nil)
  have zz : (0 : Int) < 18446744073709551616 := by decide
  have zs : (0 : Int) < 65536 := by decide
  have hro : 0 ≤ x.own := hr.1.1
  have hro2 : x.own < 18446744073709551616 := hr.1.2
  have hrp : 0 ≤ x.peer := hr.2.1.1
  have hrp2 : x.peer < 18446744073709551616 := hr.2.1.2
  have hrm : 0 ≤ x.sm := hr.2.2.1
  have hrm2 : x.sm < 65536 := hr.2.2.2
  have gF := fF_range x
  have gV := fV_range x
  have gL := fL_range x
  have rx : (x.fo == x.fo && (x.ver == x.ver && (x.sums == x.sums && (x.alone == x.alone && (x.own == x.own && (x.peer == x.peer && (x.ln == x.ln && (x.sm == x.sm && true)))))))) = true := (cv_beq x x).2 rfl

  by_cases c1 : fF x < 1
  · have c2 : fF x < 2 := by omega
    have c3 : fF x < 3 := by omega
    have c4 : fF x < 4 := by omega
    have hmay : may (fit0 x) := ⟨gF.1, gF.2, gV.1, gV.2, (Int.le_refl 0), zs, (Or.inr rfl), (Or.inr rfl), (Or.inr rfl), (Or.inr rfl)⟩
    have hrng : Rng (fit0 x) := ⟨⟨Int.le_refl 0, zz⟩, ⟨Int.le_refl 0, zz⟩, ⟨Int.le_refl 0, zs⟩⟩
    obtain ⟨hfd, hfe, _, _⟩ := back (fit0 x) hmay hrng
    have hq0 : (fit0 x).fo = fF x := rfl
    have hq1 : (fit0 x).ver = fV x := rfl
    have hq2 : (fit0 x).sums = x.sums := rfl
    have hq3 : (fit0 x).alone = x.alone := rfl
    have hq4 : (fit0 x).own = (0 : Int) := rfl
    have hq5 : (fit0 x).peer = (0 : Int) := rfl
    have hq6 : (fit0 x).ln = (0 : Int) := rfl
    have hq7 : (fit0 x).sm = (0 : Int) := rfl
    by_cases hxe : (enc x).2 = 0
    · obtain ⟨hxd, _, _, _⟩ := back x (enc_may x hxe) hr
      by_cases hraw : (dec raw).2 = 0
      · obtain ⟨⟨⟨g1a, g1b⟩, ⟨g1c, g1d⟩, g1e, g1f⟩, g2, g3, g4, g5, g6, g7⟩ := raw_facts raw hraw
        have t1 : ¬ ((raw.size : Int) < 2) := by omega
        have t2 : (0 : Int) < (raw.size : Int) := by omega
        have t3 : (1 : Int) < (raw.size : Int) := by omega
        have t4 : (2 : Int) ≤ (raw.size : Int) := by omega
        have t5 : (0 : Int) ≤ 1 := by decide
        have t6 : (0 : Int) ≤ 2 := by decide
        refine leaf (cback_1 x raw) (by simp only [AllP, and_true, true_and, c1, c2, c3, c4, decide_true, decide_false, decide_eq_true_eq, decide_eq_false_iff_not, not_false_eq_true, not_true_eq_false, hro, hro2, hrp, hrp2, hrm, hrm2, zz, zs, Int.le_refl, hfe, hfd, hq0, hq1, hq2, hq3, hq4, hq5, hq6, hq7, Bool.and_true, Bool.true_and, Bool.and_self, bne_self_eq_false, beq_self_eq_true, Bool.false_eq_true, if_false, Bool.not_true, Bool.not_false, bne_iff_ne, ne_eq, bne_eq_false_iff_eq, hxe, hxd, rx, hraw, g1a, g1b, g1c, g1d, g1e, g1f, g2, g3, g5, g6, t1, t2, t3, t4, t5, t6]) rfl hargs (by simp only [SV.toV, g7, beq_self_eq_true]) rfl
      · refine leaf (cback_0 x raw) (by simp only [AllP, and_true, true_and, c1, c2, c3, c4, decide_true, decide_false, decide_eq_true_eq, decide_eq_false_iff_not, not_false_eq_true, not_true_eq_false, hro, hro2, hrp, hrp2, hrm, hrm2, zz, zs, Int.le_refl, hfe, hfd, hq0, hq1, hq2, hq3, hq4, hq5, hq6, hq7, Bool.and_true, Bool.true_and, Bool.and_self, bne_self_eq_false, beq_self_eq_true, Bool.false_eq_true, if_false, Bool.not_true, Bool.not_false, bne_iff_ne, ne_eq, bne_eq_false_iff_eq, hxe, hxd, rx, hraw]) rfl hargs (by simp only [SV.toV, dec_none raw hraw, if_true]; rfl) rfl
    · have hxm := enc_not x hxe
      by_cases hraw : (dec raw).2 = 0
      · obtain ⟨⟨⟨g1a, g1b⟩, ⟨g1c, g1d⟩, g1e, g1f⟩, g2, g3, g4, g5, g6, g7⟩ := raw_facts raw hraw
        have t1 : ¬ ((raw.size : Int) < 2) := by omega
        have t2 : (0 : Int) < (raw.size : Int) := by omega
        have t3 : (1 : Int) < (raw.size : Int) := by omega
        have t4 : (2 : Int) ≤ (raw.size : Int) := by omega
        have t5 : (0 : Int) ≤ 1 := by decide
        have t6 : (0 : Int) ≤ 2 := by decide
        refine leaf (cback_3 x raw) (by simp only [AllP, and_true, true_and, c1, c2, c3, c4, decide_true, decide_false, decide_eq_true_eq, decide_eq_false_iff_not, not_false_eq_true, not_true_eq_false, hro, hro2, hrp, hrp2, hrm, hrm2, zz, zs, Int.le_refl, hfe, hfd, hq0, hq1, hq2, hq3, hq4, hq5, hq6, hq7, Bool.and_true, Bool.true_and, Bool.and_self, bne_self_eq_false, beq_self_eq_true, Bool.false_eq_true, if_false, Bool.not_true, Bool.not_false, bne_iff_ne, ne_eq, bne_eq_false_iff_eq, hxe, hxm, ba_toList_beq, decide_true, hraw, g1a, g1b, g1c, g1d, g1e, g1f, g2, g3, g5, g6, t1, t2, t3, t4, t5, t6]) rfl hargs (by simp only [SV.toV, g7, beq_self_eq_true]) rfl
      · refine leaf (cback_2 x raw) (by simp only [AllP, and_true, true_and, c1, c2, c3, c4, decide_true, decide_false, decide_eq_true_eq, decide_eq_false_iff_not, not_false_eq_true, not_true_eq_false, hro, hro2, hrp, hrp2, hrm, hrm2, zz, zs, Int.le_refl, hfe, hfd, hq0, hq1, hq2, hq3, hq4, hq5, hq6, hq7, Bool.and_true, Bool.true_and, Bool.and_self, bne_self_eq_false, beq_self_eq_true, Bool.false_eq_true, if_false, Bool.not_true, Bool.not_false, bne_iff_ne, ne_eq, bne_eq_false_iff_eq, hxe, hxm, ba_toList_beq, decide_true, hraw]) rfl hargs (by simp only [SV.toV, dec_none raw hraw, if_true]; rfl) rfl
  by_cases c2 : fF x < 2
  · have c3 : fF x < 3 := by omega
    have c4 : fF x < 4 := by omega
    have hmay : may (fit1 x) := ⟨gF.1, gF.2, gV.1, gV.2, (Int.le_refl 0), zs, (Or.inl (by show fF x ≥ 1; omega)), (Or.inr rfl), (Or.inr rfl), (Or.inr rfl)⟩
    have hrng : Rng (fit1 x) := ⟨hr.1, ⟨Int.le_refl 0, zz⟩, ⟨Int.le_refl 0, zs⟩⟩
    obtain ⟨hfd, hfe, _, _⟩ := back (fit1 x) hmay hrng
    have hq0 : (fit1 x).fo = fF x := rfl
    have hq1 : (fit1 x).ver = fV x := rfl
    have hq2 : (fit1 x).sums = x.sums := rfl
    have hq3 : (fit1 x).alone = x.alone := rfl
    have hq4 : (fit1 x).own = x.own := rfl
    have hq5 : (fit1 x).peer = (0 : Int) := rfl
    have hq6 : (fit1 x).ln = (0 : Int) := rfl
    have hq7 : (fit1 x).sm = (0 : Int) := rfl
    by_cases hxe : (enc x).2 = 0
    · obtain ⟨hxd, _, _, _⟩ := back x (enc_may x hxe) hr
      by_cases hraw : (dec raw).2 = 0
      · obtain ⟨⟨⟨g1a, g1b⟩, ⟨g1c, g1d⟩, g1e, g1f⟩, g2, g3, g4, g5, g6, g7⟩ := raw_facts raw hraw
        have t1 : ¬ ((raw.size : Int) < 2) := by omega
        have t2 : (0 : Int) < (raw.size : Int) := by omega
        have t3 : (1 : Int) < (raw.size : Int) := by omega
        have t4 : (2 : Int) ≤ (raw.size : Int) := by omega
        have t5 : (0 : Int) ≤ 1 := by decide
        have t6 : (0 : Int) ≤ 2 := by decide
        refine leaf (cback_5 x raw) (by simp only [AllP, and_true, true_and, c1, c2, c3, c4, decide_true, decide_false, decide_eq_true_eq, decide_eq_false_iff_not, not_false_eq_true, not_true_eq_false, hro, hro2, hrp, hrp2, hrm, hrm2, zz, zs, Int.le_refl, hfe, hfd, hq0, hq1, hq2, hq3, hq4, hq5, hq6, hq7, Bool.and_true, Bool.true_and, Bool.and_self, bne_self_eq_false, beq_self_eq_true, Bool.false_eq_true, if_false, Bool.not_true, Bool.not_false, bne_iff_ne, ne_eq, bne_eq_false_iff_eq, hxe, hxd, rx, hraw, g1a, g1b, g1c, g1d, g1e, g1f, g2, g3, g5, g6, t1, t2, t3, t4, t5, t6]) rfl hargs (by simp only [SV.toV, g7, beq_self_eq_true]) rfl
      · refine leaf (cback_4 x raw) (by simp only [AllP, and_true, true_and, c1, c2, c3, c4, decide_true, decide_false, decide_eq_true_eq, decide_eq_false_iff_not, not_false_eq_true, not_true_eq_false, hro, hro2, hrp, hrp2, hrm, hrm2, zz, zs, Int.le_refl, hfe, hfd, hq0, hq1, hq2, hq3, hq4, hq5, hq6, hq7, Bool.and_true, Bool.true_and, Bool.and_self, bne_self_eq_false, beq_self_eq_true, Bool.false_eq_true, if_false, Bool.not_true, Bool.not_false, bne_iff_ne, ne_eq, bne_eq_false_iff_eq, hxe, hxd, rx, hraw]) rfl hargs (by simp only [SV.toV, dec_none raw hraw, if_true]; rfl) rfl
    · have hxm := enc_not x hxe
      by_cases hraw : (dec raw).2 = 0
      · obtain ⟨⟨⟨g1a, g1b⟩, ⟨g1c, g1d⟩, g1e, g1f⟩, g2, g3, g4, g5, g6, g7⟩ := raw_facts raw hraw
        have t1 : ¬ ((raw.size : Int) < 2) := by omega
        have t2 : (0 : Int) < (raw.size : Int) := by omega
        have t3 : (1 : Int) < (raw.size : Int) := by omega
        have t4 : (2 : Int) ≤ (raw.size : Int) := by omega
        have t5 : (0 : Int) ≤ 1 := by decide
        have t6 : (0 : Int) ≤ 2 := by decide
        refine leaf (cback_7 x raw) (by simp only [AllP, and_true, true_and, c1, c2, c3, c4, decide_true, decide_false, decide_eq_true_eq, decide_eq_false_iff_not, not_false_eq_true, not_true_eq_false, hro, hro2, hrp, hrp2, hrm, hrm2, zz, zs, Int.le_refl, hfe, hfd, hq0, hq1, hq2, hq3, hq4, hq5, hq6, hq7, Bool.and_true, Bool.true_and, Bool.and_self, bne_self_eq_false, beq_self_eq_true, Bool.false_eq_true, if_false, Bool.not_true, Bool.not_false, bne_iff_ne, ne_eq, bne_eq_false_iff_eq, hxe, hxm, ba_toList_beq, decide_true, hraw, g1a, g1b, g1c, g1d, g1e, g1f, g2, g3, g5, g6, t1, t2, t3, t4, t5, t6]) rfl hargs (by simp only [SV.toV, g7, beq_self_eq_true]) rfl
      · refine leaf (cback_6 x raw) (by simp only [AllP, and_true, true_and, c1, c2, c3, c4, decide_true, decide_false, decide_eq_true_eq, decide_eq_false_iff_not, not_false_eq_true, not_true_eq_false, hro, hro2, hrp, hrp2, hrm, hrm2, zz, zs, Int.le_refl, hfe, hfd, hq0, hq1, hq2, hq3, hq4, hq5, hq6, hq7, Bool.and_true, Bool.true_and, Bool.and_self, bne_self_eq_false, beq_self_eq_true, Bool.false_eq_true, if_false, Bool.not_true, Bool.not_false, bne_iff_ne, ne_eq, bne_eq_false_iff_eq, hxe, hxm, ba_toList_beq, decide_true, hraw]) rfl hargs (by simp only [SV.toV, dec_none raw hraw, if_true]; rfl) rfl
  by_cases c3 : fF x < 3
  · have c4 : fF x < 4 := by omega
    have hmay : may (fit2 x) := ⟨gF.1, gF.2, gV.1, gV.2, (Int.le_refl 0), zs, (Or.inl (by show fF x ≥ 1; omega)), (Or.inl (by show fF x ≥ 2; omega)), (Or.inr rfl), (Or.inr rfl)⟩
    have hrng : Rng (fit2 x) := ⟨hr.1, hr.2.1, ⟨Int.le_refl 0, zs⟩⟩
    obtain ⟨hfd, hfe, _, _⟩ := back (fit2 x) hmay hrng
    have hq0 : (fit2 x).fo = fF x := rfl
    have hq1 : (fit2 x).ver = fV x := rfl
    have hq2 : (fit2 x).sums = x.sums := rfl
    have hq3 : (fit2 x).alone = x.alone := rfl
    have hq4 : (fit2 x).own = x.own := rfl
    have hq5 : (fit2 x).peer = x.peer := rfl
    have hq6 : (fit2 x).ln = (0 : Int) := rfl
    have hq7 : (fit2 x).sm = (0 : Int) := rfl
    by_cases hxe : (enc x).2 = 0
    · obtain ⟨hxd, _, _, _⟩ := back x (enc_may x hxe) hr
      by_cases hraw : (dec raw).2 = 0
      · obtain ⟨⟨⟨g1a, g1b⟩, ⟨g1c, g1d⟩, g1e, g1f⟩, g2, g3, g4, g5, g6, g7⟩ := raw_facts raw hraw
        have t1 : ¬ ((raw.size : Int) < 2) := by omega
        have t2 : (0 : Int) < (raw.size : Int) := by omega
        have t3 : (1 : Int) < (raw.size : Int) := by omega
        have t4 : (2 : Int) ≤ (raw.size : Int) := by omega
        have t5 : (0 : Int) ≤ 1 := by decide
        have t6 : (0 : Int) ≤ 2 := by decide
        refine leaf (cback_9 x raw) (by simp only [AllP, and_true, true_and, c1, c2, c3, c4, decide_true, decide_false, decide_eq_true_eq, decide_eq_false_iff_not, not_false_eq_true, not_true_eq_false, hro, hro2, hrp, hrp2, hrm, hrm2, zz, zs, Int.le_refl, hfe, hfd, hq0, hq1, hq2, hq3, hq4, hq5, hq6, hq7, Bool.and_true, Bool.true_and, Bool.and_self, bne_self_eq_false, beq_self_eq_true, Bool.false_eq_true, if_false, Bool.not_true, Bool.not_false, bne_iff_ne, ne_eq, bne_eq_false_iff_eq, hxe, hxd, rx, hraw, g1a, g1b, g1c, g1d, g1e, g1f, g2, g3, g5, g6, t1, t2, t3, t4, t5, t6]) rfl hargs (by simp only [SV.toV, g7, beq_self_eq_true]) rfl
      · refine leaf (cback_8 x raw) (by simp only [AllP, and_true, true_and, c1, c2, c3, c4, decide_true, decide_false, decide_eq_true_eq, decide_eq_false_iff_not, not_false_eq_true, not_true_eq_false, hro, hro2, hrp, hrp2, hrm, hrm2, zz, zs, Int.le_refl, hfe, hfd, hq0, hq1, hq2, hq3, hq4, hq5, hq6, hq7, Bool.and_true, Bool.true_and, Bool.and_self, bne_self_eq_false, beq_self_eq_true, Bool.false_eq_true, if_false, Bool.not_true, Bool.not_false, bne_iff_ne, ne_eq, bne_eq_false_iff_eq, hxe, hxd, rx, hraw]) rfl hargs (by simp only [SV.toV, dec_none raw hraw, if_true]; rfl) rfl
    · have hxm := enc_not x hxe
      by_cases hraw : (dec raw).2 = 0
      · obtain ⟨⟨⟨g1a, g1b⟩, ⟨g1c, g1d⟩, g1e, g1f⟩, g2, g3, g4, g5, g6, g7⟩ := raw_facts raw hraw
        have t1 : ¬ ((raw.size : Int) < 2) := by omega
        have t2 : (0 : Int) < (raw.size : Int) := by omega
        have t3 : (1 : Int) < (raw.size : Int) := by omega
        have t4 : (2 : Int) ≤ (raw.size : Int) := by omega
        have t5 : (0 : Int) ≤ 1 := by decide
        have t6 : (0 : Int) ≤ 2 := by decide
        refine leaf (cback_11 x raw) (by simp only [AllP, and_true, true_and, c1, c2, c3, c4, decide_true, decide_false, decide_eq_true_eq, decide_eq_false_iff_not, not_false_eq_true, not_true_eq_false, hro, hro2, hrp, hrp2, hrm, hrm2, zz, zs, Int.le_refl, hfe, hfd, hq0, hq1, hq2, hq3, hq4, hq5, hq6, hq7, Bool.and_true, Bool.true_and, Bool.and_self, bne_self_eq_false, beq_self_eq_true, Bool.false_eq_true, if_false, Bool.not_true, Bool.not_false, bne_iff_ne, ne_eq, bne_eq_false_iff_eq, hxe, hxm, ba_toList_beq, decide_true, hraw, g1a, g1b, g1c, g1d, g1e, g1f, g2, g3, g5, g6, t1, t2, t3, t4, t5, t6]) rfl hargs (by simp only [SV.toV, g7, beq_self_eq_true]) rfl
      · refine leaf (cback_10 x raw) (by simp only [AllP, and_true, true_and, c1, c2, c3, c4, decide_true, decide_false, decide_eq_true_eq, decide_eq_false_iff_not, not_false_eq_true, not_true_eq_false, hro, hro2, hrp, hrp2, hrm, hrm2, zz, zs, Int.le_refl, hfe, hfd, hq0, hq1, hq2, hq3, hq4, hq5, hq6, hq7, Bool.and_true, Bool.true_and, Bool.and_self, bne_self_eq_false, beq_self_eq_true, Bool.false_eq_true, if_false, Bool.not_true, Bool.not_false, bne_iff_ne, ne_eq, bne_eq_false_iff_eq, hxe, hxm, ba_toList_beq, decide_true, hraw]) rfl hargs (by simp only [SV.toV, dec_none raw hraw, if_true]; rfl) rfl
  by_cases c4 : fF x < 4
  · have hmay : may (fit3 x) := ⟨gF.1, gF.2, gV.1, gV.2, gL.1, gL.2, (Or.inl (by show fF x ≥ 1; omega)), (Or.inl (by show fF x ≥ 2; omega)), (Or.inl (by show fF x ≥ 3; omega)), (Or.inr rfl)⟩
    have hrng : Rng (fit3 x) := ⟨hr.1, hr.2.1, ⟨Int.le_refl 0, zs⟩⟩
    obtain ⟨hfd, hfe, _, _⟩ := back (fit3 x) hmay hrng
    have hq0 : (fit3 x).fo = fF x := rfl
    have hq1 : (fit3 x).ver = fV x := rfl
    have hq2 : (fit3 x).sums = x.sums := rfl
    have hq3 : (fit3 x).alone = x.alone := rfl
    have hq4 : (fit3 x).own = x.own := rfl
    have hq5 : (fit3 x).peer = x.peer := rfl
    have hq6 : (fit3 x).ln = fL x := rfl
    have hq7 : (fit3 x).sm = (0 : Int) := rfl
    by_cases hxe : (enc x).2 = 0
    · obtain ⟨hxd, _, _, _⟩ := back x (enc_may x hxe) hr
      by_cases hraw : (dec raw).2 = 0
      · obtain ⟨⟨⟨g1a, g1b⟩, ⟨g1c, g1d⟩, g1e, g1f⟩, g2, g3, g4, g5, g6, g7⟩ := raw_facts raw hraw
        have t1 : ¬ ((raw.size : Int) < 2) := by omega
        have t2 : (0 : Int) < (raw.size : Int) := by omega
        have t3 : (1 : Int) < (raw.size : Int) := by omega
        have t4 : (2 : Int) ≤ (raw.size : Int) := by omega
        have t5 : (0 : Int) ≤ 1 := by decide
        have t6 : (0 : Int) ≤ 2 := by decide
        refine leaf (cback_13 x raw) (by simp only [AllP, and_true, true_and, c1, c2, c3, c4, decide_true, decide_false, decide_eq_true_eq, decide_eq_false_iff_not, not_false_eq_true, not_true_eq_false, hro, hro2, hrp, hrp2, hrm, hrm2, zz, zs, Int.le_refl, hfe, hfd, hq0, hq1, hq2, hq3, hq4, hq5, hq6, hq7, Bool.and_true, Bool.true_and, Bool.and_self, bne_self_eq_false, beq_self_eq_true, Bool.false_eq_true, if_false, Bool.not_true, Bool.not_false, bne_iff_ne, ne_eq, bne_eq_false_iff_eq, hxe, hxd, rx, hraw, g1a, g1b, g1c, g1d, g1e, g1f, g2, g3, g5, g6, t1, t2, t3, t4, t5, t6]) rfl hargs (by simp only [SV.toV, g7, beq_self_eq_true]) rfl
      · refine leaf (cback_12 x raw) (by simp only [AllP, and_true, true_and, c1, c2, c3, c4, decide_true, decide_false, decide_eq_true_eq, decide_eq_false_iff_not, not_false_eq_true, not_true_eq_false, hro, hro2, hrp, hrp2, hrm, hrm2, zz, zs, Int.le_refl, hfe, hfd, hq0, hq1, hq2, hq3, hq4, hq5, hq6, hq7, Bool.and_true, Bool.true_and, Bool.and_self, bne_self_eq_false, beq_self_eq_true, Bool.false_eq_true, if_false, Bool.not_true, Bool.not_false, bne_iff_ne, ne_eq, bne_eq_false_iff_eq, hxe, hxd, rx, hraw]) rfl hargs (by simp only [SV.toV, dec_none raw hraw, if_true]; rfl) rfl
    · have hxm := enc_not x hxe
      by_cases hraw : (dec raw).2 = 0
      · obtain ⟨⟨⟨g1a, g1b⟩, ⟨g1c, g1d⟩, g1e, g1f⟩, g2, g3, g4, g5, g6, g7⟩ := raw_facts raw hraw
        have t1 : ¬ ((raw.size : Int) < 2) := by omega
        have t2 : (0 : Int) < (raw.size : Int) := by omega
        have t3 : (1 : Int) < (raw.size : Int) := by omega
        have t4 : (2 : Int) ≤ (raw.size : Int) := by omega
        have t5 : (0 : Int) ≤ 1 := by decide
        have t6 : (0 : Int) ≤ 2 := by decide
        refine leaf (cback_15 x raw) (by simp only [AllP, and_true, true_and, c1, c2, c3, c4, decide_true, decide_false, decide_eq_true_eq, decide_eq_false_iff_not, not_false_eq_true, not_true_eq_false, hro, hro2, hrp, hrp2, hrm, hrm2, zz, zs, Int.le_refl, hfe, hfd, hq0, hq1, hq2, hq3, hq4, hq5, hq6, hq7, Bool.and_true, Bool.true_and, Bool.and_self, bne_self_eq_false, beq_self_eq_true, Bool.false_eq_true, if_false, Bool.not_true, Bool.not_false, bne_iff_ne, ne_eq, bne_eq_false_iff_eq, hxe, hxm, ba_toList_beq, decide_true, hraw, g1a, g1b, g1c, g1d, g1e, g1f, g2, g3, g5, g6, t1, t2, t3, t4, t5, t6]) rfl hargs (by simp only [SV.toV, g7, beq_self_eq_true]) rfl
      · refine leaf (cback_14 x raw) (by simp only [AllP, and_true, true_and, c1, c2, c3, c4, decide_true, decide_false, decide_eq_true_eq, decide_eq_false_iff_not, not_false_eq_true, not_true_eq_false, hro, hro2, hrp, hrp2, hrm, hrm2, zz, zs, Int.le_refl, hfe, hfd, hq0, hq1, hq2, hq3, hq4, hq5, hq6, hq7, Bool.and_true, Bool.true_and, Bool.and_self, bne_self_eq_false, beq_self_eq_true, Bool.false_eq_true, if_false, Bool.not_true, Bool.not_false, bne_iff_ne, ne_eq, bne_eq_false_iff_eq, hxe, hxm, ba_toList_beq, decide_true, hraw]) rfl hargs (by simp only [SV.toV, dec_none raw hraw, if_true]; rfl) rfl
  have hmay : may (fit4 x) := ⟨gF.1, gF.2, gV.1, gV.2, gL.1, gL.2, (Or.inl (by show fF x ≥ 1; omega)), (Or.inl (by show fF x ≥ 2; omega)), (Or.inl (by show fF x ≥ 3; omega)), (Or.inl (by show fF x ≥ 4; omega))⟩
  have hrng : Rng (fit4 x) := ⟨hr.1, hr.2.1, hr.2.2⟩
  obtain ⟨hfd, hfe, _, _⟩ := back (fit4 x) hmay hrng
  have hq0 : (fit4 x).fo = fF x := rfl
  have hq1 : (fit4 x).ver = fV x := rfl
  have hq2 : (fit4 x).sums = x.sums := rfl
  have hq3 : (fit4 x).alone = x.alone := rfl
  have hq4 : (fit4 x).own = x.own := rfl
  have hq5 : (fit4 x).peer = x.peer := rfl
  have hq6 : (fit4 x).ln = fL x := rfl
  have hq7 : (fit4 x).sm = x.sm := rfl
  by_cases hxe : (enc x).2 = 0
  · obtain ⟨hxd, _, _, _⟩ := back x (enc_may x hxe) hr
    by_cases hraw : (dec raw).2 = 0
    · obtain ⟨⟨⟨g1a, g1b⟩, ⟨g1c, g1d⟩, g1e, g1f⟩, g2, g3, g4, g5, g6, g7⟩ := raw_facts raw hraw
      have t1 : ¬ ((raw.size : Int) < 2) := by omega
      have t2 : (0 : Int) < (raw.size : Int) := by omega
      have t3 : (1 : Int) < (raw.size : Int) := by omega
      have t4 : (2 : Int) ≤ (raw.size : Int) := by omega
      have t5 : (0 : Int) ≤ 1 := by decide
      have t6 : (0 : Int) ≤ 2 := by decide
      refine leaf (cback_17 x raw) (by simp only [AllP, and_true, true_and, c1, c2, c3, c4, decide_true, decide_false, decide_eq_true_eq, decide_eq_false_iff_not, not_false_eq_true, not_true_eq_false, hro, hro2, hrp, hrp2, hrm, hrm2, zz, zs, Int.le_refl, hfe, hfd, hq0, hq1, hq2, hq3, hq4, hq5, hq6, hq7, Bool.and_true, Bool.true_and, Bool.and_self, bne_self_eq_false, beq_self_eq_true, Bool.false_eq_true, if_false, Bool.not_true, Bool.not_false, bne_iff_ne, ne_eq, bne_eq_false_iff_eq, hxe, hxd, rx, hraw, g1a, g1b, g1c, g1d, g1e, g1f, g2, g3, g5, g6, t1, t2, t3, t4, t5, t6]) rfl hargs (by simp only [SV.toV, g7, beq_self_eq_true]) rfl
    · refine leaf (cback_16 x raw) (by simp only [AllP, and_true, true_and, c1, c2, c3, c4, decide_true, decide_false, decide_eq_true_eq, decide_eq_false_iff_not, not_false_eq_true, not_true_eq_false, hro, hro2, hrp, hrp2, hrm, hrm2, zz, zs, Int.le_refl, hfe, hfd, hq0, hq1, hq2, hq3, hq4, hq5, hq6, hq7, Bool.and_true, Bool.true_and, Bool.and_self, bne_self_eq_false, beq_self_eq_true, Bool.false_eq_true, if_false, Bool.not_true, Bool.not_false, bne_iff_ne, ne_eq, bne_eq_false_iff_eq, hxe, hxd, rx, hraw]) rfl hargs (by simp only [SV.toV, dec_none raw hraw, if_true]; rfl) rfl
  · have hxm := enc_not x hxe
    by_cases hraw : (dec raw).2 = 0
    · obtain ⟨⟨⟨g1a, g1b⟩, ⟨g1c, g1d⟩, g1e, g1f⟩, g2, g3, g4, g5, g6, g7⟩ := raw_facts raw hraw
      have t1 : ¬ ((raw.size : Int) < 2) := by omega
      have t2 : (0 : Int) < (raw.size : Int) := by omega
      have t3 : (1 : Int) < (raw.size : Int) := by omega
      have t4 : (2 : Int) ≤ (raw.size : Int) := by omega
      have t5 : (0 : Int) ≤ 1 := by decide
      have t6 : (0 : Int) ≤ 2 := by decide
      refine leaf (cback_19 x raw) (by simp only [AllP, and_true, true_and, c1, c2, c3, c4, decide_true, decide_false, decide_eq_true_eq, decide_eq_false_iff_not, not_false_eq_true, not_true_eq_false, hro, hro2, hrp, hrp2, hrm, hrm2, zz, zs, Int.le_refl, hfe, hfd, hq0, hq1, hq2, hq3, hq4, hq5, hq6, hq7, Bool.and_true, Bool.true_and, Bool.and_self, bne_self_eq_false, beq_self_eq_true, Bool.false_eq_true, if_false, Bool.not_true, Bool.not_false, bne_iff_ne, ne_eq, bne_eq_false_iff_eq, hxe, hxm, ba_toList_beq, decide_true, hraw, g1a, g1b, g1c, g1d, g1e, g1f, g2, g3, g5, g6, t1, t2, t3, t4, t5, t6]) rfl hargs (by simp only [SV.toV, g7, beq_self_eq_true]) rfl
    · refine leaf (cback_18 x raw) (by simp only [AllP, and_true, true_and, c1, c2, c3, c4, decide_true, decide_false, decide_eq_true_eq, decide_eq_false_iff_not, not_false_eq_true, not_true_eq_false, hro, hro2, hrp, hrp2, hrm, hrm2, zz, zs, Int.le_refl, hfe, hfd, hq0, hq1, hq2, hq3, hq4, hq5, hq6, hq7, Bool.and_true, Bool.true_and, Bool.and_self, bne_self_eq_false, beq_self_eq_true, Bool.false_eq_true, if_false, Bool.not_true, Bool.not_false, bne_iff_ne, ne_eq, bne_eq_false_iff_eq, hxe, hxm, ba_toList_beq, decide_true, hraw]) rfl hargs (by simp only [SV.toV, dec_none raw hraw, if_true]; rfl) rfl
end Go.Proofs.Ytomkceffoanhcaa
