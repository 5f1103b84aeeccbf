/-
  Walks of functions, reckoned through, and what they give (part W13q3). No condition beyond what each says. By an AI agent.
-/
import Derived.Test.YthmndlkhmihdhaaW13p3
namespace Go.Proofs.Ythmndlkhmihdhaa
open Go.Ex
open Go.RowKit (Below)
set_option linter.unusedVariables false
set_option linter.unusedSimpArgs false
set_option maxHeartbeats 4000000 in
theorem walkO3 (c r0 r1 r2 r3 r4 r5 r6 r7 r8 n : Int) (s : ByteArray) (hc : 0 ≤ c ∧ c < 256) (hk : c % 64 / 16 = 3) (hn : 0 ≤ n ∧ n < 256) (hs : s.size ≤ 140737488355328) (w : World) :
    Calls Try.prog 6 #[.int .u8 c, .agg #[.int .u8 r0, .int .u8 r1, .int .u8 r2, .int .u8 r3, .int .u8 r4, .int .u8 r5, .int .u8 r6, .int .u8 r7, .int .u8 r8], .int .u8 n, .string s] w (fun e w' => e = .returned (.bool true) ∧ Below w.heap.size w w') := by
  have hF := F0_val hc
  have hFk : (F0 c).toNat / 16 = 8 := by omega
  have k1 : (IntKind.i64.wrap n).tmod 11 = n % 11 := by
    rw [tm _ _ (by rw [wi64]; omega), wi64]; omega
  have k2 : (0 : Int) ≤ n % 11 := by omega
  have k9 : (0 : Int) ≤ 1 := by decide
  have k3 : n % 11 ≤ (([F0 c, UInt8.ofNat r0.toNat, UInt8.ofNat r1.toNat, UInt8.ofNat r2.toNat, UInt8.ofNat r3.toNat, UInt8.ofNat r4.toNat, UInt8.ofNat r5.toNat, UInt8.ofNat r6.toNat, UInt8.ofNat r7.toNat, UInt8.ofNat r8.toNat] : List UInt8).length : Int) := by show n % 11 ≤ 10; omega
  have z1 : (T1 c).size = 1 := rfl
  have z2 : (T2 c r0).size = 2 := rfl
  have z9 : (T9 c r0 r1 r2 r3 r4 r5 r6 r7 r8).size = 10 := rfl
  have a1 : bAt (T1 c) 0 = F0 c := rfl
  have a2 : bAt (T2 c r0) 0 = F0 c := rfl
  have a9 : bAt (T9 c r0 r1 r2 r3 r4 r5 r6 r7 r8) 0 = F0 c := rfl
  have l1 : (T1 c).size ≤ 4611686018427387904 := by omega
  have l2 : (T2 c r0).size ≤ 4611686018427387904 := by omega
  have l9 : (T9 c r0 r1 r2 r3 r4 r5 r6 r7 r8).size ≤ 4611686018427387904 := by omega
  have hX1 : (C11 c r0 r1 r2 r3 r4 r5 r6 r7 r8 n).size = (n % 11).toNat := by
    unfold C11
    rw [ByteArray.size_extract, k1]; omega
  have hX0 : 0 < n % 11 → bAt (C11 c r0 r1 r2 r3 r4 r5 r6 r7 r8 n) 0 = F0 c := by
    intro h
    unfold C11
    rw [k1]
    unfold bAt
    rw [ByteArray.data_extract, Array.getElem?_extract]
    have : (T9 c r0 r1 r2 r3 r4 r5 r6 r7 r8).data.size = 10 := rfl
    rw [if_pos (by rw [this]; omega)]
    rfl
  have lX : (C11 c r0 r1 r2 r3 r4 r5 r6 r7 r8 n).size ≤ 4611686018427387904 := by omega
  have lS : s.size ≤ 4611686018427387904 := by omega
  have hargs : Rs [] [.val (.int .u8 c), .agg [.val (.int .u8 r0), .val (.int .u8 r1), .val (.int .u8 r2), .val (.int .u8 r3), .val (.int .u8 r4), .val (.int .u8 r5), .val (.int .u8 r6), .val (.int .u8 r7), .val (.int .u8 r8)], .val (.int .u8 n), .val (.string s)] [.int .u8 c, .agg #[.int .u8 r0, .int .u8 r1, .int .u8 r2, .int .u8 r3, .int .u8 r4, .int .u8 r5, .int .u8 r6, .int .u8 r7, .int .u8 r8], .int .u8 n, .string s] := Rs.cons (by simp only [R]) (Rs.cons (by exact ⟨_, rfl, by simp [Rs, R]⟩) (Rs.cons (by simp only [R]) (Rs.cons (by simp only [R]) Rs.nil)))
  have d0 : (bad (T1 c) 5 1 == 0) = false := bad_ne (by rw [a1]; omega)
  have d1 : (bad (T1 c) 6 10 == 0) = false := bad_ne (by rw [a1]; omega)
  have d2 : (bad (T1 c) 7 10 == 0) = false := bad_ne (by rw [a1]; omega)
  have d3 : (bad (T1 c) 8 2 == 0) = false := bad_ne (by rw [a1]; omega)
  have e0 : (bad (T2 c r0) 5 1 == 0) = false := bad_ne (by rw [a2]; omega)
  have e1 : (bad (T2 c r0) 6 10 == 0) = false := bad_ne (by rw [a2]; omega)
  have e2 : (bad (T2 c r0) 7 10 == 0) = false := bad_ne (by rw [a2]; omega)
  have e3 : (bad (T2 c r0) 8 2 == 0) = true := bad_eq' (by omega) (by rw [a2]; omega) (by decide)
  have f0 : (bad (T9 c r0 r1 r2 r3 r4 r5 r6 r7 r8) 5 1 == 0) = false := bad_ne (by rw [a9]; omega)
  have f1 : (bad (T9 c r0 r1 r2 r3 r4 r5 r6 r7 r8) 6 10 == 0) = false := bad_ne (by rw [a9]; omega)
  have f2 : (bad (T9 c r0 r1 r2 r3 r4 r5 r6 r7 r8) 7 10 == 0) = false := bad_ne (by rw [a9]; omega)
  have f3 : (bad (T9 c r0 r1 r2 r3 r4 r5 r6 r7 r8) 8 2 == 0) = false := bad_ne (by rw [a9]; omega)
  have o1 : (ByteArray.mk #[UInt8.ofNat (↑(F0 c).toNat : Int).toNat]) = T1 c := by
    simp only [Int.toNat_natCast, UInt8.ofNat_toNat]
    rfl
  have o2 : (ByteArray.mk #[UInt8.ofNat (ma 255 (↑(F0 c).toNat : Int)).toNat, UInt8.ofNat (ma 255 (↑(UInt8.ofNat r0.toNat).toNat : Int)).toNat]) = S2 (T2 c r0) 255 255 := by
    (try simp only [Int.toNat_natCast, UInt8.ofNat_toNat])
    rfl
  have o2t : rB (rV (T2 c r0)) (qV (T2 c r0)) = S2 (T2 c r0) 255 255 := okR (by omega) (by rw [a2]; omega)
  have o9 : (ByteArray.mk #[UInt8.ofNat (↑(F0 c).toNat : Int).toNat, UInt8.ofNat (↑(UInt8.ofNat r0.toNat).toNat : Int).toNat, UInt8.ofNat (↑(UInt8.ofNat r1.toNat).toNat : Int).toNat, UInt8.ofNat (↑(UInt8.ofNat r2.toNat).toNat : Int).toNat, UInt8.ofNat (↑(UInt8.ofNat r3.toNat).toNat : Int).toNat, UInt8.ofNat (↑(UInt8.ofNat r4.toNat).toNat : Int).toNat, UInt8.ofNat (↑(UInt8.ofNat r5.toNat).toNat : Int).toNat, UInt8.ofNat (↑(UInt8.ofNat r6.toNat).toNat : Int).toNat, UInt8.ofNat (↑(UInt8.ofNat r7.toNat).toNat : Int).toNat, UInt8.ofNat (↑(UInt8.ofNat r8.toNat).toNat : Int).toNat]) = T9 c r0 r1 r2 r3 r4 r5 r6 r7 r8 := by
    simp only [Int.toNat_natCast, UInt8.ofNat_toNat]
    rfl
  generalize hgX : C11 c r0 r1 r2 r3 r4 r5 r6 r7 r8 n = X at *
  by_cases hA : n % 11 = 2
  · have hX2 := hX0 (by omega)
    rw [← hX2] at hFk hF
    have x0 : (bad X 5 1 == 0) = false := bad_ne (by omega)
    have x1 : (bad X 6 10 == 0) = false := bad_ne (by omega)
    have x2 : (bad X 7 10 == 0) = false := bad_ne (by omega)
    have x3 : (bad X 8 2 == 0) = true := bad_eq' (by omega) (by omega) (by decide)
    have xz : decide ((0 : Int) < (X.size : Int)) = true := decide_eq_true (by omega)
    have xy : (0 : Int) < (X.size : Int) := by omega
    have xx : 0 < X.size := by omega
    have xw : decide ((1 : Int) < (X.size : Int)) = true := decide_eq_true (by omega)
    have xv : (1 : Int) < (X.size : Int) := by omega
    have xu : 1 < X.size := by omega
    have xt : rB (rV X) (qV X) = S2 X 255 255 := okR (by omega) (by omega)
    by_cases h0 : s.size = 1 ∧ (bAt s 0).toNat / 16 = 5
    · have s0 : (bad s 5 1 == 0) = true := bad_eq' (by omega) (by omega) (by decide)
      have s1 : (bad s 6 10 == 0) = false := bad_ne (by omega)
      have s2 : (bad s 7 10 == 0) = false := bad_ne (by omega)
      have s3 : (bad s 8 2 == 0) = false := bad_ne (by omega)
      have sz : decide ((0 : Int) < (s.size : Int)) = true := decide_eq_true (by omega)
      have sy : (0 : Int) < (s.size : Int) := by omega
      have sx : 0 < s.size := by omega
      have sw : decide ((1 : Int) < (s.size : Int)) = false := decide_eq_false (by omega)
      have st : pB (pV s) = S1 s 241 := okP (by omega) (by omega)
      refine leaf (oa3_2 c r0 r1 r2 r3 r4 r5 r6 r7 r8 n s) ?_ rfl hargs rfl rfl
      simp only [AllP, and_true, true_and, beq_self_eq_true, bne_self_eq_false, ba_beq, ba_toList_beq, decide_true, Bool.and_true, Bool.and_self, Bool.not_true, Bool.false_eq_true, if_false, if_true, ne_eq, not_true_eq_false, hgX, k1, k2, k9, k3, l1, l2, l9, lX, lS, ma_lo, ma_hi, S1_size, S2_size, d0, d1, d2, d3, e0, e1, e2, e3, f0, f1, f2, f3, o1, o2, o2t, o9, x0, x1, x2, x3, xz, xy, xx, xw, xv, xu, xt, s0, s1, s2, s3, sz, sy, sx, sw, st, Int.le_refl]
    · skip
      by_cases h1 : s.size = 10 ∧ (bAt s 0).toNat / 16 = 6
      · have s0 : (bad s 5 1 == 0) = false := bad_ne (by omega)
        have s1 : (bad s 6 10 == 0) = true := bad_eq' (by omega) (by omega) (by decide)
        have s2 : (bad s 7 10 == 0) = false := bad_ne (by omega)
        have s3 : (bad s 8 2 == 0) = false := bad_ne (by omega)
        have sz : decide ((0 : Int) < (s.size : Int)) = true := decide_eq_true (by omega)
        have sy : (0 : Int) < (s.size : Int) := by omega
        have sx : 0 < s.size := by omega
        have sw : decide ((1 : Int) < (s.size : Int)) = true := decide_eq_true (by omega)
        have sv : (1 : Int) < (s.size : Int) := by omega
        have su : 1 < s.size := by omega
        have st : nB 6 (nV s 6) = S2 s 240 0 := okN (q := 0) (by omega) (by omega) (mF _ (UInt8.toNat_lt _) (by omega))
        refine leaf (oa3_3 c r0 r1 r2 r3 r4 r5 r6 r7 r8 n s) ?_ rfl hargs rfl rfl
        simp only [AllP, and_true, true_and, beq_self_eq_true, bne_self_eq_false, ba_beq, ba_toList_beq, decide_true, Bool.and_true, Bool.and_self, Bool.not_true, Bool.false_eq_true, if_false, if_true, ne_eq, not_true_eq_false, hgX, k1, k2, k9, k3, l1, l2, l9, lX, lS, ma_lo, ma_hi, S1_size, S2_size, d0, d1, d2, d3, e0, e1, e2, e3, f0, f1, f2, f3, o1, o2, o2t, o9, x0, x1, x2, x3, xz, xy, xx, xw, xv, xu, xt, s0, s1, s2, s3, sz, sy, sx, sw, sv, su, st, Int.le_refl]
      · skip
        by_cases h2 : s.size = 10 ∧ (bAt s 0).toNat / 16 = 7
        · have s0 : (bad s 5 1 == 0) = false := bad_ne (by omega)
          have s1 : (bad s 6 10 == 0) = false := bad_ne (by omega)
          have s2 : (bad s 7 10 == 0) = true := bad_eq' (by omega) (by omega) (by decide)
          have s3 : (bad s 8 2 == 0) = false := bad_ne (by omega)
          have sz : decide ((0 : Int) < (s.size : Int)) = true := decide_eq_true (by omega)
          have sy : (0 : Int) < (s.size : Int) := by omega
          have sx : 0 < s.size := by omega
          have sw : decide ((1 : Int) < (s.size : Int)) = true := decide_eq_true (by omega)
          have sv : (1 : Int) < (s.size : Int) := by omega
          have su : 1 < s.size := by omega
          have st : nB 7 (nV s 7) = S2 s 240 0 := okN (q := 0) (by omega) (by omega) (mK _ (UInt8.toNat_lt _) (by omega))
          refine leaf (oa3_4 c r0 r1 r2 r3 r4 r5 r6 r7 r8 n s) ?_ rfl hargs rfl rfl
          simp only [AllP, and_true, true_and, beq_self_eq_true, bne_self_eq_false, ba_beq, ba_toList_beq, decide_true, Bool.and_true, Bool.and_self, Bool.not_true, Bool.false_eq_true, if_false, if_true, ne_eq, not_true_eq_false, hgX, k1, k2, k9, k3, l1, l2, l9, lX, lS, ma_lo, ma_hi, S1_size, S2_size, d0, d1, d2, d3, e0, e1, e2, e3, f0, f1, f2, f3, o1, o2, o2t, o9, x0, x1, x2, x3, xz, xy, xx, xw, xv, xu, xt, s0, s1, s2, s3, sz, sy, sx, sw, sv, su, st, Int.le_refl]
        · skip
          by_cases h3 : s.size = 2 ∧ (bAt s 0).toNat / 16 = 8
          · have s0 : (bad s 5 1 == 0) = false := bad_ne (by omega)
            have s1 : (bad s 6 10 == 0) = false := bad_ne (by omega)
            have s2 : (bad s 7 10 == 0) = false := bad_ne (by omega)
            have s3 : (bad s 8 2 == 0) = true := bad_eq' (by omega) (by omega) (by decide)
            have sz : decide ((0 : Int) < (s.size : Int)) = true := decide_eq_true (by omega)
            have sy : (0 : Int) < (s.size : Int) := by omega
            have sx : 0 < s.size := by omega
            have sw : decide ((1 : Int) < (s.size : Int)) = true := decide_eq_true (by omega)
            have sv : (1 : Int) < (s.size : Int) := by omega
            have su : 1 < s.size := by omega
            have st : rB (rV s) (qV s) = S2 s 255 255 := okR (by omega) (by omega)
            refine leaf (oa3_5 c r0 r1 r2 r3 r4 r5 r6 r7 r8 n s) ?_ rfl hargs rfl rfl
            simp only [AllP, and_true, true_and, beq_self_eq_true, bne_self_eq_false, ba_beq, ba_toList_beq, decide_true, Bool.and_true, Bool.and_self, Bool.not_true, Bool.false_eq_true, if_false, if_true, ne_eq, not_true_eq_false, hgX, k1, k2, k9, k3, l1, l2, l9, lX, lS, ma_lo, ma_hi, S1_size, S2_size, d0, d1, d2, d3, e0, e1, e2, e3, f0, f1, f2, f3, o1, o2, o2t, o9, x0, x1, x2, x3, xz, xy, xx, xw, xv, xu, xt, s0, s1, s2, s3, sz, sy, sx, sw, sv, su, st, Int.le_refl]
          · skip
            by_cases hE : s.size = 0
            · have s0 : (bad s 5 1 == 0) = false := bad_ne (by omega)
              have s1 : (bad s 6 10 == 0) = false := bad_ne (by omega)
              have s2 : (bad s 7 10 == 0) = false := bad_ne (by omega)
              have s3 : (bad s 8 2 == 0) = false := bad_ne (by omega)
              have sz : decide ((0 : Int) < (s.size : Int)) = false := decide_eq_false (by omega)
              refine leaf (oa3_0 c r0 r1 r2 r3 r4 r5 r6 r7 r8 n s) ?_ rfl hargs rfl rfl
              simp only [AllP, and_true, true_and, beq_self_eq_true, bne_self_eq_false, ba_beq, ba_toList_beq, decide_true, Bool.and_true, Bool.and_self, Bool.not_true, Bool.false_eq_true, if_false, if_true, ne_eq, not_true_eq_false, hgX, k1, k2, k9, k3, l1, l2, l9, lX, lS, ma_lo, ma_hi, S1_size, S2_size, d0, d1, d2, d3, e0, e1, e2, e3, f0, f1, f2, f3, o1, o2, o2t, o9, x0, x1, x2, x3, xz, xy, xx, xw, xv, xu, xt, s0, s1, s2, s3, sz, Int.le_refl]
            · have s0 : (bad s 5 1 == 0) = false := bad_ne (by omega)
              have s1 : (bad s 6 10 == 0) = false := bad_ne (by omega)
              have s2 : (bad s 7 10 == 0) = false := bad_ne (by omega)
              have s3 : (bad s 8 2 == 0) = false := bad_ne (by omega)
              have sz : decide ((0 : Int) < (s.size : Int)) = true := decide_eq_true (by omega)
              refine leaf (oa3_1 c r0 r1 r2 r3 r4 r5 r6 r7 r8 n s) ?_ rfl hargs rfl rfl
              simp only [AllP, and_true, true_and, beq_self_eq_true, bne_self_eq_false, ba_beq, ba_toList_beq, decide_true, Bool.and_true, Bool.and_self, Bool.not_true, Bool.false_eq_true, if_false, if_true, ne_eq, not_true_eq_false, hgX, k1, k2, k9, k3, l1, l2, l9, lX, lS, ma_lo, ma_hi, S1_size, S2_size, d0, d1, d2, d3, e0, e1, e2, e3, f0, f1, f2, f3, o1, o2, o2t, o9, x0, x1, x2, x3, xz, xy, xx, xw, xv, xu, xt, s0, s1, s2, s3, sz, Int.le_refl]
  · by_cases hB : n % 11 = 0
    · have x0 : (bad X 5 1 == 0) = false := bad_ne (by omega)
      have x1 : (bad X 6 10 == 0) = false := bad_ne (by omega)
      have x2 : (bad X 7 10 == 0) = false := bad_ne (by omega)
      have x3 : (bad X 8 2 == 0) = false := bad_ne (by omega)
      have xz : decide ((0 : Int) < (X.size : Int)) = false := decide_eq_false (by omega)
      by_cases h0 : s.size = 1 ∧ (bAt s 0).toNat / 16 = 5
      · have s0 : (bad s 5 1 == 0) = true := bad_eq' (by omega) (by omega) (by decide)
        have s1 : (bad s 6 10 == 0) = false := bad_ne (by omega)
        have s2 : (bad s 7 10 == 0) = false := bad_ne (by omega)
        have s3 : (bad s 8 2 == 0) = false := bad_ne (by omega)
        have sz : decide ((0 : Int) < (s.size : Int)) = true := decide_eq_true (by omega)
        have sy : (0 : Int) < (s.size : Int) := by omega
        have sx : 0 < s.size := by omega
        have sw : decide ((1 : Int) < (s.size : Int)) = false := decide_eq_false (by omega)
        have st : pB (pV s) = S1 s 241 := okP (by omega) (by omega)
        refine leaf (oa3_8 c r0 r1 r2 r3 r4 r5 r6 r7 r8 n s) ?_ rfl hargs rfl rfl
        simp only [AllP, and_true, true_and, beq_self_eq_true, bne_self_eq_false, ba_beq, ba_toList_beq, decide_true, Bool.and_true, Bool.and_self, Bool.not_true, Bool.false_eq_true, if_false, if_true, ne_eq, not_true_eq_false, hgX, k1, k2, k9, k3, l1, l2, l9, lX, lS, ma_lo, ma_hi, S1_size, S2_size, d0, d1, d2, d3, e0, e1, e2, e3, f0, f1, f2, f3, o1, o2, o2t, o9, x0, x1, x2, x3, xz, s0, s1, s2, s3, sz, sy, sx, sw, st, Int.le_refl]
      · skip
        by_cases h1 : s.size = 10 ∧ (bAt s 0).toNat / 16 = 6
        · have s0 : (bad s 5 1 == 0) = false := bad_ne (by omega)
          have s1 : (bad s 6 10 == 0) = true := bad_eq' (by omega) (by omega) (by decide)
          have s2 : (bad s 7 10 == 0) = false := bad_ne (by omega)
          have s3 : (bad s 8 2 == 0) = false := bad_ne (by omega)
          have sz : decide ((0 : Int) < (s.size : Int)) = true := decide_eq_true (by omega)
          have sy : (0 : Int) < (s.size : Int) := by omega
          have sx : 0 < s.size := by omega
          have sw : decide ((1 : Int) < (s.size : Int)) = true := decide_eq_true (by omega)
          have sv : (1 : Int) < (s.size : Int) := by omega
          have su : 1 < s.size := by omega
          have st : nB 6 (nV s 6) = S2 s 240 0 := okN (q := 0) (by omega) (by omega) (mF _ (UInt8.toNat_lt _) (by omega))
          refine leaf (oa3_9 c r0 r1 r2 r3 r4 r5 r6 r7 r8 n s) ?_ rfl hargs rfl rfl
          simp only [AllP, and_true, true_and, beq_self_eq_true, bne_self_eq_false, ba_beq, ba_toList_beq, decide_true, Bool.and_true, Bool.and_self, Bool.not_true, Bool.false_eq_true, if_false, if_true, ne_eq, not_true_eq_false, hgX, k1, k2, k9, k3, l1, l2, l9, lX, lS, ma_lo, ma_hi, S1_size, S2_size, d0, d1, d2, d3, e0, e1, e2, e3, f0, f1, f2, f3, o1, o2, o2t, o9, x0, x1, x2, x3, xz, s0, s1, s2, s3, sz, sy, sx, sw, sv, su, st, Int.le_refl]
        · skip
          by_cases h2 : s.size = 10 ∧ (bAt s 0).toNat / 16 = 7
          · have s0 : (bad s 5 1 == 0) = false := bad_ne (by omega)
            have s1 : (bad s 6 10 == 0) = false := bad_ne (by omega)
            have s2 : (bad s 7 10 == 0) = true := bad_eq' (by omega) (by omega) (by decide)
            have s3 : (bad s 8 2 == 0) = false := bad_ne (by omega)
            have sz : decide ((0 : Int) < (s.size : Int)) = true := decide_eq_true (by omega)
            have sy : (0 : Int) < (s.size : Int) := by omega
            have sx : 0 < s.size := by omega
            have sw : decide ((1 : Int) < (s.size : Int)) = true := decide_eq_true (by omega)
            have sv : (1 : Int) < (s.size : Int) := by omega
            have su : 1 < s.size := by omega
            have st : nB 7 (nV s 7) = S2 s 240 0 := okN (q := 0) (by omega) (by omega) (mK _ (UInt8.toNat_lt _) (by omega))
            refine leaf (oa3_10 c r0 r1 r2 r3 r4 r5 r6 r7 r8 n s) ?_ rfl hargs rfl rfl
            simp only [AllP, and_true, true_and, beq_self_eq_true, bne_self_eq_false, ba_beq, ba_toList_beq, decide_true, Bool.and_true, Bool.and_self, Bool.not_true, Bool.false_eq_true, if_false, if_true, ne_eq, not_true_eq_false, hgX, k1, k2, k9, k3, l1, l2, l9, lX, lS, ma_lo, ma_hi, S1_size, S2_size, d0, d1, d2, d3, e0, e1, e2, e3, f0, f1, f2, f3, o1, o2, o2t, o9, x0, x1, x2, x3, xz, s0, s1, s2, s3, sz, sy, sx, sw, sv, su, st, Int.le_refl]
          · skip
            by_cases h3 : s.size = 2 ∧ (bAt s 0).toNat / 16 = 8
            · have s0 : (bad s 5 1 == 0) = false := bad_ne (by omega)
              have s1 : (bad s 6 10 == 0) = false := bad_ne (by omega)
              have s2 : (bad s 7 10 == 0) = false := bad_ne (by omega)
              have s3 : (bad s 8 2 == 0) = true := bad_eq' (by omega) (by omega) (by decide)
              have sz : decide ((0 : Int) < (s.size : Int)) = true := decide_eq_true (by omega)
              have sy : (0 : Int) < (s.size : Int) := by omega
              have sx : 0 < s.size := by omega
              have sw : decide ((1 : Int) < (s.size : Int)) = true := decide_eq_true (by omega)
              have sv : (1 : Int) < (s.size : Int) := by omega
              have su : 1 < s.size := by omega
              have st : rB (rV s) (qV s) = S2 s 255 255 := okR (by omega) (by omega)
              refine leaf (oa3_11 c r0 r1 r2 r3 r4 r5 r6 r7 r8 n s) ?_ rfl hargs rfl rfl
              simp only [AllP, and_true, true_and, beq_self_eq_true, bne_self_eq_false, ba_beq, ba_toList_beq, decide_true, Bool.and_true, Bool.and_self, Bool.not_true, Bool.false_eq_true, if_false, if_true, ne_eq, not_true_eq_false, hgX, k1, k2, k9, k3, l1, l2, l9, lX, lS, ma_lo, ma_hi, S1_size, S2_size, d0, d1, d2, d3, e0, e1, e2, e3, f0, f1, f2, f3, o1, o2, o2t, o9, x0, x1, x2, x3, xz, s0, s1, s2, s3, sz, sy, sx, sw, sv, su, st, Int.le_refl]
            · skip
              by_cases hE : s.size = 0
              · have s0 : (bad s 5 1 == 0) = false := bad_ne (by omega)
                have s1 : (bad s 6 10 == 0) = false := bad_ne (by omega)
                have s2 : (bad s 7 10 == 0) = false := bad_ne (by omega)
                have s3 : (bad s 8 2 == 0) = false := bad_ne (by omega)
                have sz : decide ((0 : Int) < (s.size : Int)) = false := decide_eq_false (by omega)
                refine leaf (oa3_6 c r0 r1 r2 r3 r4 r5 r6 r7 r8 n s) ?_ rfl hargs rfl rfl
                simp only [AllP, and_true, true_and, beq_self_eq_true, bne_self_eq_false, ba_beq, ba_toList_beq, decide_true, Bool.and_true, Bool.and_self, Bool.not_true, Bool.false_eq_true, if_false, if_true, ne_eq, not_true_eq_false, hgX, k1, k2, k9, k3, l1, l2, l9, lX, lS, ma_lo, ma_hi, S1_size, S2_size, d0, d1, d2, d3, e0, e1, e2, e3, f0, f1, f2, f3, o1, o2, o2t, o9, x0, x1, x2, x3, xz, s0, s1, s2, s3, sz, Int.le_refl]
              · have s0 : (bad s 5 1 == 0) = false := bad_ne (by omega)
                have s1 : (bad s 6 10 == 0) = false := bad_ne (by omega)
                have s2 : (bad s 7 10 == 0) = false := bad_ne (by omega)
                have s3 : (bad s 8 2 == 0) = false := bad_ne (by omega)
                have sz : decide ((0 : Int) < (s.size : Int)) = true := decide_eq_true (by omega)
                refine leaf (oa3_7 c r0 r1 r2 r3 r4 r5 r6 r7 r8 n s) ?_ rfl hargs rfl rfl
                simp only [AllP, and_true, true_and, beq_self_eq_true, bne_self_eq_false, ba_beq, ba_toList_beq, decide_true, Bool.and_true, Bool.and_self, Bool.not_true, Bool.false_eq_true, if_false, if_true, ne_eq, not_true_eq_false, hgX, k1, k2, k9, k3, l1, l2, l9, lX, lS, ma_lo, ma_hi, S1_size, S2_size, d0, d1, d2, d3, e0, e1, e2, e3, f0, f1, f2, f3, o1, o2, o2t, o9, x0, x1, x2, x3, xz, s0, s1, s2, s3, sz, Int.le_refl]
    · have hX2 := hX0 (by omega)
      rw [← hX2] at hFk hF
      have x0 : (bad X 5 1 == 0) = false := bad_ne (by omega)
      have x1 : (bad X 6 10 == 0) = false := bad_ne (by omega)
      have x2 : (bad X 7 10 == 0) = false := bad_ne (by omega)
      have x3 : (bad X 8 2 == 0) = false := bad_ne (by omega)
      have xz : decide ((0 : Int) < (X.size : Int)) = true := decide_eq_true (by omega)
      by_cases h0 : s.size = 1 ∧ (bAt s 0).toNat / 16 = 5
      · have s0 : (bad s 5 1 == 0) = true := bad_eq' (by omega) (by omega) (by decide)
        have s1 : (bad s 6 10 == 0) = false := bad_ne (by omega)
        have s2 : (bad s 7 10 == 0) = false := bad_ne (by omega)
        have s3 : (bad s 8 2 == 0) = false := bad_ne (by omega)
        have sz : decide ((0 : Int) < (s.size : Int)) = true := decide_eq_true (by omega)
        have sy : (0 : Int) < (s.size : Int) := by omega
        have sx : 0 < s.size := by omega
        have sw : decide ((1 : Int) < (s.size : Int)) = false := decide_eq_false (by omega)
        have st : pB (pV s) = S1 s 241 := okP (by omega) (by omega)
        refine leaf (oa3_14 c r0 r1 r2 r3 r4 r5 r6 r7 r8 n s) ?_ rfl hargs rfl rfl
        simp only [AllP, and_true, true_and, beq_self_eq_true, bne_self_eq_false, ba_beq, ba_toList_beq, decide_true, Bool.and_true, Bool.and_self, Bool.not_true, Bool.false_eq_true, if_false, if_true, ne_eq, not_true_eq_false, hgX, k1, k2, k9, k3, l1, l2, l9, lX, lS, ma_lo, ma_hi, S1_size, S2_size, d0, d1, d2, d3, e0, e1, e2, e3, f0, f1, f2, f3, o1, o2, o2t, o9, x0, x1, x2, x3, xz, s0, s1, s2, s3, sz, sy, sx, sw, st, Int.le_refl]
      · skip
        by_cases h1 : s.size = 10 ∧ (bAt s 0).toNat / 16 = 6
        · have s0 : (bad s 5 1 == 0) = false := bad_ne (by omega)
          have s1 : (bad s 6 10 == 0) = true := bad_eq' (by omega) (by omega) (by decide)
          have s2 : (bad s 7 10 == 0) = false := bad_ne (by omega)
          have s3 : (bad s 8 2 == 0) = false := bad_ne (by omega)
          have sz : decide ((0 : Int) < (s.size : Int)) = true := decide_eq_true (by omega)
          have sy : (0 : Int) < (s.size : Int) := by omega
          have sx : 0 < s.size := by omega
          have sw : decide ((1 : Int) < (s.size : Int)) = true := decide_eq_true (by omega)
          have sv : (1 : Int) < (s.size : Int) := by omega
          have su : 1 < s.size := by omega
          have st : nB 6 (nV s 6) = S2 s 240 0 := okN (q := 0) (by omega) (by omega) (mF _ (UInt8.toNat_lt _) (by omega))
          refine leaf (oa3_15 c r0 r1 r2 r3 r4 r5 r6 r7 r8 n s) ?_ rfl hargs rfl rfl
          simp only [AllP, and_true, true_and, beq_self_eq_true, bne_self_eq_false, ba_beq, ba_toList_beq, decide_true, Bool.and_true, Bool.and_self, Bool.not_true, Bool.false_eq_true, if_false, if_true, ne_eq, not_true_eq_false, hgX, k1, k2, k9, k3, l1, l2, l9, lX, lS, ma_lo, ma_hi, S1_size, S2_size, d0, d1, d2, d3, e0, e1, e2, e3, f0, f1, f2, f3, o1, o2, o2t, o9, x0, x1, x2, x3, xz, s0, s1, s2, s3, sz, sy, sx, sw, sv, su, st, Int.le_refl]
        · skip
          by_cases h2 : s.size = 10 ∧ (bAt s 0).toNat / 16 = 7
          · have s0 : (bad s 5 1 == 0) = false := bad_ne (by omega)
            have s1 : (bad s 6 10 == 0) = false := bad_ne (by omega)
            have s2 : (bad s 7 10 == 0) = true := bad_eq' (by omega) (by omega) (by decide)
            have s3 : (bad s 8 2 == 0) = false := bad_ne (by omega)
            have sz : decide ((0 : Int) < (s.size : Int)) = true := decide_eq_true (by omega)
            have sy : (0 : Int) < (s.size : Int) := by omega
            have sx : 0 < s.size := by omega
            have sw : decide ((1 : Int) < (s.size : Int)) = true := decide_eq_true (by omega)
            have sv : (1 : Int) < (s.size : Int) := by omega
            have su : 1 < s.size := by omega
            have st : nB 7 (nV s 7) = S2 s 240 0 := okN (q := 0) (by omega) (by omega) (mK _ (UInt8.toNat_lt _) (by omega))
            refine leaf (oa3_16 c r0 r1 r2 r3 r4 r5 r6 r7 r8 n s) ?_ rfl hargs rfl rfl
            simp only [AllP, and_true, true_and, beq_self_eq_true, bne_self_eq_false, ba_beq, ba_toList_beq, decide_true, Bool.and_true, Bool.and_self, Bool.not_true, Bool.false_eq_true, if_false, if_true, ne_eq, not_true_eq_false, hgX, k1, k2, k9, k3, l1, l2, l9, lX, lS, ma_lo, ma_hi, S1_size, S2_size, d0, d1, d2, d3, e0, e1, e2, e3, f0, f1, f2, f3, o1, o2, o2t, o9, x0, x1, x2, x3, xz, s0, s1, s2, s3, sz, sy, sx, sw, sv, su, st, Int.le_refl]
          · skip
            by_cases h3 : s.size = 2 ∧ (bAt s 0).toNat / 16 = 8
            · have s0 : (bad s 5 1 == 0) = false := bad_ne (by omega)
              have s1 : (bad s 6 10 == 0) = false := bad_ne (by omega)
              have s2 : (bad s 7 10 == 0) = false := bad_ne (by omega)
              have s3 : (bad s 8 2 == 0) = true := bad_eq' (by omega) (by omega) (by decide)
              have sz : decide ((0 : Int) < (s.size : Int)) = true := decide_eq_true (by omega)
              have sy : (0 : Int) < (s.size : Int) := by omega
              have sx : 0 < s.size := by omega
              have sw : decide ((1 : Int) < (s.size : Int)) = true := decide_eq_true (by omega)
              have sv : (1 : Int) < (s.size : Int) := by omega
              have su : 1 < s.size := by omega
              have st : rB (rV s) (qV s) = S2 s 255 255 := okR (by omega) (by omega)
              refine leaf (oa3_17 c r0 r1 r2 r3 r4 r5 r6 r7 r8 n s) ?_ rfl hargs rfl rfl
              simp only [AllP, and_true, true_and, beq_self_eq_true, bne_self_eq_false, ba_beq, ba_toList_beq, decide_true, Bool.and_true, Bool.and_self, Bool.not_true, Bool.false_eq_true, if_false, if_true, ne_eq, not_true_eq_false, hgX, k1, k2, k9, k3, l1, l2, l9, lX, lS, ma_lo, ma_hi, S1_size, S2_size, d0, d1, d2, d3, e0, e1, e2, e3, f0, f1, f2, f3, o1, o2, o2t, o9, x0, x1, x2, x3, xz, s0, s1, s2, s3, sz, sy, sx, sw, sv, su, st, Int.le_refl]
            · skip
              by_cases hE : s.size = 0
              · have s0 : (bad s 5 1 == 0) = false := bad_ne (by omega)
                have s1 : (bad s 6 10 == 0) = false := bad_ne (by omega)
                have s2 : (bad s 7 10 == 0) = false := bad_ne (by omega)
                have s3 : (bad s 8 2 == 0) = false := bad_ne (by omega)
                have sz : decide ((0 : Int) < (s.size : Int)) = false := decide_eq_false (by omega)
                refine leaf (oa3_12 c r0 r1 r2 r3 r4 r5 r6 r7 r8 n s) ?_ rfl hargs rfl rfl
                simp only [AllP, and_true, true_and, beq_self_eq_true, bne_self_eq_false, ba_beq, ba_toList_beq, decide_true, Bool.and_true, Bool.and_self, Bool.not_true, Bool.false_eq_true, if_false, if_true, ne_eq, not_true_eq_false, hgX, k1, k2, k9, k3, l1, l2, l9, lX, lS, ma_lo, ma_hi, S1_size, S2_size, d0, d1, d2, d3, e0, e1, e2, e3, f0, f1, f2, f3, o1, o2, o2t, o9, x0, x1, x2, x3, xz, s0, s1, s2, s3, sz, Int.le_refl]
              · have s0 : (bad s 5 1 == 0) = false := bad_ne (by omega)
                have s1 : (bad s 6 10 == 0) = false := bad_ne (by omega)
                have s2 : (bad s 7 10 == 0) = false := bad_ne (by omega)
                have s3 : (bad s 8 2 == 0) = false := bad_ne (by omega)
                have sz : decide ((0 : Int) < (s.size : Int)) = true := decide_eq_true (by omega)
                refine leaf (oa3_13 c r0 r1 r2 r3 r4 r5 r6 r7 r8 n s) ?_ rfl hargs rfl rfl
                simp only [AllP, and_true, true_and, beq_self_eq_true, bne_self_eq_false, ba_beq, ba_toList_beq, decide_true, Bool.and_true, Bool.and_self, Bool.not_true, Bool.false_eq_true, if_false, if_true, ne_eq, not_true_eq_false, hgX, k1, k2, k9, k3, l1, l2, l9, lX, lS, ma_lo, ma_hi, S1_size, S2_size, d0, d1, d2, d3, e0, e1, e2, e3, f0, f1, f2, f3, o1, o2, o2t, o9, x0, x1, x2, x3, xz, s0, s1, s2, s3, sz, Int.le_refl]
end Go.Proofs.Ythmndlkhmihdhaa
