/-
  Walks of functions, reckoned through, and what they give (part W10h). No condition beyond what each says. By an AI agent.
-/
import Derived.Test.YtmngnhbnicgjfaaW10p
import Derived.Test.YtmngnhbnicgjfaaW10c
import Derived.Test.YtmngnhbnicgjfaaW10g
namespace Go.Proofs.Ytmngnhbnicgjfaa
open Go.Ex
open Go.RowKit (Below)
set_option linter.unusedVariables false
set_option linter.unusedSimpArgs false

theorem codes (s : ByteArray) (h : s.size = 0 ∨ (bAt s 0).toNat / 16 = 1) : (s.size = 0 ∧ (dec s).2 = 4) ∨ (s.size ≠ 0 ∧ (s.size = 10 ∨ s.size = 14 ∨ s.size = 22) ∧ (dec s).2 = 0) ∨ (s.size ≠ 0 ∧ s.size ≠ 10 ∧ s.size ≠ 14 ∧ s.size ≠ 22 ∧ (dec s).2 = 5) := by
  by_cases h0 : s.size = 0
  · exact .inl ⟨h0, by rw [dec, if_pos h0]⟩
  · have h1 : (bAt s 0).toNat / 16 = 1 := by omega
    right
    by_cases a : s.size = 10
    · exact .inl ⟨h0, by omega, by rw [dec, if_neg h0, if_neg (by omega), if_pos a]⟩
    by_cases b : s.size = 14
    · exact .inl ⟨h0, by omega, by rw [dec, if_neg h0, if_neg (by omega), if_neg a, if_pos b]⟩
    by_cases c : s.size = 22
    · exact .inl ⟨h0, by omega, by rw [dec, if_neg h0, if_neg (by omega), if_neg a, if_neg b, if_pos c]⟩
    exact .inr ⟨h0, a, b, c, by rw [dec, if_neg h0, if_neg (by omega), if_neg a, if_neg b, if_neg c]⟩
theorem bAt_extract (s : ByteArray) (n i : Nat) (h : i < n) (hn : n ≤ s.size) : bAt (s.extract 0 n) i = bAt s i := by
  have hs : s.size = s.data.size := rfl
  unfold bAt
  rw [ByteArray.data_extract]
  simp [Array.getElem?_extract]
  rw [if_pos (by omega)]
theorem bAt_app (a b : ByteArray) (i : Nat) (h : i < a.size) : bAt (a ++ b) i = bAt a i := by
  have hs : a.size = a.data.size := rfl
  unfold bAt
  rw [ByteArray.data_append, Array.getElem?_append_left (by omega)]
theorem beqs (a b c d : Int) : ((a == b) = (c == d)) ↔ (a = b ↔ c = d) := by rw [Bool.eq_iff_iff, beq_iff_eq, beq_iff_eq]
theorem tbeq (c d : Int) : (true = (c == d)) ↔ c = d := by rw [eq_comm, beq_iff_eq]
theorem size_1 (a : UInt8) : (ByteArray.mk #[a]).size = 1 := rfl
theorem bent (a : UInt8) (sub : Int) (hs : 0 ≤ sub ∧ sub < 256) :
    (UInt8.ofNat (IntKind.u8.wrap ((BitVec.ofInt 8 (IntKind.u8.wrap ((BitVec.ofInt 8 (a.toNat : Int) &&& BitVec.ofInt 8 (15 : Int)).toNat : Int)) ||| BitVec.ofInt 8 (IntKind.u8.wrap (sub.tmod 16 * 16))).toNat : Int)).toNat).toNat / 16 = (sub.tmod 16).toNat := by
  have ha := a.toNat_lt
  obtain ⟨k, rfl⟩ := Int.eq_ofNat_of_zero_le hs.1
  have e0 : ((k : Int)).tmod 16 = ((k % 16 : Nat) : Int) := by rw [tm _ _ (by omega)]; omega
  have e1 : ((BitVec.ofInt 8 (a.toNat : Int) &&& BitVec.ofInt 8 (15 : Int)).toNat) = a.toNat % 16 := by
    rw [BitVec.ofInt_natCast, BitVec.toNat_and, BitVec.toNat_ofNat, Nat.mod_eq_of_lt (by omega)]
    show a.toNat &&& (2 ^ 4 - 1) = _
    rw [Nat.and_two_pow_sub_one_eq_mod]
  rw [e1, e0, wu8, wu8, wu8]
  have e2 : ((a.toNat % 16 : Nat) : Int) % 256 = ((a.toNat % 16 : Nat) : Int) := by omega
  have e3 : ((k % 16 : Nat) : Int) * 16 % 256 = ((k % 16 * 16 : Nat) : Int) := by omega
  rw [e2, e3, BitVec.ofInt_natCast, BitVec.ofInt_natCast, BitVec.toNat_or, BitVec.toNat_ofNat, BitVec.toNat_ofNat, Nat.mod_eq_of_lt (show a.toNat % 16 < 2 ^ 8 by omega), Nat.mod_eq_of_lt (show k % 16 * 16 < 2 ^ 8 by omega), Nat.or_comm]
  have := Nat.shiftLeft_add_eq_or_of_lt (i := 4) (b := a.toNat % 16) (by omega) (k % 16)
  rw [Nat.shiftLeft_eq] at this
  rw [← this]
  simp only [Int.toNat_natCast]
  have e4 : ((((k % 16 * 2 ^ 4 + a.toNat % 16 : Nat) : Int) % 256)).toNat = k % 16 * 16 + a.toNat % 16 := by omega
  rw [e4]
  have e5 : (UInt8.ofNat (k % 16 * 16 + a.toNat % 16)).toNat = k % 16 * 16 + a.toNat % 16 := by
    simp; omega
  rw [e5]; omega

set_option maxHeartbeats 8000000 in
theorem walk0 (x : DV) (hx : x.Ok) (at_ sub : Int) (more : ByteArray) (hat : 0 ≤ at_ ∧ at_ < 256) (hsub : 0 ≤ sub ∧ sub < 256) (hmore : more.size ≤ 9223372036854775807) (w : World) :
    Calls Try.prog 7 #[x.v, .int .u8 at_, .string more, .int .u8 sub] w (fun e w' => e = .returned (.bool true) ∧ Below w.heap.size w w') := by
  have X := DV.all hx
  have hargs : Rs [] [x.sv, .val (.int .u8 at_), .val (.string more), .val (.int .u8 sub)] [x.v, .int .u8 at_, .string more, .int .u8 sub] :=
    Rs.cons (by exact ⟨_, rfl, by simp [Rs, R]⟩) (Rs.cons (by simp only [R]) (Rs.cons (by simp only [R]) (Rs.cons (by simp only [R]) Rs.nil)))
  have hxd := hx.d; have hxi := hx.i
  have x1 := X.t; have x2 := X.n; have x3 := X.m; have x5 := X.ok; have xs := X.small; have xb := X.big; have xh := X.head; have xz := X.sizes
  obtain ⟨mm, hmm⟩ : ∃ mm, (if (100 : Int) < (more.size : Int) then (100 : Int) else (more.size : Int)) = mm := ⟨_, rfl⟩
  have hlo : 0 ≤ mm := by rw [← hmm]; split <;> omega
  have hhi : mm ≤ (more.size : Int) := by rw [← hmm]; split <;> omega
  have h100 : mm ≤ 100 := by rw [← hmm]; split <;> omega
  have hmx : (more.extract 0 mm.toNat).size = mm.toNat := by rw [ByteArray.size_extract]; omega
  have ha : (IntKind.i64.wrap at_).tmod ((enc x.j).fst.size : Int) = at_ % ((enc x.j).fst.size : Int) := by
    have e : IntKind.i64.wrap at_ = at_ := by rw [wi64]; omega
    rw [e, tm _ _ hat.1]
  have ha0 : 0 ≤ at_ % ((enc x.j).fst.size : Int) := Int.emod_nonneg _ (by omega)
  have ha1 : at_ % ((enc x.j).fst.size : Int) < ((enc x.j).fst.size : Int) := Int.emod_lt_of_pos _ (by omega)
  have hz1 : ((enc x.j).fst.extract 0 ((IntKind.i64.wrap at_).tmod ((enc x.j).fst.size : Int)).toNat).size = ((IntKind.i64.wrap at_).tmod ((enc x.j).fst.size : Int)).toNat := by rw [ByteArray.size_extract, ha]; omega
  have hc1 := codes ((enc x.j).fst.extract 0 ((IntKind.i64.wrap at_).tmod ((enc x.j).fst.size : Int)).toNat) (by
    rw [hz1, ha]
    by_cases h0 : (at_ % ((enc x.j).fst.size : Int)).toNat = 0
    · exact .inl h0
    · exact .inr (by rw [bAt_extract _ _ _ (by omega) (by omega)]; exact xh))
  have hz2 : ((enc x.j).fst ++ more.extract 0 mm.toNat).size = (enc x.j).fst.size + mm.toNat := by rw [size_app, hmx]
  have hc2 := codes ((enc x.j).fst ++ more.extract 0 mm.toNat) (.inr (by rw [bAt_app _ _ _ (by omega)]; exact xh))
  have hbyte : byteAt (enc x.j).fst 0 = ((bAt (enc x.j).fst 0).toNat : Int) := d_byte _ (by omega)
  have hz3 : (ByteArray.mk #[(UInt8.ofNat (IntKind.u8.wrap ((BitVec.ofInt 8 (IntKind.u8.wrap ((BitVec.ofInt 8 (byteAt (enc x.j).fst 0) &&& BitVec.ofInt 8 (15 : Int)).toNat : Int)) ||| BitVec.ofInt 8 (IntKind.u8.wrap (sub.tmod 16 * 16))).toNat : Int)).toNat)] ++ (enc x.j).fst.extract 1 (((enc x.j).fst.size : Int)).toNat).size = (enc x.j).fst.size := by rw [size_app, size_1, ByteArray.size_extract]; omega
  have hk0 : (bAt (ByteArray.mk #[(UInt8.ofNat (IntKind.u8.wrap ((BitVec.ofInt 8 (IntKind.u8.wrap ((BitVec.ofInt 8 (byteAt (enc x.j).fst 0) &&& BitVec.ofInt 8 (15 : Int)).toNat : Int)) ||| BitVec.ofInt 8 (IntKind.u8.wrap (sub.tmod 16 * 16))).toNat : Int)).toNat)] ++ (enc x.j).fst.extract 1 (((enc x.j).fst.size : Int)).toNat) 0).toNat / 16 = (sub.tmod 16).toNat := by
    rw [bAt_app _ _ _ (by rw [size_1]; omega), hbyte]
    exact bent (bAt (enc x.j).fst 0) sub hsub
  have hsm : sub.tmod 16 = sub % 16 := tm _ _ hsub.1
  have hdK : (sub.tmod 16 = 1 → (dec (ByteArray.mk #[(UInt8.ofNat (IntKind.u8.wrap ((BitVec.ofInt 8 (IntKind.u8.wrap ((BitVec.ofInt 8 (byteAt (enc x.j).fst 0) &&& BitVec.ofInt 8 (15 : Int)).toNat : Int)) ||| BitVec.ofInt 8 (IntKind.u8.wrap (sub.tmod 16 * 16))).toNat : Int)).toNat)] ++ (enc x.j).fst.extract 1 (((enc x.j).fst.size : Int)).toNat)).2 = 0) ∧ (¬ sub.tmod 16 = 1 → (dec (ByteArray.mk #[(UInt8.ofNat (IntKind.u8.wrap ((BitVec.ofInt 8 (IntKind.u8.wrap ((BitVec.ofInt 8 (byteAt (enc x.j).fst 0) &&& BitVec.ofInt 8 (15 : Int)).toNat : Int)) ||| BitVec.ofInt 8 (IntKind.u8.wrap (sub.tmod 16 * 16))).toNat : Int)).toNat)] ++ (enc x.j).fst.extract 1 (((enc x.j).fst.size : Int)).toNat)).2 = 7) := by
    refine ⟨fun h => ?_, fun h => ?_⟩
    · have := codes (ByteArray.mk #[(UInt8.ofNat (IntKind.u8.wrap ((BitVec.ofInt 8 (IntKind.u8.wrap ((BitVec.ofInt 8 (byteAt (enc x.j).fst 0) &&& BitVec.ofInt 8 (15 : Int)).toNat : Int)) ||| BitVec.ofInt 8 (IntKind.u8.wrap (sub.tmod 16 * 16))).toNat : Int)).toNat)] ++ (enc x.j).fst.extract 1 (((enc x.j).fst.size : Int)).toNat) (.inr (by omega))
      omega
    · rw [dec, if_neg (by omega), if_pos (by omega)]
  have hx9 : (enc x.j).fst.size + (more.extract 0 mm.toNat).size ≤ 9223372036854775807 := by rw [hmx]; omega
  by_cases se : ((enc x.j).fst.extract 0 ((IntKind.i64.wrap at_).tmod ((enc x.j).fst.size : Int)).toNat).size = 0
  · by_cases t10 : ((enc x.j).fst ++ more.extract 0 mm.toNat).size = 10
    · by_cases k1 : sub.tmod 16 = 1
      · refine leaf (cut_0 x at_ more sub) ?_ rfl hargs ?_ rfl
        · simp only [hmm]
          generalize ((enc x.j).fst.extract 0 ((IntKind.i64.wrap at_).tmod ((enc x.j).fst.size : Int)).toNat) = T1 at *
          generalize ((enc x.j).fst ++ more.extract 0 mm.toNat) = T2 at *
          generalize (ByteArray.mk #[(UInt8.ofNat (IntKind.u8.wrap ((BitVec.ofInt 8 (IntKind.u8.wrap ((BitVec.ofInt 8 (byteAt (enc x.j).fst 0) &&& BitVec.ofInt 8 (15 : Int)).toNat : Int)) ||| BitVec.ofInt 8 (IntKind.u8.wrap (sub.tmod 16 * 16))).toNat : Int)).toNat)] ++ (enc x.j).fst.extract 1 (((enc x.j).fst.size : Int)).toNat) = K at *
          simp only [AllP, and_true, true_and, Bool.not_eq_false', Bool.not_eq_true', beq_iff_eq, bne_iff_ne, ne_eq, bne_eq_false_iff_eq, beq_eq_false_iff_ne, beqs, tbeq, decide_eq_true_eq, decide_eq_false_iff_not, ba_toList_beq, ba_none, size_app, size_1, ByteArray.size_extract, hmm, Bool.not_true, Bool.not_false, Bool.false_beq, Bool.true_beq]
          (repeat' apply And.intro) <;> first | assumption | omega
        · first | rfl | (simp only [SV.toV]; rw [hdK.2 (by assumption)]; rfl)
      refine leaf (cut_1 x at_ more sub) ?_ rfl hargs ?_ rfl
      · simp only [hmm]
        generalize ((enc x.j).fst.extract 0 ((IntKind.i64.wrap at_).tmod ((enc x.j).fst.size : Int)).toNat) = T1 at *
        generalize ((enc x.j).fst ++ more.extract 0 mm.toNat) = T2 at *
        generalize (ByteArray.mk #[(UInt8.ofNat (IntKind.u8.wrap ((BitVec.ofInt 8 (IntKind.u8.wrap ((BitVec.ofInt 8 (byteAt (enc x.j).fst 0) &&& BitVec.ofInt 8 (15 : Int)).toNat : Int)) ||| BitVec.ofInt 8 (IntKind.u8.wrap (sub.tmod 16 * 16))).toNat : Int)).toNat)] ++ (enc x.j).fst.extract 1 (((enc x.j).fst.size : Int)).toNat) = K at *
        simp only [AllP, and_true, true_and, Bool.not_eq_false', Bool.not_eq_true', beq_iff_eq, bne_iff_ne, ne_eq, bne_eq_false_iff_eq, beq_eq_false_iff_ne, beqs, tbeq, decide_eq_true_eq, decide_eq_false_iff_not, ba_toList_beq, ba_none, size_app, size_1, ByteArray.size_extract, hmm, Bool.not_true, Bool.not_false, Bool.false_beq, Bool.true_beq]
        (repeat' apply And.intro) <;> first | assumption | omega
      · first | rfl | (simp only [SV.toV]; rw [hdK.2 (by assumption)]; rfl)
    by_cases t14 : ((enc x.j).fst ++ more.extract 0 mm.toNat).size = 14
    · by_cases k1 : sub.tmod 16 = 1
      · refine leaf (cut_2 x at_ more sub) ?_ rfl hargs ?_ rfl
        · simp only [hmm]
          generalize ((enc x.j).fst.extract 0 ((IntKind.i64.wrap at_).tmod ((enc x.j).fst.size : Int)).toNat) = T1 at *
          generalize ((enc x.j).fst ++ more.extract 0 mm.toNat) = T2 at *
          generalize (ByteArray.mk #[(UInt8.ofNat (IntKind.u8.wrap ((BitVec.ofInt 8 (IntKind.u8.wrap ((BitVec.ofInt 8 (byteAt (enc x.j).fst 0) &&& BitVec.ofInt 8 (15 : Int)).toNat : Int)) ||| BitVec.ofInt 8 (IntKind.u8.wrap (sub.tmod 16 * 16))).toNat : Int)).toNat)] ++ (enc x.j).fst.extract 1 (((enc x.j).fst.size : Int)).toNat) = K at *
          simp only [AllP, and_true, true_and, Bool.not_eq_false', Bool.not_eq_true', beq_iff_eq, bne_iff_ne, ne_eq, bne_eq_false_iff_eq, beq_eq_false_iff_ne, beqs, tbeq, decide_eq_true_eq, decide_eq_false_iff_not, ba_toList_beq, ba_none, size_app, size_1, ByteArray.size_extract, hmm, Bool.not_true, Bool.not_false, Bool.false_beq, Bool.true_beq]
          (repeat' apply And.intro) <;> first | assumption | omega
        · first | rfl | (simp only [SV.toV]; rw [hdK.2 (by assumption)]; rfl)
      refine leaf (cut_3 x at_ more sub) ?_ rfl hargs ?_ rfl
      · simp only [hmm]
        generalize ((enc x.j).fst.extract 0 ((IntKind.i64.wrap at_).tmod ((enc x.j).fst.size : Int)).toNat) = T1 at *
        generalize ((enc x.j).fst ++ more.extract 0 mm.toNat) = T2 at *
        generalize (ByteArray.mk #[(UInt8.ofNat (IntKind.u8.wrap ((BitVec.ofInt 8 (IntKind.u8.wrap ((BitVec.ofInt 8 (byteAt (enc x.j).fst 0) &&& BitVec.ofInt 8 (15 : Int)).toNat : Int)) ||| BitVec.ofInt 8 (IntKind.u8.wrap (sub.tmod 16 * 16))).toNat : Int)).toNat)] ++ (enc x.j).fst.extract 1 (((enc x.j).fst.size : Int)).toNat) = K at *
        simp only [AllP, and_true, true_and, Bool.not_eq_false', Bool.not_eq_true', beq_iff_eq, bne_iff_ne, ne_eq, bne_eq_false_iff_eq, beq_eq_false_iff_ne, beqs, tbeq, decide_eq_true_eq, decide_eq_false_iff_not, ba_toList_beq, ba_none, size_app, size_1, ByteArray.size_extract, hmm, Bool.not_true, Bool.not_false, Bool.false_beq, Bool.true_beq]
        (repeat' apply And.intro) <;> first | assumption | omega
      · first | rfl | (simp only [SV.toV]; rw [hdK.2 (by assumption)]; rfl)
    by_cases t22 : ((enc x.j).fst ++ more.extract 0 mm.toNat).size = 22
    · by_cases k1 : sub.tmod 16 = 1
      · refine leaf (cut_4 x at_ more sub) ?_ rfl hargs ?_ rfl
        · simp only [hmm]
          generalize ((enc x.j).fst.extract 0 ((IntKind.i64.wrap at_).tmod ((enc x.j).fst.size : Int)).toNat) = T1 at *
          generalize ((enc x.j).fst ++ more.extract 0 mm.toNat) = T2 at *
          generalize (ByteArray.mk #[(UInt8.ofNat (IntKind.u8.wrap ((BitVec.ofInt 8 (IntKind.u8.wrap ((BitVec.ofInt 8 (byteAt (enc x.j).fst 0) &&& BitVec.ofInt 8 (15 : Int)).toNat : Int)) ||| BitVec.ofInt 8 (IntKind.u8.wrap (sub.tmod 16 * 16))).toNat : Int)).toNat)] ++ (enc x.j).fst.extract 1 (((enc x.j).fst.size : Int)).toNat) = K at *
          simp only [AllP, and_true, true_and, Bool.not_eq_false', Bool.not_eq_true', beq_iff_eq, bne_iff_ne, ne_eq, bne_eq_false_iff_eq, beq_eq_false_iff_ne, beqs, tbeq, decide_eq_true_eq, decide_eq_false_iff_not, ba_toList_beq, ba_none, size_app, size_1, ByteArray.size_extract, hmm, Bool.not_true, Bool.not_false, Bool.false_beq, Bool.true_beq]
          (repeat' apply And.intro) <;> first | assumption | omega
        · first | rfl | (simp only [SV.toV]; rw [hdK.2 (by assumption)]; rfl)
      refine leaf (cut_5 x at_ more sub) ?_ rfl hargs ?_ rfl
      · simp only [hmm]
        generalize ((enc x.j).fst.extract 0 ((IntKind.i64.wrap at_).tmod ((enc x.j).fst.size : Int)).toNat) = T1 at *
        generalize ((enc x.j).fst ++ more.extract 0 mm.toNat) = T2 at *
        generalize (ByteArray.mk #[(UInt8.ofNat (IntKind.u8.wrap ((BitVec.ofInt 8 (IntKind.u8.wrap ((BitVec.ofInt 8 (byteAt (enc x.j).fst 0) &&& BitVec.ofInt 8 (15 : Int)).toNat : Int)) ||| BitVec.ofInt 8 (IntKind.u8.wrap (sub.tmod 16 * 16))).toNat : Int)).toNat)] ++ (enc x.j).fst.extract 1 (((enc x.j).fst.size : Int)).toNat) = K at *
        simp only [AllP, and_true, true_and, Bool.not_eq_false', Bool.not_eq_true', beq_iff_eq, bne_iff_ne, ne_eq, bne_eq_false_iff_eq, beq_eq_false_iff_ne, beqs, tbeq, decide_eq_true_eq, decide_eq_false_iff_not, ba_toList_beq, ba_none, size_app, size_1, ByteArray.size_extract, hmm, Bool.not_true, Bool.not_false, Bool.false_beq, Bool.true_beq]
        (repeat' apply And.intro) <;> first | assumption | omega
      · first | rfl | (simp only [SV.toV]; rw [hdK.2 (by assumption)]; rfl)
    by_cases k1 : sub.tmod 16 = 1
    · refine leaf (cut_6 x at_ more sub) ?_ rfl hargs ?_ rfl
      · simp only [hmm]
        generalize ((enc x.j).fst.extract 0 ((IntKind.i64.wrap at_).tmod ((enc x.j).fst.size : Int)).toNat) = T1 at *
        generalize ((enc x.j).fst ++ more.extract 0 mm.toNat) = T2 at *
        generalize (ByteArray.mk #[(UInt8.ofNat (IntKind.u8.wrap ((BitVec.ofInt 8 (IntKind.u8.wrap ((BitVec.ofInt 8 (byteAt (enc x.j).fst 0) &&& BitVec.ofInt 8 (15 : Int)).toNat : Int)) ||| BitVec.ofInt 8 (IntKind.u8.wrap (sub.tmod 16 * 16))).toNat : Int)).toNat)] ++ (enc x.j).fst.extract 1 (((enc x.j).fst.size : Int)).toNat) = K at *
        simp only [AllP, and_true, true_and, Bool.not_eq_false', Bool.not_eq_true', beq_iff_eq, bne_iff_ne, ne_eq, bne_eq_false_iff_eq, beq_eq_false_iff_ne, beqs, tbeq, decide_eq_true_eq, decide_eq_false_iff_not, ba_toList_beq, ba_none, size_app, size_1, ByteArray.size_extract, hmm, Bool.not_true, Bool.not_false, Bool.false_beq, Bool.true_beq]
        (repeat' apply And.intro) <;> first | assumption | omega
      · first | rfl | (simp only [SV.toV]; rw [hdK.2 (by assumption)]; rfl)
    refine leaf (cut_7 x at_ more sub) ?_ rfl hargs ?_ rfl
    · simp only [hmm]
      generalize ((enc x.j).fst.extract 0 ((IntKind.i64.wrap at_).tmod ((enc x.j).fst.size : Int)).toNat) = T1 at *
      generalize ((enc x.j).fst ++ more.extract 0 mm.toNat) = T2 at *
      generalize (ByteArray.mk #[(UInt8.ofNat (IntKind.u8.wrap ((BitVec.ofInt 8 (IntKind.u8.wrap ((BitVec.ofInt 8 (byteAt (enc x.j).fst 0) &&& BitVec.ofInt 8 (15 : Int)).toNat : Int)) ||| BitVec.ofInt 8 (IntKind.u8.wrap (sub.tmod 16 * 16))).toNat : Int)).toNat)] ++ (enc x.j).fst.extract 1 (((enc x.j).fst.size : Int)).toNat) = K at *
      simp only [AllP, and_true, true_and, Bool.not_eq_false', Bool.not_eq_true', beq_iff_eq, bne_iff_ne, ne_eq, bne_eq_false_iff_eq, beq_eq_false_iff_ne, beqs, tbeq, decide_eq_true_eq, decide_eq_false_iff_not, ba_toList_beq, ba_none, size_app, size_1, ByteArray.size_extract, hmm, Bool.not_true, Bool.not_false, Bool.false_beq, Bool.true_beq]
      (repeat' apply And.intro) <;> first | assumption | omega
    · first | rfl | (simp only [SV.toV]; rw [hdK.2 (by assumption)]; rfl)
  by_cases s10 : ((enc x.j).fst.extract 0 ((IntKind.i64.wrap at_).tmod ((enc x.j).fst.size : Int)).toNat).size = 10
  · by_cases t10 : ((enc x.j).fst ++ more.extract 0 mm.toNat).size = 10
    · exfalso; omega
    by_cases t14 : ((enc x.j).fst ++ more.extract 0 mm.toNat).size = 14
    · by_cases k1 : sub.tmod 16 = 1
      · refine leaf (cut_16 x at_ more sub) ?_ rfl hargs ?_ rfl
        · simp only [hmm]
          generalize ((enc x.j).fst.extract 0 ((IntKind.i64.wrap at_).tmod ((enc x.j).fst.size : Int)).toNat) = T1 at *
          generalize ((enc x.j).fst ++ more.extract 0 mm.toNat) = T2 at *
          generalize (ByteArray.mk #[(UInt8.ofNat (IntKind.u8.wrap ((BitVec.ofInt 8 (IntKind.u8.wrap ((BitVec.ofInt 8 (byteAt (enc x.j).fst 0) &&& BitVec.ofInt 8 (15 : Int)).toNat : Int)) ||| BitVec.ofInt 8 (IntKind.u8.wrap (sub.tmod 16 * 16))).toNat : Int)).toNat)] ++ (enc x.j).fst.extract 1 (((enc x.j).fst.size : Int)).toNat) = K at *
          simp only [AllP, and_true, true_and, Bool.not_eq_false', Bool.not_eq_true', beq_iff_eq, bne_iff_ne, ne_eq, bne_eq_false_iff_eq, beq_eq_false_iff_ne, beqs, tbeq, decide_eq_true_eq, decide_eq_false_iff_not, ba_toList_beq, ba_none, size_app, size_1, ByteArray.size_extract, hmm, Bool.not_true, Bool.not_false, Bool.false_beq, Bool.true_beq]
          (repeat' apply And.intro) <;> first | assumption | omega
        · first | rfl | (simp only [SV.toV]; rw [hdK.2 (by assumption)]; rfl)
      refine leaf (cut_17 x at_ more sub) ?_ rfl hargs ?_ rfl
      · simp only [hmm]
        generalize ((enc x.j).fst.extract 0 ((IntKind.i64.wrap at_).tmod ((enc x.j).fst.size : Int)).toNat) = T1 at *
        generalize ((enc x.j).fst ++ more.extract 0 mm.toNat) = T2 at *
        generalize (ByteArray.mk #[(UInt8.ofNat (IntKind.u8.wrap ((BitVec.ofInt 8 (IntKind.u8.wrap ((BitVec.ofInt 8 (byteAt (enc x.j).fst 0) &&& BitVec.ofInt 8 (15 : Int)).toNat : Int)) ||| BitVec.ofInt 8 (IntKind.u8.wrap (sub.tmod 16 * 16))).toNat : Int)).toNat)] ++ (enc x.j).fst.extract 1 (((enc x.j).fst.size : Int)).toNat) = K at *
        simp only [AllP, and_true, true_and, Bool.not_eq_false', Bool.not_eq_true', beq_iff_eq, bne_iff_ne, ne_eq, bne_eq_false_iff_eq, beq_eq_false_iff_ne, beqs, tbeq, decide_eq_true_eq, decide_eq_false_iff_not, ba_toList_beq, ba_none, size_app, size_1, ByteArray.size_extract, hmm, Bool.not_true, Bool.not_false, Bool.false_beq, Bool.true_beq]
        (repeat' apply And.intro) <;> first | assumption | omega
      · first | rfl | (simp only [SV.toV]; rw [hdK.2 (by assumption)]; rfl)
    by_cases t22 : ((enc x.j).fst ++ more.extract 0 mm.toNat).size = 22
    · by_cases k1 : sub.tmod 16 = 1
      · refine leaf (cut_18 x at_ more sub) ?_ rfl hargs ?_ rfl
        · simp only [hmm]
          generalize ((enc x.j).fst.extract 0 ((IntKind.i64.wrap at_).tmod ((enc x.j).fst.size : Int)).toNat) = T1 at *
          generalize ((enc x.j).fst ++ more.extract 0 mm.toNat) = T2 at *
          generalize (ByteArray.mk #[(UInt8.ofNat (IntKind.u8.wrap ((BitVec.ofInt 8 (IntKind.u8.wrap ((BitVec.ofInt 8 (byteAt (enc x.j).fst 0) &&& BitVec.ofInt 8 (15 : Int)).toNat : Int)) ||| BitVec.ofInt 8 (IntKind.u8.wrap (sub.tmod 16 * 16))).toNat : Int)).toNat)] ++ (enc x.j).fst.extract 1 (((enc x.j).fst.size : Int)).toNat) = K at *
          simp only [AllP, and_true, true_and, Bool.not_eq_false', Bool.not_eq_true', beq_iff_eq, bne_iff_ne, ne_eq, bne_eq_false_iff_eq, beq_eq_false_iff_ne, beqs, tbeq, decide_eq_true_eq, decide_eq_false_iff_not, ba_toList_beq, ba_none, size_app, size_1, ByteArray.size_extract, hmm, Bool.not_true, Bool.not_false, Bool.false_beq, Bool.true_beq]
          (repeat' apply And.intro) <;> first | assumption | omega
        · first | rfl | (simp only [SV.toV]; rw [hdK.2 (by assumption)]; rfl)
      refine leaf (cut_19 x at_ more sub) ?_ rfl hargs ?_ rfl
      · simp only [hmm]
        generalize ((enc x.j).fst.extract 0 ((IntKind.i64.wrap at_).tmod ((enc x.j).fst.size : Int)).toNat) = T1 at *
        generalize ((enc x.j).fst ++ more.extract 0 mm.toNat) = T2 at *
        generalize (ByteArray.mk #[(UInt8.ofNat (IntKind.u8.wrap ((BitVec.ofInt 8 (IntKind.u8.wrap ((BitVec.ofInt 8 (byteAt (enc x.j).fst 0) &&& BitVec.ofInt 8 (15 : Int)).toNat : Int)) ||| BitVec.ofInt 8 (IntKind.u8.wrap (sub.tmod 16 * 16))).toNat : Int)).toNat)] ++ (enc x.j).fst.extract 1 (((enc x.j).fst.size : Int)).toNat) = K at *
        simp only [AllP, and_true, true_and, Bool.not_eq_false', Bool.not_eq_true', beq_iff_eq, bne_iff_ne, ne_eq, bne_eq_false_iff_eq, beq_eq_false_iff_ne, beqs, tbeq, decide_eq_true_eq, decide_eq_false_iff_not, ba_toList_beq, ba_none, size_app, size_1, ByteArray.size_extract, hmm, Bool.not_true, Bool.not_false, Bool.false_beq, Bool.true_beq]
        (repeat' apply And.intro) <;> first | assumption | omega
      · first | rfl | (simp only [SV.toV]; rw [hdK.2 (by assumption)]; rfl)
    by_cases k1 : sub.tmod 16 = 1
    · refine leaf (cut_20 x at_ more sub) ?_ rfl hargs ?_ rfl
      · simp only [hmm]
        generalize ((enc x.j).fst.extract 0 ((IntKind.i64.wrap at_).tmod ((enc x.j).fst.size : Int)).toNat) = T1 at *
        generalize ((enc x.j).fst ++ more.extract 0 mm.toNat) = T2 at *
        generalize (ByteArray.mk #[(UInt8.ofNat (IntKind.u8.wrap ((BitVec.ofInt 8 (IntKind.u8.wrap ((BitVec.ofInt 8 (byteAt (enc x.j).fst 0) &&& BitVec.ofInt 8 (15 : Int)).toNat : Int)) ||| BitVec.ofInt 8 (IntKind.u8.wrap (sub.tmod 16 * 16))).toNat : Int)).toNat)] ++ (enc x.j).fst.extract 1 (((enc x.j).fst.size : Int)).toNat) = K at *
        simp only [AllP, and_true, true_and, Bool.not_eq_false', Bool.not_eq_true', beq_iff_eq, bne_iff_ne, ne_eq, bne_eq_false_iff_eq, beq_eq_false_iff_ne, beqs, tbeq, decide_eq_true_eq, decide_eq_false_iff_not, ba_toList_beq, ba_none, size_app, size_1, ByteArray.size_extract, hmm, Bool.not_true, Bool.not_false, Bool.false_beq, Bool.true_beq]
        (repeat' apply And.intro) <;> first | assumption | omega
      · first | rfl | (simp only [SV.toV]; rw [hdK.2 (by assumption)]; rfl)
    refine leaf (cut_21 x at_ more sub) ?_ rfl hargs ?_ rfl
    · simp only [hmm]
      generalize ((enc x.j).fst.extract 0 ((IntKind.i64.wrap at_).tmod ((enc x.j).fst.size : Int)).toNat) = T1 at *
      generalize ((enc x.j).fst ++ more.extract 0 mm.toNat) = T2 at *
      generalize (ByteArray.mk #[(UInt8.ofNat (IntKind.u8.wrap ((BitVec.ofInt 8 (IntKind.u8.wrap ((BitVec.ofInt 8 (byteAt (enc x.j).fst 0) &&& BitVec.ofInt 8 (15 : Int)).toNat : Int)) ||| BitVec.ofInt 8 (IntKind.u8.wrap (sub.tmod 16 * 16))).toNat : Int)).toNat)] ++ (enc x.j).fst.extract 1 (((enc x.j).fst.size : Int)).toNat) = K at *
      simp only [AllP, and_true, true_and, Bool.not_eq_false', Bool.not_eq_true', beq_iff_eq, bne_iff_ne, ne_eq, bne_eq_false_iff_eq, beq_eq_false_iff_ne, beqs, tbeq, decide_eq_true_eq, decide_eq_false_iff_not, ba_toList_beq, ba_none, size_app, size_1, ByteArray.size_extract, hmm, Bool.not_true, Bool.not_false, Bool.false_beq, Bool.true_beq]
      (repeat' apply And.intro) <;> first | assumption | omega
    · first | rfl | (simp only [SV.toV]; rw [hdK.2 (by assumption)]; rfl)
  by_cases s14 : ((enc x.j).fst.extract 0 ((IntKind.i64.wrap at_).tmod ((enc x.j).fst.size : Int)).toNat).size = 14
  · by_cases t10 : ((enc x.j).fst ++ more.extract 0 mm.toNat).size = 10
    · exfalso; omega
    by_cases t14 : ((enc x.j).fst ++ more.extract 0 mm.toNat).size = 14
    · exfalso; omega
    by_cases t22 : ((enc x.j).fst ++ more.extract 0 mm.toNat).size = 22
    · by_cases k1 : sub.tmod 16 = 1
      · refine leaf (cut_22 x at_ more sub) ?_ rfl hargs ?_ rfl
        · simp only [hmm]
          generalize ((enc x.j).fst.extract 0 ((IntKind.i64.wrap at_).tmod ((enc x.j).fst.size : Int)).toNat) = T1 at *
          generalize ((enc x.j).fst ++ more.extract 0 mm.toNat) = T2 at *
          generalize (ByteArray.mk #[(UInt8.ofNat (IntKind.u8.wrap ((BitVec.ofInt 8 (IntKind.u8.wrap ((BitVec.ofInt 8 (byteAt (enc x.j).fst 0) &&& BitVec.ofInt 8 (15 : Int)).toNat : Int)) ||| BitVec.ofInt 8 (IntKind.u8.wrap (sub.tmod 16 * 16))).toNat : Int)).toNat)] ++ (enc x.j).fst.extract 1 (((enc x.j).fst.size : Int)).toNat) = K at *
          simp only [AllP, and_true, true_and, Bool.not_eq_false', Bool.not_eq_true', beq_iff_eq, bne_iff_ne, ne_eq, bne_eq_false_iff_eq, beq_eq_false_iff_ne, beqs, tbeq, decide_eq_true_eq, decide_eq_false_iff_not, ba_toList_beq, ba_none, size_app, size_1, ByteArray.size_extract, hmm, Bool.not_true, Bool.not_false, Bool.false_beq, Bool.true_beq]
          (repeat' apply And.intro) <;> first | assumption | omega
        · first | rfl | (simp only [SV.toV]; rw [hdK.2 (by assumption)]; rfl)
      refine leaf (cut_23 x at_ more sub) ?_ rfl hargs ?_ rfl
      · simp only [hmm]
        generalize ((enc x.j).fst.extract 0 ((IntKind.i64.wrap at_).tmod ((enc x.j).fst.size : Int)).toNat) = T1 at *
        generalize ((enc x.j).fst ++ more.extract 0 mm.toNat) = T2 at *
        generalize (ByteArray.mk #[(UInt8.ofNat (IntKind.u8.wrap ((BitVec.ofInt 8 (IntKind.u8.wrap ((BitVec.ofInt 8 (byteAt (enc x.j).fst 0) &&& BitVec.ofInt 8 (15 : Int)).toNat : Int)) ||| BitVec.ofInt 8 (IntKind.u8.wrap (sub.tmod 16 * 16))).toNat : Int)).toNat)] ++ (enc x.j).fst.extract 1 (((enc x.j).fst.size : Int)).toNat) = K at *
        simp only [AllP, and_true, true_and, Bool.not_eq_false', Bool.not_eq_true', beq_iff_eq, bne_iff_ne, ne_eq, bne_eq_false_iff_eq, beq_eq_false_iff_ne, beqs, tbeq, decide_eq_true_eq, decide_eq_false_iff_not, ba_toList_beq, ba_none, size_app, size_1, ByteArray.size_extract, hmm, Bool.not_true, Bool.not_false, Bool.false_beq, Bool.true_beq]
        (repeat' apply And.intro) <;> first | assumption | omega
      · first | rfl | (simp only [SV.toV]; rw [hdK.2 (by assumption)]; rfl)
    by_cases k1 : sub.tmod 16 = 1
    · refine leaf (cut_24 x at_ more sub) ?_ rfl hargs ?_ rfl
      · simp only [hmm]
        generalize ((enc x.j).fst.extract 0 ((IntKind.i64.wrap at_).tmod ((enc x.j).fst.size : Int)).toNat) = T1 at *
        generalize ((enc x.j).fst ++ more.extract 0 mm.toNat) = T2 at *
        generalize (ByteArray.mk #[(UInt8.ofNat (IntKind.u8.wrap ((BitVec.ofInt 8 (IntKind.u8.wrap ((BitVec.ofInt 8 (byteAt (enc x.j).fst 0) &&& BitVec.ofInt 8 (15 : Int)).toNat : Int)) ||| BitVec.ofInt 8 (IntKind.u8.wrap (sub.tmod 16 * 16))).toNat : Int)).toNat)] ++ (enc x.j).fst.extract 1 (((enc x.j).fst.size : Int)).toNat) = K at *
        simp only [AllP, and_true, true_and, Bool.not_eq_false', Bool.not_eq_true', beq_iff_eq, bne_iff_ne, ne_eq, bne_eq_false_iff_eq, beq_eq_false_iff_ne, beqs, tbeq, decide_eq_true_eq, decide_eq_false_iff_not, ba_toList_beq, ba_none, size_app, size_1, ByteArray.size_extract, hmm, Bool.not_true, Bool.not_false, Bool.false_beq, Bool.true_beq]
        (repeat' apply And.intro) <;> first | assumption | omega
      · first | rfl | (simp only [SV.toV]; rw [hdK.2 (by assumption)]; rfl)
    refine leaf (cut_25 x at_ more sub) ?_ rfl hargs ?_ rfl
    · simp only [hmm]
      generalize ((enc x.j).fst.extract 0 ((IntKind.i64.wrap at_).tmod ((enc x.j).fst.size : Int)).toNat) = T1 at *
      generalize ((enc x.j).fst ++ more.extract 0 mm.toNat) = T2 at *
      generalize (ByteArray.mk #[(UInt8.ofNat (IntKind.u8.wrap ((BitVec.ofInt 8 (IntKind.u8.wrap ((BitVec.ofInt 8 (byteAt (enc x.j).fst 0) &&& BitVec.ofInt 8 (15 : Int)).toNat : Int)) ||| BitVec.ofInt 8 (IntKind.u8.wrap (sub.tmod 16 * 16))).toNat : Int)).toNat)] ++ (enc x.j).fst.extract 1 (((enc x.j).fst.size : Int)).toNat) = K at *
      simp only [AllP, and_true, true_and, Bool.not_eq_false', Bool.not_eq_true', beq_iff_eq, bne_iff_ne, ne_eq, bne_eq_false_iff_eq, beq_eq_false_iff_ne, beqs, tbeq, decide_eq_true_eq, decide_eq_false_iff_not, ba_toList_beq, ba_none, size_app, size_1, ByteArray.size_extract, hmm, Bool.not_true, Bool.not_false, Bool.false_beq, Bool.true_beq]
      (repeat' apply And.intro) <;> first | assumption | omega
    · first | rfl | (simp only [SV.toV]; rw [hdK.2 (by assumption)]; rfl)
  by_cases t10 : ((enc x.j).fst ++ more.extract 0 mm.toNat).size = 10
  · by_cases k1 : sub.tmod 16 = 1
    · refine leaf (cut_8 x at_ more sub) ?_ rfl hargs ?_ rfl
      · simp only [hmm]
        generalize ((enc x.j).fst.extract 0 ((IntKind.i64.wrap at_).tmod ((enc x.j).fst.size : Int)).toNat) = T1 at *
        generalize ((enc x.j).fst ++ more.extract 0 mm.toNat) = T2 at *
        generalize (ByteArray.mk #[(UInt8.ofNat (IntKind.u8.wrap ((BitVec.ofInt 8 (IntKind.u8.wrap ((BitVec.ofInt 8 (byteAt (enc x.j).fst 0) &&& BitVec.ofInt 8 (15 : Int)).toNat : Int)) ||| BitVec.ofInt 8 (IntKind.u8.wrap (sub.tmod 16 * 16))).toNat : Int)).toNat)] ++ (enc x.j).fst.extract 1 (((enc x.j).fst.size : Int)).toNat) = K at *
        simp only [AllP, and_true, true_and, Bool.not_eq_false', Bool.not_eq_true', beq_iff_eq, bne_iff_ne, ne_eq, bne_eq_false_iff_eq, beq_eq_false_iff_ne, beqs, tbeq, decide_eq_true_eq, decide_eq_false_iff_not, ba_toList_beq, ba_none, size_app, size_1, ByteArray.size_extract, hmm, Bool.not_true, Bool.not_false, Bool.false_beq, Bool.true_beq]
        (repeat' apply And.intro) <;> first | assumption | omega
      · first | rfl | (simp only [SV.toV]; rw [hdK.2 (by assumption)]; rfl)
    refine leaf (cut_9 x at_ more sub) ?_ rfl hargs ?_ rfl
    · simp only [hmm]
      generalize ((enc x.j).fst.extract 0 ((IntKind.i64.wrap at_).tmod ((enc x.j).fst.size : Int)).toNat) = T1 at *
      generalize ((enc x.j).fst ++ more.extract 0 mm.toNat) = T2 at *
      generalize (ByteArray.mk #[(UInt8.ofNat (IntKind.u8.wrap ((BitVec.ofInt 8 (IntKind.u8.wrap ((BitVec.ofInt 8 (byteAt (enc x.j).fst 0) &&& BitVec.ofInt 8 (15 : Int)).toNat : Int)) ||| BitVec.ofInt 8 (IntKind.u8.wrap (sub.tmod 16 * 16))).toNat : Int)).toNat)] ++ (enc x.j).fst.extract 1 (((enc x.j).fst.size : Int)).toNat) = K at *
      simp only [AllP, and_true, true_and, Bool.not_eq_false', Bool.not_eq_true', beq_iff_eq, bne_iff_ne, ne_eq, bne_eq_false_iff_eq, beq_eq_false_iff_ne, beqs, tbeq, decide_eq_true_eq, decide_eq_false_iff_not, ba_toList_beq, ba_none, size_app, size_1, ByteArray.size_extract, hmm, Bool.not_true, Bool.not_false, Bool.false_beq, Bool.true_beq]
      (repeat' apply And.intro) <;> first | assumption | omega
    · first | rfl | (simp only [SV.toV]; rw [hdK.2 (by assumption)]; rfl)
  by_cases t14 : ((enc x.j).fst ++ more.extract 0 mm.toNat).size = 14
  · by_cases k1 : sub.tmod 16 = 1
    · refine leaf (cut_10 x at_ more sub) ?_ rfl hargs ?_ rfl
      · simp only [hmm]
        generalize ((enc x.j).fst.extract 0 ((IntKind.i64.wrap at_).tmod ((enc x.j).fst.size : Int)).toNat) = T1 at *
        generalize ((enc x.j).fst ++ more.extract 0 mm.toNat) = T2 at *
        generalize (ByteArray.mk #[(UInt8.ofNat (IntKind.u8.wrap ((BitVec.ofInt 8 (IntKind.u8.wrap ((BitVec.ofInt 8 (byteAt (enc x.j).fst 0) &&& BitVec.ofInt 8 (15 : Int)).toNat : Int)) ||| BitVec.ofInt 8 (IntKind.u8.wrap (sub.tmod 16 * 16))).toNat : Int)).toNat)] ++ (enc x.j).fst.extract 1 (((enc x.j).fst.size : Int)).toNat) = K at *
        simp only [AllP, and_true, true_and, Bool.not_eq_false', Bool.not_eq_true', beq_iff_eq, bne_iff_ne, ne_eq, bne_eq_false_iff_eq, beq_eq_false_iff_ne, beqs, tbeq, decide_eq_true_eq, decide_eq_false_iff_not, ba_toList_beq, ba_none, size_app, size_1, ByteArray.size_extract, hmm, Bool.not_true, Bool.not_false, Bool.false_beq, Bool.true_beq]
        (repeat' apply And.intro) <;> first | assumption | omega
      · first | rfl | (simp only [SV.toV]; rw [hdK.2 (by assumption)]; rfl)
    refine leaf (cut_11 x at_ more sub) ?_ rfl hargs ?_ rfl
    · simp only [hmm]
      generalize ((enc x.j).fst.extract 0 ((IntKind.i64.wrap at_).tmod ((enc x.j).fst.size : Int)).toNat) = T1 at *
      generalize ((enc x.j).fst ++ more.extract 0 mm.toNat) = T2 at *
      generalize (ByteArray.mk #[(UInt8.ofNat (IntKind.u8.wrap ((BitVec.ofInt 8 (IntKind.u8.wrap ((BitVec.ofInt 8 (byteAt (enc x.j).fst 0) &&& BitVec.ofInt 8 (15 : Int)).toNat : Int)) ||| BitVec.ofInt 8 (IntKind.u8.wrap (sub.tmod 16 * 16))).toNat : Int)).toNat)] ++ (enc x.j).fst.extract 1 (((enc x.j).fst.size : Int)).toNat) = K at *
      simp only [AllP, and_true, true_and, Bool.not_eq_false', Bool.not_eq_true', beq_iff_eq, bne_iff_ne, ne_eq, bne_eq_false_iff_eq, beq_eq_false_iff_ne, beqs, tbeq, decide_eq_true_eq, decide_eq_false_iff_not, ba_toList_beq, ba_none, size_app, size_1, ByteArray.size_extract, hmm, Bool.not_true, Bool.not_false, Bool.false_beq, Bool.true_beq]
      (repeat' apply And.intro) <;> first | assumption | omega
    · first | rfl | (simp only [SV.toV]; rw [hdK.2 (by assumption)]; rfl)
  by_cases t22 : ((enc x.j).fst ++ more.extract 0 mm.toNat).size = 22
  · by_cases k1 : sub.tmod 16 = 1
    · refine leaf (cut_12 x at_ more sub) ?_ rfl hargs ?_ rfl
      · simp only [hmm]
        generalize ((enc x.j).fst.extract 0 ((IntKind.i64.wrap at_).tmod ((enc x.j).fst.size : Int)).toNat) = T1 at *
        generalize ((enc x.j).fst ++ more.extract 0 mm.toNat) = T2 at *
        generalize (ByteArray.mk #[(UInt8.ofNat (IntKind.u8.wrap ((BitVec.ofInt 8 (IntKind.u8.wrap ((BitVec.ofInt 8 (byteAt (enc x.j).fst 0) &&& BitVec.ofInt 8 (15 : Int)).toNat : Int)) ||| BitVec.ofInt 8 (IntKind.u8.wrap (sub.tmod 16 * 16))).toNat : Int)).toNat)] ++ (enc x.j).fst.extract 1 (((enc x.j).fst.size : Int)).toNat) = K at *
        simp only [AllP, and_true, true_and, Bool.not_eq_false', Bool.not_eq_true', beq_iff_eq, bne_iff_ne, ne_eq, bne_eq_false_iff_eq, beq_eq_false_iff_ne, beqs, tbeq, decide_eq_true_eq, decide_eq_false_iff_not, ba_toList_beq, ba_none, size_app, size_1, ByteArray.size_extract, hmm, Bool.not_true, Bool.not_false, Bool.false_beq, Bool.true_beq]
        (repeat' apply And.intro) <;> first | assumption | omega
      · first | rfl | (simp only [SV.toV]; rw [hdK.2 (by assumption)]; rfl)
    refine leaf (cut_13 x at_ more sub) ?_ rfl hargs ?_ rfl
    · simp only [hmm]
      generalize ((enc x.j).fst.extract 0 ((IntKind.i64.wrap at_).tmod ((enc x.j).fst.size : Int)).toNat) = T1 at *
      generalize ((enc x.j).fst ++ more.extract 0 mm.toNat) = T2 at *
      generalize (ByteArray.mk #[(UInt8.ofNat (IntKind.u8.wrap ((BitVec.ofInt 8 (IntKind.u8.wrap ((BitVec.ofInt 8 (byteAt (enc x.j).fst 0) &&& BitVec.ofInt 8 (15 : Int)).toNat : Int)) ||| BitVec.ofInt 8 (IntKind.u8.wrap (sub.tmod 16 * 16))).toNat : Int)).toNat)] ++ (enc x.j).fst.extract 1 (((enc x.j).fst.size : Int)).toNat) = K at *
      simp only [AllP, and_true, true_and, Bool.not_eq_false', Bool.not_eq_true', beq_iff_eq, bne_iff_ne, ne_eq, bne_eq_false_iff_eq, beq_eq_false_iff_ne, beqs, tbeq, decide_eq_true_eq, decide_eq_false_iff_not, ba_toList_beq, ba_none, size_app, size_1, ByteArray.size_extract, hmm, Bool.not_true, Bool.not_false, Bool.false_beq, Bool.true_beq]
      (repeat' apply And.intro) <;> first | assumption | omega
    · first | rfl | (simp only [SV.toV]; rw [hdK.2 (by assumption)]; rfl)
  by_cases k1 : sub.tmod 16 = 1
  · refine leaf (cut_14 x at_ more sub) ?_ rfl hargs ?_ rfl
    · simp only [hmm]
      generalize ((enc x.j).fst.extract 0 ((IntKind.i64.wrap at_).tmod ((enc x.j).fst.size : Int)).toNat) = T1 at *
      generalize ((enc x.j).fst ++ more.extract 0 mm.toNat) = T2 at *
      generalize (ByteArray.mk #[(UInt8.ofNat (IntKind.u8.wrap ((BitVec.ofInt 8 (IntKind.u8.wrap ((BitVec.ofInt 8 (byteAt (enc x.j).fst 0) &&& BitVec.ofInt 8 (15 : Int)).toNat : Int)) ||| BitVec.ofInt 8 (IntKind.u8.wrap (sub.tmod 16 * 16))).toNat : Int)).toNat)] ++ (enc x.j).fst.extract 1 (((enc x.j).fst.size : Int)).toNat) = K at *
      simp only [AllP, and_true, true_and, Bool.not_eq_false', Bool.not_eq_true', beq_iff_eq, bne_iff_ne, ne_eq, bne_eq_false_iff_eq, beq_eq_false_iff_ne, beqs, tbeq, decide_eq_true_eq, decide_eq_false_iff_not, ba_toList_beq, ba_none, size_app, size_1, ByteArray.size_extract, hmm, Bool.not_true, Bool.not_false, Bool.false_beq, Bool.true_beq]
      (repeat' apply And.intro) <;> first | assumption | omega
    · first | rfl | (simp only [SV.toV]; rw [hdK.2 (by assumption)]; rfl)
  refine leaf (cut_15 x at_ more sub) ?_ rfl hargs ?_ rfl
  · simp only [hmm]
    generalize ((enc x.j).fst.extract 0 ((IntKind.i64.wrap at_).tmod ((enc x.j).fst.size : Int)).toNat) = T1 at *
    generalize ((enc x.j).fst ++ more.extract 0 mm.toNat) = T2 at *
    generalize (ByteArray.mk #[(UInt8.ofNat (IntKind.u8.wrap ((BitVec.ofInt 8 (IntKind.u8.wrap ((BitVec.ofInt 8 (byteAt (enc x.j).fst 0) &&& BitVec.ofInt 8 (15 : Int)).toNat : Int)) ||| BitVec.ofInt 8 (IntKind.u8.wrap (sub.tmod 16 * 16))).toNat : Int)).toNat)] ++ (enc x.j).fst.extract 1 (((enc x.j).fst.size : Int)).toNat) = K at *
    simp only [AllP, and_true, true_and, Bool.not_eq_false', Bool.not_eq_true', beq_iff_eq, bne_iff_ne, ne_eq, bne_eq_false_iff_eq, beq_eq_false_iff_ne, beqs, tbeq, decide_eq_true_eq, decide_eq_false_iff_not, ba_toList_beq, ba_none, size_app, size_1, ByteArray.size_extract, hmm, Bool.not_true, Bool.not_false, Bool.false_beq, Bool.true_beq]
    (repeat' apply And.intro) <;> first | assumption | omega
  · first | rfl | (simp only [SV.toV]; rw [hdK.2 (by assumption)]; rfl)
end Go.Proofs.Ytmngnhbnicgjfaa
