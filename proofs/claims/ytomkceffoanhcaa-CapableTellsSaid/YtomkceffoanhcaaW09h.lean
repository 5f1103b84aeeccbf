/-
  Walks of functions, reckoned through, and what they give (part W09h). No condition beyond what each says. By an AI agent.
-/
import Derived.Test.YtomkceffoanhcaaW09d1
namespace Go.Proofs.Ytomkceffoanhcaa
open Go.Ex
open Go.RowKit (Below)
set_option linter.unusedVariables false
set_option linter.unusedSimpArgs false


def CV.none : CV := ⟨0, 0, false, false, 0, 0, 0, 0⟩
/-- What a text is read as. -/
def dec (s : ByteArray) : CV × Int :=
  if s.size = 0 then (.none, 4)
  else if (bAt s 0).toNat / 16 ≠ 0 then (.none, 7)
  else if s.size ≠ 2 ∧ s.size ≠ 10 ∧ s.size ≠ 18 ∧ s.size ≠ 20 ∧ s.size ≠ 22 then (.none, 5)
  else if (bAt s 1).toNat % 2 = 0 then (.none, 2)
  else if s.size = 2 then (⟨0, ((bAt s 0).toNat : Int) % 16, decide (128 ≤ (bAt s 1).toNat), decide ((bAt s 1).toNat / 32 % 2 = 1), 0, 0, 0, 0⟩, 0)
  else if s.size = 10 then (⟨1, ((bAt s 0).toNat : Int) % 16, decide (128 ≤ (bAt s 1).toNat), decide ((bAt s 1).toNat / 32 % 2 = 1), n8 (bAt s 2) (bAt s 3) (bAt s 4) (bAt s 5) (bAt s 6) (bAt s 7) (bAt s 8) (bAt s 9), 0, 0, 0⟩, 0)
  else if s.size = 18 then (⟨2, ((bAt s 0).toNat : Int) % 16, decide (128 ≤ (bAt s 1).toNat), decide ((bAt s 1).toNat / 32 % 2 = 1), n8 (bAt s 2) (bAt s 3) (bAt s 4) (bAt s 5) (bAt s 6) (bAt s 7) (bAt s 8) (bAt s 9), n8 (bAt s 10) (bAt s 11) (bAt s 12) (bAt s 13) (bAt s 14) (bAt s 15) (bAt s 16) (bAt s 17), 0, 0⟩, 0)
  else if s.size = 20 then (⟨3, ((bAt s 0).toNat : Int) % 16, decide (128 ≤ (bAt s 1).toNat), decide ((bAt s 1).toNat / 32 % 2 = 1), n8 (bAt s 2) (bAt s 3) (bAt s 4) (bAt s 5) (bAt s 6) (bAt s 7) (bAt s 8) (bAt s 9), n8 (bAt s 10) (bAt s 11) (bAt s 12) (bAt s 13) (bAt s 14) (bAt s 15) (bAt s 16) (bAt s 17), n2 (bAt s 18) (bAt s 19), 0⟩, 0)
  else (⟨4, ((bAt s 0).toNat : Int) % 16, decide (128 ≤ (bAt s 1).toNat), decide ((bAt s 1).toNat / 32 % 2 = 1), n8 (bAt s 2) (bAt s 3) (bAt s 4) (bAt s 5) (bAt s 6) (bAt s 7) (bAt s 8) (bAt s 9), n8 (bAt s 10) (bAt s 11) (bAt s 12) (bAt s 13) (bAt s 14) (bAt s 15) (bAt s 16) (bAt s 17), n2 (bAt s 18) (bAt s 19), n2 (bAt s 20) (bAt s 21)⟩, 0)

theorem d_byte (s : ByteArray) (h : ¬ s.size = 0) : byteAt s 0 = ((bAt s 0).toNat : Int) := byteAt_eq s 0 (by omega)
theorem andN (a : UInt8) (k : Nat) (hk : k < 256) : ((BitVec.ofInt 8 (a.toNat : Int) &&& BitVec.ofInt 8 (k : Int)).toNat) = a.toNat &&& k := by
  have := a.toNat_lt
  rw [BitVec.ofInt_natCast, BitVec.ofInt_natCast, BitVec.toNat_and, BitVec.toNat_ofNat, BitVec.toNat_ofNat, Nat.mod_eq_of_lt (by omega), Nat.mod_eq_of_lt (by omega)]
theorem and15 (a : Nat) : a &&& 15 = a % 16 := Nat.and_two_pow_sub_one_eq_mod a 4
theorem and32 (a : Nat) (h : a < 256) : (a &&& 32 ≠ 0) ↔ a / 32 % 2 = 1 := by
  have : ∀ x : Fin 256, (x.val &&& 32 ≠ 0) ↔ x.val / 32 % 2 = 1 := by decide +kernel
  exact this ⟨a, h⟩
theorem and128 (a : Nat) (h : a < 256) : (a &&& 128 ≠ 0) ↔ 128 ≤ a := by
  have : ∀ x : Fin 256, (x.val &&& 128 ≠ 0) ↔ 128 ≤ x.val := by decide +kernel
  exact this ⟨a, h⟩
def fb (a : UInt8) : Int := IntKind.u8.wrap (IntKind.u64.wrap ((BitVec.ofInt 64 (0 : Int) ||| BitVec.ofInt 64 (IntKind.u64.wrap (a.toNat : Int))).toNat : Int))
theorem fb_eq (a : UInt8) : IntKind.u8.wrap (IntKind.u64.wrap ((BitVec.ofInt 64 (0 : Int) ||| BitVec.ofInt 64 (IntKind.u64.wrap (a.toNat : Int))).toNat : Int)) = a.toNat := by
  rw [firstOr, wub, w8b]
theorem low1 (a : UInt8) : (IntKind.u8.wrap ((BitVec.ofInt 8 (a.toNat : Int) &&& BitVec.ofInt 8 (1 : Int)).toNat : Int)) = (a.toNat : Int) % 2 := by
  rw [and1, wu8]; omega
theorem low15 (a : UInt8) : (IntKind.u8.wrap ((BitVec.ofInt 8 (a.toNat : Int) &&& BitVec.ofInt 8 (15 : Int)).toNat : Int)) = (a.toNat : Int) % 16 := by
  rw [show ((BitVec.ofInt 8 (a.toNat : Int) &&& BitVec.ofInt 8 (15 : Int)).toNat) = a.toNat &&& 15 from andN a 15 (by decide), and15, wu8]; omega
theorem b128 (a : UInt8) : (IntKind.u8.wrap ((BitVec.ofInt 8 (a.toNat : Int) &&& BitVec.ofInt 8 (128 : Int)).toNat : Int) != 0) = decide (128 ≤ a.toNat) := by
  have h := a.toNat_lt
  rw [show ((BitVec.ofInt 8 (a.toNat : Int) &&& BitVec.ofInt 8 (128 : Int)).toNat) = a.toNat &&& 128 from andN a 128 (by decide), wu8, Bool.eq_iff_iff]
  have h2 : a.toNat &&& 128 ≤ 128 := Nat.and_le_right
  simp only [bne_iff_ne, ne_eq, decide_eq_true_eq]
  rw [← and128 _ h]; omega
theorem b32 (a : UInt8) : (IntKind.u8.wrap ((BitVec.ofInt 8 (a.toNat : Int) &&& BitVec.ofInt 8 (32 : Int)).toNat : Int) != 0) = decide (a.toNat / 32 % 2 = 1) := by
  have h := a.toNat_lt
  rw [show ((BitVec.ofInt 8 (a.toNat : Int) &&& BitVec.ofInt 8 (32 : Int)).toNat) = a.toNat &&& 32 from andN a 32 (by decide), wu8, Bool.eq_iff_iff]
  have h2 : a.toNat &&& 32 ≤ 32 := Nat.and_le_right
  simp only [bne_iff_ne, ne_eq, decide_eq_true_eq]
  rw [← and32 _ h]; omega
theorem wi16 (a : UInt8) : IntKind.i64.wrap ((a.toNat : Int) % 16) = (a.toNat : Int) % 16 := by rw [wi64]; omega
theorem win2 (a b : UInt8) : IntKind.i64.wrap (n2 a b) = n2 a b := by have := n2_range a b; rw [wi64]; omega

theorem cd2_calls (s : ByteArray) (h : s.size = 2) (w : World) :
    Calls Try.prog 12 #[.string s] w (fun e w' => e = .returned (.tuple #[(dec s).1.v, .int .i64 (dec s).2]) ∧ Below w.heap.size w w') := by
  have hsp := spelled s h
  have hb := byte_lt (bAt s 0)
  have hb1 := byte_lt (bAt s 1)
  have hargs : Rs [] [.bts false [bAt s 0, bAt s 1]] [.string s] := Rs.cons (by simp only [R]; exact congrArg Value.string hsp) Rs.nil
  have hne : ((ByteArray.mk #[bAt s 0, bAt s 1]).toList == (ByteArray.mk (ByteArray.mk #[]).data.toList.toArray).toList) = false := by
    rw [ba_toList_beq, decide_eq_false_iff_not, ba_none]; show ¬ (2 = 0); decide

  rcases Bool.eq_false_or_eq_true ((ByteArray.mk #[Go.Ex.bAt s (0 : Nat), Go.Ex.bAt s (1 : Nat)]).toList == (ByteArray.mk (ByteArray.mk #[]).data.toList.toArray).toList) with hb0 | hb0
  · have c0 := hb0
    try simp only [decide_eq_true_eq, decide_eq_false_iff_not, beq_iff_eq, bne_iff_ne, ne_eq, beq_eq_false_iff_ne, bne_eq_false_iff_eq, Bool.not_eq_true', Bool.not_eq_false', Bool.false_eq_true, if_false, Bool.and_true, Bool.true_and, ba_beq, ba_toList_beq, ba_none, wi64, Bool.and_eq_true, Bool.and_eq_false_imp, Bool.not_eq_true, Bool.not_eq_false, beq_self_eq_true, Int.ofNat_eq_natCast, fd16, tdB, tmB, fb_eq, low1] at c0
    rw [hne] at hb0; cases hb0
  · have c0 := hb0
    try simp only [decide_eq_true_eq, decide_eq_false_iff_not, beq_iff_eq, bne_iff_ne, ne_eq, beq_eq_false_iff_ne, bne_eq_false_iff_eq, Bool.not_eq_true', Bool.not_eq_false', Bool.false_eq_true, if_false, Bool.and_true, Bool.true_and, ba_beq, ba_toList_beq, ba_none, wi64, Bool.and_eq_true, Bool.and_eq_false_imp, Bool.not_eq_true, Bool.not_eq_false, beq_self_eq_true, Int.ofNat_eq_natCast, fd16, tdB, tmB, fb_eq, low1] at c0
    rcases Bool.eq_false_or_eq_true ((↑(Go.Ex.bAt s (0 : Nat)).toNat : Int).fdiv (16 : Int) != (0 : Int)) with hb1 | hb1
    · have c1 := hb1
      try simp only [decide_eq_true_eq, decide_eq_false_iff_not, beq_iff_eq, bne_iff_ne, ne_eq, beq_eq_false_iff_ne, bne_eq_false_iff_eq, Bool.not_eq_true', Bool.not_eq_false', Bool.false_eq_true, if_false, Bool.and_true, Bool.true_and, ba_beq, ba_toList_beq, ba_none, wi64, Bool.and_eq_true, Bool.and_eq_false_imp, Bool.not_eq_true, Bool.not_eq_false, beq_self_eq_true, Int.ofNat_eq_natCast, fd16, tdB, tmB, fb_eq, low1] at c1
      exact leaf (cd2_1 s) (by simp only [AllP, and_true]; (repeat' apply And.intro) <;> first | assumption | rfl | omega) rfl hargs (by rw [dec, if_neg (by omega), if_pos (by omega)]; (first | rfl | (simp only [SV.toV, toVs, CV.v, or8]; (try simp only [or2, fb_eq, low15, b128, b32]); (try simp only [w64n8, w64n2, w16n2, win2, wi16]); (try rfl)))) rfl
    · have c1 := hb1
      try simp only [decide_eq_true_eq, decide_eq_false_iff_not, beq_iff_eq, bne_iff_ne, ne_eq, beq_eq_false_iff_ne, bne_eq_false_iff_eq, Bool.not_eq_true', Bool.not_eq_false', Bool.false_eq_true, if_false, Bool.and_true, Bool.true_and, ba_beq, ba_toList_beq, ba_none, wi64, Bool.and_eq_true, Bool.and_eq_false_imp, Bool.not_eq_true, Bool.not_eq_false, beq_self_eq_true, Int.ofNat_eq_natCast, fd16, tdB, tmB, fb_eq, low1] at c1
      rcases Bool.eq_false_or_eq_true (Go.IntKind.u8.wrap (↑(BitVec.ofInt (8 : Nat) (Go.IntKind.u8.wrap (Go.IntKind.u64.wrap (↑(BitVec.ofInt (64 : Nat) (0 : Int) ||| BitVec.ofInt (64 : Nat) (Go.IntKind.u64.wrap (↑(Go.Ex.bAt s (1 : Nat)).toNat : Int))).toNat : Int))) &&& BitVec.ofInt (8 : Nat) (1 : Int)).toNat : Int) == (0 : Int)) with hb2 | hb2
      · have c2 := hb2
        try simp only [decide_eq_true_eq, decide_eq_false_iff_not, beq_iff_eq, bne_iff_ne, ne_eq, beq_eq_false_iff_ne, bne_eq_false_iff_eq, Bool.not_eq_true', Bool.not_eq_false', Bool.false_eq_true, if_false, Bool.and_true, Bool.true_and, ba_beq, ba_toList_beq, ba_none, wi64, Bool.and_eq_true, Bool.and_eq_false_imp, Bool.not_eq_true, Bool.not_eq_false, beq_self_eq_true, Int.ofNat_eq_natCast, fd16, tdB, tmB, fb_eq, low1] at c2
        exact leaf (cd2_2 s) (by simp only [AllP, and_true]; (repeat' apply And.intro) <;> first | assumption | rfl | omega) rfl hargs (by rw [dec, if_neg (by omega), if_neg (by omega), if_neg (by omega), if_pos (by omega)]; (first | rfl | (simp only [SV.toV, toVs, CV.v, or8]; (try simp only [or2, fb_eq, low15, b128, b32]); (try simp only [w64n8, w64n2, w16n2, win2, wi16]); (try rfl)))) rfl
      · have c2 := hb2
        try simp only [decide_eq_true_eq, decide_eq_false_iff_not, beq_iff_eq, bne_iff_ne, ne_eq, beq_eq_false_iff_ne, bne_eq_false_iff_eq, Bool.not_eq_true', Bool.not_eq_false', Bool.false_eq_true, if_false, Bool.and_true, Bool.true_and, ba_beq, ba_toList_beq, ba_none, wi64, Bool.and_eq_true, Bool.and_eq_false_imp, Bool.not_eq_true, Bool.not_eq_false, beq_self_eq_true, Int.ofNat_eq_natCast, fd16, tdB, tmB, fb_eq, low1] at c2
        exact leaf (cd2_0 s) (by simp only [AllP, and_true]; (repeat' apply And.intro) <;> first | assumption | rfl | omega) rfl hargs (by rw [dec, if_neg (by omega), if_neg (by omega), if_neg (by omega), if_neg (by omega), if_pos (by omega)]; (first | rfl | (simp only [SV.toV, toVs, CV.v, or8]; (try simp only [or2, fb_eq, low15, b128, b32]); (try simp only [w64n8, w64n2, w16n2, win2, wi16]); (try rfl)))) rfl

theorem cd10_calls (s : ByteArray) (h : s.size = 10) (w : World) :
    Calls Try.prog 12 #[.string s] w (fun e w' => e = .returned (.tuple #[(dec s).1.v, .int .i64 (dec s).2]) ∧ Below w.heap.size w w') := by
  have hsp := spelled s h
  have hb := byte_lt (bAt s 0)
  have hb1 := byte_lt (bAt s 1)
  have hargs : Rs [] [.bts false [bAt s 0, bAt s 1, bAt s 2, bAt s 3, bAt s 4, bAt s 5, bAt s 6, bAt s 7, bAt s 8, bAt s 9]] [.string s] := Rs.cons (by simp only [R]; exact congrArg Value.string hsp) Rs.nil
  have hne : ((ByteArray.mk #[bAt s 0, bAt s 1, bAt s 2, bAt s 3, bAt s 4, bAt s 5, bAt s 6, bAt s 7, bAt s 8, bAt s 9]).toList == (ByteArray.mk (ByteArray.mk #[]).data.toList.toArray).toList) = false := by
    rw [ba_toList_beq, decide_eq_false_iff_not, ba_none]; show ¬ (10 = 0); decide

  rcases Bool.eq_false_or_eq_true ((ByteArray.mk #[Go.Ex.bAt s (0 : Nat), Go.Ex.bAt s (1 : Nat), Go.Ex.bAt s (2 : Nat), Go.Ex.bAt s (3 : Nat), Go.Ex.bAt s (4 : Nat), Go.Ex.bAt s (5 : Nat), Go.Ex.bAt s (6 : Nat), Go.Ex.bAt s (7 : Nat), Go.Ex.bAt s (8 : Nat), Go.Ex.bAt s (9 : Nat)]).toList == (ByteArray.mk (ByteArray.mk #[]).data.toList.toArray).toList) with hb0 | hb0
  · have c0 := hb0
    try simp only [decide_eq_true_eq, decide_eq_false_iff_not, beq_iff_eq, bne_iff_ne, ne_eq, beq_eq_false_iff_ne, bne_eq_false_iff_eq, Bool.not_eq_true', Bool.not_eq_false', Bool.false_eq_true, if_false, Bool.and_true, Bool.true_and, ba_beq, ba_toList_beq, ba_none, wi64, Bool.and_eq_true, Bool.and_eq_false_imp, Bool.not_eq_true, Bool.not_eq_false, beq_self_eq_true, Int.ofNat_eq_natCast, fd16, tdB, tmB, fb_eq, low1] at c0
    rw [hne] at hb0; cases hb0
  · have c0 := hb0
    try simp only [decide_eq_true_eq, decide_eq_false_iff_not, beq_iff_eq, bne_iff_ne, ne_eq, beq_eq_false_iff_ne, bne_eq_false_iff_eq, Bool.not_eq_true', Bool.not_eq_false', Bool.false_eq_true, if_false, Bool.and_true, Bool.true_and, ba_beq, ba_toList_beq, ba_none, wi64, Bool.and_eq_true, Bool.and_eq_false_imp, Bool.not_eq_true, Bool.not_eq_false, beq_self_eq_true, Int.ofNat_eq_natCast, fd16, tdB, tmB, fb_eq, low1] at c0
    rcases Bool.eq_false_or_eq_true ((↑(Go.Ex.bAt s (0 : Nat)).toNat : Int).fdiv (16 : Int) != (0 : Int)) with hb1 | hb1
    · have c1 := hb1
      try simp only [decide_eq_true_eq, decide_eq_false_iff_not, beq_iff_eq, bne_iff_ne, ne_eq, beq_eq_false_iff_ne, bne_eq_false_iff_eq, Bool.not_eq_true', Bool.not_eq_false', Bool.false_eq_true, if_false, Bool.and_true, Bool.true_and, ba_beq, ba_toList_beq, ba_none, wi64, Bool.and_eq_true, Bool.and_eq_false_imp, Bool.not_eq_true, Bool.not_eq_false, beq_self_eq_true, Int.ofNat_eq_natCast, fd16, tdB, tmB, fb_eq, low1] at c1
      exact leaf (cd10_1 s) (by simp only [AllP, and_true]; (repeat' apply And.intro) <;> first | assumption | rfl | omega) rfl hargs (by rw [dec, if_neg (by omega), if_pos (by omega)]; (first | rfl | (simp only [SV.toV, toVs, CV.v, or8]; (try simp only [or2, fb_eq, low15, b128, b32]); (try simp only [w64n8, w64n2, w16n2, win2, wi16]); (try rfl)))) rfl
    · have c1 := hb1
      try simp only [decide_eq_true_eq, decide_eq_false_iff_not, beq_iff_eq, bne_iff_ne, ne_eq, beq_eq_false_iff_ne, bne_eq_false_iff_eq, Bool.not_eq_true', Bool.not_eq_false', Bool.false_eq_true, if_false, Bool.and_true, Bool.true_and, ba_beq, ba_toList_beq, ba_none, wi64, Bool.and_eq_true, Bool.and_eq_false_imp, Bool.not_eq_true, Bool.not_eq_false, beq_self_eq_true, Int.ofNat_eq_natCast, fd16, tdB, tmB, fb_eq, low1] at c1
      rcases Bool.eq_false_or_eq_true (Go.IntKind.u8.wrap (↑(BitVec.ofInt (8 : Nat) (Go.IntKind.u8.wrap (Go.IntKind.u64.wrap (↑(BitVec.ofInt (64 : Nat) (0 : Int) ||| BitVec.ofInt (64 : Nat) (Go.IntKind.u64.wrap (↑(Go.Ex.bAt s (1 : Nat)).toNat : Int))).toNat : Int))) &&& BitVec.ofInt (8 : Nat) (1 : Int)).toNat : Int) == (0 : Int)) with hb2 | hb2
      · have c2 := hb2
        try simp only [decide_eq_true_eq, decide_eq_false_iff_not, beq_iff_eq, bne_iff_ne, ne_eq, beq_eq_false_iff_ne, bne_eq_false_iff_eq, Bool.not_eq_true', Bool.not_eq_false', Bool.false_eq_true, if_false, Bool.and_true, Bool.true_and, ba_beq, ba_toList_beq, ba_none, wi64, Bool.and_eq_true, Bool.and_eq_false_imp, Bool.not_eq_true, Bool.not_eq_false, beq_self_eq_true, Int.ofNat_eq_natCast, fd16, tdB, tmB, fb_eq, low1] at c2
        exact leaf (cd10_2 s) (by simp only [AllP, and_true]; (repeat' apply And.intro) <;> first | assumption | rfl | omega) rfl hargs (by rw [dec, if_neg (by omega), if_neg (by omega), if_neg (by omega), if_pos (by omega)]; (first | rfl | (simp only [SV.toV, toVs, CV.v, or8]; (try simp only [or2, fb_eq, low15, b128, b32]); (try simp only [w64n8, w64n2, w16n2, win2, wi16]); (try rfl)))) rfl
      · have c2 := hb2
        try simp only [decide_eq_true_eq, decide_eq_false_iff_not, beq_iff_eq, bne_iff_ne, ne_eq, beq_eq_false_iff_ne, bne_eq_false_iff_eq, Bool.not_eq_true', Bool.not_eq_false', Bool.false_eq_true, if_false, Bool.and_true, Bool.true_and, ba_beq, ba_toList_beq, ba_none, wi64, Bool.and_eq_true, Bool.and_eq_false_imp, Bool.not_eq_true, Bool.not_eq_false, beq_self_eq_true, Int.ofNat_eq_natCast, fd16, tdB, tmB, fb_eq, low1] at c2
        exact leaf (cd10_0 s) (by simp only [AllP, and_true]; (repeat' apply And.intro) <;> first | assumption | rfl | omega) rfl hargs (by rw [dec, if_neg (by omega), if_neg (by omega), if_neg (by omega), if_neg (by omega), if_neg (by omega), if_pos (by omega)]; (first | rfl | (simp only [SV.toV, toVs, CV.v, or8]; (try simp only [or2, fb_eq, low15, b128, b32]); (try simp only [w64n8, w64n2, w16n2, win2, wi16]); (try rfl)))) rfl

theorem cd18_calls (s : ByteArray) (h : s.size = 18) (w : World) :
    Calls Try.prog 12 #[.string s] w (fun e w' => e = .returned (.tuple #[(dec s).1.v, .int .i64 (dec s).2]) ∧ Below w.heap.size w w') := by
  have hsp := spelled s h
  have hb := byte_lt (bAt s 0)
  have hb1 := byte_lt (bAt s 1)
  have hargs : Rs [] [.bts false [bAt s 0, bAt s 1, bAt s 2, bAt s 3, bAt s 4, bAt s 5, bAt s 6, bAt s 7, bAt s 8, bAt s 9, bAt s 10, bAt s 11, bAt s 12, bAt s 13, bAt s 14, bAt s 15, bAt s 16, bAt s 17]] [.string s] := Rs.cons (by simp only [R]; exact congrArg Value.string hsp) Rs.nil
  have hne : ((ByteArray.mk #[bAt s 0, bAt s 1, bAt s 2, bAt s 3, bAt s 4, bAt s 5, bAt s 6, bAt s 7, bAt s 8, bAt s 9, bAt s 10, bAt s 11, bAt s 12, bAt s 13, bAt s 14, bAt s 15, bAt s 16, bAt s 17]).toList == (ByteArray.mk (ByteArray.mk #[]).data.toList.toArray).toList) = false := by
    rw [ba_toList_beq, decide_eq_false_iff_not, ba_none]; show ¬ (18 = 0); decide

  rcases Bool.eq_false_or_eq_true ((ByteArray.mk #[Go.Ex.bAt s (0 : Nat), Go.Ex.bAt s (1 : Nat), Go.Ex.bAt s (2 : Nat), Go.Ex.bAt s (3 : Nat), Go.Ex.bAt s (4 : Nat), Go.Ex.bAt s (5 : Nat), Go.Ex.bAt s (6 : Nat), Go.Ex.bAt s (7 : Nat), Go.Ex.bAt s (8 : Nat), Go.Ex.bAt s (9 : Nat), Go.Ex.bAt s (10 : Nat), Go.Ex.bAt s (11 : Nat), Go.Ex.bAt s (12 : Nat), Go.Ex.bAt s (13 : Nat), Go.Ex.bAt s (14 : Nat), Go.Ex.bAt s (15 : Nat), Go.Ex.bAt s (16 : Nat), Go.Ex.bAt s (17 : Nat)]).toList == (ByteArray.mk (ByteArray.mk #[]).data.toList.toArray).toList) with hb0 | hb0
  · have c0 := hb0
    try simp only [decide_eq_true_eq, decide_eq_false_iff_not, beq_iff_eq, bne_iff_ne, ne_eq, beq_eq_false_iff_ne, bne_eq_false_iff_eq, Bool.not_eq_true', Bool.not_eq_false', Bool.false_eq_true, if_false, Bool.and_true, Bool.true_and, ba_beq, ba_toList_beq, ba_none, wi64, Bool.and_eq_true, Bool.and_eq_false_imp, Bool.not_eq_true, Bool.not_eq_false, beq_self_eq_true, Int.ofNat_eq_natCast, fd16, tdB, tmB, fb_eq, low1] at c0
    rw [hne] at hb0; cases hb0
  · have c0 := hb0
    try simp only [decide_eq_true_eq, decide_eq_false_iff_not, beq_iff_eq, bne_iff_ne, ne_eq, beq_eq_false_iff_ne, bne_eq_false_iff_eq, Bool.not_eq_true', Bool.not_eq_false', Bool.false_eq_true, if_false, Bool.and_true, Bool.true_and, ba_beq, ba_toList_beq, ba_none, wi64, Bool.and_eq_true, Bool.and_eq_false_imp, Bool.not_eq_true, Bool.not_eq_false, beq_self_eq_true, Int.ofNat_eq_natCast, fd16, tdB, tmB, fb_eq, low1] at c0
    rcases Bool.eq_false_or_eq_true ((↑(Go.Ex.bAt s (0 : Nat)).toNat : Int).fdiv (16 : Int) != (0 : Int)) with hb1 | hb1
    · have c1 := hb1
      try simp only [decide_eq_true_eq, decide_eq_false_iff_not, beq_iff_eq, bne_iff_ne, ne_eq, beq_eq_false_iff_ne, bne_eq_false_iff_eq, Bool.not_eq_true', Bool.not_eq_false', Bool.false_eq_true, if_false, Bool.and_true, Bool.true_and, ba_beq, ba_toList_beq, ba_none, wi64, Bool.and_eq_true, Bool.and_eq_false_imp, Bool.not_eq_true, Bool.not_eq_false, beq_self_eq_true, Int.ofNat_eq_natCast, fd16, tdB, tmB, fb_eq, low1] at c1
      exact leaf (cd18_1 s) (by simp only [AllP, and_true]; (repeat' apply And.intro) <;> first | assumption | rfl | omega) rfl hargs (by rw [dec, if_neg (by omega), if_pos (by omega)]; (first | rfl | (simp only [SV.toV, toVs, CV.v, or8]; (try simp only [or2, fb_eq, low15, b128, b32]); (try simp only [w64n8, w64n2, w16n2, win2, wi16]); (try rfl)))) rfl
    · have c1 := hb1
      try simp only [decide_eq_true_eq, decide_eq_false_iff_not, beq_iff_eq, bne_iff_ne, ne_eq, beq_eq_false_iff_ne, bne_eq_false_iff_eq, Bool.not_eq_true', Bool.not_eq_false', Bool.false_eq_true, if_false, Bool.and_true, Bool.true_and, ba_beq, ba_toList_beq, ba_none, wi64, Bool.and_eq_true, Bool.and_eq_false_imp, Bool.not_eq_true, Bool.not_eq_false, beq_self_eq_true, Int.ofNat_eq_natCast, fd16, tdB, tmB, fb_eq, low1] at c1
      rcases Bool.eq_false_or_eq_true (Go.IntKind.u8.wrap (↑(BitVec.ofInt (8 : Nat) (Go.IntKind.u8.wrap (Go.IntKind.u64.wrap (↑(BitVec.ofInt (64 : Nat) (0 : Int) ||| BitVec.ofInt (64 : Nat) (Go.IntKind.u64.wrap (↑(Go.Ex.bAt s (1 : Nat)).toNat : Int))).toNat : Int))) &&& BitVec.ofInt (8 : Nat) (1 : Int)).toNat : Int) == (0 : Int)) with hb2 | hb2
      · have c2 := hb2
        try simp only [decide_eq_true_eq, decide_eq_false_iff_not, beq_iff_eq, bne_iff_ne, ne_eq, beq_eq_false_iff_ne, bne_eq_false_iff_eq, Bool.not_eq_true', Bool.not_eq_false', Bool.false_eq_true, if_false, Bool.and_true, Bool.true_and, ba_beq, ba_toList_beq, ba_none, wi64, Bool.and_eq_true, Bool.and_eq_false_imp, Bool.not_eq_true, Bool.not_eq_false, beq_self_eq_true, Int.ofNat_eq_natCast, fd16, tdB, tmB, fb_eq, low1] at c2
        exact leaf (cd18_2 s) (by simp only [AllP, and_true]; (repeat' apply And.intro) <;> first | assumption | rfl | omega) rfl hargs (by rw [dec, if_neg (by omega), if_neg (by omega), if_neg (by omega), if_pos (by omega)]; (first | rfl | (simp only [SV.toV, toVs, CV.v, or8]; (try simp only [or2, fb_eq, low15, b128, b32]); (try simp only [w64n8, w64n2, w16n2, win2, wi16]); (try rfl)))) rfl
      · have c2 := hb2
        try simp only [decide_eq_true_eq, decide_eq_false_iff_not, beq_iff_eq, bne_iff_ne, ne_eq, beq_eq_false_iff_ne, bne_eq_false_iff_eq, Bool.not_eq_true', Bool.not_eq_false', Bool.false_eq_true, if_false, Bool.and_true, Bool.true_and, ba_beq, ba_toList_beq, ba_none, wi64, Bool.and_eq_true, Bool.and_eq_false_imp, Bool.not_eq_true, Bool.not_eq_false, beq_self_eq_true, Int.ofNat_eq_natCast, fd16, tdB, tmB, fb_eq, low1] at c2
        exact leaf (cd18_0 s) (by simp only [AllP, and_true]; (repeat' apply And.intro) <;> first | assumption | rfl | omega) rfl hargs (by rw [dec, if_neg (by omega), if_neg (by omega), if_neg (by omega), if_neg (by omega), if_neg (by omega), if_neg (by omega), if_pos (by omega)]; (first | rfl | (simp only [SV.toV, toVs, CV.v, or8]; (try simp only [or2, fb_eq, low15, b128, b32]); (try simp only [w64n8, w64n2, w16n2, win2, wi16]); (try rfl)))) rfl

theorem cd20_calls (s : ByteArray) (h : s.size = 20) (w : World) :
    Calls Try.prog 12 #[.string s] w (fun e w' => e = .returned (.tuple #[(dec s).1.v, .int .i64 (dec s).2]) ∧ Below w.heap.size w w') := by
  have hsp := spelled s h
  have hb := byte_lt (bAt s 0)
  have hb1 := byte_lt (bAt s 1)
  have hargs : Rs [] [.bts false [bAt s 0, bAt s 1, bAt s 2, bAt s 3, bAt s 4, bAt s 5, bAt s 6, bAt s 7, bAt s 8, bAt s 9, bAt s 10, bAt s 11, bAt s 12, bAt s 13, bAt s 14, bAt s 15, bAt s 16, bAt s 17, bAt s 18, bAt s 19]] [.string s] := Rs.cons (by simp only [R]; exact congrArg Value.string hsp) Rs.nil
  have hne : ((ByteArray.mk #[bAt s 0, bAt s 1, bAt s 2, bAt s 3, bAt s 4, bAt s 5, bAt s 6, bAt s 7, bAt s 8, bAt s 9, bAt s 10, bAt s 11, bAt s 12, bAt s 13, bAt s 14, bAt s 15, bAt s 16, bAt s 17, bAt s 18, bAt s 19]).toList == (ByteArray.mk (ByteArray.mk #[]).data.toList.toArray).toList) = false := by
    rw [ba_toList_beq, decide_eq_false_iff_not, ba_none]; show ¬ (20 = 0); decide

  rcases Bool.eq_false_or_eq_true ((ByteArray.mk #[Go.Ex.bAt s (0 : Nat), Go.Ex.bAt s (1 : Nat), Go.Ex.bAt s (2 : Nat), Go.Ex.bAt s (3 : Nat), Go.Ex.bAt s (4 : Nat), Go.Ex.bAt s (5 : Nat), Go.Ex.bAt s (6 : Nat), Go.Ex.bAt s (7 : Nat), Go.Ex.bAt s (8 : Nat), Go.Ex.bAt s (9 : Nat), Go.Ex.bAt s (10 : Nat), Go.Ex.bAt s (11 : Nat), Go.Ex.bAt s (12 : Nat), Go.Ex.bAt s (13 : Nat), Go.Ex.bAt s (14 : Nat), Go.Ex.bAt s (15 : Nat), Go.Ex.bAt s (16 : Nat), Go.Ex.bAt s (17 : Nat), Go.Ex.bAt s (18 : Nat), Go.Ex.bAt s (19 : Nat)]).toList == (ByteArray.mk (ByteArray.mk #[]).data.toList.toArray).toList) with hb0 | hb0
  · have c0 := hb0
    try simp only [decide_eq_true_eq, decide_eq_false_iff_not, beq_iff_eq, bne_iff_ne, ne_eq, beq_eq_false_iff_ne, bne_eq_false_iff_eq, Bool.not_eq_true', Bool.not_eq_false', Bool.false_eq_true, if_false, Bool.and_true, Bool.true_and, ba_beq, ba_toList_beq, ba_none, wi64, Bool.and_eq_true, Bool.and_eq_false_imp, Bool.not_eq_true, Bool.not_eq_false, beq_self_eq_true, Int.ofNat_eq_natCast, fd16, tdB, tmB, fb_eq, low1] at c0
    rw [hne] at hb0; cases hb0
  · have c0 := hb0
    try simp only [decide_eq_true_eq, decide_eq_false_iff_not, beq_iff_eq, bne_iff_ne, ne_eq, beq_eq_false_iff_ne, bne_eq_false_iff_eq, Bool.not_eq_true', Bool.not_eq_false', Bool.false_eq_true, if_false, Bool.and_true, Bool.true_and, ba_beq, ba_toList_beq, ba_none, wi64, Bool.and_eq_true, Bool.and_eq_false_imp, Bool.not_eq_true, Bool.not_eq_false, beq_self_eq_true, Int.ofNat_eq_natCast, fd16, tdB, tmB, fb_eq, low1] at c0
    rcases Bool.eq_false_or_eq_true ((↑(Go.Ex.bAt s (0 : Nat)).toNat : Int).fdiv (16 : Int) != (0 : Int)) with hb1 | hb1
    · have c1 := hb1
      try simp only [decide_eq_true_eq, decide_eq_false_iff_not, beq_iff_eq, bne_iff_ne, ne_eq, beq_eq_false_iff_ne, bne_eq_false_iff_eq, Bool.not_eq_true', Bool.not_eq_false', Bool.false_eq_true, if_false, Bool.and_true, Bool.true_and, ba_beq, ba_toList_beq, ba_none, wi64, Bool.and_eq_true, Bool.and_eq_false_imp, Bool.not_eq_true, Bool.not_eq_false, beq_self_eq_true, Int.ofNat_eq_natCast, fd16, tdB, tmB, fb_eq, low1] at c1
      exact leaf (cd20_1 s) (by simp only [AllP, and_true]; (repeat' apply And.intro) <;> first | assumption | rfl | omega) rfl hargs (by rw [dec, if_neg (by omega), if_pos (by omega)]; (first | rfl | (simp only [SV.toV, toVs, CV.v, or8]; (try simp only [or2, fb_eq, low15, b128, b32]); (try simp only [w64n8, w64n2, w16n2, win2, wi16]); (try rfl)))) rfl
    · have c1 := hb1
      try simp only [decide_eq_true_eq, decide_eq_false_iff_not, beq_iff_eq, bne_iff_ne, ne_eq, beq_eq_false_iff_ne, bne_eq_false_iff_eq, Bool.not_eq_true', Bool.not_eq_false', Bool.false_eq_true, if_false, Bool.and_true, Bool.true_and, ba_beq, ba_toList_beq, ba_none, wi64, Bool.and_eq_true, Bool.and_eq_false_imp, Bool.not_eq_true, Bool.not_eq_false, beq_self_eq_true, Int.ofNat_eq_natCast, fd16, tdB, tmB, fb_eq, low1] at c1
      rcases Bool.eq_false_or_eq_true (Go.IntKind.u8.wrap (↑(BitVec.ofInt (8 : Nat) (Go.IntKind.u8.wrap (Go.IntKind.u64.wrap (↑(BitVec.ofInt (64 : Nat) (0 : Int) ||| BitVec.ofInt (64 : Nat) (Go.IntKind.u64.wrap (↑(Go.Ex.bAt s (1 : Nat)).toNat : Int))).toNat : Int))) &&& BitVec.ofInt (8 : Nat) (1 : Int)).toNat : Int) == (0 : Int)) with hb2 | hb2
      · have c2 := hb2
        try simp only [decide_eq_true_eq, decide_eq_false_iff_not, beq_iff_eq, bne_iff_ne, ne_eq, beq_eq_false_iff_ne, bne_eq_false_iff_eq, Bool.not_eq_true', Bool.not_eq_false', Bool.false_eq_true, if_false, Bool.and_true, Bool.true_and, ba_beq, ba_toList_beq, ba_none, wi64, Bool.and_eq_true, Bool.and_eq_false_imp, Bool.not_eq_true, Bool.not_eq_false, beq_self_eq_true, Int.ofNat_eq_natCast, fd16, tdB, tmB, fb_eq, low1] at c2
        exact leaf (cd20_2 s) (by simp only [AllP, and_true]; (repeat' apply And.intro) <;> first | assumption | rfl | omega) rfl hargs (by rw [dec, if_neg (by omega), if_neg (by omega), if_neg (by omega), if_pos (by omega)]; (first | rfl | (simp only [SV.toV, toVs, CV.v, or8]; (try simp only [or2, fb_eq, low15, b128, b32]); (try simp only [w64n8, w64n2, w16n2, win2, wi16]); (try rfl)))) rfl
      · have c2 := hb2
        try simp only [decide_eq_true_eq, decide_eq_false_iff_not, beq_iff_eq, bne_iff_ne, ne_eq, beq_eq_false_iff_ne, bne_eq_false_iff_eq, Bool.not_eq_true', Bool.not_eq_false', Bool.false_eq_true, if_false, Bool.and_true, Bool.true_and, ba_beq, ba_toList_beq, ba_none, wi64, Bool.and_eq_true, Bool.and_eq_false_imp, Bool.not_eq_true, Bool.not_eq_false, beq_self_eq_true, Int.ofNat_eq_natCast, fd16, tdB, tmB, fb_eq, low1] at c2
        exact leaf (cd20_0 s) (by simp only [AllP, and_true]; (repeat' apply And.intro) <;> first | assumption | rfl | omega) rfl hargs (by rw [dec, if_neg (by omega), if_neg (by omega), if_neg (by omega), if_neg (by omega), if_neg (by omega), if_neg (by omega), if_neg (by omega), if_pos (by omega)]; (first | rfl | (simp only [SV.toV, toVs, CV.v, or8]; (try simp only [or2, fb_eq, low15, b128, b32]); (try simp only [w64n8, w64n2, w16n2, win2, wi16]); (try rfl)))) rfl

theorem cd22_calls (s : ByteArray) (h : s.size = 22) (w : World) :
    Calls Try.prog 12 #[.string s] w (fun e w' => e = .returned (.tuple #[(dec s).1.v, .int .i64 (dec s).2]) ∧ Below w.heap.size w w') := by
  have hsp := spelled s h
  have hb := byte_lt (bAt s 0)
  have hb1 := byte_lt (bAt s 1)
  have hargs : Rs [] [.bts false [bAt s 0, bAt s 1, bAt s 2, bAt s 3, bAt s 4, bAt s 5, bAt s 6, bAt s 7, bAt s 8, bAt s 9, bAt s 10, bAt s 11, bAt s 12, bAt s 13, bAt s 14, bAt s 15, bAt s 16, bAt s 17, bAt s 18, bAt s 19, bAt s 20, bAt s 21]] [.string s] := Rs.cons (by simp only [R]; exact congrArg Value.string hsp) Rs.nil
  have hne : ((ByteArray.mk #[bAt s 0, bAt s 1, bAt s 2, bAt s 3, bAt s 4, bAt s 5, bAt s 6, bAt s 7, bAt s 8, bAt s 9, bAt s 10, bAt s 11, bAt s 12, bAt s 13, bAt s 14, bAt s 15, bAt s 16, bAt s 17, bAt s 18, bAt s 19, bAt s 20, bAt s 21]).toList == (ByteArray.mk (ByteArray.mk #[]).data.toList.toArray).toList) = false := by
    rw [ba_toList_beq, decide_eq_false_iff_not, ba_none]; show ¬ (22 = 0); decide

  rcases Bool.eq_false_or_eq_true ((ByteArray.mk #[Go.Ex.bAt s (0 : Nat), Go.Ex.bAt s (1 : Nat), Go.Ex.bAt s (2 : Nat), Go.Ex.bAt s (3 : Nat), Go.Ex.bAt s (4 : Nat), Go.Ex.bAt s (5 : Nat), Go.Ex.bAt s (6 : Nat), Go.Ex.bAt s (7 : Nat), Go.Ex.bAt s (8 : Nat), Go.Ex.bAt s (9 : Nat), Go.Ex.bAt s (10 : Nat), Go.Ex.bAt s (11 : Nat), Go.Ex.bAt s (12 : Nat), Go.Ex.bAt s (13 : Nat), Go.Ex.bAt s (14 : Nat), Go.Ex.bAt s (15 : Nat), Go.Ex.bAt s (16 : Nat), Go.Ex.bAt s (17 : Nat), Go.Ex.bAt s (18 : Nat), Go.Ex.bAt s (19 : Nat), Go.Ex.bAt s (20 : Nat), Go.Ex.bAt s (21 : Nat)]).toList == (ByteArray.mk (ByteArray.mk #[]).data.toList.toArray).toList) with hb0 | hb0
  · have c0 := hb0
    try simp only [decide_eq_true_eq, decide_eq_false_iff_not, beq_iff_eq, bne_iff_ne, ne_eq, beq_eq_false_iff_ne, bne_eq_false_iff_eq, Bool.not_eq_true', Bool.not_eq_false', Bool.false_eq_true, if_false, Bool.and_true, Bool.true_and, ba_beq, ba_toList_beq, ba_none, wi64, Bool.and_eq_true, Bool.and_eq_false_imp, Bool.not_eq_true, Bool.not_eq_false, beq_self_eq_true, Int.ofNat_eq_natCast, fd16, tdB, tmB, fb_eq, low1] at c0
    rw [hne] at hb0; cases hb0
  · have c0 := hb0
    try simp only [decide_eq_true_eq, decide_eq_false_iff_not, beq_iff_eq, bne_iff_ne, ne_eq, beq_eq_false_iff_ne, bne_eq_false_iff_eq, Bool.not_eq_true', Bool.not_eq_false', Bool.false_eq_true, if_false, Bool.and_true, Bool.true_and, ba_beq, ba_toList_beq, ba_none, wi64, Bool.and_eq_true, Bool.and_eq_false_imp, Bool.not_eq_true, Bool.not_eq_false, beq_self_eq_true, Int.ofNat_eq_natCast, fd16, tdB, tmB, fb_eq, low1] at c0
    rcases Bool.eq_false_or_eq_true ((↑(Go.Ex.bAt s (0 : Nat)).toNat : Int).fdiv (16 : Int) != (0 : Int)) with hb1 | hb1
    · have c1 := hb1
      try simp only [decide_eq_true_eq, decide_eq_false_iff_not, beq_iff_eq, bne_iff_ne, ne_eq, beq_eq_false_iff_ne, bne_eq_false_iff_eq, Bool.not_eq_true', Bool.not_eq_false', Bool.false_eq_true, if_false, Bool.and_true, Bool.true_and, ba_beq, ba_toList_beq, ba_none, wi64, Bool.and_eq_true, Bool.and_eq_false_imp, Bool.not_eq_true, Bool.not_eq_false, beq_self_eq_true, Int.ofNat_eq_natCast, fd16, tdB, tmB, fb_eq, low1] at c1
      exact leaf (cd22_1 s) (by simp only [AllP, and_true]; (repeat' apply And.intro) <;> first | assumption | rfl | omega) rfl hargs (by rw [dec, if_neg (by omega), if_pos (by omega)]; (first | rfl | (simp only [SV.toV, toVs, CV.v, or8]; (try simp only [or2, fb_eq, low15, b128, b32]); (try simp only [w64n8, w64n2, w16n2, win2, wi16]); (try rfl)))) rfl
    · have c1 := hb1
      try simp only [decide_eq_true_eq, decide_eq_false_iff_not, beq_iff_eq, bne_iff_ne, ne_eq, beq_eq_false_iff_ne, bne_eq_false_iff_eq, Bool.not_eq_true', Bool.not_eq_false', Bool.false_eq_true, if_false, Bool.and_true, Bool.true_and, ba_beq, ba_toList_beq, ba_none, wi64, Bool.and_eq_true, Bool.and_eq_false_imp, Bool.not_eq_true, Bool.not_eq_false, beq_self_eq_true, Int.ofNat_eq_natCast, fd16, tdB, tmB, fb_eq, low1] at c1
      rcases Bool.eq_false_or_eq_true (Go.IntKind.u8.wrap (↑(BitVec.ofInt (8 : Nat) (Go.IntKind.u8.wrap (Go.IntKind.u64.wrap (↑(BitVec.ofInt (64 : Nat) (0 : Int) ||| BitVec.ofInt (64 : Nat) (Go.IntKind.u64.wrap (↑(Go.Ex.bAt s (1 : Nat)).toNat : Int))).toNat : Int))) &&& BitVec.ofInt (8 : Nat) (1 : Int)).toNat : Int) == (0 : Int)) with hb2 | hb2
      · have c2 := hb2
        try simp only [decide_eq_true_eq, decide_eq_false_iff_not, beq_iff_eq, bne_iff_ne, ne_eq, beq_eq_false_iff_ne, bne_eq_false_iff_eq, Bool.not_eq_true', Bool.not_eq_false', Bool.false_eq_true, if_false, Bool.and_true, Bool.true_and, ba_beq, ba_toList_beq, ba_none, wi64, Bool.and_eq_true, Bool.and_eq_false_imp, Bool.not_eq_true, Bool.not_eq_false, beq_self_eq_true, Int.ofNat_eq_natCast, fd16, tdB, tmB, fb_eq, low1] at c2
        exact leaf (cd22_2 s) (by simp only [AllP, and_true]; (repeat' apply And.intro) <;> first | assumption | rfl | omega) rfl hargs (by rw [dec, if_neg (by omega), if_neg (by omega), if_neg (by omega), if_pos (by omega)]; (first | rfl | (simp only [SV.toV, toVs, CV.v, or8]; (try simp only [or2, fb_eq, low15, b128, b32]); (try simp only [w64n8, w64n2, w16n2, win2, wi16]); (try rfl)))) rfl
      · have c2 := hb2
        try simp only [decide_eq_true_eq, decide_eq_false_iff_not, beq_iff_eq, bne_iff_ne, ne_eq, beq_eq_false_iff_ne, bne_eq_false_iff_eq, Bool.not_eq_true', Bool.not_eq_false', Bool.false_eq_true, if_false, Bool.and_true, Bool.true_and, ba_beq, ba_toList_beq, ba_none, wi64, Bool.and_eq_true, Bool.and_eq_false_imp, Bool.not_eq_true, Bool.not_eq_false, beq_self_eq_true, Int.ofNat_eq_natCast, fd16, tdB, tmB, fb_eq, low1] at c2
        exact leaf (cd22_0 s) (by simp only [AllP, and_true]; (repeat' apply And.intro) <;> first | assumption | rfl | omega) rfl hargs (by rw [dec, if_neg (by omega), if_neg (by omega), if_neg (by omega), if_neg (by omega), if_neg (by omega), if_neg (by omega), if_neg (by omega), if_neg (by omega)]; (first | rfl | (simp only [SV.toV, toVs, CV.v, or8]; (try simp only [or2, fb_eq, low15, b128, b32]); (try simp only [w64n8, w64n2, w16n2, win2, wi16]); (try rfl)))) rfl

theorem dec_calls (s : ByteArray) (w : World) :
    Calls Try.prog 12 #[.string s] w (fun e w' => e = .returned (.tuple #[(dec s).1.v, .int .i64 (dec s).2]) ∧ Below w.heap.size w w') := by
  have hb := byte_lt (bAt s 0)

  by_cases h2 : s.size = 2
  · exact cd2_calls s h2 w
  by_cases h10 : s.size = 10
  · exact cd10_calls s h10 w
  by_cases h18 : s.size = 18
  · exact cd18_calls s h18 w
  by_cases h20 : s.size = 20
  · exact cd20_calls s h20 w
  by_cases h22 : s.size = 22
  · exact cd22_calls s h22 w
  rcases Bool.eq_false_or_eq_true (s.toList == (ByteArray.mk (ByteArray.mk #[]).data.toList.toArray).toList) with hb0 | hb0
  · have c0 := hb0
    try simp only [decide_eq_true_eq, decide_eq_false_iff_not, beq_iff_eq, bne_iff_ne, ne_eq, beq_eq_false_iff_ne, bne_eq_false_iff_eq, Bool.not_eq_true', Bool.not_eq_false', Bool.false_eq_true, if_false, Bool.and_true, Bool.true_and, ba_beq, ba_toList_beq, ba_none, wi64, Bool.and_eq_true, Bool.and_eq_false_imp, Bool.not_eq_true, Bool.not_eq_false, beq_self_eq_true, Int.ofNat_eq_natCast, fd16, tdB, tmB, w8b, wu8] at c0
    exact leaf (cd0_0 s) (by simp only [AllP, and_true]; (repeat' apply And.intro) <;> first | assumption | rfl | omega) rfl (Rs.cons (by simp only [R]) Rs.nil) (by rw [dec, if_pos (by omega)]; rfl) rfl
  · have c0 := hb0
    try simp only [decide_eq_true_eq, decide_eq_false_iff_not, beq_iff_eq, bne_iff_ne, ne_eq, beq_eq_false_iff_ne, bne_eq_false_iff_eq, Bool.not_eq_true', Bool.not_eq_false', Bool.false_eq_true, if_false, Bool.and_true, Bool.true_and, ba_beq, ba_toList_beq, ba_none, wi64, Bool.and_eq_true, Bool.and_eq_false_imp, Bool.not_eq_true, Bool.not_eq_false, beq_self_eq_true, Int.ofNat_eq_natCast, fd16, tdB, tmB, w8b, wu8] at c0
    rcases Bool.eq_false_or_eq_true ((Go.Ex.byteAt s (0 : Int)).fdiv (16 : Int) != (0 : Int)) with hb1 | hb1
    · have c1 := hb1
      try simp only [decide_eq_true_eq, decide_eq_false_iff_not, beq_iff_eq, bne_iff_ne, ne_eq, beq_eq_false_iff_ne, bne_eq_false_iff_eq, Bool.not_eq_true', Bool.not_eq_false', Bool.false_eq_true, if_false, Bool.and_true, Bool.true_and, ba_beq, ba_toList_beq, ba_none, wi64, Bool.and_eq_true, Bool.and_eq_false_imp, Bool.not_eq_true, Bool.not_eq_false, beq_self_eq_true, Int.ofNat_eq_natCast, fd16, tdB, tmB, w8b, wu8, d_byte s (by assumption)] at c1
      exact leaf (cd0_1 s) (by simp only [AllP, and_true]; (repeat' apply And.intro) <;> first | assumption | rfl | omega) rfl (Rs.cons (by simp only [R]) Rs.nil) (by rw [dec, if_neg (by omega), if_pos (by omega)]; rfl) rfl
    · have c1 := hb1
      try simp only [decide_eq_true_eq, decide_eq_false_iff_not, beq_iff_eq, bne_iff_ne, ne_eq, beq_eq_false_iff_ne, bne_eq_false_iff_eq, Bool.not_eq_true', Bool.not_eq_false', Bool.false_eq_true, if_false, Bool.and_true, Bool.true_and, ba_beq, ba_toList_beq, ba_none, wi64, Bool.and_eq_true, Bool.and_eq_false_imp, Bool.not_eq_true, Bool.not_eq_false, beq_self_eq_true, Int.ofNat_eq_natCast, fd16, tdB, tmB, w8b, wu8, d_byte s (by assumption)] at c1
      rcases Bool.eq_false_or_eq_true ((↑s.size : Int) == (2 : Int)) with hb2 | hb2
      · have c2 := hb2
        try simp only [decide_eq_true_eq, decide_eq_false_iff_not, beq_iff_eq, bne_iff_ne, ne_eq, beq_eq_false_iff_ne, bne_eq_false_iff_eq, Bool.not_eq_true', Bool.not_eq_false', Bool.false_eq_true, if_false, Bool.and_true, Bool.true_and, ba_beq, ba_toList_beq, ba_none, wi64, Bool.and_eq_true, Bool.and_eq_false_imp, Bool.not_eq_true, Bool.not_eq_false, beq_self_eq_true, Int.ofNat_eq_natCast, fd16, tdB, tmB, w8b, wu8, d_byte s (by assumption)] at c2
        exfalso; omega
      · have c2 := hb2
        try simp only [decide_eq_true_eq, decide_eq_false_iff_not, beq_iff_eq, bne_iff_ne, ne_eq, beq_eq_false_iff_ne, bne_eq_false_iff_eq, Bool.not_eq_true', Bool.not_eq_false', Bool.false_eq_true, if_false, Bool.and_true, Bool.true_and, ba_beq, ba_toList_beq, ba_none, wi64, Bool.and_eq_true, Bool.and_eq_false_imp, Bool.not_eq_true, Bool.not_eq_false, beq_self_eq_true, Int.ofNat_eq_natCast, fd16, tdB, tmB, w8b, wu8, d_byte s (by assumption)] at c2
        rcases Bool.eq_false_or_eq_true ((↑s.size : Int) == (10 : Int)) with hb3 | hb3
        · have c3 := hb3
          try simp only [decide_eq_true_eq, decide_eq_false_iff_not, beq_iff_eq, bne_iff_ne, ne_eq, beq_eq_false_iff_ne, bne_eq_false_iff_eq, Bool.not_eq_true', Bool.not_eq_false', Bool.false_eq_true, if_false, Bool.and_true, Bool.true_and, ba_beq, ba_toList_beq, ba_none, wi64, Bool.and_eq_true, Bool.and_eq_false_imp, Bool.not_eq_true, Bool.not_eq_false, beq_self_eq_true, Int.ofNat_eq_natCast, fd16, tdB, tmB, w8b, wu8, d_byte s (by assumption)] at c3
          exfalso; omega
        · have c3 := hb3
          try simp only [decide_eq_true_eq, decide_eq_false_iff_not, beq_iff_eq, bne_iff_ne, ne_eq, beq_eq_false_iff_ne, bne_eq_false_iff_eq, Bool.not_eq_true', Bool.not_eq_false', Bool.false_eq_true, if_false, Bool.and_true, Bool.true_and, ba_beq, ba_toList_beq, ba_none, wi64, Bool.and_eq_true, Bool.and_eq_false_imp, Bool.not_eq_true, Bool.not_eq_false, beq_self_eq_true, Int.ofNat_eq_natCast, fd16, tdB, tmB, w8b, wu8, d_byte s (by assumption)] at c3
          rcases Bool.eq_false_or_eq_true ((↑s.size : Int) == (18 : Int)) with hb4 | hb4
          · have c4 := hb4
            try simp only [decide_eq_true_eq, decide_eq_false_iff_not, beq_iff_eq, bne_iff_ne, ne_eq, beq_eq_false_iff_ne, bne_eq_false_iff_eq, Bool.not_eq_true', Bool.not_eq_false', Bool.false_eq_true, if_false, Bool.and_true, Bool.true_and, ba_beq, ba_toList_beq, ba_none, wi64, Bool.and_eq_true, Bool.and_eq_false_imp, Bool.not_eq_true, Bool.not_eq_false, beq_self_eq_true, Int.ofNat_eq_natCast, fd16, tdB, tmB, w8b, wu8, d_byte s (by assumption)] at c4
            exfalso; omega
          · have c4 := hb4
            try simp only [decide_eq_true_eq, decide_eq_false_iff_not, beq_iff_eq, bne_iff_ne, ne_eq, beq_eq_false_iff_ne, bne_eq_false_iff_eq, Bool.not_eq_true', Bool.not_eq_false', Bool.false_eq_true, if_false, Bool.and_true, Bool.true_and, ba_beq, ba_toList_beq, ba_none, wi64, Bool.and_eq_true, Bool.and_eq_false_imp, Bool.not_eq_true, Bool.not_eq_false, beq_self_eq_true, Int.ofNat_eq_natCast, fd16, tdB, tmB, w8b, wu8, d_byte s (by assumption)] at c4
            rcases Bool.eq_false_or_eq_true ((↑s.size : Int) == (20 : Int)) with hb5 | hb5
            · have c5 := hb5
              try simp only [decide_eq_true_eq, decide_eq_false_iff_not, beq_iff_eq, bne_iff_ne, ne_eq, beq_eq_false_iff_ne, bne_eq_false_iff_eq, Bool.not_eq_true', Bool.not_eq_false', Bool.false_eq_true, if_false, Bool.and_true, Bool.true_and, ba_beq, ba_toList_beq, ba_none, wi64, Bool.and_eq_true, Bool.and_eq_false_imp, Bool.not_eq_true, Bool.not_eq_false, beq_self_eq_true, Int.ofNat_eq_natCast, fd16, tdB, tmB, w8b, wu8, d_byte s (by assumption)] at c5
              exfalso; omega
            · have c5 := hb5
              try simp only [decide_eq_true_eq, decide_eq_false_iff_not, beq_iff_eq, bne_iff_ne, ne_eq, beq_eq_false_iff_ne, bne_eq_false_iff_eq, Bool.not_eq_true', Bool.not_eq_false', Bool.false_eq_true, if_false, Bool.and_true, Bool.true_and, ba_beq, ba_toList_beq, ba_none, wi64, Bool.and_eq_true, Bool.and_eq_false_imp, Bool.not_eq_true, Bool.not_eq_false, beq_self_eq_true, Int.ofNat_eq_natCast, fd16, tdB, tmB, w8b, wu8, d_byte s (by assumption)] at c5
              rcases Bool.eq_false_or_eq_true ((↑s.size : Int) == (22 : Int)) with hb6 | hb6
              · have c6 := hb6
                try simp only [decide_eq_true_eq, decide_eq_false_iff_not, beq_iff_eq, bne_iff_ne, ne_eq, beq_eq_false_iff_ne, bne_eq_false_iff_eq, Bool.not_eq_true', Bool.not_eq_false', Bool.false_eq_true, if_false, Bool.and_true, Bool.true_and, ba_beq, ba_toList_beq, ba_none, wi64, Bool.and_eq_true, Bool.and_eq_false_imp, Bool.not_eq_true, Bool.not_eq_false, beq_self_eq_true, Int.ofNat_eq_natCast, fd16, tdB, tmB, w8b, wu8, d_byte s (by assumption)] at c6
                exfalso; omega
              · have c6 := hb6
                try simp only [decide_eq_true_eq, decide_eq_false_iff_not, beq_iff_eq, bne_iff_ne, ne_eq, beq_eq_false_iff_ne, bne_eq_false_iff_eq, Bool.not_eq_true', Bool.not_eq_false', Bool.false_eq_true, if_false, Bool.and_true, Bool.true_and, ba_beq, ba_toList_beq, ba_none, wi64, Bool.and_eq_true, Bool.and_eq_false_imp, Bool.not_eq_true, Bool.not_eq_false, beq_self_eq_true, Int.ofNat_eq_natCast, fd16, tdB, tmB, w8b, wu8, d_byte s (by assumption)] at c6
                exact leaf (cd0_2 s) (by simp only [AllP, and_true]; (repeat' apply And.intro) <;> first | assumption | rfl | omega) rfl (Rs.cons (by simp only [R]) Rs.nil) (by rw [dec, if_neg (by omega), if_neg (by omega), if_pos (by omega)]; rfl) rfl


def decG (args : List SV) : Option (SV × Prop) :=
  match SV.vals args with
  | some [.string s] => some (.tup [(dec s).1.sv, .val (.int .i64 (dec s).2)], True)
  | _ => none
theorem decG_ok : ∀ args s p, decG args = some (s, p) → p → s.pln = true ∧ ∀ (w : World) (vs : List Value), Rs [] args vs →
    Calls Try.prog 12 vs.toArray w (fun e w' => e = .returned s.toV ∧ Below w.heap.size w w') := by
  intro args s p hg hp
  unfold decG at hg
  split at hg
  · rename_i b hl
    simp only [Option.some.injEq, Prod.mk.injEq] at hg
    obtain ⟨rfl, rfl⟩ := hg
    refine ⟨rfl, fun w vs hv => ?_⟩
    have e := SV.vals_R hl hv
    subst e
    exact dec_calls b w
  · simp at hg
noncomputable def decC : Con Try.prog := Con.ofVals 12 decG decG_ok

end Go.Proofs.Ytomkceffoanhcaa
