/-
  Walks of functions, reckoned through, and what they give (part W11z). No condition beyond what each says. By an AI agent.
-/
import Derived.Test.YtpbcjeigiklanaaW11y
namespace Go.Proofs.Ytpbcjeigiklanaa
open Go.Ex
open Go.RowKit (Below)
set_option linter.unusedVariables false
set_option linter.unusedSimpArgs false

theorem cut2 (s : ByteArray) (n : Nat) (hn : s.size = n + 2) : s.extract 2 s.size = ⟨(cutL s 2 n).toArray⟩ := by
  have := cutL_eq (s := s) (i := 2) (j := s.size) (by omega) (by omega)
  rw [← this, show s.size - 2 = n by omega]
def flagsOf (b : Nat) : UInt8 := UInt8.ofNat (bI (decide (b % 2 = 1)) 1 + bI (decide (b % 2 = 1) && decide (b / 2 % 2 = 1)) 2 + bI (decide (b / 4 % 2 = 1)) 4 + bI (decide (b / 4 % 2 = 1) && decide (b / 8 % 2 = 1)) 8 + bI (decide (b / 4 % 2 = 1) && decide (b / 16 % 2 = 1)) 16)
/-- What was read is laid again as this. -/
def Again (s : ByteArray) : Prop := may (dec s).1 ∧ Rng (dec s).1 ∧ (enc (dec s).1).2 = 0 ∧ ∃ l, (enc (dec s).1).1 = ⟨(UInt8.ofNat 32 :: flagsOf (bAt s 1).toNat :: l).toArray⟩ ∧ s.extract 2 s.size = ⟨l.toArray⟩ ∧ l.length + 2 = s.size ∧ s.size % 2 = 0
theorem again10000 (s : ByteArray) (h1 : (bAt s 0).toNat / 16 = 2) (eA : hA s = true) (eM : hM s = false) (eL : hL s = false) (z : s.size = 6) : Again s := by
  have g1 := n4_range (bAt s 2) (bAt s 3) (bAt s 4) (bAt s 5)
  have hd : dec s = ((⟨false, true, false, n4 (bAt s 2) (bAt s 3) (bAt s 4) (bAt s 5), false, false, 0, 0, 0, false, 0⟩ : SG), 0) := by
    rw [dec_cls (a := true) (l := false) (m := false) (d := hD s) (by omega) h1 eA eL eM rfl, dF_o rfl (by show s.size = 6; exact z)]
    rfl
  have hm : may (⟨false, true, false, n4 (bAt s 2) (bAt s 3) (bAt s 4) (bAt s 5), false, false, 0, 0, 0, false, 0⟩ : SG) := by
    refine ⟨?_, ?_, ?_, ?_, ?_, ?_, ?_, ?_⟩ <;> simp only <;> first | omega | (simp; done) | (simp; omega)
  have hr : Rng (⟨false, true, false, n4 (bAt s 2) (bAt s 3) (bAt s 4) (bAt s 5), false, false, 0, 0, 0, false, 0⟩ : SG) := by
    refine ⟨?_, ?_, ?_, ?_⟩ <;> simp only <;> omega
  unfold Again
  rw [hd]
  refine ⟨hm, hr, by rw [enc, if_pos hm], cutL s 2 4, ?_, cut2 s 4 z, by rw [cutL_length]; omega, by omega⟩
  have ef : flags (⟨false, true, false, n4 (bAt s 2) (bAt s 3) (bAt s 4) (bAt s 5), false, false, 0, 0, 0, false, 0⟩ : SG) = flagsOf (bAt s 1).toNat := by
    show UInt8.ofNat _ = _
    unfold flagsOf
    unfold hA at eA
    unfold hM at eM
    unfold hL at eL
    rw [eA, eM, eL]
    first | rfl | (unfold hF; rfl)
  rw [enc, if_pos hm]
  show (⟨(UInt8.ofNat 32 :: flags (⟨false, true, false, n4 (bAt s 2) (bAt s 3) (bAt s 4) (bAt s 5), false, false, 0, 0, 0, false, 0⟩ : SG) :: _).toArray⟩ : ByteArray) = _
  rw [ef]
  congr 4
  simp only [num, b8_n8, b4_n4, b2_n2]
  rfl
theorem again11000 (s : ByteArray) (h1 : (bAt s 0).toNat / 16 = 2) (eA : hA s = true) (eM : hM s = false) (eL : hL s = true) (z : s.size = 10) : Again s := by
  have g1 := n8_range (bAt s 2) (bAt s 3) (bAt s 4) (bAt s 5) (bAt s 6) (bAt s 7) (bAt s 8) (bAt s 9)
  have hd : dec s = ((⟨false, true, true, n8 (bAt s 2) (bAt s 3) (bAt s 4) (bAt s 5) (bAt s 6) (bAt s 7) (bAt s 8) (bAt s 9), false, false, 0, 0, 0, false, 0⟩ : SG), 0) := by
    rw [dec_cls (a := true) (l := true) (m := false) (d := hD s) (by omega) h1 eA eL eM rfl, dF_o rfl (by show s.size = 10; exact z)]
    rfl
  have hm : may (⟨false, true, true, n8 (bAt s 2) (bAt s 3) (bAt s 4) (bAt s 5) (bAt s 6) (bAt s 7) (bAt s 8) (bAt s 9), false, false, 0, 0, 0, false, 0⟩ : SG) := by
    refine ⟨?_, ?_, ?_, ?_, ?_, ?_, ?_, ?_⟩ <;> simp only <;> first | omega | (simp; done) | (simp; omega)
  have hr : Rng (⟨false, true, true, n8 (bAt s 2) (bAt s 3) (bAt s 4) (bAt s 5) (bAt s 6) (bAt s 7) (bAt s 8) (bAt s 9), false, false, 0, 0, 0, false, 0⟩ : SG) := by
    refine ⟨?_, ?_, ?_, ?_⟩ <;> simp only <;> omega
  unfold Again
  rw [hd]
  refine ⟨hm, hr, by rw [enc, if_pos hm], cutL s 2 8, ?_, cut2 s 8 z, by rw [cutL_length]; omega, by omega⟩
  have ef : flags (⟨false, true, true, n8 (bAt s 2) (bAt s 3) (bAt s 4) (bAt s 5) (bAt s 6) (bAt s 7) (bAt s 8) (bAt s 9), false, false, 0, 0, 0, false, 0⟩ : SG) = flagsOf (bAt s 1).toNat := by
    show UInt8.ofNat _ = _
    unfold flagsOf
    unfold hA at eA
    unfold hM at eM
    unfold hL at eL
    rw [eA, eM, eL]
    first | rfl | (unfold hF; rfl)
  rw [enc, if_pos hm]
  show (⟨(UInt8.ofNat 32 :: flags (⟨false, true, true, n8 (bAt s 2) (bAt s 3) (bAt s 4) (bAt s 5) (bAt s 6) (bAt s 7) (bAt s 8) (bAt s 9), false, false, 0, 0, 0, false, 0⟩ : SG) :: _).toArray⟩ : ByteArray) = _
  rw [ef]
  congr 4
  simp only [num, b8_n8, b4_n4, b2_n2]
  rfl
theorem again00100 (s : ByteArray) (h1 : (bAt s 0).toNat / 16 = 2) (eA : hA s = false) (eM : hM s = true) (eD : hD s = false) (z : s.size = 12) : Again s := by
  have g2 := n4_range (bAt s 2) (bAt s 3) (bAt s 4) (bAt s 5)
  have g3 := n4_range (bAt s 6) (bAt s 7) (bAt s 8) (bAt s 9)
  have g4 := n2_range (bAt s 10) (bAt s 11)
  have hd : dec s = ((⟨hF s, false, false, 0, true, false, n4 (bAt s 2) (bAt s 3) (bAt s 4) (bAt s 5), n4 (bAt s 6) (bAt s 7) (bAt s 8) (bAt s 9), n2 (bAt s 10) (bAt s 11), false, 0⟩ : SG), 0) := by
    rw [dec_cls (a := false) (l := hL s) (m := true) (d := false) (by omega) h1 eA rfl eM eD, dF_o rfl (by show s.size = 12; exact z)]
    rfl
  have hm : may (⟨hF s, false, false, 0, true, false, n4 (bAt s 2) (bAt s 3) (bAt s 4) (bAt s 5), n4 (bAt s 6) (bAt s 7) (bAt s 8) (bAt s 9), n2 (bAt s 10) (bAt s 11), false, 0⟩ : SG) := by
    refine ⟨?_, ?_, ?_, ?_, ?_, ?_, ?_, ?_⟩ <;> simp only <;> first | omega | (simp; done) | (simp; omega)
  have hr : Rng (⟨hF s, false, false, 0, true, false, n4 (bAt s 2) (bAt s 3) (bAt s 4) (bAt s 5), n4 (bAt s 6) (bAt s 7) (bAt s 8) (bAt s 9), n2 (bAt s 10) (bAt s 11), false, 0⟩ : SG) := by
    refine ⟨?_, ?_, ?_, ?_⟩ <;> simp only <;> omega
  unfold Again
  rw [hd]
  refine ⟨hm, hr, by rw [enc, if_pos hm], cutL s 2 10, ?_, cut2 s 10 z, by rw [cutL_length]; omega, by omega⟩
  have ef : flags (⟨hF s, false, false, 0, true, false, n4 (bAt s 2) (bAt s 3) (bAt s 4) (bAt s 5), n4 (bAt s 6) (bAt s 7) (bAt s 8) (bAt s 9), n2 (bAt s 10) (bAt s 11), false, 0⟩ : SG) = flagsOf (bAt s 1).toNat := by
    show UInt8.ofNat _ = _
    unfold flagsOf
    unfold hA at eA
    unfold hM at eM
    unfold hD at eD
    rw [eA, eM, eD]
    first | rfl | (unfold hF; rfl)
  rw [enc, if_pos hm]
  show (⟨(UInt8.ofNat 32 :: flags (⟨hF s, false, false, 0, true, false, n4 (bAt s 2) (bAt s 3) (bAt s 4) (bAt s 5), n4 (bAt s 6) (bAt s 7) (bAt s 8) (bAt s 9), n2 (bAt s 10) (bAt s 11), false, 0⟩ : SG) :: _).toArray⟩ : ByteArray) = _
  rw [ef]
  congr 4
  simp only [num, b8_n8, b4_n4, b2_n2]
  rfl
theorem again00101 (s : ByteArray) (h1 : (bAt s 0).toNat / 16 = 2) (eA : hA s = false) (eM : hM s = true) (eD : hD s = false) (z : s.size = 14) : Again s := by
  have g2 := n4_range (bAt s 2) (bAt s 3) (bAt s 4) (bAt s 5)
  have g3 := n4_range (bAt s 6) (bAt s 7) (bAt s 8) (bAt s 9)
  have g4 := n2_range (bAt s 10) (bAt s 11)
  have g5 := n2_range (bAt s 12) (bAt s 13)
  have hd : dec s = ((⟨hF s, false, false, 0, true, false, n4 (bAt s 2) (bAt s 3) (bAt s 4) (bAt s 5), n4 (bAt s 6) (bAt s 7) (bAt s 8) (bAt s 9), n2 (bAt s 10) (bAt s 11), true, n2 (bAt s 12) (bAt s 13)⟩ : SG), 0) := by
    rw [dec_cls (a := false) (l := hL s) (m := true) (d := false) (by omega) h1 eA rfl eM eD, dF_h rfl (by show s.size = 14; exact z)]
    rfl
  have hm : may (⟨hF s, false, false, 0, true, false, n4 (bAt s 2) (bAt s 3) (bAt s 4) (bAt s 5), n4 (bAt s 6) (bAt s 7) (bAt s 8) (bAt s 9), n2 (bAt s 10) (bAt s 11), true, n2 (bAt s 12) (bAt s 13)⟩ : SG) := by
    refine ⟨?_, ?_, ?_, ?_, ?_, ?_, ?_, ?_⟩ <;> simp only <;> first | omega | (simp; done) | (simp; omega)
  have hr : Rng (⟨hF s, false, false, 0, true, false, n4 (bAt s 2) (bAt s 3) (bAt s 4) (bAt s 5), n4 (bAt s 6) (bAt s 7) (bAt s 8) (bAt s 9), n2 (bAt s 10) (bAt s 11), true, n2 (bAt s 12) (bAt s 13)⟩ : SG) := by
    refine ⟨?_, ?_, ?_, ?_⟩ <;> simp only <;> omega
  unfold Again
  rw [hd]
  refine ⟨hm, hr, by rw [enc, if_pos hm], cutL s 2 12, ?_, cut2 s 12 z, by rw [cutL_length]; omega, by omega⟩
  have ef : flags (⟨hF s, false, false, 0, true, false, n4 (bAt s 2) (bAt s 3) (bAt s 4) (bAt s 5), n4 (bAt s 6) (bAt s 7) (bAt s 8) (bAt s 9), n2 (bAt s 10) (bAt s 11), true, n2 (bAt s 12) (bAt s 13)⟩ : SG) = flagsOf (bAt s 1).toNat := by
    show UInt8.ofNat _ = _
    unfold flagsOf
    unfold hA at eA
    unfold hM at eM
    unfold hD at eD
    rw [eA, eM, eD]
    first | rfl | (unfold hF; rfl)
  rw [enc, if_pos hm]
  show (⟨(UInt8.ofNat 32 :: flags (⟨hF s, false, false, 0, true, false, n4 (bAt s 2) (bAt s 3) (bAt s 4) (bAt s 5), n4 (bAt s 6) (bAt s 7) (bAt s 8) (bAt s 9), n2 (bAt s 10) (bAt s 11), true, n2 (bAt s 12) (bAt s 13)⟩ : SG) :: _).toArray⟩ : ByteArray) = _
  rw [ef]
  congr 4
  simp only [num, b8_n8, b4_n4, b2_n2]
  rfl
theorem again00110 (s : ByteArray) (h1 : (bAt s 0).toNat / 16 = 2) (eA : hA s = false) (eM : hM s = true) (eD : hD s = true) (z : s.size = 16) : Again s := by
  have g2 := n8_range (bAt s 2) (bAt s 3) (bAt s 4) (bAt s 5) (bAt s 6) (bAt s 7) (bAt s 8) (bAt s 9)
  have g3 := n4_range (bAt s 10) (bAt s 11) (bAt s 12) (bAt s 13)
  have g4 := n2_range (bAt s 14) (bAt s 15)
  have hd : dec s = ((⟨hF s, false, false, 0, true, true, n8 (bAt s 2) (bAt s 3) (bAt s 4) (bAt s 5) (bAt s 6) (bAt s 7) (bAt s 8) (bAt s 9), n4 (bAt s 10) (bAt s 11) (bAt s 12) (bAt s 13), n2 (bAt s 14) (bAt s 15), false, 0⟩ : SG), 0) := by
    rw [dec_cls (a := false) (l := hL s) (m := true) (d := true) (by omega) h1 eA rfl eM eD, dF_o rfl (by show s.size = 16; exact z)]
    rfl
  have hm : may (⟨hF s, false, false, 0, true, true, n8 (bAt s 2) (bAt s 3) (bAt s 4) (bAt s 5) (bAt s 6) (bAt s 7) (bAt s 8) (bAt s 9), n4 (bAt s 10) (bAt s 11) (bAt s 12) (bAt s 13), n2 (bAt s 14) (bAt s 15), false, 0⟩ : SG) := by
    refine ⟨?_, ?_, ?_, ?_, ?_, ?_, ?_, ?_⟩ <;> simp only <;> first | omega | (simp; done) | (simp; omega)
  have hr : Rng (⟨hF s, false, false, 0, true, true, n8 (bAt s 2) (bAt s 3) (bAt s 4) (bAt s 5) (bAt s 6) (bAt s 7) (bAt s 8) (bAt s 9), n4 (bAt s 10) (bAt s 11) (bAt s 12) (bAt s 13), n2 (bAt s 14) (bAt s 15), false, 0⟩ : SG) := by
    refine ⟨?_, ?_, ?_, ?_⟩ <;> simp only <;> omega
  unfold Again
  rw [hd]
  refine ⟨hm, hr, by rw [enc, if_pos hm], cutL s 2 14, ?_, cut2 s 14 z, by rw [cutL_length]; omega, by omega⟩
  have ef : flags (⟨hF s, false, false, 0, true, true, n8 (bAt s 2) (bAt s 3) (bAt s 4) (bAt s 5) (bAt s 6) (bAt s 7) (bAt s 8) (bAt s 9), n4 (bAt s 10) (bAt s 11) (bAt s 12) (bAt s 13), n2 (bAt s 14) (bAt s 15), false, 0⟩ : SG) = flagsOf (bAt s 1).toNat := by
    show UInt8.ofNat _ = _
    unfold flagsOf
    unfold hA at eA
    unfold hM at eM
    unfold hD at eD
    rw [eA, eM, eD]
    first | rfl | (unfold hF; rfl)
  rw [enc, if_pos hm]
  show (⟨(UInt8.ofNat 32 :: flags (⟨hF s, false, false, 0, true, true, n8 (bAt s 2) (bAt s 3) (bAt s 4) (bAt s 5) (bAt s 6) (bAt s 7) (bAt s 8) (bAt s 9), n4 (bAt s 10) (bAt s 11) (bAt s 12) (bAt s 13), n2 (bAt s 14) (bAt s 15), false, 0⟩ : SG) :: _).toArray⟩ : ByteArray) = _
  rw [ef]
  congr 4
  simp only [num, b8_n8, b4_n4, b2_n2]
  rfl
theorem again00111 (s : ByteArray) (h1 : (bAt s 0).toNat / 16 = 2) (eA : hA s = false) (eM : hM s = true) (eD : hD s = true) (z : s.size = 18) : Again s := by
  have g2 := n8_range (bAt s 2) (bAt s 3) (bAt s 4) (bAt s 5) (bAt s 6) (bAt s 7) (bAt s 8) (bAt s 9)
  have g3 := n4_range (bAt s 10) (bAt s 11) (bAt s 12) (bAt s 13)
  have g4 := n2_range (bAt s 14) (bAt s 15)
  have g5 := n2_range (bAt s 16) (bAt s 17)
  have hd : dec s = ((⟨hF s, false, false, 0, true, true, n8 (bAt s 2) (bAt s 3) (bAt s 4) (bAt s 5) (bAt s 6) (bAt s 7) (bAt s 8) (bAt s 9), n4 (bAt s 10) (bAt s 11) (bAt s 12) (bAt s 13), n2 (bAt s 14) (bAt s 15), true, n2 (bAt s 16) (bAt s 17)⟩ : SG), 0) := by
    rw [dec_cls (a := false) (l := hL s) (m := true) (d := true) (by omega) h1 eA rfl eM eD, dF_h rfl (by show s.size = 18; exact z)]
    rfl
  have hm : may (⟨hF s, false, false, 0, true, true, n8 (bAt s 2) (bAt s 3) (bAt s 4) (bAt s 5) (bAt s 6) (bAt s 7) (bAt s 8) (bAt s 9), n4 (bAt s 10) (bAt s 11) (bAt s 12) (bAt s 13), n2 (bAt s 14) (bAt s 15), true, n2 (bAt s 16) (bAt s 17)⟩ : SG) := by
    refine ⟨?_, ?_, ?_, ?_, ?_, ?_, ?_, ?_⟩ <;> simp only <;> first | omega | (simp; done) | (simp; omega)
  have hr : Rng (⟨hF s, false, false, 0, true, true, n8 (bAt s 2) (bAt s 3) (bAt s 4) (bAt s 5) (bAt s 6) (bAt s 7) (bAt s 8) (bAt s 9), n4 (bAt s 10) (bAt s 11) (bAt s 12) (bAt s 13), n2 (bAt s 14) (bAt s 15), true, n2 (bAt s 16) (bAt s 17)⟩ : SG) := by
    refine ⟨?_, ?_, ?_, ?_⟩ <;> simp only <;> omega
  unfold Again
  rw [hd]
  refine ⟨hm, hr, by rw [enc, if_pos hm], cutL s 2 16, ?_, cut2 s 16 z, by rw [cutL_length]; omega, by omega⟩
  have ef : flags (⟨hF s, false, false, 0, true, true, n8 (bAt s 2) (bAt s 3) (bAt s 4) (bAt s 5) (bAt s 6) (bAt s 7) (bAt s 8) (bAt s 9), n4 (bAt s 10) (bAt s 11) (bAt s 12) (bAt s 13), n2 (bAt s 14) (bAt s 15), true, n2 (bAt s 16) (bAt s 17)⟩ : SG) = flagsOf (bAt s 1).toNat := by
    show UInt8.ofNat _ = _
    unfold flagsOf
    unfold hA at eA
    unfold hM at eM
    unfold hD at eD
    rw [eA, eM, eD]
    first | rfl | (unfold hF; rfl)
  rw [enc, if_pos hm]
  show (⟨(UInt8.ofNat 32 :: flags (⟨hF s, false, false, 0, true, true, n8 (bAt s 2) (bAt s 3) (bAt s 4) (bAt s 5) (bAt s 6) (bAt s 7) (bAt s 8) (bAt s 9), n4 (bAt s 10) (bAt s 11) (bAt s 12) (bAt s 13), n2 (bAt s 14) (bAt s 15), true, n2 (bAt s 16) (bAt s 17)⟩ : SG) :: _).toArray⟩ : ByteArray) = _
  rw [ef]
  congr 4
  simp only [num, b8_n8, b4_n4, b2_n2]
  rfl
theorem again10100 (s : ByteArray) (h1 : (bAt s 0).toNat / 16 = 2) (eA : hA s = true) (eM : hM s = true) (eL : hL s = false) (eD : hD s = false) (z : s.size = 16) : Again s := by
  have g1 := n4_range (bAt s 2) (bAt s 3) (bAt s 4) (bAt s 5)
  have g2 := n4_range (bAt s 6) (bAt s 7) (bAt s 8) (bAt s 9)
  have g3 := n4_range (bAt s 10) (bAt s 11) (bAt s 12) (bAt s 13)
  have g4 := n2_range (bAt s 14) (bAt s 15)
  have hd : dec s = ((⟨hF s, true, false, n4 (bAt s 2) (bAt s 3) (bAt s 4) (bAt s 5), true, false, n4 (bAt s 6) (bAt s 7) (bAt s 8) (bAt s 9), n4 (bAt s 10) (bAt s 11) (bAt s 12) (bAt s 13), n2 (bAt s 14) (bAt s 15), false, 0⟩ : SG), 0) := by
    rw [dec_cls (a := true) (l := false) (m := true) (d := false) (by omega) h1 eA eL eM eD, dF_o rfl (by show s.size = 16; exact z)]
    rfl
  have hm : may (⟨hF s, true, false, n4 (bAt s 2) (bAt s 3) (bAt s 4) (bAt s 5), true, false, n4 (bAt s 6) (bAt s 7) (bAt s 8) (bAt s 9), n4 (bAt s 10) (bAt s 11) (bAt s 12) (bAt s 13), n2 (bAt s 14) (bAt s 15), false, 0⟩ : SG) := by
    refine ⟨?_, ?_, ?_, ?_, ?_, ?_, ?_, ?_⟩ <;> simp only <;> first | omega | (simp; done) | (simp; omega)
  have hr : Rng (⟨hF s, true, false, n4 (bAt s 2) (bAt s 3) (bAt s 4) (bAt s 5), true, false, n4 (bAt s 6) (bAt s 7) (bAt s 8) (bAt s 9), n4 (bAt s 10) (bAt s 11) (bAt s 12) (bAt s 13), n2 (bAt s 14) (bAt s 15), false, 0⟩ : SG) := by
    refine ⟨?_, ?_, ?_, ?_⟩ <;> simp only <;> omega
  unfold Again
  rw [hd]
  refine ⟨hm, hr, by rw [enc, if_pos hm], cutL s 2 14, ?_, cut2 s 14 z, by rw [cutL_length]; omega, by omega⟩
  have ef : flags (⟨hF s, true, false, n4 (bAt s 2) (bAt s 3) (bAt s 4) (bAt s 5), true, false, n4 (bAt s 6) (bAt s 7) (bAt s 8) (bAt s 9), n4 (bAt s 10) (bAt s 11) (bAt s 12) (bAt s 13), n2 (bAt s 14) (bAt s 15), false, 0⟩ : SG) = flagsOf (bAt s 1).toNat := by
    show UInt8.ofNat _ = _
    unfold flagsOf
    unfold hA at eA
    unfold hM at eM
    unfold hL at eL
    unfold hD at eD
    rw [eA, eM, eL, eD]
    first | rfl | (unfold hF; rfl)
  rw [enc, if_pos hm]
  show (⟨(UInt8.ofNat 32 :: flags (⟨hF s, true, false, n4 (bAt s 2) (bAt s 3) (bAt s 4) (bAt s 5), true, false, n4 (bAt s 6) (bAt s 7) (bAt s 8) (bAt s 9), n4 (bAt s 10) (bAt s 11) (bAt s 12) (bAt s 13), n2 (bAt s 14) (bAt s 15), false, 0⟩ : SG) :: _).toArray⟩ : ByteArray) = _
  rw [ef]
  congr 4
  simp only [num, b8_n8, b4_n4, b2_n2]
  rfl
theorem again10101 (s : ByteArray) (h1 : (bAt s 0).toNat / 16 = 2) (eA : hA s = true) (eM : hM s = true) (eL : hL s = false) (eD : hD s = false) (z : s.size = 18) : Again s := by
  have g1 := n4_range (bAt s 2) (bAt s 3) (bAt s 4) (bAt s 5)
  have g2 := n4_range (bAt s 6) (bAt s 7) (bAt s 8) (bAt s 9)
  have g3 := n4_range (bAt s 10) (bAt s 11) (bAt s 12) (bAt s 13)
  have g4 := n2_range (bAt s 14) (bAt s 15)
  have g5 := n2_range (bAt s 16) (bAt s 17)
  have hd : dec s = ((⟨hF s, true, false, n4 (bAt s 2) (bAt s 3) (bAt s 4) (bAt s 5), true, false, n4 (bAt s 6) (bAt s 7) (bAt s 8) (bAt s 9), n4 (bAt s 10) (bAt s 11) (bAt s 12) (bAt s 13), n2 (bAt s 14) (bAt s 15), true, n2 (bAt s 16) (bAt s 17)⟩ : SG), 0) := by
    rw [dec_cls (a := true) (l := false) (m := true) (d := false) (by omega) h1 eA eL eM eD, dF_h rfl (by show s.size = 18; exact z)]
    rfl
  have hm : may (⟨hF s, true, false, n4 (bAt s 2) (bAt s 3) (bAt s 4) (bAt s 5), true, false, n4 (bAt s 6) (bAt s 7) (bAt s 8) (bAt s 9), n4 (bAt s 10) (bAt s 11) (bAt s 12) (bAt s 13), n2 (bAt s 14) (bAt s 15), true, n2 (bAt s 16) (bAt s 17)⟩ : SG) := by
    refine ⟨?_, ?_, ?_, ?_, ?_, ?_, ?_, ?_⟩ <;> simp only <;> first | omega | (simp; done) | (simp; omega)
  have hr : Rng (⟨hF s, true, false, n4 (bAt s 2) (bAt s 3) (bAt s 4) (bAt s 5), true, false, n4 (bAt s 6) (bAt s 7) (bAt s 8) (bAt s 9), n4 (bAt s 10) (bAt s 11) (bAt s 12) (bAt s 13), n2 (bAt s 14) (bAt s 15), true, n2 (bAt s 16) (bAt s 17)⟩ : SG) := by
    refine ⟨?_, ?_, ?_, ?_⟩ <;> simp only <;> omega
  unfold Again
  rw [hd]
  refine ⟨hm, hr, by rw [enc, if_pos hm], cutL s 2 16, ?_, cut2 s 16 z, by rw [cutL_length]; omega, by omega⟩
  have ef : flags (⟨hF s, true, false, n4 (bAt s 2) (bAt s 3) (bAt s 4) (bAt s 5), true, false, n4 (bAt s 6) (bAt s 7) (bAt s 8) (bAt s 9), n4 (bAt s 10) (bAt s 11) (bAt s 12) (bAt s 13), n2 (bAt s 14) (bAt s 15), true, n2 (bAt s 16) (bAt s 17)⟩ : SG) = flagsOf (bAt s 1).toNat := by
    show UInt8.ofNat _ = _
    unfold flagsOf
    unfold hA at eA
    unfold hM at eM
    unfold hL at eL
    unfold hD at eD
    rw [eA, eM, eL, eD]
    first | rfl | (unfold hF; rfl)
  rw [enc, if_pos hm]
  show (⟨(UInt8.ofNat 32 :: flags (⟨hF s, true, false, n4 (bAt s 2) (bAt s 3) (bAt s 4) (bAt s 5), true, false, n4 (bAt s 6) (bAt s 7) (bAt s 8) (bAt s 9), n4 (bAt s 10) (bAt s 11) (bAt s 12) (bAt s 13), n2 (bAt s 14) (bAt s 15), true, n2 (bAt s 16) (bAt s 17)⟩ : SG) :: _).toArray⟩ : ByteArray) = _
  rw [ef]
  congr 4
  simp only [num, b8_n8, b4_n4, b2_n2]
  rfl
theorem again10110 (s : ByteArray) (h1 : (bAt s 0).toNat / 16 = 2) (eA : hA s = true) (eM : hM s = true) (eL : hL s = false) (eD : hD s = true) (z : s.size = 20) : Again s := by
  have g1 := n4_range (bAt s 2) (bAt s 3) (bAt s 4) (bAt s 5)
  have g2 := n8_range (bAt s 6) (bAt s 7) (bAt s 8) (bAt s 9) (bAt s 10) (bAt s 11) (bAt s 12) (bAt s 13)
  have g3 := n4_range (bAt s 14) (bAt s 15) (bAt s 16) (bAt s 17)
  have g4 := n2_range (bAt s 18) (bAt s 19)
  have hd : dec s = ((⟨hF s, true, false, n4 (bAt s 2) (bAt s 3) (bAt s 4) (bAt s 5), true, true, n8 (bAt s 6) (bAt s 7) (bAt s 8) (bAt s 9) (bAt s 10) (bAt s 11) (bAt s 12) (bAt s 13), n4 (bAt s 14) (bAt s 15) (bAt s 16) (bAt s 17), n2 (bAt s 18) (bAt s 19), false, 0⟩ : SG), 0) := by
    rw [dec_cls (a := true) (l := false) (m := true) (d := true) (by omega) h1 eA eL eM eD, dF_o rfl (by show s.size = 20; exact z)]
    rfl
  have hm : may (⟨hF s, true, false, n4 (bAt s 2) (bAt s 3) (bAt s 4) (bAt s 5), true, true, n8 (bAt s 6) (bAt s 7) (bAt s 8) (bAt s 9) (bAt s 10) (bAt s 11) (bAt s 12) (bAt s 13), n4 (bAt s 14) (bAt s 15) (bAt s 16) (bAt s 17), n2 (bAt s 18) (bAt s 19), false, 0⟩ : SG) := by
    refine ⟨?_, ?_, ?_, ?_, ?_, ?_, ?_, ?_⟩ <;> simp only <;> first | omega | (simp; done) | (simp; omega)
  have hr : Rng (⟨hF s, true, false, n4 (bAt s 2) (bAt s 3) (bAt s 4) (bAt s 5), true, true, n8 (bAt s 6) (bAt s 7) (bAt s 8) (bAt s 9) (bAt s 10) (bAt s 11) (bAt s 12) (bAt s 13), n4 (bAt s 14) (bAt s 15) (bAt s 16) (bAt s 17), n2 (bAt s 18) (bAt s 19), false, 0⟩ : SG) := by
    refine ⟨?_, ?_, ?_, ?_⟩ <;> simp only <;> omega
  unfold Again
  rw [hd]
  refine ⟨hm, hr, by rw [enc, if_pos hm], cutL s 2 18, ?_, cut2 s 18 z, by rw [cutL_length]; omega, by omega⟩
  have ef : flags (⟨hF s, true, false, n4 (bAt s 2) (bAt s 3) (bAt s 4) (bAt s 5), true, true, n8 (bAt s 6) (bAt s 7) (bAt s 8) (bAt s 9) (bAt s 10) (bAt s 11) (bAt s 12) (bAt s 13), n4 (bAt s 14) (bAt s 15) (bAt s 16) (bAt s 17), n2 (bAt s 18) (bAt s 19), false, 0⟩ : SG) = flagsOf (bAt s 1).toNat := by
    show UInt8.ofNat _ = _
    unfold flagsOf
    unfold hA at eA
    unfold hM at eM
    unfold hL at eL
    unfold hD at eD
    rw [eA, eM, eL, eD]
    first | rfl | (unfold hF; rfl)
  rw [enc, if_pos hm]
  show (⟨(UInt8.ofNat 32 :: flags (⟨hF s, true, false, n4 (bAt s 2) (bAt s 3) (bAt s 4) (bAt s 5), true, true, n8 (bAt s 6) (bAt s 7) (bAt s 8) (bAt s 9) (bAt s 10) (bAt s 11) (bAt s 12) (bAt s 13), n4 (bAt s 14) (bAt s 15) (bAt s 16) (bAt s 17), n2 (bAt s 18) (bAt s 19), false, 0⟩ : SG) :: _).toArray⟩ : ByteArray) = _
  rw [ef]
  congr 4
  simp only [num, b8_n8, b4_n4, b2_n2]
  rfl
theorem again10111 (s : ByteArray) (h1 : (bAt s 0).toNat / 16 = 2) (eA : hA s = true) (eM : hM s = true) (eL : hL s = false) (eD : hD s = true) (z : s.size = 22) : Again s := by
  have g1 := n4_range (bAt s 2) (bAt s 3) (bAt s 4) (bAt s 5)
  have g2 := n8_range (bAt s 6) (bAt s 7) (bAt s 8) (bAt s 9) (bAt s 10) (bAt s 11) (bAt s 12) (bAt s 13)
  have g3 := n4_range (bAt s 14) (bAt s 15) (bAt s 16) (bAt s 17)
  have g4 := n2_range (bAt s 18) (bAt s 19)
  have g5 := n2_range (bAt s 20) (bAt s 21)
  have hd : dec s = ((⟨hF s, true, false, n4 (bAt s 2) (bAt s 3) (bAt s 4) (bAt s 5), true, true, n8 (bAt s 6) (bAt s 7) (bAt s 8) (bAt s 9) (bAt s 10) (bAt s 11) (bAt s 12) (bAt s 13), n4 (bAt s 14) (bAt s 15) (bAt s 16) (bAt s 17), n2 (bAt s 18) (bAt s 19), true, n2 (bAt s 20) (bAt s 21)⟩ : SG), 0) := by
    rw [dec_cls (a := true) (l := false) (m := true) (d := true) (by omega) h1 eA eL eM eD, dF_h rfl (by show s.size = 22; exact z)]
    rfl
  have hm : may (⟨hF s, true, false, n4 (bAt s 2) (bAt s 3) (bAt s 4) (bAt s 5), true, true, n8 (bAt s 6) (bAt s 7) (bAt s 8) (bAt s 9) (bAt s 10) (bAt s 11) (bAt s 12) (bAt s 13), n4 (bAt s 14) (bAt s 15) (bAt s 16) (bAt s 17), n2 (bAt s 18) (bAt s 19), true, n2 (bAt s 20) (bAt s 21)⟩ : SG) := by
    refine ⟨?_, ?_, ?_, ?_, ?_, ?_, ?_, ?_⟩ <;> simp only <;> first | omega | (simp; done) | (simp; omega)
  have hr : Rng (⟨hF s, true, false, n4 (bAt s 2) (bAt s 3) (bAt s 4) (bAt s 5), true, true, n8 (bAt s 6) (bAt s 7) (bAt s 8) (bAt s 9) (bAt s 10) (bAt s 11) (bAt s 12) (bAt s 13), n4 (bAt s 14) (bAt s 15) (bAt s 16) (bAt s 17), n2 (bAt s 18) (bAt s 19), true, n2 (bAt s 20) (bAt s 21)⟩ : SG) := by
    refine ⟨?_, ?_, ?_, ?_⟩ <;> simp only <;> omega
  unfold Again
  rw [hd]
  refine ⟨hm, hr, by rw [enc, if_pos hm], cutL s 2 20, ?_, cut2 s 20 z, by rw [cutL_length]; omega, by omega⟩
  have ef : flags (⟨hF s, true, false, n4 (bAt s 2) (bAt s 3) (bAt s 4) (bAt s 5), true, true, n8 (bAt s 6) (bAt s 7) (bAt s 8) (bAt s 9) (bAt s 10) (bAt s 11) (bAt s 12) (bAt s 13), n4 (bAt s 14) (bAt s 15) (bAt s 16) (bAt s 17), n2 (bAt s 18) (bAt s 19), true, n2 (bAt s 20) (bAt s 21)⟩ : SG) = flagsOf (bAt s 1).toNat := by
    show UInt8.ofNat _ = _
    unfold flagsOf
    unfold hA at eA
    unfold hM at eM
    unfold hL at eL
    unfold hD at eD
    rw [eA, eM, eL, eD]
    first | rfl | (unfold hF; rfl)
  rw [enc, if_pos hm]
  show (⟨(UInt8.ofNat 32 :: flags (⟨hF s, true, false, n4 (bAt s 2) (bAt s 3) (bAt s 4) (bAt s 5), true, true, n8 (bAt s 6) (bAt s 7) (bAt s 8) (bAt s 9) (bAt s 10) (bAt s 11) (bAt s 12) (bAt s 13), n4 (bAt s 14) (bAt s 15) (bAt s 16) (bAt s 17), n2 (bAt s 18) (bAt s 19), true, n2 (bAt s 20) (bAt s 21)⟩ : SG) :: _).toArray⟩ : ByteArray) = _
  rw [ef]
  congr 4
  simp only [num, b8_n8, b4_n4, b2_n2]
  rfl
theorem again11100 (s : ByteArray) (h1 : (bAt s 0).toNat / 16 = 2) (eA : hA s = true) (eM : hM s = true) (eL : hL s = true) (eD : hD s = false) (z : s.size = 20) : Again s := by
  have g1 := n8_range (bAt s 2) (bAt s 3) (bAt s 4) (bAt s 5) (bAt s 6) (bAt s 7) (bAt s 8) (bAt s 9)
  have g2 := n4_range (bAt s 10) (bAt s 11) (bAt s 12) (bAt s 13)
  have g3 := n4_range (bAt s 14) (bAt s 15) (bAt s 16) (bAt s 17)
  have g4 := n2_range (bAt s 18) (bAt s 19)
  have hd : dec s = ((⟨hF s, true, true, n8 (bAt s 2) (bAt s 3) (bAt s 4) (bAt s 5) (bAt s 6) (bAt s 7) (bAt s 8) (bAt s 9), true, false, n4 (bAt s 10) (bAt s 11) (bAt s 12) (bAt s 13), n4 (bAt s 14) (bAt s 15) (bAt s 16) (bAt s 17), n2 (bAt s 18) (bAt s 19), false, 0⟩ : SG), 0) := by
    rw [dec_cls (a := true) (l := true) (m := true) (d := false) (by omega) h1 eA eL eM eD, dF_o rfl (by show s.size = 20; exact z)]
    rfl
  have hm : may (⟨hF s, true, true, n8 (bAt s 2) (bAt s 3) (bAt s 4) (bAt s 5) (bAt s 6) (bAt s 7) (bAt s 8) (bAt s 9), true, false, n4 (bAt s 10) (bAt s 11) (bAt s 12) (bAt s 13), n4 (bAt s 14) (bAt s 15) (bAt s 16) (bAt s 17), n2 (bAt s 18) (bAt s 19), false, 0⟩ : SG) := by
    refine ⟨?_, ?_, ?_, ?_, ?_, ?_, ?_, ?_⟩ <;> simp only <;> first | omega | (simp; done) | (simp; omega)
  have hr : Rng (⟨hF s, true, true, n8 (bAt s 2) (bAt s 3) (bAt s 4) (bAt s 5) (bAt s 6) (bAt s 7) (bAt s 8) (bAt s 9), true, false, n4 (bAt s 10) (bAt s 11) (bAt s 12) (bAt s 13), n4 (bAt s 14) (bAt s 15) (bAt s 16) (bAt s 17), n2 (bAt s 18) (bAt s 19), false, 0⟩ : SG) := by
    refine ⟨?_, ?_, ?_, ?_⟩ <;> simp only <;> omega
  unfold Again
  rw [hd]
  refine ⟨hm, hr, by rw [enc, if_pos hm], cutL s 2 18, ?_, cut2 s 18 z, by rw [cutL_length]; omega, by omega⟩
  have ef : flags (⟨hF s, true, true, n8 (bAt s 2) (bAt s 3) (bAt s 4) (bAt s 5) (bAt s 6) (bAt s 7) (bAt s 8) (bAt s 9), true, false, n4 (bAt s 10) (bAt s 11) (bAt s 12) (bAt s 13), n4 (bAt s 14) (bAt s 15) (bAt s 16) (bAt s 17), n2 (bAt s 18) (bAt s 19), false, 0⟩ : SG) = flagsOf (bAt s 1).toNat := by
    show UInt8.ofNat _ = _
    unfold flagsOf
    unfold hA at eA
    unfold hM at eM
    unfold hL at eL
    unfold hD at eD
    rw [eA, eM, eL, eD]
    first | rfl | (unfold hF; rfl)
  rw [enc, if_pos hm]
  show (⟨(UInt8.ofNat 32 :: flags (⟨hF s, true, true, n8 (bAt s 2) (bAt s 3) (bAt s 4) (bAt s 5) (bAt s 6) (bAt s 7) (bAt s 8) (bAt s 9), true, false, n4 (bAt s 10) (bAt s 11) (bAt s 12) (bAt s 13), n4 (bAt s 14) (bAt s 15) (bAt s 16) (bAt s 17), n2 (bAt s 18) (bAt s 19), false, 0⟩ : SG) :: _).toArray⟩ : ByteArray) = _
  rw [ef]
  congr 4
  simp only [num, b8_n8, b4_n4, b2_n2]
  rfl
theorem again11101 (s : ByteArray) (h1 : (bAt s 0).toNat / 16 = 2) (eA : hA s = true) (eM : hM s = true) (eL : hL s = true) (eD : hD s = false) (z : s.size = 22) : Again s := by
  have g1 := n8_range (bAt s 2) (bAt s 3) (bAt s 4) (bAt s 5) (bAt s 6) (bAt s 7) (bAt s 8) (bAt s 9)
  have g2 := n4_range (bAt s 10) (bAt s 11) (bAt s 12) (bAt s 13)
  have g3 := n4_range (bAt s 14) (bAt s 15) (bAt s 16) (bAt s 17)
  have g4 := n2_range (bAt s 18) (bAt s 19)
  have g5 := n2_range (bAt s 20) (bAt s 21)
  have hd : dec s = ((⟨hF s, true, true, n8 (bAt s 2) (bAt s 3) (bAt s 4) (bAt s 5) (bAt s 6) (bAt s 7) (bAt s 8) (bAt s 9), true, false, n4 (bAt s 10) (bAt s 11) (bAt s 12) (bAt s 13), n4 (bAt s 14) (bAt s 15) (bAt s 16) (bAt s 17), n2 (bAt s 18) (bAt s 19), true, n2 (bAt s 20) (bAt s 21)⟩ : SG), 0) := by
    rw [dec_cls (a := true) (l := true) (m := true) (d := false) (by omega) h1 eA eL eM eD, dF_h rfl (by show s.size = 22; exact z)]
    rfl
  have hm : may (⟨hF s, true, true, n8 (bAt s 2) (bAt s 3) (bAt s 4) (bAt s 5) (bAt s 6) (bAt s 7) (bAt s 8) (bAt s 9), true, false, n4 (bAt s 10) (bAt s 11) (bAt s 12) (bAt s 13), n4 (bAt s 14) (bAt s 15) (bAt s 16) (bAt s 17), n2 (bAt s 18) (bAt s 19), true, n2 (bAt s 20) (bAt s 21)⟩ : SG) := by
    refine ⟨?_, ?_, ?_, ?_, ?_, ?_, ?_, ?_⟩ <;> simp only <;> first | omega | (simp; done) | (simp; omega)
  have hr : Rng (⟨hF s, true, true, n8 (bAt s 2) (bAt s 3) (bAt s 4) (bAt s 5) (bAt s 6) (bAt s 7) (bAt s 8) (bAt s 9), true, false, n4 (bAt s 10) (bAt s 11) (bAt s 12) (bAt s 13), n4 (bAt s 14) (bAt s 15) (bAt s 16) (bAt s 17), n2 (bAt s 18) (bAt s 19), true, n2 (bAt s 20) (bAt s 21)⟩ : SG) := by
    refine ⟨?_, ?_, ?_, ?_⟩ <;> simp only <;> omega
  unfold Again
  rw [hd]
  refine ⟨hm, hr, by rw [enc, if_pos hm], cutL s 2 20, ?_, cut2 s 20 z, by rw [cutL_length]; omega, by omega⟩
  have ef : flags (⟨hF s, true, true, n8 (bAt s 2) (bAt s 3) (bAt s 4) (bAt s 5) (bAt s 6) (bAt s 7) (bAt s 8) (bAt s 9), true, false, n4 (bAt s 10) (bAt s 11) (bAt s 12) (bAt s 13), n4 (bAt s 14) (bAt s 15) (bAt s 16) (bAt s 17), n2 (bAt s 18) (bAt s 19), true, n2 (bAt s 20) (bAt s 21)⟩ : SG) = flagsOf (bAt s 1).toNat := by
    show UInt8.ofNat _ = _
    unfold flagsOf
    unfold hA at eA
    unfold hM at eM
    unfold hL at eL
    unfold hD at eD
    rw [eA, eM, eL, eD]
    first | rfl | (unfold hF; rfl)
  rw [enc, if_pos hm]
  show (⟨(UInt8.ofNat 32 :: flags (⟨hF s, true, true, n8 (bAt s 2) (bAt s 3) (bAt s 4) (bAt s 5) (bAt s 6) (bAt s 7) (bAt s 8) (bAt s 9), true, false, n4 (bAt s 10) (bAt s 11) (bAt s 12) (bAt s 13), n4 (bAt s 14) (bAt s 15) (bAt s 16) (bAt s 17), n2 (bAt s 18) (bAt s 19), true, n2 (bAt s 20) (bAt s 21)⟩ : SG) :: _).toArray⟩ : ByteArray) = _
  rw [ef]
  congr 4
  simp only [num, b8_n8, b4_n4, b2_n2]
  rfl
theorem again11110 (s : ByteArray) (h1 : (bAt s 0).toNat / 16 = 2) (eA : hA s = true) (eM : hM s = true) (eL : hL s = true) (eD : hD s = true) (z : s.size = 24) : Again s := by
  have g1 := n8_range (bAt s 2) (bAt s 3) (bAt s 4) (bAt s 5) (bAt s 6) (bAt s 7) (bAt s 8) (bAt s 9)
  have g2 := n8_range (bAt s 10) (bAt s 11) (bAt s 12) (bAt s 13) (bAt s 14) (bAt s 15) (bAt s 16) (bAt s 17)
  have g3 := n4_range (bAt s 18) (bAt s 19) (bAt s 20) (bAt s 21)
  have g4 := n2_range (bAt s 22) (bAt s 23)
  have hd : dec s = ((⟨hF s, true, true, n8 (bAt s 2) (bAt s 3) (bAt s 4) (bAt s 5) (bAt s 6) (bAt s 7) (bAt s 8) (bAt s 9), true, true, n8 (bAt s 10) (bAt s 11) (bAt s 12) (bAt s 13) (bAt s 14) (bAt s 15) (bAt s 16) (bAt s 17), n4 (bAt s 18) (bAt s 19) (bAt s 20) (bAt s 21), n2 (bAt s 22) (bAt s 23), false, 0⟩ : SG), 0) := by
    rw [dec_cls (a := true) (l := true) (m := true) (d := true) (by omega) h1 eA eL eM eD, dF_o rfl (by show s.size = 24; exact z)]
    rfl
  have hm : may (⟨hF s, true, true, n8 (bAt s 2) (bAt s 3) (bAt s 4) (bAt s 5) (bAt s 6) (bAt s 7) (bAt s 8) (bAt s 9), true, true, n8 (bAt s 10) (bAt s 11) (bAt s 12) (bAt s 13) (bAt s 14) (bAt s 15) (bAt s 16) (bAt s 17), n4 (bAt s 18) (bAt s 19) (bAt s 20) (bAt s 21), n2 (bAt s 22) (bAt s 23), false, 0⟩ : SG) := by
    refine ⟨?_, ?_, ?_, ?_, ?_, ?_, ?_, ?_⟩ <;> simp only <;> first | omega | (simp; done) | (simp; omega)
  have hr : Rng (⟨hF s, true, true, n8 (bAt s 2) (bAt s 3) (bAt s 4) (bAt s 5) (bAt s 6) (bAt s 7) (bAt s 8) (bAt s 9), true, true, n8 (bAt s 10) (bAt s 11) (bAt s 12) (bAt s 13) (bAt s 14) (bAt s 15) (bAt s 16) (bAt s 17), n4 (bAt s 18) (bAt s 19) (bAt s 20) (bAt s 21), n2 (bAt s 22) (bAt s 23), false, 0⟩ : SG) := by
    refine ⟨?_, ?_, ?_, ?_⟩ <;> simp only <;> omega
  unfold Again
  rw [hd]
  refine ⟨hm, hr, by rw [enc, if_pos hm], cutL s 2 22, ?_, cut2 s 22 z, by rw [cutL_length]; omega, by omega⟩
  have ef : flags (⟨hF s, true, true, n8 (bAt s 2) (bAt s 3) (bAt s 4) (bAt s 5) (bAt s 6) (bAt s 7) (bAt s 8) (bAt s 9), true, true, n8 (bAt s 10) (bAt s 11) (bAt s 12) (bAt s 13) (bAt s 14) (bAt s 15) (bAt s 16) (bAt s 17), n4 (bAt s 18) (bAt s 19) (bAt s 20) (bAt s 21), n2 (bAt s 22) (bAt s 23), false, 0⟩ : SG) = flagsOf (bAt s 1).toNat := by
    show UInt8.ofNat _ = _
    unfold flagsOf
    unfold hA at eA
    unfold hM at eM
    unfold hL at eL
    unfold hD at eD
    rw [eA, eM, eL, eD]
    first | rfl | (unfold hF; rfl)
  rw [enc, if_pos hm]
  show (⟨(UInt8.ofNat 32 :: flags (⟨hF s, true, true, n8 (bAt s 2) (bAt s 3) (bAt s 4) (bAt s 5) (bAt s 6) (bAt s 7) (bAt s 8) (bAt s 9), true, true, n8 (bAt s 10) (bAt s 11) (bAt s 12) (bAt s 13) (bAt s 14) (bAt s 15) (bAt s 16) (bAt s 17), n4 (bAt s 18) (bAt s 19) (bAt s 20) (bAt s 21), n2 (bAt s 22) (bAt s 23), false, 0⟩ : SG) :: _).toArray⟩ : ByteArray) = _
  rw [ef]
  congr 4
  simp only [num, b8_n8, b4_n4, b2_n2]
  rfl
theorem again11111 (s : ByteArray) (h1 : (bAt s 0).toNat / 16 = 2) (eA : hA s = true) (eM : hM s = true) (eL : hL s = true) (eD : hD s = true) (z : s.size = 26) : Again s := by
  have g1 := n8_range (bAt s 2) (bAt s 3) (bAt s 4) (bAt s 5) (bAt s 6) (bAt s 7) (bAt s 8) (bAt s 9)
  have g2 := n8_range (bAt s 10) (bAt s 11) (bAt s 12) (bAt s 13) (bAt s 14) (bAt s 15) (bAt s 16) (bAt s 17)
  have g3 := n4_range (bAt s 18) (bAt s 19) (bAt s 20) (bAt s 21)
  have g4 := n2_range (bAt s 22) (bAt s 23)
  have g5 := n2_range (bAt s 24) (bAt s 25)
  have hd : dec s = ((⟨hF s, true, true, n8 (bAt s 2) (bAt s 3) (bAt s 4) (bAt s 5) (bAt s 6) (bAt s 7) (bAt s 8) (bAt s 9), true, true, n8 (bAt s 10) (bAt s 11) (bAt s 12) (bAt s 13) (bAt s 14) (bAt s 15) (bAt s 16) (bAt s 17), n4 (bAt s 18) (bAt s 19) (bAt s 20) (bAt s 21), n2 (bAt s 22) (bAt s 23), true, n2 (bAt s 24) (bAt s 25)⟩ : SG), 0) := by
    rw [dec_cls (a := true) (l := true) (m := true) (d := true) (by omega) h1 eA eL eM eD, dF_h rfl (by show s.size = 26; exact z)]
    rfl
  have hm : may (⟨hF s, true, true, n8 (bAt s 2) (bAt s 3) (bAt s 4) (bAt s 5) (bAt s 6) (bAt s 7) (bAt s 8) (bAt s 9), true, true, n8 (bAt s 10) (bAt s 11) (bAt s 12) (bAt s 13) (bAt s 14) (bAt s 15) (bAt s 16) (bAt s 17), n4 (bAt s 18) (bAt s 19) (bAt s 20) (bAt s 21), n2 (bAt s 22) (bAt s 23), true, n2 (bAt s 24) (bAt s 25)⟩ : SG) := by
    refine ⟨?_, ?_, ?_, ?_, ?_, ?_, ?_, ?_⟩ <;> simp only <;> first | omega | (simp; done) | (simp; omega)
  have hr : Rng (⟨hF s, true, true, n8 (bAt s 2) (bAt s 3) (bAt s 4) (bAt s 5) (bAt s 6) (bAt s 7) (bAt s 8) (bAt s 9), true, true, n8 (bAt s 10) (bAt s 11) (bAt s 12) (bAt s 13) (bAt s 14) (bAt s 15) (bAt s 16) (bAt s 17), n4 (bAt s 18) (bAt s 19) (bAt s 20) (bAt s 21), n2 (bAt s 22) (bAt s 23), true, n2 (bAt s 24) (bAt s 25)⟩ : SG) := by
    refine ⟨?_, ?_, ?_, ?_⟩ <;> simp only <;> omega
  unfold Again
  rw [hd]
  refine ⟨hm, hr, by rw [enc, if_pos hm], cutL s 2 24, ?_, cut2 s 24 z, by rw [cutL_length]; omega, by omega⟩
  have ef : flags (⟨hF s, true, true, n8 (bAt s 2) (bAt s 3) (bAt s 4) (bAt s 5) (bAt s 6) (bAt s 7) (bAt s 8) (bAt s 9), true, true, n8 (bAt s 10) (bAt s 11) (bAt s 12) (bAt s 13) (bAt s 14) (bAt s 15) (bAt s 16) (bAt s 17), n4 (bAt s 18) (bAt s 19) (bAt s 20) (bAt s 21), n2 (bAt s 22) (bAt s 23), true, n2 (bAt s 24) (bAt s 25)⟩ : SG) = flagsOf (bAt s 1).toNat := by
    show UInt8.ofNat _ = _
    unfold flagsOf
    unfold hA at eA
    unfold hM at eM
    unfold hL at eL
    unfold hD at eD
    rw [eA, eM, eL, eD]
    first | rfl | (unfold hF; rfl)
  rw [enc, if_pos hm]
  show (⟨(UInt8.ofNat 32 :: flags (⟨hF s, true, true, n8 (bAt s 2) (bAt s 3) (bAt s 4) (bAt s 5) (bAt s 6) (bAt s 7) (bAt s 8) (bAt s 9), true, true, n8 (bAt s 10) (bAt s 11) (bAt s 12) (bAt s 13) (bAt s 14) (bAt s 15) (bAt s 16) (bAt s 17), n4 (bAt s 18) (bAt s 19) (bAt s 20) (bAt s 21), n2 (bAt s 22) (bAt s 23), true, n2 (bAt s 24) (bAt s 25)⟩ : SG) :: _).toArray⟩ : ByteArray) = _
  rw [ef]
  congr 4
  simp only [num, b8_n8, b4_n4, b2_n2]
  rfl
theorem again (s : ByteArray) (h : (dec s).2 = 0) : Again s := by
  by_cases h0 : s.size = 0
  · rw [dec, if_pos h0] at h; exact absurd h (by decide)
  by_cases h1n : ¬ (bAt s 0).toNat / 16 = 2
  · rw [dec, if_neg h0, if_pos h1n] at h; exact absurd h (by decide)
  have h1 : (bAt s 0).toNat / 16 = 2 := by omega
  by_cases h2 : s.size < 2
  · rw [dec, if_neg h0, if_neg (by omega), if_pos h2] at h; exact absurd h (by decide)
  rw [dec, if_neg h0, if_neg (by omega), if_neg h2] at h
  cases eA : hA s <;> cases eL : hL s <;> cases eM : hM s <;> cases eD : hD s <;> rw [eA, eL, eM, eD] at h <;> unfold decF at h
  · rw [if_pos (show (false || false) = false from rfl)] at h; exact absurd h (by decide)
  · rw [if_pos (show (false || false) = false from rfl)] at h; exact absurd h (by decide)
  · rw [if_neg (show ¬ (false || true) = false by decide)] at h
    by_cases z1 : s.size < 12
    · rw [if_pos (show s.size < need false false true false from z1)] at h; exact absurd h (by decide)
    rw [if_neg (show ¬ s.size < need false false true false from z1)] at h
    by_cases z2 : s.size = 12
    · exact again00100 s h1 eA eM eD z2
    rw [if_neg (show ¬ s.size = need false false true false from z2)] at h
    by_cases z3 : s.size = 14
    · exact again00101 s h1 eA eM eD z3
    rw [if_neg (show ¬ (true = true ∧ s.size = need false false true false + 2) by rintro ⟨_, q⟩; exact z3 q)] at h
    exact absurd h (by decide)
  · rw [if_neg (show ¬ (false || true) = false by decide)] at h
    by_cases z1 : s.size < 16
    · rw [if_pos (show s.size < need false false true true from z1)] at h; exact absurd h (by decide)
    rw [if_neg (show ¬ s.size < need false false true true from z1)] at h
    by_cases z2 : s.size = 16
    · exact again00110 s h1 eA eM eD z2
    rw [if_neg (show ¬ s.size = need false false true true from z2)] at h
    by_cases z3 : s.size = 18
    · exact again00111 s h1 eA eM eD z3
    rw [if_neg (show ¬ (true = true ∧ s.size = need false false true true + 2) by rintro ⟨_, q⟩; exact z3 q)] at h
    exact absurd h (by decide)
  · rw [if_pos (show (false || false) = false from rfl)] at h; exact absurd h (by decide)
  · rw [if_pos (show (false || false) = false from rfl)] at h; exact absurd h (by decide)
  · rw [if_neg (show ¬ (false || true) = false by decide)] at h
    by_cases z1 : s.size < 12
    · rw [if_pos (show s.size < need false true true false from z1)] at h; exact absurd h (by decide)
    rw [if_neg (show ¬ s.size < need false true true false from z1)] at h
    by_cases z2 : s.size = 12
    · exact again00100 s h1 eA eM eD z2
    rw [if_neg (show ¬ s.size = need false true true false from z2)] at h
    by_cases z3 : s.size = 14
    · exact again00101 s h1 eA eM eD z3
    rw [if_neg (show ¬ (true = true ∧ s.size = need false true true false + 2) by rintro ⟨_, q⟩; exact z3 q)] at h
    exact absurd h (by decide)
  · rw [if_neg (show ¬ (false || true) = false by decide)] at h
    by_cases z1 : s.size < 16
    · rw [if_pos (show s.size < need false true true true from z1)] at h; exact absurd h (by decide)
    rw [if_neg (show ¬ s.size < need false true true true from z1)] at h
    by_cases z2 : s.size = 16
    · exact again00110 s h1 eA eM eD z2
    rw [if_neg (show ¬ s.size = need false true true true from z2)] at h
    by_cases z3 : s.size = 18
    · exact again00111 s h1 eA eM eD z3
    rw [if_neg (show ¬ (true = true ∧ s.size = need false true true true + 2) by rintro ⟨_, q⟩; exact z3 q)] at h
    exact absurd h (by decide)
  · rw [if_neg (show ¬ (true || false) = false by decide)] at h
    by_cases z1 : s.size < 6
    · rw [if_pos (show s.size < need true false false false from z1)] at h; exact absurd h (by decide)
    rw [if_neg (show ¬ s.size < need true false false false from z1)] at h
    by_cases z2 : s.size = 6
    · exact again10000 s h1 eA eM eL z2
    rw [if_neg (show ¬ s.size = need true false false false from z2)] at h
    rw [if_neg (show ¬ (false = true ∧ s.size = need true false false false + 2) by rintro ⟨q, _⟩; cases q)] at h
    exact absurd h (by decide)
  · rw [if_neg (show ¬ (true || false) = false by decide)] at h
    by_cases z1 : s.size < 6
    · rw [if_pos (show s.size < need true false false true from z1)] at h; exact absurd h (by decide)
    rw [if_neg (show ¬ s.size < need true false false true from z1)] at h
    by_cases z2 : s.size = 6
    · exact again10000 s h1 eA eM eL z2
    rw [if_neg (show ¬ s.size = need true false false true from z2)] at h
    rw [if_neg (show ¬ (false = true ∧ s.size = need true false false true + 2) by rintro ⟨q, _⟩; cases q)] at h
    exact absurd h (by decide)
  · rw [if_neg (show ¬ (true || true) = false by decide)] at h
    by_cases z1 : s.size < 16
    · rw [if_pos (show s.size < need true false true false from z1)] at h; exact absurd h (by decide)
    rw [if_neg (show ¬ s.size < need true false true false from z1)] at h
    by_cases z2 : s.size = 16
    · exact again10100 s h1 eA eM eL eD z2
    rw [if_neg (show ¬ s.size = need true false true false from z2)] at h
    by_cases z3 : s.size = 18
    · exact again10101 s h1 eA eM eL eD z3
    rw [if_neg (show ¬ (true = true ∧ s.size = need true false true false + 2) by rintro ⟨_, q⟩; exact z3 q)] at h
    exact absurd h (by decide)
  · rw [if_neg (show ¬ (true || true) = false by decide)] at h
    by_cases z1 : s.size < 20
    · rw [if_pos (show s.size < need true false true true from z1)] at h; exact absurd h (by decide)
    rw [if_neg (show ¬ s.size < need true false true true from z1)] at h
    by_cases z2 : s.size = 20
    · exact again10110 s h1 eA eM eL eD z2
    rw [if_neg (show ¬ s.size = need true false true true from z2)] at h
    by_cases z3 : s.size = 22
    · exact again10111 s h1 eA eM eL eD z3
    rw [if_neg (show ¬ (true = true ∧ s.size = need true false true true + 2) by rintro ⟨_, q⟩; exact z3 q)] at h
    exact absurd h (by decide)
  · rw [if_neg (show ¬ (true || false) = false by decide)] at h
    by_cases z1 : s.size < 10
    · rw [if_pos (show s.size < need true true false false from z1)] at h; exact absurd h (by decide)
    rw [if_neg (show ¬ s.size < need true true false false from z1)] at h
    by_cases z2 : s.size = 10
    · exact again11000 s h1 eA eM eL z2
    rw [if_neg (show ¬ s.size = need true true false false from z2)] at h
    rw [if_neg (show ¬ (false = true ∧ s.size = need true true false false + 2) by rintro ⟨q, _⟩; cases q)] at h
    exact absurd h (by decide)
  · rw [if_neg (show ¬ (true || false) = false by decide)] at h
    by_cases z1 : s.size < 10
    · rw [if_pos (show s.size < need true true false true from z1)] at h; exact absurd h (by decide)
    rw [if_neg (show ¬ s.size < need true true false true from z1)] at h
    by_cases z2 : s.size = 10
    · exact again11000 s h1 eA eM eL z2
    rw [if_neg (show ¬ s.size = need true true false true from z2)] at h
    rw [if_neg (show ¬ (false = true ∧ s.size = need true true false true + 2) by rintro ⟨q, _⟩; cases q)] at h
    exact absurd h (by decide)
  · rw [if_neg (show ¬ (true || true) = false by decide)] at h
    by_cases z1 : s.size < 20
    · rw [if_pos (show s.size < need true true true false from z1)] at h; exact absurd h (by decide)
    rw [if_neg (show ¬ s.size < need true true true false from z1)] at h
    by_cases z2 : s.size = 20
    · exact again11100 s h1 eA eM eL eD z2
    rw [if_neg (show ¬ s.size = need true true true false from z2)] at h
    by_cases z3 : s.size = 22
    · exact again11101 s h1 eA eM eL eD z3
    rw [if_neg (show ¬ (true = true ∧ s.size = need true true true false + 2) by rintro ⟨_, q⟩; exact z3 q)] at h
    exact absurd h (by decide)
  · rw [if_neg (show ¬ (true || true) = false by decide)] at h
    by_cases z1 : s.size < 24
    · rw [if_pos (show s.size < need true true true true from z1)] at h; exact absurd h (by decide)
    rw [if_neg (show ¬ s.size < need true true true true from z1)] at h
    by_cases z2 : s.size = 24
    · exact again11110 s h1 eA eM eL eD z2
    rw [if_neg (show ¬ s.size = need true true true true from z2)] at h
    by_cases z3 : s.size = 26
    · exact again11111 s h1 eA eM eL eD z3
    rw [if_neg (show ¬ (true = true ∧ s.size = need true true true true + 2) by rintro ⟨_, q⟩; exact z3 q)] at h
    exact absurd h (by decide)
end Go.Proofs.Ytpbcjeigiklanaa
