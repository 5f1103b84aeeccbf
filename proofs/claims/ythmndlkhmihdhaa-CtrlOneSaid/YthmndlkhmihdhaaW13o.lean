/-
  Walks of functions, reckoned through, and what they give (part W13o). No condition beyond what each says. By an AI agent.
-/
import Derived.Test.YthmndlkhmihdhaaW13l
namespace Go.Proofs.Ythmndlkhmihdhaa
open Go.Ex
open Go.RowKit (Below)
set_option linter.unusedVariables false
set_option linter.unusedSimpArgs false

def F0 (c : Int) : UInt8 := UInt8.ofNat (IntKind.u8.wrap ((80 : Int) + c.tmod (64 : Int))).toNat
def T1 (c : Int) : ByteArray := ByteArray.mk #[UInt8.ofNat (IntKind.u8.wrap ((80 : Int) + c.tmod (64 : Int))).toNat]
def T2 (c r0 : Int) : ByteArray := ByteArray.mk #[UInt8.ofNat (IntKind.u8.wrap ((80 : Int) + c.tmod (64 : Int))).toNat, UInt8.ofNat r0.toNat]
def T9 (c r0 r1 r2 r3 r4 r5 r6 r7 r8 : Int) : ByteArray := ByteArray.mk #[UInt8.ofNat (IntKind.u8.wrap ((80 : Int) + c.tmod (64 : Int))).toNat, UInt8.ofNat r0.toNat, UInt8.ofNat r1.toNat, UInt8.ofNat r2.toNat, UInt8.ofNat r3.toNat, UInt8.ofNat r4.toNat, UInt8.ofNat r5.toNat, UInt8.ofNat r6.toNat, UInt8.ofNat r7.toNat, UInt8.ofNat r8.toNat]
def C11 (c r0 r1 r2 r3 r4 r5 r6 r7 r8 n : Int) : ByteArray := (T9 c r0 r1 r2 r3 r4 r5 r6 r7 r8).extract 0 ((IntKind.i64.wrap n).tmod 11).toNat
/-- A byte, masked. -/
def ma (m z : Int) : Int := IntKind.u8.wrap ((BitVec.ofInt 8 z &&& BitVec.ofInt 8 m).toNat : Int)
def S1 (X : ByteArray) (m : Int) : ByteArray := setB X 0 (ma m (byteAt X 0))
def S2 (X : ByteArray) (m l : Int) : ByteArray := setB (S1 X m) 1 (ma l (byteAt (S1 X m) 1))
theorem ma_lo (m z : Int) : 0 ≤ ma m z := by unfold ma; rw [wu8]; omega
theorem ma_hi (m z : Int) : ma m z < 256 := by unfold ma; rw [wu8]; omega
theorem S1_size (X : ByteArray) (m : Int) : (S1 X m).size = X.size := setB_size _ _ _
theorem S2_size (X : ByteArray) (m l : Int) : (S2 X m l).size = X.size := by unfold S2; rw [setB_size, S1_size]
theorem ma_of (m a : Nat) (ha : a < 256) (hm : m < 256) : (ma (m : Int) (a : Int)).toNat = a &&& m := by
  unfold ma
  rw [BitVec.ofInt_natCast, BitVec.ofInt_natCast, BitVec.toNat_and, BitVec.toNat_ofNat, BitVec.toNat_ofNat, Nat.mod_eq_of_lt (by omega), Nat.mod_eq_of_lt (by omega), wu8]
  have : a &&& m ≤ a := Nat.and_le_left
  omega
theorem ma_of' (m : Nat) (b : UInt8) (hm : m < 256) : UInt8.ofNat (ma (m : Int) (b.toNat : Int)).toNat = UInt8.ofNat (b.toNat &&& m) := by rw [ma_of m _ b.toNat_lt hm]
theorem bad_ne {s : ByteArray} {sub size : Nat} (h : s.size ≠ size ∨ (bAt s 0).toNat / 16 ≠ sub) : (bad s sub size == 0) = false := by
  rw [beq_eq_false_iff_ne]; unfold bad
  repeat' split
  all_goals first | decide | omega
theorem bad_eq {s : ByteArray} {sub size : Nat} (h : s.size = size) (h' : (bAt s 0).toNat / 16 = sub) (h0 : 0 < size) : bad s sub size = 0 := by
  unfold bad
  rw [if_neg (by omega), if_neg (by omega), if_neg (by omega), if_neg (by omega)]
theorem bad_eq' {s : ByteArray} {sub size : Nat} (h : s.size = size) (h' : (bAt s 0).toNat / 16 = sub) (h0 : 0 < size) : (bad s sub size == 0) = true := by
  rw [bad_eq h h' h0]; rfl
theorem mP : ∀ n < 256, n / 16 = 5 → (if n % 2 = 1 then UInt8.ofNat 81 else UInt8.ofNat 80) = UInt8.ofNat (n &&& 241) := by decide +kernel
theorem mF : ∀ n < 256, n / 16 = 6 → UInt8.ofNat 96 = UInt8.ofNat (n &&& 240) := by decide +kernel
theorem mK : ∀ n < 256, n / 16 = 7 → UInt8.ofNat 112 = UInt8.ofNat (n &&& 240) := by decide +kernel
theorem m255 (b : UInt8) : UInt8.ofNat (b.toNat &&& 255) = b := by
  have := b.toNat_lt
  rw [show (255 : Nat) = 2 ^ 8 - 1 from rfl, Nat.and_two_pow_sub_one_eq_mod, Nat.mod_eq_of_lt (by omega), UInt8.ofNat_toNat]
theorem okP {X : ByteArray} (h : X.size = 1) (h' : (bAt X 0).toNat / 16 = 5) : pB (pV X) = S1 X 241 := by
  have hb := bad_eq h h' (by decide)
  have hX := spelled X h
  generalize hq : bAt X 0 = b at *
  have e : X = ⟨#[b]⟩ := by rw [hX, ← hq]; rfl
  have e2 : S1 X 241 = ⟨#[UInt8.ofNat (ma (241 : Nat) (b.toNat : Int)).toNat]⟩ := by rw [e]; rfl
  rw [e2, ma_of' 241 b (by decide), ← mP _ b.toNat_lt h', pV, hb, hq]
  unfold pB pL
  by_cases ho : b.toNat % 2 = 1
  · simp [ho]
  · simp [ho]
theorem byK8 (b2 b3 b4 b5 b6 b7 b8 b9 : UInt8) : byK 72057594037927936 (n8 b2 b3 b4 b5 b6 b7 b8 b9) = b2 ∧ byK 281474976710656 (n8 b2 b3 b4 b5 b6 b7 b8 b9) = b3 ∧ byK 1099511627776 (n8 b2 b3 b4 b5 b6 b7 b8 b9) = b4 ∧ byK 4294967296 (n8 b2 b3 b4 b5 b6 b7 b8 b9) = b5 ∧ byK 16777216 (n8 b2 b3 b4 b5 b6 b7 b8 b9) = b6 ∧ byK 65536 (n8 b2 b3 b4 b5 b6 b7 b8 b9) = b7 ∧ byK 256 (n8 b2 b3 b4 b5 b6 b7 b8 b9) = b8 ∧ byK 1 (n8 b2 b3 b4 b5 b6 b7 b8 b9) = b9 := by
  have h2 := b2.toNat_lt; have h3 := b3.toNat_lt; have h4 := b4.toNat_lt; have h5 := b5.toNat_lt; have h6 := b6.toNat_lt; have h7 := b7.toNat_lt; have h8 := b8.toNat_lt; have h9 := b9.toNat_lt
  unfold n8
  refine ⟨?_, ?_, ?_, ?_, ?_, ?_, ?_, ?_⟩ <;> (apply UInt8.toNat_inj.1; apply Int.ofNat_inj.1; show ((byK _ _).toNat : Int) = _; rw [byK_toNat]; show _ = ((UInt8.toNat _ : Nat) : Int); omega)
theorem okN {X : ByteArray} {sub : Nat} {q : UInt8} (h : X.size = 10) (h' : (bAt X 0).toNat / 16 = sub) (hq : UInt8.ofNat (sub * 16) = UInt8.ofNat ((bAt X 0).toNat &&& 240)) : nB sub (nV X sub) = S2 X 240 0 := by
  have hb := bad_eq h h' (by decide)
  have hX := spelled X h
  obtain ⟨b0, e0⟩ : ∃ b, b = bAt X 0 := ⟨_, rfl⟩
  have e : X = ⟨#[bAt X 0, bAt X 1, bAt X 2, bAt X 3, bAt X 4, bAt X 5, bAt X 6, bAt X 7, bAt X 8, bAt X 9]⟩ := by
    conv => lhs; rw [hX]
    rfl
  unfold nV
  rw [hb, if_pos rfl]
  unfold nB nL
  generalize bAt X 2 = b2 at *; generalize bAt X 3 = b3 at *; generalize bAt X 4 = b4 at *; generalize bAt X 5 = b5 at *; generalize bAt X 6 = b6 at *; generalize bAt X 7 = b7 at *; generalize bAt X 8 = b8 at *; generalize bAt X 9 = b9 at *
  obtain ⟨k2, k3, k4, k5, k6, k7, k8, k9⟩ := byK8 b2 b3 b4 b5 b6 b7 b8 b9
  rw [k2, k3, k4, k5, k6, k7, k8, k9, hq]
  generalize bAt X 1 = b1 at *
  generalize bAt X 0 = bb at *
  have e2 : S2 X 240 0 = ⟨#[UInt8.ofNat (ma (240 : Nat) (bb.toNat : Int)).toNat, UInt8.ofNat (ma (0 : Nat) (b1.toNat : Int)).toNat, b2, b3, b4, b5, b6, b7, b8, b9]⟩ := by rw [e]; rfl
  rw [e2, ma_of' 240 bb (by decide), ma_of' 0 b1 (by decide), Nat.and_zero]
theorem okR {X : ByteArray} (h : X.size = 2) (h' : (bAt X 0).toNat / 16 = 8) : rB (rV X) (qV X) = S2 X 255 255 := by
  have hb := bad_eq h h' (by decide)
  have hX := spelled X h
  have e : X = ⟨#[bAt X 0, bAt X 1]⟩ := by
    conv => lhs; rw [hX]
    rfl
  unfold rV qV
  rw [hb, if_pos rfl, if_pos rfl]
  generalize bAt X 1 = b1 at *
  generalize bAt X 0 = bb at *
  have h1 := bb.toNat_lt; have h2 := b1.toNat_lt
  have e2 : S2 X 255 255 = ⟨#[UInt8.ofNat (ma (255 : Nat) (bb.toNat : Int)).toNat, UInt8.ofNat (ma (255 : Nat) (b1.toNat : Int)).toNat]⟩ := by rw [e]; rfl
  rw [e2, ma_of' 255 bb (by decide), ma_of' 255 b1 (by decide), m255, m255, (rB_ok (a := (bb.toNat : Int) % 16) (b := (b1.toNat : Int)) (decide_eq_true (by omega))).1]
  have f1 : byK 1 (128 + (bb.toNat : Int) % 16) = bb := by
    apply UInt8.toNat_inj.1; apply Int.ofNat_inj.1; show ((byK _ _).toNat : Int) = (bb.toNat : Int); rw [byK_toNat]; omega
  have f2 : byK 1 (b1.toNat : Int) = b1 := by
    apply UInt8.toNat_inj.1; apply Int.ofNat_inj.1; show ((byK _ _).toNat : Int) = (b1.toNat : Int); rw [byK_toNat]; omega
  rw [f1, f2]
theorem F0_val {c : Int} (h : 0 ≤ c ∧ c < 256) : ((F0 c).toNat : Int) = 80 + c % 64 := by
  unfold F0
  rw [tm _ _ h.1, wu8]
  have := u8_toNat ((80 + c % 64) % 256) (by omega) (by omega)
  unfold u8 at this
  omega
end Go.Proofs.Ythmndlkhmihdhaa
