/-
  Walks of functions, reckoned through, and what they give (part W10ja). No condition beyond what each says. By an AI agent.
-/
import Derived.Test.YtmngnhbnicgjfaaW10w
namespace Go.Proofs.Ytmngnhbnicgjfaa
open Go.Ex
open Go.RowKit (Below)
set_option linter.unusedVariables false
set_option linter.unusedSimpArgs false
def T (s : ByteArray) : ByteArray := s ++ ⟨#[UInt8.ofNat 0, UInt8.ofNat 0, UInt8.ofNat 0, UInt8.ofNat 0, UInt8.ofNat 0, UInt8.ofNat 0, UInt8.ofNat 0, UInt8.ofNat 0, UInt8.ofNat 0, UInt8.ofNat 0, UInt8.ofNat 0, UInt8.ofNat 0, UInt8.ofNat 0, UInt8.ofNat 0, UInt8.ofNat 0, UInt8.ofNat 0, UInt8.ofNat 0, UInt8.ofNat 0, UInt8.ofNat 0, UInt8.ofNat 0, UInt8.ofNat 0, UInt8.ofNat 0]⟩
def qb (s : ByteArray) (i : Nat) : UInt8 := UInt8.ofNat ((bAt (T s) i).toNat : Int).toNat
def z0 (s : ByteArray) : Int := IntKind.u8.wrap ((BitVec.ofInt 8 (16 : Int) ||| BitVec.ofInt 8 (IntKind.u8.wrap ((BitVec.ofInt 8 ((bAt (T s) 0).toNat : Int) &&& BitVec.ofInt 8 (15 : Int)).toNat : Int))).toNat : Int)
def y0 (s : ByteArray) (bi : Int) : Int := IntKind.u8.wrap ((BitVec.ofInt 8 (z0 s) ^^^ BitVec.ofInt 8 (IntKind.u8.wrap ((BitVec.ofInt 8 bi &&& BitVec.ofInt 8 (14 : Int)).toNat : Int))).toNat : Int)
def c0 (s : ByteArray) : UInt8 := UInt8.ofNat (z0 s).toNat
def m0 (s : ByteArray) : UInt8 := UInt8.ofNat (IntKind.u8.wrap ((BitVec.ofInt 8 (z0 s) &&& BitVec.ofInt 8 (17 : Int)).toNat : Int)).toNat
def o0 (s : ByteArray) (bi : Int) : UInt8 := UInt8.ofNat (y0 s bi).toNat
def p0 (s : ByteArray) (bi : Int) : UInt8 := UInt8.ofNat (IntKind.u8.wrap ((BitVec.ofInt 8 (y0 s bi) ^^^ BitVec.ofInt 8 (IntKind.u8.wrap ((BitVec.ofInt 8 bi &&& BitVec.ofInt 8 (1 : Int)).toNat : Int))).toNat : Int)).toNat
def p1 (s : ByteArray) (bi : Int) : UInt8 := UInt8.ofNat (IntKind.u8.wrap ((BitVec.ofInt 8 ((bAt (T s) 1).toNat : Int) ^^^ BitVec.ofInt 8 bi).toNat : Int)).toNat
def B10 (s : ByteArray) : ByteArray := ⟨#[c0 s, qb s 1, qb s 2, qb s 3, qb s 4, qb s 5, qb s 6, qb s 7, qb s 8, qb s 9]⟩
def M10 (s : ByteArray) : ByteArray := ⟨#[m0 s, qb s 1, qb s 2, qb s 3, qb s 4, qb s 5, qb s 6, qb s 7, qb s 8, qb s 9]⟩
def O10 (s : ByteArray) (bi : Int) : ByteArray := ⟨#[o0 s bi, qb s 1, qb s 2, qb s 3, qb s 4, qb s 5, qb s 6, qb s 7, qb s 8, qb s 9]⟩
def B14 (s : ByteArray) : ByteArray := ⟨#[c0 s, qb s 1, qb s 2, qb s 3, qb s 4, qb s 5, qb s 6, qb s 7, qb s 8, qb s 9, qb s 10, qb s 11, qb s 12, qb s 13]⟩
def M14 (s : ByteArray) : ByteArray := ⟨#[m0 s, qb s 1, qb s 2, qb s 3, qb s 4, qb s 5, qb s 6, qb s 7, qb s 8, qb s 9, qb s 10, qb s 11, qb s 12, qb s 13]⟩
def O14 (s : ByteArray) (bi : Int) : ByteArray := ⟨#[o0 s bi, qb s 1, qb s 2, qb s 3, qb s 4, qb s 5, qb s 6, qb s 7, qb s 8, qb s 9, qb s 10, qb s 11, qb s 12, qb s 13]⟩
def B22 (s : ByteArray) : ByteArray := ⟨#[c0 s, qb s 1, qb s 2, qb s 3, qb s 4, qb s 5, qb s 6, qb s 7, qb s 8, qb s 9, qb s 10, qb s 11, qb s 12, qb s 13, qb s 14, qb s 15, qb s 16, qb s 17, qb s 18, qb s 19, qb s 20, qb s 21]⟩
def M22 (s : ByteArray) : ByteArray := ⟨#[UInt8.ofNat 16, UInt8.ofNat 0, qb s 2, qb s 3, qb s 4, qb s 5, qb s 6, qb s 7, qb s 8, qb s 9, qb s 10, qb s 11, qb s 12, qb s 13, qb s 14, qb s 15, qb s 16, qb s 17, qb s 18, qb s 19, qb s 20, qb s 21]⟩
def O22 (s : ByteArray) (bi : Int) : ByteArray := ⟨#[p0 s bi, p1 s bi, qb s 2, qb s 3, qb s 4, qb s 5, qb s 6, qb s 7, qb s 8, qb s 9, qb s 10, qb s 11, qb s 12, qb s 13, qb s 14, qb s 15, qb s 16, qb s 17, qb s 18, qb s 19, qb s 20, qb s 21]⟩

theorem bop (a b : Nat) (ha : a < 256) (hb : b < 256) : IntKind.u8.wrap ((BitVec.ofInt 8 (a : Int) ||| BitVec.ofInt 8 (b : Int)).toNat : Int) = ((a ||| b : Nat) : Int) ∧ IntKind.u8.wrap ((BitVec.ofInt 8 (a : Int) &&& BitVec.ofInt 8 (b : Int)).toNat : Int) = ((a &&& b : Nat) : Int) ∧
    IntKind.u8.wrap ((BitVec.ofInt 8 (a : Int) ^^^ BitVec.ofInt 8 (b : Int)).toNat : Int) = ((a ^^^ b : Nat) : Int) := by
  have e1 : a ||| b < 256 := Nat.or_lt_two_pow (n := 8) (by omega) (by omega)
  have e2 : a &&& b < 256 := Nat.lt_of_le_of_lt Nat.and_le_left ha
  have e3 : a ^^^ b < 256 := Nat.xor_lt_two_pow (n := 8) (by omega) (by omega)
  refine ⟨?_, ?_, ?_⟩
  · rw [BitVec.ofInt_natCast, BitVec.ofInt_natCast, BitVec.toNat_or, BitVec.toNat_ofNat, BitVec.toNat_ofNat, Nat.mod_eq_of_lt (by omega), Nat.mod_eq_of_lt (by omega), wu8]; omega
  · rw [BitVec.ofInt_natCast, BitVec.ofInt_natCast, BitVec.toNat_and, BitVec.toNat_ofNat, BitVec.toNat_ofNat, Nat.mod_eq_of_lt (by omega), Nat.mod_eq_of_lt (by omega), wu8]; omega
  · rw [BitVec.ofInt_natCast, BitVec.ofInt_natCast, BitVec.toNat_xor, BitVec.toNat_ofNat, BitVec.toNat_ofNat, Nat.mod_eq_of_lt (by omega), Nat.mod_eq_of_lt (by omega), wu8]; omega
theorem k16 (c : Nat) (hc : c < 256) : (16 ||| (c &&& 15)) / 16 = 1 ∧ 16 ||| (c &&& 15) < 256 := by
  have h : ∀ x : Fin 256, (16 ||| (x.val &&& 15)) / 16 = 1 ∧ 16 ||| (x.val &&& 15) < 256 := by decide +kernel
  exact h ⟨c, hc⟩
theorem k14 (k v : Nat) (hk : k / 16 = 1) (hv : v < 256) : (k ^^^ (v &&& 14)) / 16 = 1 ∧ (k ^^^ (v &&& 14)) % 2 = k % 2 := by
  have m : (v &&& 14) ∈ [0, 2, 4, 6, 8, 10, 12, 14] := by
    have h : ∀ x : Fin 256, (x.val &&& 14) ∈ [0, 2, 4, 6, 8, 10, 12, 14] := by decide +kernel
    exact h ⟨v, hv⟩
  have h : ∀ w ∈ [0, 2, 4, 6, 8, 10, 12, 14], ∀ x : Fin 32, x.val / 16 = 1 → (x.val ^^^ w) / 16 = 1 ∧ (x.val ^^^ w) % 2 = x.val % 2 := by decide +kernel
  exact h _ m ⟨k, by omega⟩ hk
theorem k1 (k v : Nat) (hk : k / 16 = 1) (hv : v < 256) : (k ^^^ (v &&& 1)) / 16 = 1 := by
  have m : (v &&& 1) ∈ [0, 1] := by
    have h : ∀ x : Fin 256, (x.val &&& 1) ∈ [0, 1] := by decide +kernel
    exact h ⟨v, hv⟩
  have h : ∀ w ∈ [0, 1], ∀ x : Fin 32, x.val / 16 = 1 → (x.val ^^^ w) / 16 = 1 := by decide +kernel
  exact h _ m ⟨k, by omega⟩ hk
theorem k17 (k : Nat) (hk : k / 16 = 1) : UInt8.ofNat (k &&& 17) = hd (decide (k % 2 = 1)) := by
  have h : ∀ x : Fin 32, x.val / 16 = 1 → UInt8.ofNat (x.val &&& 17) = hd (decide (x.val % 2 = 1)) := by decide +kernel
  exact h ⟨k, by omega⟩ hk
theorem toNat_ofNat' (n : Nat) (h : n < 256) : (UInt8.ofNat n).toNat = n := by rw [UInt8.toNat_ofNat']; omega
def kk (s : ByteArray) : Nat := 16 ||| ((bAt (T s) 0).toNat &&& 15)
theorem z0_eq (s : ByteArray) : z0 s = (kk s : Int) := by
  have hc := (bAt (T s) 0).toNat_lt
  unfold z0 kk
  rw [show (15 : Int) = ((15 : Nat) : Int) from rfl, (bop _ 15 hc (by decide)).2.1, show (16 : Int) = ((16 : Nat) : Int) from rfl, (bop 16 _ (by decide) (Nat.lt_of_le_of_lt Nat.and_le_left hc)).1]
theorem kk_ok (s : ByteArray) : kk s / 16 = 1 ∧ kk s < 256 := k16 _ (bAt (T s) 0).toNat_lt
theorem c0_eq (s : ByteArray) : (c0 s).toNat = kk s := by
  unfold c0; rw [z0_eq, Int.toNat_natCast, toNat_ofNat' _ (kk_ok s).2]
theorem m0_eq (s : ByteArray) : m0 s = hd (decide ((c0 s).toNat % 2 = 1)) := by
  rw [c0_eq, ← k17 _ (kk_ok s).1]
  unfold m0
  rw [z0_eq, show (17 : Int) = ((17 : Nat) : Int) from rfl, (bop _ 17 (kk_ok s).2 (by decide)).2.1, Int.toNat_natCast]
theorem y0_eq (s : ByteArray) (bi : Int) (hb : 0 ≤ bi ∧ bi < 256) : y0 s bi = ((kk s ^^^ (bi.toNat &&& 14) : Nat) : Int) := by
  obtain ⟨v, rfl⟩ := Int.eq_ofNat_of_zero_le hb.1
  have hv : v < 256 := by omega
  unfold y0
  rw [z0_eq, show (14 : Int) = ((14 : Nat) : Int) from rfl, (bop v 14 hv (by decide)).2.1, (bop _ _ (kk_ok s).2 (Nat.lt_of_le_of_lt Nat.and_le_left hv)).2.2, Int.toNat_natCast]
theorem o0_eq (s : ByteArray) (bi : Int) (hb : 0 ≤ bi ∧ bi < 256) : (o0 s bi).toNat / 16 = 1 ∧ (o0 s bi).toNat % 2 = (c0 s).toNat % 2 := by
  have h := k14 (kk s) bi.toNat (kk_ok s).1 (by omega)
  unfold o0
  rw [y0_eq s bi hb, Int.toNat_natCast, toNat_ofNat' _ (by omega), c0_eq]
  exact h
theorem p0_eq (s : ByteArray) (bi : Int) (hb : 0 ≤ bi ∧ bi < 256) : (p0 s bi).toNat / 16 = 1 := by
  have h := k14 (kk s) bi.toNat (kk_ok s).1 (by omega)
  have h2 := k1 (kk s ^^^ (bi.toNat &&& 14)) bi.toNat h.1 (by omega)
  unfold p0
  rw [y0_eq s bi hb]
  obtain ⟨v, rfl⟩ := Int.eq_ofNat_of_zero_le hb.1
  have hv : v < 256 := by omega
  simp only [Int.toNat_natCast] at *
  rw [show (1 : Int) = ((1 : Nat) : Int) from rfl, (bop v 1 hv (by decide)).2.1, (bop _ _ (by omega) (Nat.lt_of_le_of_lt Nat.and_le_left hv)).2.2, Int.toNat_natCast, toNat_ofNat' _ (by omega)]
  exact h2
theorem byK_is {k n : Int} {a : UInt8} (h : n / k % 256 = (a.toNat : Int)) : byK k n = a := by
  unfold byK u8
  rw [h, Int.toNat_natCast, UInt8.ofNat_toNat]
theorem by1 (a : UInt8) : byK 1 (a.toNat : Int) = a := by have := a.toNat_lt; exact byK_is (by omega)
theorem by4 (a b c d : UInt8) : byK 16777216 (n4 a b c d) = a ∧ byK 65536 (n4 a b c d) = b ∧ byK 256 (n4 a b c d) = c ∧ byK 1 (n4 a b c d) = d := by
  have := a.toNat_lt; have := b.toNat_lt; have := c.toNat_lt; have := d.toNat_lt
  exact ⟨byK_is (by unfold n4; omega), byK_is (by unfold n4; omega), byK_is (by unfold n4; omega), byK_is (by unfold n4; omega)⟩
theorem app_mk (a b : Array UInt8) : ByteArray.mk a ++ ByteArray.mk b = ByteArray.mk (a ++ b) := by
  apply ByteArray.ext; simp

def J10 (b0 b1 b2 b3 b4 b5 b6 b7 b8 b9 : UInt8) : JV := ⟨0, decide (b0.toNat % 2 = 1), b1.toNat, n4 b2 b3 b4 b5, n4 b6 b7 b8 b9, ⟨#[]⟩⟩
theorem dec10 (b0 b1 b2 b3 b4 b5 b6 b7 b8 b9 : UInt8) (h : b0.toNat / 16 = 1) : dec ⟨#[b0, b1, b2, b3, b4, b5, b6, b7, b8, b9]⟩ = (J10 b0 b1 b2 b3 b4 b5 b6 b7 b8 b9, 0) := by
  generalize hS : ByteArray.mk #[b0, b1, b2, b3, b4, b5, b6, b7, b8, b9] = S
  have z : S.size = 10 := by rw [← hS]; rfl
  have e0 : bAt S 0 = b0 := by rw [← hS]; rfl
  rw [dec, if_neg (by omega), if_neg (by rw [e0]; omega), if_pos z, ← hS]; rfl
theorem enc10 (b0 b1 b2 b3 b4 b5 b6 b7 b8 b9 : UInt8) : enc (J10 b0 b1 b2 b3 b4 b5 b6 b7 b8 b9) = (⟨#[hd (decide (b0.toNat % 2 = 1)), b1, b2, b3, b4, b5, b6, b7, b8, b9]⟩, 0) := by
  have hb := b1.toNat_lt
  have hm : may (J10 b0 b1 b2 b3 b4 b5 b6 b7 b8 b9) := ⟨by show (0 : Int) ≤ (b1.toNat : Int); omega, by show (b1.toNat : Int) ≤ 255; omega, .inl ⟨rfl, rfl⟩⟩
  rw [enc, if_pos hm]
  simp only [J10, if_true, by1, (by4 _ _ _ _).1, (by4 _ _ _ _).2.1, (by4 _ _ _ _).2.2.1, (by4 _ _ _ _).2.2.2]
def J14 (b0 b1 b2 b3 b4 b5 b6 b7 b8 b9 b10 b11 b12 b13 : UInt8) : JV := ⟨1, decide (b0.toNat % 2 = 1), b1.toNat, 0, n4 b10 b11 b12 b13, ⟨#[b2, b3, b4, b5, b6, b7, b8, b9]⟩⟩
theorem dec14 (b0 b1 b2 b3 b4 b5 b6 b7 b8 b9 b10 b11 b12 b13 : UInt8) (h : b0.toNat / 16 = 1) : dec ⟨#[b0, b1, b2, b3, b4, b5, b6, b7, b8, b9, b10, b11, b12, b13]⟩ = (J14 b0 b1 b2 b3 b4 b5 b6 b7 b8 b9 b10 b11 b12 b13, 0) := by
  generalize hS : ByteArray.mk #[b0, b1, b2, b3, b4, b5, b6, b7, b8, b9, b10, b11, b12, b13] = S
  have z : S.size = 14 := by rw [← hS]; rfl
  have e0 : bAt S 0 = b0 := by rw [← hS]; rfl
  rw [dec, if_neg (by omega), if_neg (by rw [e0]; omega), if_neg (by omega), if_pos z, ← hS]; rfl
theorem enc14 (b0 b1 b2 b3 b4 b5 b6 b7 b8 b9 b10 b11 b12 b13 : UInt8) : enc (J14 b0 b1 b2 b3 b4 b5 b6 b7 b8 b9 b10 b11 b12 b13) = (⟨#[hd (decide (b0.toNat % 2 = 1)), b1, b2, b3, b4, b5, b6, b7, b8, b9, b10, b11, b12, b13]⟩, 0) := by
  have hb := b1.toNat_lt
  have hm : may (J14 b0 b1 b2 b3 b4 b5 b6 b7 b8 b9 b10 b11 b12 b13) := ⟨by show (0 : Int) ≤ (b1.toNat : Int); omega, by show (b1.toNat : Int) ≤ 255; omega, .inr (.inl ⟨rfl, rfl, rfl⟩)⟩
  rw [enc, if_pos hm]
  simp only [J14, if_true, if_false, Int.reduceEq, by1, (by4 _ _ _ _).1, (by4 _ _ _ _).2.1, (by4 _ _ _ _).2.2.1, (by4 _ _ _ _).2.2.2, app_mk]
  rfl
def J22 (b0 b1 b2 b3 b4 b5 b6 b7 b8 b9 b10 b11 b12 b13 b14 b15 b16 b17 b18 b19 b20 b21 : UInt8) : JV := ⟨2, false, 0, 0, 0, ⟨#[b2, b3, b4, b5, b6, b7, b8, b9, b10, b11, b12, b13, b14, b15, b16, b17, b18, b19, b20, b21]⟩⟩
theorem dec22 (b0 b1 b2 b3 b4 b5 b6 b7 b8 b9 b10 b11 b12 b13 b14 b15 b16 b17 b18 b19 b20 b21 : UInt8) (h : b0.toNat / 16 = 1) : dec ⟨#[b0, b1, b2, b3, b4, b5, b6, b7, b8, b9, b10, b11, b12, b13, b14, b15, b16, b17, b18, b19, b20, b21]⟩ = (J22 b0 b1 b2 b3 b4 b5 b6 b7 b8 b9 b10 b11 b12 b13 b14 b15 b16 b17 b18 b19 b20 b21, 0) := by
  generalize hS : ByteArray.mk #[b0, b1, b2, b3, b4, b5, b6, b7, b8, b9, b10, b11, b12, b13, b14, b15, b16, b17, b18, b19, b20, b21] = S
  have z : S.size = 22 := by rw [← hS]; rfl
  have e0 : bAt S 0 = b0 := by rw [← hS]; rfl
  rw [dec, if_neg (by omega), if_neg (by rw [e0]; omega), if_neg (by omega), if_neg (by omega), if_pos z, ← hS]; rfl
set_option maxHeartbeats 2000000 in
theorem enc22 (b0 b1 b2 b3 b4 b5 b6 b7 b8 b9 b10 b11 b12 b13 b14 b15 b16 b17 b18 b19 b20 b21 : UInt8) : enc (J22 b0 b1 b2 b3 b4 b5 b6 b7 b8 b9 b10 b11 b12 b13 b14 b15 b16 b17 b18 b19 b20 b21) = (⟨#[UInt8.ofNat 16, UInt8.ofNat 0, b2, b3, b4, b5, b6, b7, b8, b9, b10, b11, b12, b13, b14, b15, b16, b17, b18, b19, b20, b21]⟩, 0) := by
  have hm : may (J22 b0 b1 b2 b3 b4 b5 b6 b7 b8 b9 b10 b11 b12 b13 b14 b15 b16 b17 b18 b19 b20 b21) := ⟨by show (0 : Int) ≤ 0; decide, by show (0 : Int) ≤ 255; decide, .inr (.inr ⟨by unfold J22; rfl, by unfold J22; simp [ByteArray.size], by unfold J22; rfl, by unfold J22; rfl, by unfold J22; rfl, by unfold J22; rfl⟩)⟩
  rw [enc, if_pos hm]
  simp only [J22, if_true, if_false, Int.reduceEq, app_mk]
  rfl
theorem T_size (s : ByteArray) : (T s).size = s.size + 22 := by unfold T; rw [ByteArray.size_append]; rfl

def F10 (s : ByteArray) : JV := J10 (c0 s) (qb s 1) (qb s 2) (qb s 3) (qb s 4) (qb s 5) (qb s 6) (qb s 7) (qb s 8) (qb s 9)
theorem B10_dec (s : ByteArray) : dec (B10 s) = (F10 s, 0) := dec10 _ _ _ _ _ _ _ _ _ _ (by rw [c0_eq]; exact (kk_ok s).1)
theorem O10_dec (s : ByteArray) (bi : Int) (hb : 0 ≤ bi ∧ bi < 256) : dec (O10 s bi) = (F10 s, 0) := by
  obtain ⟨h1, h2⟩ := o0_eq s bi hb
  refine (dec10 _ _ _ _ _ _ _ _ _ _ h1).trans ?_
  unfold F10 J10
  rw [h2]
theorem F10_enc (s : ByteArray) : enc (F10 s) = (M10 s, 0) := by
  unfold F10 M10
  rw [enc10, m0_eq]
theorem F10_t (s : ByteArray) : 0 ≤ (F10 s).t ∧ (F10 s).t < 4294967296 := by
  first | exact n4_range _ _ _ _ | exact ⟨by show (0 : Int) ≤ 0; decide, by show (0 : Int) < 4294967296; decide⟩
theorem F10_n (s : ByteArray) : 0 ≤ (F10 s).n ∧ (F10 s).n < 4294967296 := by
  first | exact n4_range _ _ _ _ | exact ⟨by show (0 : Int) ≤ 0; decide, by show (0 : Int) < 4294967296; decide⟩
theorem F10_m (s : ByteArray) : (F10 s).m.size ≤ 4611686018427387904 := by
  show (0 : Nat) ≤ 4611686018427387904; decide
def F14 (s : ByteArray) : JV := J14 (c0 s) (qb s 1) (qb s 2) (qb s 3) (qb s 4) (qb s 5) (qb s 6) (qb s 7) (qb s 8) (qb s 9) (qb s 10) (qb s 11) (qb s 12) (qb s 13)
theorem B14_dec (s : ByteArray) : dec (B14 s) = (F14 s, 0) := dec14 _ _ _ _ _ _ _ _ _ _ _ _ _ _ (by rw [c0_eq]; exact (kk_ok s).1)
theorem O14_dec (s : ByteArray) (bi : Int) (hb : 0 ≤ bi ∧ bi < 256) : dec (O14 s bi) = (F14 s, 0) := by
  obtain ⟨h1, h2⟩ := o0_eq s bi hb
  refine (dec14 _ _ _ _ _ _ _ _ _ _ _ _ _ _ h1).trans ?_
  unfold F14 J14
  rw [h2]
theorem F14_enc (s : ByteArray) : enc (F14 s) = (M14 s, 0) := by
  unfold F14 M14
  rw [enc14, m0_eq]
theorem F14_t (s : ByteArray) : 0 ≤ (F14 s).t ∧ (F14 s).t < 4294967296 := by
  first | exact n4_range _ _ _ _ | exact ⟨by show (0 : Int) ≤ 0; decide, by show (0 : Int) < 4294967296; decide⟩
theorem F14_n (s : ByteArray) : 0 ≤ (F14 s).n ∧ (F14 s).n < 4294967296 := by
  first | exact n4_range _ _ _ _ | exact ⟨by show (0 : Int) ≤ 0; decide, by show (0 : Int) < 4294967296; decide⟩
theorem F14_m (s : ByteArray) : (F14 s).m.size ≤ 4611686018427387904 := by
  show (8 : Nat) ≤ 4611686018427387904; decide
def F22 (s : ByteArray) : JV := J22 (c0 s) (qb s 1) (qb s 2) (qb s 3) (qb s 4) (qb s 5) (qb s 6) (qb s 7) (qb s 8) (qb s 9) (qb s 10) (qb s 11) (qb s 12) (qb s 13) (qb s 14) (qb s 15) (qb s 16) (qb s 17) (qb s 18) (qb s 19) (qb s 20) (qb s 21)
theorem B22_dec (s : ByteArray) : dec (B22 s) = (F22 s, 0) := dec22 _ _ _ _ _ _ _ _ _ _ _ _ _ _ _ _ _ _ _ _ _ _ (by rw [c0_eq]; exact (kk_ok s).1)
theorem O22_dec (s : ByteArray) (bi : Int) (hb : 0 ≤ bi ∧ bi < 256) : dec (O22 s bi) = (F22 s, 0) := dec22 _ _ _ _ _ _ _ _ _ _ _ _ _ _ _ _ _ _ _ _ _ _ (p0_eq s bi hb)
theorem F22_enc (s : ByteArray) : enc (F22 s) = (M22 s, 0) := enc22 _ _ _ _ _ _ _ _ _ _ _ _ _ _ _ _ _ _ _ _ _ _
theorem F22_t (s : ByteArray) : 0 ≤ (F22 s).t ∧ (F22 s).t < 4294967296 := by
  first | exact n4_range _ _ _ _ | exact ⟨by show (0 : Int) ≤ 0; decide, by show (0 : Int) < 4294967296; decide⟩
theorem F22_n (s : ByteArray) : 0 ≤ (F22 s).n ∧ (F22 s).n < 4294967296 := by
  first | exact n4_range _ _ _ _ | exact ⟨by show (0 : Int) ≤ 0; decide, by show (0 : Int) < 4294967296; decide⟩
theorem F22_m (s : ByteArray) : (F22 s).m.size ≤ 4611686018427387904 := by
  show (20 : Nat) ≤ 4611686018427387904; decide
noncomputable def jpass_r0 (s : ByteArray) (what : Int) (bi : Int) (ans : List Bool) : Rr (SV × Option (List SO)) := callR Y (run Y (100 : Nat)) (6 : FuncId) [SV.val (Value.string s), SV.val (Value.int IntKind.u8 what), SV.val (Value.int IntKind.u8 bi)] [] ans
def jpass_p0 (s : ByteArray) (what : Int) (bi : Int) : Prop :=
  gives (jpass_r0 s what bi [true, false, false, false, false, false, false, true]) (SV.val (Value.bool ((enc (dec (B10 s)).fst).fst.toList == (M10 s).toList))) [(IntKind.i64.wrap (what.tmod (3 : Int)) == (0 : Int)) = true, s.size + (22 : Nat) ≤ (9223372036854775807 : Nat), (10 : Nat) ≤ (T s).size ∧ (10 : Nat) ≤ (T s).size, (B10 s).size ≤ (4611686018427387904 : Nat), (IntKind.i64.wrap (what.tmod (3 : Int)) == (2 : Int)) = false, (O10 s bi).size ≤ (4611686018427387904 : Nat), ((dec (B10 s)).snd != (0 : Int)) = false, ((dec (O10 s bi)).snd != (0 : Int)) = false, (if false = true then (dec (B10 s)).fst.fo == (dec (O10 s bi)).fst.fo && ((dec (B10 s)).fst.bk == (dec (O10 s bi)).fst.bk && ((dec (B10 s)).fst.id == (dec (O10 s bi)).fst.id && ((dec (B10 s)).fst.t == (dec (O10 s bi)).fst.t && ((dec (B10 s)).fst.n == (dec (O10 s bi)).fst.n && ((dec (B10 s)).fst.m == (dec (O10 s bi)).fst.m && true)))))
  else !((dec (B10 s)).fst.fo == (dec (O10 s bi)).fst.fo && ((dec (B10 s)).fst.bk == (dec (O10 s bi)).fst.bk && ((dec (B10 s)).fst.id == (dec (O10 s bi)).fst.id && ((dec (B10 s)).fst.t == (dec (O10 s bi)).fst.t && ((dec (B10 s)).fst.n == (dec (O10 s bi)).fst.n && ((dec (B10 s)).fst.m == (dec (O10 s bi)).fst.m && true))))))) =
  false, ((dec (B10 s)).fst.fo != IntKind.i64.wrap (what.tmod (3 : Int))) = false, (IntKind.i64.wrap (what.tmod (3 : Int)) == (2 : Int)) = false, ((0 : Int) ≤ (dec (B10 s)).fst.t ∧ (dec (B10 s)).fst.t < (4294967296 : Int)) ∧ ((0 : Int) ≤ (dec (B10 s)).fst.n ∧ (dec (B10 s)).fst.n < (4294967296 : Int)) ∧ (dec (B10 s)).fst.m.size ≤ (4611686018427387904 : Nat), ((enc (dec (B10 s)).fst).snd == (0 : Int)) = true]
def jpass_p1 (s : ByteArray) (what : Int) (bi : Int) : Prop :=
  gives (jpass_r0 s what bi [false, true, false, false, false, false, false, false, true]) (SV.val (Value.bool ((enc (dec (B14 s)).fst).fst.toList == (M14 s).toList))) [(IntKind.i64.wrap (what.tmod (3 : Int)) == (1 : Int)) = true, s.size + (22 : Nat) ≤ (9223372036854775807 : Nat), (14 : Nat) ≤ (T s).size ∧ (14 : Nat) ≤ (T s).size, (B14 s).size ≤ (4611686018427387904 : Nat), (IntKind.i64.wrap (what.tmod (3 : Int)) == (2 : Int)) = false, (O14 s bi).size ≤ (4611686018427387904 : Nat), ((dec (B14 s)).snd != (0 : Int)) = false, ((dec (O14 s bi)).snd != (0 : Int)) = false, (if false = true then
    (dec (B14 s)).fst.fo == (dec (O14 s bi)).fst.fo &&
      ((dec (B14 s)).fst.bk == (dec (O14 s bi)).fst.bk && ((dec (B14 s)).fst.id == (dec (O14 s bi)).fst.id && ((dec (B14 s)).fst.t == (dec (O14 s bi)).fst.t && ((dec (B14 s)).fst.n == (dec (O14 s bi)).fst.n && ((dec (B14 s)).fst.m == (dec (O14 s bi)).fst.m && true)))))
  else
    !((dec (B14 s)).fst.fo == (dec (O14 s bi)).fst.fo &&
        ((dec (B14 s)).fst.bk == (dec (O14 s bi)).fst.bk && ((dec (B14 s)).fst.id == (dec (O14 s bi)).fst.id && ((dec (B14 s)).fst.t == (dec (O14 s bi)).fst.t && ((dec (B14 s)).fst.n == (dec (O14 s bi)).fst.n && ((dec (B14 s)).fst.m == (dec (O14 s bi)).fst.m && true))))))) =
  false, ((dec (B14 s)).fst.fo != IntKind.i64.wrap (what.tmod (3 : Int))) = false, (IntKind.i64.wrap (what.tmod (3 : Int)) == (2 : Int)) = false, ((0 : Int) ≤ (dec (B14 s)).fst.t ∧ (dec (B14 s)).fst.t < (4294967296 : Int)) ∧ ((0 : Int) ≤ (dec (B14 s)).fst.n ∧ (dec (B14 s)).fst.n < (4294967296 : Int)) ∧ (dec (B14 s)).fst.m.size ≤ (4611686018427387904 : Nat), ((enc (dec (B14 s)).fst).snd == (0 : Int)) = true]
def jpass_p2 (s : ByteArray) (what : Int) (bi : Int) : Prop :=
  gives (jpass_r0 s what bi [false, false, true, true, false, false, false, false, true, true]) (SV.val (Value.bool ((enc (dec (B22 s)).fst).fst.toList == (M22 s).toList))) [(IntKind.i64.wrap (what.tmod (3 : Int)) == (2 : Int)) = true, s.size + (22 : Nat) ≤ (9223372036854775807 : Nat), (22 : Nat) ≤ (T s).size ∧ (22 : Nat) ≤ (T s).size, (B22 s).size ≤ (4611686018427387904 : Nat), (IntKind.i64.wrap (what.tmod (3 : Int)) == (2 : Int)) = true, (O22 s bi).size ≤ (4611686018427387904 : Nat), ((dec (B22 s)).snd != (0 : Int)) = false, ((dec (O22 s bi)).snd != (0 : Int)) = false, (if false = true then
    (dec (B22 s)).fst.fo == (dec (O22 s bi)).fst.fo &&
      ((dec (B22 s)).fst.bk == (dec (O22 s bi)).fst.bk &&
        ((dec (B22 s)).fst.id == (dec (O22 s bi)).fst.id &&
          ((dec (B22 s)).fst.t == (dec (O22 s bi)).fst.t && ((dec (B22 s)).fst.n == (dec (O22 s bi)).fst.n && ((dec (B22 s)).fst.m == (dec (O22 s bi)).fst.m && true)))))
  else
    !((dec (B22 s)).fst.fo == (dec (O22 s bi)).fst.fo &&
        ((dec (B22 s)).fst.bk == (dec (O22 s bi)).fst.bk &&
          ((dec (B22 s)).fst.id == (dec (O22 s bi)).fst.id &&
            ((dec (B22 s)).fst.t == (dec (O22 s bi)).fst.t && ((dec (B22 s)).fst.n == (dec (O22 s bi)).fst.n && ((dec (B22 s)).fst.m == (dec (O22 s bi)).fst.m && true))))))) =
  false, ((dec (B22 s)).fst.fo != IntKind.i64.wrap (what.tmod (3 : Int))) = false, (IntKind.i64.wrap (what.tmod (3 : Int)) == (2 : Int)) = true, ((0 : Int) ≤ (dec (B22 s)).fst.t ∧ (dec (B22 s)).fst.t < (4294967296 : Int)) ∧ ((0 : Int) ≤ (dec (B22 s)).fst.n ∧ (dec (B22 s)).fst.n < (4294967296 : Int)) ∧ (dec (B22 s)).fst.m.size ≤ (4611686018427387904 : Nat), ((enc (dec (B22 s)).fst).snd == (0 : Int)) = true]
set_option maxRecDepth 1000000 in
theorem jpass_b0 (s : ByteArray) (what : Int) (bi : Int) : jpass_p0 s what bi ∧ jpass_p1 s what bi ∧ jpass_p2 s what bi := by
  unfold jpass_p0 jpass_p1 jpass_p2 gives; exact ⟨by kernel_rfl, by kernel_rfl, by kernel_rfl⟩
theorem jpass_0 (s : ByteArray) (what : Int) (bi : Int) : jpass_p0 s what bi := (jpass_b0 s what bi).1
theorem jpass_1 (s : ByteArray) (what : Int) (bi : Int) : jpass_p1 s what bi := (jpass_b0 s what bi).2.1
theorem jpass_2 (s : ByteArray) (what : Int) (bi : Int) : jpass_p2 s what bi := (jpass_b0 s what bi).2.2
end Go.Proofs.Ytmngnhbnicgjfaa
