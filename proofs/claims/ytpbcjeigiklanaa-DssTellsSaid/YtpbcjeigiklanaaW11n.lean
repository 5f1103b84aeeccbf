/-
  Walks of functions, reckoned through, and what they give (part W11n). No condition beyond what each says. By an AI agent.
-/
import Derived.Test.YtpbcjeigiklanaaW11S
namespace Go.Proofs.Ytpbcjeigiklanaa
open Go.Ex
open Go.RowKit (Below)
set_option linter.unusedVariables false
set_option linter.unusedSimpArgs false

def SG.none : SG := ⟨false, false, false, 0, false, false, 0, 0, 0, false, 0⟩
def hA (s : ByteArray) : Bool := decide ((bAt s 1).toNat % 2 = 1)
def hL (s : ByteArray) : Bool := decide ((bAt s 1).toNat / 2 % 2 = 1)
def hM (s : ByteArray) : Bool := decide ((bAt s 1).toNat / 4 % 2 = 1)
def hD (s : ByteArray) : Bool := decide ((bAt s 1).toNat / 8 % 2 = 1)
def hF (s : ByteArray) : Bool := decide ((bAt s 1).toNat / 16 % 2 = 1)
def wd (b : Bool) : Nat := match b with | true => 8 | false => 4
def frm (a l : Bool) : Nat := match a with | true => 2 + wd l | false => 2
def need (a l m d : Bool) : Nat := match m with | true => frm a l + (wd d + 6) | false => frm a l
def numAt (s : ByteArray) (i : Nat) (l : Bool) : Int :=
  match l with
  | true => n8 (bAt s i) (bAt s (i + 1)) (bAt s (i + 2)) (bAt s (i + 3)) (bAt s (i + 4)) (bAt s (i + 5)) (bAt s (i + 6)) (bAt s (i + 7))
  | false => n4 (bAt s i) (bAt s (i + 1)) (bAt s (i + 2)) (bAt s (i + 3))
/-- What the bytes say. -/
def dval (s : ByteArray) (a l m d f h : Bool) : SG :=
  ⟨m && f, a, a && l, (match a with | true => numAt s 2 l | false => 0), m, m && d, (match m with | true => numAt s (frm a l) d | false => 0),
   (match m with | true => numAt s (frm a l + wd d) false | false => 0),
   (match m with | true => n2 (bAt s (frm a l + wd d + 4)) (bAt s (frm a l + wd d + 5)) | false => 0), h,
   (match h with | true => n2 (bAt s (need a l m d)) (bAt s (need a l m d + 1)) | false => 0)⟩
def decF (s : ByteArray) (a l m d f : Bool) : SG × Int :=
  if (a || m) = false then (.none, 5)
  else if s.size < need a l m d then (.none, 4)
  else if s.size = need a l m d then (dval s a l m d f false, 0)
  else if m = true ∧ s.size = need a l m d + 2 then (dval s a l m d f true, 0) else (.none, 5)
/-- What a text is read as. -/
def dec (s : ByteArray) : SG × Int :=
  if s.size = 0 then (.none, 4) else if ¬ (bAt s 0).toNat / 16 = 2 then (.none, 7) else if s.size < 2 then (.none, 4)
  else decF s (hA s) (hL s) (hM s) (hD s) (hF s)
theorem dec_cls {s : ByteArray} {a l m d : Bool} (h2 : 2 ≤ s.size) (h1 : (bAt s 0).toNat / 16 = 2) (ha : hA s = a) (hl : hL s = l) (hm : hM s = m) (hd : hD s = d) : dec s = decF s a l m d (hF s) := by
  rw [dec, if_neg (by omega), if_neg (by omega), if_neg (by omega), ha, hl, hm, hd]
theorem dF_s {s : ByteArray} {a l m d f : Bool} (h : (a || m) = true) (hs : s.size < need a l m d) : decF s a l m d f = (.none, 4) := by
  rw [decF, if_neg (by rw [h]; decide), if_pos hs]
theorem dF_o {s : ByteArray} {a l m d f : Bool} (h : (a || m) = true) (hs : s.size = need a l m d) : decF s a l m d f = (dval s a l m d f false, 0) := by
  rw [decF, if_neg (by rw [h]; decide), if_neg (by omega), if_pos hs]
theorem dF_h {s : ByteArray} {a l m d f : Bool} (h : m = true) (hs : s.size = need a l m d + 2) : decF s a l m d f = (dval s a l m d f true, 0) := by
  rw [decF, if_neg (by rw [h]; simp), if_neg (by omega), if_neg (by omega), if_pos ⟨h, hs⟩]
theorem dF_f {s : ByteArray} {a l m d f : Bool} (h : need a l m d < s.size) (h1 : m = false ∨ s.size ≠ need a l m d + 2) : decF s a l m d f = (.none, 5) := by
  rw [decF]
  split
  · rfl
  · rw [if_neg (by omega), if_neg (by omega), if_neg]
    rintro ⟨q, r⟩
    rcases h1 with e | e
    · rw [e] at q; cases q
    · exact e r
theorem andN (a : UInt8) (k : Nat) (hk : k < 256) : ((BitVec.ofInt 8 (a.toNat : Int) &&& BitVec.ofInt 8 (k : Int)).toNat) = a.toNat &&& k := by
  have := a.toNat_lt
  rw [BitVec.ofInt_natCast, BitVec.ofInt_natCast, BitVec.toNat_and, BitVec.toNat_ofNat, BitVec.toNat_ofNat, Nat.mod_eq_of_lt (by omega), Nat.mod_eq_of_lt (by omega)]
theorem fb_eq (a : UInt8) : IntKind.u8.wrap (IntKind.u64.wrap ((BitVec.ofInt 64 (0 : Int) ||| BitVec.ofInt 64 (IntKind.u64.wrap (a.toNat : Int))).toNat : Int)) = a.toNat := by
  rw [firstOr, wub, w8b]
theorem ref8 (a b c d e f g h : UInt8) : IntKind.u64.wrap (IntKind.u64.wrap (IntKind.u64.wrap (IntKind.u64.wrap (IntKind.u64.wrap (IntKind.u64.wrap (IntKind.u64.wrap (IntKind.u64.wrap (IntKind.u64.wrap (IntKind.u64.wrap (IntKind.u64.wrap (IntKind.u64.wrap (IntKind.u64.wrap (IntKind.u64.wrap (IntKind.u64.wrap ((0 : Int) + IntKind.u64.wrap (a.toNat : Int)) * 256) + IntKind.u64.wrap (b.toNat : Int)) * 256) + IntKind.u64.wrap (c.toNat : Int)) * 256) + IntKind.u64.wrap (d.toNat : Int)) * 256) + IntKind.u64.wrap (e.toNat : Int)) * 256) + IntKind.u64.wrap (f.toNat : Int)) * 256) + IntKind.u64.wrap (g.toNat : Int)) * 256) + IntKind.u64.wrap (h.toNat : Int)) = n8 a b c d e f g h := by
  have := a.toNat_lt; have := b.toNat_lt; have := c.toNat_lt; have := d.toNat_lt; have := e.toNat_lt; have := f.toNat_lt; have := g.toNat_lt
  rw [ref1, refStep _ b (by omega) (by omega), refStep _ c (by omega) (by omega), refStep _ d (by omega) (by omega), refStep _ e (by omega) (by omega), refStep _ f (by omega) (by omega), refStep _ g (by omega) (by omega), refStep _ h (by omega) (by omega), n8]
theorem bit1 (a : Nat) (h : a < 256) : (a &&& 1 ≠ 0) ↔ a % 2 = 1 := by
  have : ∀ x : Fin 256, (x.val &&& 1 ≠ 0) ↔ x.val % 2 = 1 := by decide +kernel
  exact this ⟨a, h⟩
theorem tA (s : ByteArray) : (IntKind.u8.wrap ((BitVec.ofInt 8 ((bAt s 1).toNat : Int) &&& BitVec.ofInt 8 (1 : Int)).toNat : Int) != 0) = hA s := by
  have h := (bAt s 1).toNat_lt
  rw [show ((BitVec.ofInt 8 ((bAt s 1).toNat : Int) &&& BitVec.ofInt 8 (1 : Int)).toNat) = (bAt s 1).toNat &&& 1 from andN _ 1 (by decide), wu8, Bool.eq_iff_iff]
  have h2 : (bAt s 1).toNat &&& 1 ≤ 1 := Nat.and_le_right
  simp only [hA, bne_iff_ne, ne_eq, decide_eq_true_eq]
  rw [← bit1 _ h]; omega
theorem bit2 (a : Nat) (h : a < 256) : (a &&& 2 ≠ 0) ↔ a / 2 % 2 = 1 := by
  have : ∀ x : Fin 256, (x.val &&& 2 ≠ 0) ↔ x.val / 2 % 2 = 1 := by decide +kernel
  exact this ⟨a, h⟩
theorem tL (s : ByteArray) : (IntKind.u8.wrap ((BitVec.ofInt 8 ((bAt s 1).toNat : Int) &&& BitVec.ofInt 8 (2 : Int)).toNat : Int) != 0) = hL s := by
  have h := (bAt s 1).toNat_lt
  rw [show ((BitVec.ofInt 8 ((bAt s 1).toNat : Int) &&& BitVec.ofInt 8 (2 : Int)).toNat) = (bAt s 1).toNat &&& 2 from andN _ 2 (by decide), wu8, Bool.eq_iff_iff]
  have h2 : (bAt s 1).toNat &&& 2 ≤ 2 := Nat.and_le_right
  simp only [hL, bne_iff_ne, ne_eq, decide_eq_true_eq]
  rw [← bit2 _ h]; omega
theorem bit4 (a : Nat) (h : a < 256) : (a &&& 4 ≠ 0) ↔ a / 4 % 2 = 1 := by
  have : ∀ x : Fin 256, (x.val &&& 4 ≠ 0) ↔ x.val / 4 % 2 = 1 := by decide +kernel
  exact this ⟨a, h⟩
theorem tM (s : ByteArray) : (IntKind.u8.wrap ((BitVec.ofInt 8 ((bAt s 1).toNat : Int) &&& BitVec.ofInt 8 (4 : Int)).toNat : Int) != 0) = hM s := by
  have h := (bAt s 1).toNat_lt
  rw [show ((BitVec.ofInt 8 ((bAt s 1).toNat : Int) &&& BitVec.ofInt 8 (4 : Int)).toNat) = (bAt s 1).toNat &&& 4 from andN _ 4 (by decide), wu8, Bool.eq_iff_iff]
  have h2 : (bAt s 1).toNat &&& 4 ≤ 4 := Nat.and_le_right
  simp only [hM, bne_iff_ne, ne_eq, decide_eq_true_eq]
  rw [← bit4 _ h]; omega
theorem bit8 (a : Nat) (h : a < 256) : (a &&& 8 ≠ 0) ↔ a / 8 % 2 = 1 := by
  have : ∀ x : Fin 256, (x.val &&& 8 ≠ 0) ↔ x.val / 8 % 2 = 1 := by decide +kernel
  exact this ⟨a, h⟩
theorem tD (s : ByteArray) : (IntKind.u8.wrap ((BitVec.ofInt 8 ((bAt s 1).toNat : Int) &&& BitVec.ofInt 8 (8 : Int)).toNat : Int) != 0) = hD s := by
  have h := (bAt s 1).toNat_lt
  rw [show ((BitVec.ofInt 8 ((bAt s 1).toNat : Int) &&& BitVec.ofInt 8 (8 : Int)).toNat) = (bAt s 1).toNat &&& 8 from andN _ 8 (by decide), wu8, Bool.eq_iff_iff]
  have h2 : (bAt s 1).toNat &&& 8 ≤ 8 := Nat.and_le_right
  simp only [hD, bne_iff_ne, ne_eq, decide_eq_true_eq]
  rw [← bit8 _ h]; omega
theorem bit16 (a : Nat) (h : a < 256) : (a &&& 16 ≠ 0) ↔ a / 16 % 2 = 1 := by
  have : ∀ x : Fin 256, (x.val &&& 16 ≠ 0) ↔ x.val / 16 % 2 = 1 := by decide +kernel
  exact this ⟨a, h⟩
theorem tF (s : ByteArray) : (IntKind.u8.wrap ((BitVec.ofInt 8 ((bAt s 1).toNat : Int) &&& BitVec.ofInt 8 (16 : Int)).toNat : Int) != 0) = hF s := by
  have h := (bAt s 1).toNat_lt
  rw [show ((BitVec.ofInt 8 ((bAt s 1).toNat : Int) &&& BitVec.ofInt 8 (16 : Int)).toNat) = (bAt s 1).toNat &&& 16 from andN _ 16 (by decide), wu8, Bool.eq_iff_iff]
  have h2 : (bAt s 1).toNat &&& 16 ≤ 16 := Nat.and_le_right
  simp only [hF, bne_iff_ne, ne_eq, decide_eq_true_eq]
  rw [← bit16 _ h]; omega
theorem wsix (a : UInt8) : IntKind.u8.wrap ((a.toNat : Int) / 16) = (a.toNat : Int) / 16 := by have := a.toNat_lt; rw [wu8]; omega
theorem win2 (a b : UInt8) : IntKind.i64.wrap (n2 a b) = n2 a b := by have := n2_range a b; rw [wi64]; omega
theorem uq (x : Int) : x.fdiv 1 = x := Int.fdiv_one x
theorem uA (s : ByteArray) (h : 1 < s.size) : ((byteAt s (1 : Int)).tmod (2 : Int) == (1 : Int)) = hA s := by
  have hb := (bAt s 1).toNat_lt
  rw [show (1 : Int) = ((1 : Nat) : Int) from rfl, byteAt_eq s 1 h, tm _ _ (by omega), Bool.eq_iff_iff]
  simp only [hA, beq_iff_eq, decide_eq_true_eq]
  omega
theorem uL (s : ByteArray) (h : 1 < s.size) : ((IntKind.u8.wrap ((byteAt s (1 : Int)).tdiv (2 : Int))).tmod (2 : Int) == (1 : Int)) = hL s := by
  have hb := (bAt s 1).toNat_lt
  rw [show (1 : Int) = ((1 : Nat) : Int) from rfl, byteAt_eq s 1 h, tdB, wu8, tm _ _ (by omega), Bool.eq_iff_iff]
  simp only [hL, beq_iff_eq, decide_eq_true_eq]
  omega
theorem uM (s : ByteArray) (h : 1 < s.size) : ((IntKind.u8.wrap ((byteAt s (1 : Int)).tdiv (4 : Int))).tmod (2 : Int) == (1 : Int)) = hM s := by
  have hb := (bAt s 1).toNat_lt
  rw [show (1 : Int) = ((1 : Nat) : Int) from rfl, byteAt_eq s 1 h, tdB, wu8, tm _ _ (by omega), Bool.eq_iff_iff]
  simp only [hM, beq_iff_eq, decide_eq_true_eq]
  omega
theorem uD (s : ByteArray) (h : 1 < s.size) : ((IntKind.u8.wrap ((byteAt s (1 : Int)).tdiv (8 : Int))).tmod (2 : Int) == (1 : Int)) = hD s := by
  have hb := (bAt s 1).toNat_lt
  rw [show (1 : Int) = ((1 : Nat) : Int) from rfl, byteAt_eq s 1 h, tdB, wu8, tm _ _ (by omega), Bool.eq_iff_iff]
  simp only [hD, beq_iff_eq, decide_eq_true_eq]
  omega
theorem uF (s : ByteArray) (h : 1 < s.size) : ((IntKind.u8.wrap ((byteAt s (1 : Int)).tdiv (16 : Int))).tmod (2 : Int) == (1 : Int)) = hF s := by
  have hb := (bAt s 1).toNat_lt
  rw [show (1 : Int) = ((1 : Nat) : Int) from rfl, byteAt_eq s 1 h, tdB, wu8, tm _ _ (by omega), Bool.eq_iff_iff]
  simp only [hF, beq_iff_eq, decide_eq_true_eq]
  omega
end Go.Proofs.Ytpbcjeigiklanaa
