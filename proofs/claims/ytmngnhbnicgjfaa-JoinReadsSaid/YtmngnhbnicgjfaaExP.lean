/-
  A reckoner of programs and its soundness, part ExP: what it reckons is what 'Calls' says. No condition. By an AI agent.
-/
import Derived.Test.YtmngnhbnicgjfaaExO
import Derived.Laws.Strings
namespace Go.Ex

/-! ### plain facts on numbers and bytes -/
theorem wu8 (x : Int) : IntKind.u8.wrap x = x % 256 := by
  simp [IntKind.wrap, IntKind.bits, IntKind.signed]
theorem wu16 (x : Int) : IntKind.u16.wrap x = x % 65536 := by
  simp [IntKind.wrap, IntKind.bits, IntKind.signed]
theorem wu32 (x : Int) : IntKind.u32.wrap x = x % 4294967296 := by
  simp [IntKind.wrap, IntKind.bits, IntKind.signed]
theorem wu64 (x : Int) : IntKind.u64.wrap x = x % 18446744073709551616 := by
  simp [IntKind.wrap, IntKind.bits, IntKind.signed]
theorem wi64 (x : Int) : IntKind.i64.wrap x = (x + 9223372036854775808) % 18446744073709551616 - 9223372036854775808 := by
  simp only [IntKind.wrap, IntKind.bits, IntKind.signed, Bool.true_and]
  simp only [Nat.add_one_sub_one, Int.reducePow]
  split
  · rename_i h
    have h := of_decide_eq_true h
    omega
  · rename_i h
    have h : ¬ (x % 18446744073709551616 ≥ 9223372036854775808) := fun e => h (decide_eq_true e)
    omega
theorem fd (x b : Int) (hb : 0 ≤ b) : x.fdiv b = x / b := Int.fdiv_eq_ediv_of_nonneg x hb
theorem td (x b : Int) (hx : 0 ≤ x) : x.tdiv b = x / b := Int.tdiv_eq_ediv_of_nonneg hx
theorem tm (x b : Int) (hx : 0 ≤ x) : x.tmod b = x % b := Int.tmod_eq_emod_of_nonneg hx

theorem ba_beq (a b : ByteArray) : (a == b) = decide (a = b) := by
  have e : (a == b) = (a.data == b.data) := by cases a; cases b; rfl
  rw [e]
  by_cases h : a = b
  · subst h; simp
  · have : a.data ≠ b.data := fun e => h (ByteArray.ext e)
    rw [beq_eq_false_iff_ne.2 this]; simp [h]
theorem ba_toList_beq (a b : ByteArray) : (a.toList == b.toList) = decide (a = b) := by
  rw [ByteArray.toList_eq, ByteArray.toList_eq]
  by_cases h : a = b
  · subst h; simp
  · have : a.data.toList ≠ b.data.toList := fun e => h (ByteArray.ext (Array.toList_inj.1 e))
    rw [beq_eq_false_iff_ne.2 this]; simp [h]
theorem ba_none (a : ByteArray) : a = ByteArray.mk #[] ↔ a.size = 0 := by
  refine ⟨fun h => by rw [h]; rfl, fun h => ?_⟩
  apply ByteArray.ext
  apply Array.eq_empty_of_size_eq_zero
  exact h
theorem byteAt_eq (s : ByteArray) (i : Nat) (h : i < s.size) : byteAt s (i : Int) = ((bAt s i).toNat : Int) := by
  have h' : i < s.data.size := h
  simp only [byteAt, bAt, Int.toNat_natCast, h, dif_pos, Array.getElem?_eq_getElem h', Option.getD_some]
  rfl
theorem byte_lt (b : UInt8) : b.toNat < 256 := b.toNat_lt
/-- one byte more, by shift and or -/
theorem orB (x b : Nat) (hx : x < 72057594037927936) (hb : b < 256) : (BitVec.ofInt 64 ((x : Int) * 256) ||| BitVec.ofInt 64 (b : Int)).toNat = x * 256 + b := by
  have e1 : BitVec.ofInt 64 ((x : Int) * 256) = BitVec.ofNat 64 (x * 256) := by
    rw [show ((x : Int) * 256) = ((x * 256 : Nat) : Int) by omega, BitVec.ofInt_natCast]
  rw [e1, BitVec.ofInt_natCast, BitVec.toNat_or, BitVec.toNat_ofNat, BitVec.toNat_ofNat, Nat.mod_eq_of_lt (by omega), Nat.mod_eq_of_lt (by omega)]
  have := Nat.shiftLeft_add_eq_or_of_lt (i := 8) (b := b) (by simpa using hb) x
  rw [Nat.shiftLeft_eq] at this
  rw [← this]
theorem orI (x b : Int) (hx0 : 0 ≤ x) (hx : x < 72057594037927936) (hb0 : 0 ≤ b) (hb : b < 256) : ((BitVec.ofInt 64 (x * 256) ||| BitVec.ofInt 64 b).toNat : Int) = x * 256 + b := by
  obtain ⟨y, rfl⟩ := Int.eq_ofNat_of_zero_le hx0
  obtain ⟨c, rfl⟩ := Int.eq_ofNat_of_zero_le hb0
  have := orB y c (by omega) (by omega)
  omega
theorem or0 (b : Int) (hb0 : 0 ≤ b) (hb : b < 256) : ((BitVec.ofInt 64 0 ||| BitVec.ofInt 64 b).toNat : Int) = b := by
  have := orI 0 b (by omega) (by omega) hb0 hb
  simpa using this
/-- A byte of a number. -/
def u8 (x : Int) : UInt8 := UInt8.ofNat x.toNat
theorem u8_of {x y : Int} (h : x = y) : UInt8.ofNat x.toNat = u8 y := by rw [h, u8]
theorem u8_toNat (x : Int) (h0 : 0 ≤ x) (h : x < 256) : ((u8 x).toNat : Int) = x := by
  obtain ⟨y, rfl⟩ := Int.eq_ofNat_of_zero_le h0
  simp only [u8, Int.toNat_natCast] at *
  simp
  omega
/-- numbers, of bytes -/
theorem wub (a : UInt8) : IntKind.u64.wrap (a.toNat : Int) = a.toNat := by
  have := a.toNat_lt
  rw [wu64]; omega
theorem firstOr (b : UInt8) : ((BitVec.ofInt 64 (0 : Int) ||| BitVec.ofInt 64 (IntKind.u64.wrap (b.toNat : Int))).toNat : Int) = b.toNat := by
  have := b.toNat_lt
  rw [wub, or0 _ (by omega) (by omega)]
theorem stepOr (x : Int) (b : UInt8) (h0 : 0 ≤ x) (h : x < 72057594037927936) :
    ((BitVec.ofInt 64 (IntKind.u64.wrap (IntKind.u64.wrap x * 256)) ||| BitVec.ofInt 64 (IntKind.u64.wrap (b.toNat : Int))).toNat : Int) = x * 256 + b.toNat := by
  have := b.toNat_lt
  rw [wub, wu64 x, Int.emod_eq_of_lt h0 (by omega), wu64, Int.emod_eq_of_lt (by omega) (by omega), orI x _ h0 h (by omega) (by omega)]
def n2 (a b : UInt8) : Int := (a.toNat : Int) * 256 + b.toNat
def n4 (a b c d : UInt8) : Int := (((a.toNat : Int) * 256 + b.toNat) * 256 + c.toNat) * 256 + d.toNat
def n8 (a b c d e f g h : UInt8) : Int := (((((((a.toNat : Int) * 256 + b.toNat) * 256 + c.toNat) * 256 + d.toNat) * 256 + e.toNat) * 256 + f.toNat) * 256 + g.toNat) * 256 + h.toNat
theorem n4_range (a b c d : UInt8) : 0 ≤ n4 a b c d ∧ n4 a b c d < 4294967296 := by
  have := a.toNat_lt; have := b.toNat_lt; have := c.toNat_lt; have := d.toNat_lt
  unfold n4; omega
theorem n2_range (a b : UInt8) : 0 ≤ n2 a b ∧ n2 a b < 65536 := by
  have := a.toNat_lt; have := b.toNat_lt
  unfold n2; omega
theorem or2 (a b : UInt8) : ((BitVec.ofInt 64 (IntKind.u64.wrap (IntKind.u64.wrap ((BitVec.ofInt 64 (0 : Int) ||| BitVec.ofInt 64 (IntKind.u64.wrap (a.toNat : Int))).toNat : Int) * 256)) ||| BitVec.ofInt 64 (IntKind.u64.wrap (b.toNat : Int))).toNat : Int) = n2 a b := by
  have := a.toNat_lt
  rw [firstOr, stepOr _ b (by omega) (by omega), n2]
theorem or4 (a b c d : UInt8) : ((BitVec.ofInt 64 (IntKind.u64.wrap (IntKind.u64.wrap ((BitVec.ofInt 64 (IntKind.u64.wrap (IntKind.u64.wrap ((BitVec.ofInt 64 (IntKind.u64.wrap (IntKind.u64.wrap ((BitVec.ofInt 64 (0 : Int) ||| BitVec.ofInt 64 (IntKind.u64.wrap (a.toNat : Int))).toNat : Int) * 256)) ||| BitVec.ofInt 64 (IntKind.u64.wrap (b.toNat : Int))).toNat : Int) * 256)) ||| BitVec.ofInt 64 (IntKind.u64.wrap (c.toNat : Int))).toNat : Int) * 256)) ||| BitVec.ofInt 64 (IntKind.u64.wrap (d.toNat : Int))).toNat : Int) = n4 a b c d := by
  have := a.toNat_lt; have := b.toNat_lt; have := c.toNat_lt
  rw [firstOr, stepOr _ b (by omega) (by omega), stepOr _ c (by omega) (by omega), stepOr _ d (by omega) (by omega), n4]
theorem or8 (a b c d e f g h : UInt8) : ((BitVec.ofInt 64 (IntKind.u64.wrap (IntKind.u64.wrap ((BitVec.ofInt 64 (IntKind.u64.wrap (IntKind.u64.wrap ((BitVec.ofInt 64 (IntKind.u64.wrap (IntKind.u64.wrap ((BitVec.ofInt 64 (IntKind.u64.wrap (IntKind.u64.wrap ((BitVec.ofInt 64 (IntKind.u64.wrap (IntKind.u64.wrap ((BitVec.ofInt 64 (IntKind.u64.wrap (IntKind.u64.wrap ((BitVec.ofInt 64 (IntKind.u64.wrap (IntKind.u64.wrap ((BitVec.ofInt 64 (0 : Int) ||| BitVec.ofInt 64 (IntKind.u64.wrap (a.toNat : Int))).toNat : Int) * 256)) ||| BitVec.ofInt 64 (IntKind.u64.wrap (b.toNat : Int))).toNat : Int) * 256)) ||| BitVec.ofInt 64 (IntKind.u64.wrap (c.toNat : Int))).toNat : Int) * 256)) ||| BitVec.ofInt 64 (IntKind.u64.wrap (d.toNat : Int))).toNat : Int) * 256)) ||| BitVec.ofInt 64 (IntKind.u64.wrap (e.toNat : Int))).toNat : Int) * 256)) ||| BitVec.ofInt 64 (IntKind.u64.wrap (f.toNat : Int))).toNat : Int) * 256)) ||| BitVec.ofInt 64 (IntKind.u64.wrap (g.toNat : Int))).toNat : Int) * 256)) ||| BitVec.ofInt 64 (IntKind.u64.wrap (h.toNat : Int))).toNat : Int) = n8 a b c d e f g h := by
  have := a.toNat_lt; have := b.toNat_lt; have := c.toNat_lt; have := d.toNat_lt; have := e.toNat_lt; have := f.toNat_lt; have := g.toNat_lt
  rw [firstOr, stepOr _ b (by omega) (by omega), stepOr _ c (by omega) (by omega), stepOr _ d (by omega) (by omega), stepOr _ e (by omega) (by omega), stepOr _ f (by omega) (by omega), stepOr _ g (by omega) (by omega), stepOr _ h (by omega) (by omega), n8]
theorem and1 (a : UInt8) : ((BitVec.ofInt 8 (a.toNat : Int) &&& BitVec.ofInt 8 1).toNat : Int) = (a.toNat : Int) % 2 := by
  have := a.toNat_lt
  rw [BitVec.ofInt_natCast, BitVec.toNat_and, BitVec.toNat_ofNat, Nat.mod_eq_of_lt (by omega)]
  show ((a.toNat &&& 1 : Nat) : Int) = _
  rw [Nat.and_one_is_mod]
  omega
theorem w8b (a : UInt8) : IntKind.u8.wrap (a.toNat : Int) = a.toNat := by
  have := a.toNat_lt
  rw [wu8]; omega
theorem fd256 (x : Int) : x.fdiv 256 = x / 256 := fd x 256 (by decide)
theorem fd16 (x : Int) : x.fdiv 16 = x / 16 := fd x 16 (by decide)
theorem tdB (a : UInt8) (k : Int) : (a.toNat : Int).tdiv k = (a.toNat : Int) / k := td _ k (by omega)
theorem tmB (a : UInt8) (k : Int) : (a.toNat : Int).tmod k = (a.toNat : Int) % k := tm _ k (by omega)
theorem wib (a : UInt8) : IntKind.i64.wrap (a.toNat : Int) = a.toNat := by
  have := a.toNat_lt
  rw [wi64]; omega
theorem w64n4 (a b c d : UInt8) : IntKind.u64.wrap (n4 a b c d) = n4 a b c d := by
  have := n4_range a b c d
  rw [wu64]; omega
theorem w32n4 (a b c d : UInt8) : IntKind.u32.wrap (n4 a b c d) = n4 a b c d := by
  have := n4_range a b c d
  rw [wu32]; omega
theorem w64n2 (a b : UInt8) : IntKind.u64.wrap (n2 a b) = n2 a b := by
  have := n2_range a b
  rw [wu64]; omega
theorem w16n2 (a b : UInt8) : IntKind.u16.wrap (n2 a b) = n2 a b := by
  have := n2_range a b
  rw [wu16]; omega
theorem n8_range (a b c d e f g h : UInt8) : 0 ≤ n8 a b c d e f g h ∧ n8 a b c d e f g h < 18446744073709551616 := by
  have := a.toNat_lt; have := b.toNat_lt; have := c.toNat_lt; have := d.toNat_lt; have := e.toNat_lt; have := f.toNat_lt; have := g.toNat_lt; have := h.toNat_lt
  unfold n8; omega
theorem w64n8 (a b c d e f g h : UInt8) : IntKind.u64.wrap (n8 a b c d e f g h) = n8 a b c d e f g h := by
  have := n8_range a b c d e f g h
  rw [wu64]; omega
theorem ref1 (a : UInt8) : IntKind.u64.wrap ((0 : Int) + IntKind.u64.wrap (a.toNat : Int)) = a.toNat := by
  have := a.toNat_lt
  simp only [wub, Int.zero_add]
theorem refStep (x : Int) (b : UInt8) (h0 : 0 ≤ x) (h : x < 72057594037927936) : IntKind.u64.wrap (IntKind.u64.wrap (x * 256) + IntKind.u64.wrap (b.toNat : Int)) = x * 256 + b.toNat := by
  have := b.toNat_lt
  rw [wub, wu64 (x * 256), Int.emod_eq_of_lt (by omega) (by omega), wu64]; omega
theorem ref2 (a b : UInt8) : IntKind.u64.wrap (IntKind.u64.wrap (IntKind.u64.wrap ((0 : Int) + IntKind.u64.wrap (a.toNat : Int)) * 256) + IntKind.u64.wrap (b.toNat : Int)) = n2 a b := by
  have := a.toNat_lt
  rw [ref1, refStep _ b (by omega) (by omega), n2]
theorem ref4 (a b c d : UInt8) : IntKind.u64.wrap (IntKind.u64.wrap (IntKind.u64.wrap (IntKind.u64.wrap (IntKind.u64.wrap (IntKind.u64.wrap (IntKind.u64.wrap ((0 : Int) + IntKind.u64.wrap (a.toNat : Int)) * 256) + IntKind.u64.wrap (b.toNat : Int)) * 256) + IntKind.u64.wrap (c.toNat : Int)) * 256) + IntKind.u64.wrap (d.toNat : Int)) = n4 a b c d := by
  have := a.toNat_lt; have := b.toNat_lt; have := c.toNat_lt
  rw [ref1, refStep _ b (by omega) (by omega), refStep _ c (by omega) (by omega), refStep _ d (by omega) (by omega), n4]
/-- A text of so many bytes, spelled. -/
theorem spelled (s : ByteArray) {n : Nat} (h : s.size = n) : s = ⟨(cutL s 0 n).toArray⟩ := by
  have := cutL_eq (s := s) (i := 0) (j := n) (Nat.zero_le _) (by omega)
  rw [Nat.sub_zero] at this
  rw [this, ← h, ByteArray.extract_zero_size]
theorem size_mk (l : List UInt8) : (ByteArray.mk l.toArray).size = l.length := by simp [ByteArray.size]

/-- The byte of a number that counts so much. -/
def byK (k n : Int) : UInt8 := u8 (n / k % 256)
theorem byK_of {x k n : Int} (h : x = n / k % 256) : UInt8.ofNat x.toNat = byK k n := u8_of h
theorem u64_in {n : Int} (h0 : 0 ≤ n) (h : n < 18446744073709551616) : IntKind.u64.wrap n = n := by rw [wu64]; omega
theorem tdw {n : Int} (h0 : 0 ≤ n) (h : n < 18446744073709551616) : IntKind.u64.wrap (n.tdiv 256) = n / 256 := by rw [td _ _ h0, wu64]; omega
theorem pe0 {n : Int} (h0 : 0 ≤ n) (h : n < 18446744073709551616) : UInt8.ofNat (IntKind.u8.wrap (IntKind.u64.wrap n)).toNat = byK 1 n := by
  apply byK_of; rw [u64_in h0 h, wu8, Int.ediv_one]
theorem pr0 {n : Int} (h0 : 0 ≤ n) (h : n < 18446744073709551616) : UInt8.ofNat (IntKind.u8.wrap ((IntKind.u64.wrap n).tmod 256)).toNat = byK 1 n := by
  apply byK_of; rw [u64_in h0 h]; rw [tm _ _ (by omega), wu8] <;> omega
theorem pe1 {n : Int} (h0 : 0 ≤ n) (h : n < 18446744073709551616) : UInt8.ofNat (IntKind.u8.wrap ((IntKind.u64.wrap n).fdiv 256)).toNat = byK 256 n := by
  apply byK_of; rw [u64_in h0 h, wu8]; simp only [fd256] <;> omega
theorem pr1 {n : Int} (h0 : 0 ≤ n) (h : n < 18446744073709551616) : UInt8.ofNat (IntKind.u8.wrap ((IntKind.u64.wrap ((IntKind.u64.wrap n).tdiv 256)).tmod 256)).toNat = byK 256 n := by
  apply byK_of; rw [u64_in h0 h]; rw [tdw (n := n) (by omega) (by omega)]; rw [tm _ _ (by omega), wu8] <;> omega
theorem pe2 {n : Int} (h0 : 0 ≤ n) (h : n < 18446744073709551616) : UInt8.ofNat (IntKind.u8.wrap (((IntKind.u64.wrap n).fdiv 256).fdiv 256)).toNat = byK 65536 n := by
  apply byK_of; rw [u64_in h0 h, wu8]; simp only [fd256] <;> omega
theorem pr2 {n : Int} (h0 : 0 ≤ n) (h : n < 18446744073709551616) : UInt8.ofNat (IntKind.u8.wrap ((IntKind.u64.wrap ((IntKind.u64.wrap ((IntKind.u64.wrap n).tdiv 256)).tdiv 256)).tmod 256)).toNat = byK 65536 n := by
  apply byK_of; rw [u64_in h0 h]; rw [tdw (n := n) (by omega) (by omega)]; rw [tdw (n := n / 256) (by omega) (by omega)]; rw [tm _ _ (by omega), wu8] <;> omega
theorem pe3 {n : Int} (h0 : 0 ≤ n) (h : n < 18446744073709551616) : UInt8.ofNat (IntKind.u8.wrap ((((IntKind.u64.wrap n).fdiv 256).fdiv 256).fdiv 256)).toNat = byK 16777216 n := by
  apply byK_of; rw [u64_in h0 h, wu8]; simp only [fd256] <;> omega
theorem pr3 {n : Int} (h0 : 0 ≤ n) (h : n < 18446744073709551616) : UInt8.ofNat (IntKind.u8.wrap ((IntKind.u64.wrap ((IntKind.u64.wrap ((IntKind.u64.wrap ((IntKind.u64.wrap n).tdiv 256)).tdiv 256)).tdiv 256)).tmod 256)).toNat = byK 16777216 n := by
  apply byK_of; rw [u64_in h0 h]; rw [tdw (n := n) (by omega) (by omega)]; rw [tdw (n := n / 256) (by omega) (by omega)]; rw [tdw (n := n / 256 / 256) (by omega) (by omega)]; rw [tm _ _ (by omega), wu8] <;> omega
theorem pe4 {n : Int} (h0 : 0 ≤ n) (h : n < 18446744073709551616) : UInt8.ofNat (IntKind.u8.wrap (((((IntKind.u64.wrap n).fdiv 256).fdiv 256).fdiv 256).fdiv 256)).toNat = byK 4294967296 n := by
  apply byK_of; rw [u64_in h0 h, wu8]; simp only [fd256] <;> omega
theorem pr4 {n : Int} (h0 : 0 ≤ n) (h : n < 18446744073709551616) : UInt8.ofNat (IntKind.u8.wrap ((IntKind.u64.wrap ((IntKind.u64.wrap ((IntKind.u64.wrap ((IntKind.u64.wrap ((IntKind.u64.wrap n).tdiv 256)).tdiv 256)).tdiv 256)).tdiv 256)).tmod 256)).toNat = byK 4294967296 n := by
  apply byK_of; rw [u64_in h0 h]; rw [tdw (n := n) (by omega) (by omega)]; rw [tdw (n := n / 256) (by omega) (by omega)]; rw [tdw (n := n / 256 / 256) (by omega) (by omega)]; rw [tdw (n := n / 256 / 256 / 256) (by omega) (by omega)]; rw [tm _ _ (by omega), wu8] <;> omega
theorem pe5 {n : Int} (h0 : 0 ≤ n) (h : n < 18446744073709551616) : UInt8.ofNat (IntKind.u8.wrap ((((((IntKind.u64.wrap n).fdiv 256).fdiv 256).fdiv 256).fdiv 256).fdiv 256)).toNat = byK 1099511627776 n := by
  apply byK_of; rw [u64_in h0 h, wu8]; simp only [fd256] <;> omega
theorem pr5 {n : Int} (h0 : 0 ≤ n) (h : n < 18446744073709551616) : UInt8.ofNat (IntKind.u8.wrap ((IntKind.u64.wrap ((IntKind.u64.wrap ((IntKind.u64.wrap ((IntKind.u64.wrap ((IntKind.u64.wrap ((IntKind.u64.wrap n).tdiv 256)).tdiv 256)).tdiv 256)).tdiv 256)).tdiv 256)).tmod 256)).toNat = byK 1099511627776 n := by
  apply byK_of; rw [u64_in h0 h]; rw [tdw (n := n) (by omega) (by omega)]; rw [tdw (n := n / 256) (by omega) (by omega)]; rw [tdw (n := n / 256 / 256) (by omega) (by omega)]; rw [tdw (n := n / 256 / 256 / 256) (by omega) (by omega)]; rw [tdw (n := n / 256 / 256 / 256 / 256) (by omega) (by omega)]; rw [tm _ _ (by omega), wu8] <;> omega
theorem pe6 {n : Int} (h0 : 0 ≤ n) (h : n < 18446744073709551616) : UInt8.ofNat (IntKind.u8.wrap (((((((IntKind.u64.wrap n).fdiv 256).fdiv 256).fdiv 256).fdiv 256).fdiv 256).fdiv 256)).toNat = byK 281474976710656 n := by
  apply byK_of; rw [u64_in h0 h, wu8]; simp only [fd256] <;> omega
theorem pr6 {n : Int} (h0 : 0 ≤ n) (h : n < 18446744073709551616) : UInt8.ofNat (IntKind.u8.wrap ((IntKind.u64.wrap ((IntKind.u64.wrap ((IntKind.u64.wrap ((IntKind.u64.wrap ((IntKind.u64.wrap ((IntKind.u64.wrap ((IntKind.u64.wrap n).tdiv 256)).tdiv 256)).tdiv 256)).tdiv 256)).tdiv 256)).tdiv 256)).tmod 256)).toNat = byK 281474976710656 n := by
  apply byK_of; rw [u64_in h0 h]; rw [tdw (n := n) (by omega) (by omega)]; rw [tdw (n := n / 256) (by omega) (by omega)]; rw [tdw (n := n / 256 / 256) (by omega) (by omega)]; rw [tdw (n := n / 256 / 256 / 256) (by omega) (by omega)]; rw [tdw (n := n / 256 / 256 / 256 / 256) (by omega) (by omega)]; rw [tdw (n := n / 256 / 256 / 256 / 256 / 256) (by omega) (by omega)]; rw [tm _ _ (by omega), wu8] <;> omega
theorem pe7 {n : Int} (h0 : 0 ≤ n) (h : n < 18446744073709551616) : UInt8.ofNat (IntKind.u8.wrap ((((((((IntKind.u64.wrap n).fdiv 256).fdiv 256).fdiv 256).fdiv 256).fdiv 256).fdiv 256).fdiv 256)).toNat = byK 72057594037927936 n := by
  apply byK_of; rw [u64_in h0 h, wu8]; simp only [fd256] <;> omega
theorem pr7 {n : Int} (h0 : 0 ≤ n) (h : n < 18446744073709551616) : UInt8.ofNat (IntKind.u8.wrap ((IntKind.u64.wrap ((IntKind.u64.wrap ((IntKind.u64.wrap ((IntKind.u64.wrap ((IntKind.u64.wrap ((IntKind.u64.wrap ((IntKind.u64.wrap ((IntKind.u64.wrap n).tdiv 256)).tdiv 256)).tdiv 256)).tdiv 256)).tdiv 256)).tdiv 256)).tdiv 256)).tmod 256)).toNat = byK 72057594037927936 n := by
  apply byK_of; rw [u64_in h0 h]; rw [tdw (n := n) (by omega) (by omega)]; rw [tdw (n := n / 256) (by omega) (by omega)]; rw [tdw (n := n / 256 / 256) (by omega) (by omega)]; rw [tdw (n := n / 256 / 256 / 256) (by omega) (by omega)]; rw [tdw (n := n / 256 / 256 / 256 / 256) (by omega) (by omega)]; rw [tdw (n := n / 256 / 256 / 256 / 256 / 256) (by omega) (by omega)]; rw [tdw (n := n / 256 / 256 / 256 / 256 / 256 / 256) (by omega) (by omega)]; rw [tm _ _ (by omega), wu8] <;> omega
theorem pid {n : Int} : UInt8.ofNat (IntKind.u8.wrap (IntKind.u64.wrap (IntKind.u8.wrap n))).toNat = byK 1 n := by
  apply byK_of; rw [wu8 n, wu64, wu8]; omega
theorem byK_toNat (k n : Int) : ((byK k n).toNat : Int) = n / k % 256 := u8_toNat _ (by have := Int.emod_nonneg (n / k) (show (256 : Int) ≠ 0 by decide); omega) (by have := Int.emod_lt_of_pos (n / k) (show (0 : Int) < 256 by decide); omega)

/-! ### what is told, as a value -/
mutual
def SV.toV : SV → Value
  | .val v => v
  | .num k z => .int k z
  | .bol b => .bool b
  | .bts _ l => .string ⟨l.toArray⟩
  | .agg l => .agg (toVs l).toArray
  | .tup l => .tuple (toVs l).toArray
  | .ifc t x => .iface t x.toV
  | _ => undef
def toVs : List SV → List Value
  | [] => []
  | s :: l => s.toV :: toVs l
end
mutual
def SV.pln : SV → Bool
  | .val _ | .num .. | .bol _ | .bts .. => true
  | .agg l | .tup l => plns l
  | .ifc _ x => x.pln
  | _ => false
def plns : List SV → Bool
  | [] => true
  | s :: l => s.pln && plns l
end
mutual
theorem R.toV {η : Env} : ∀ (s : SV) (v : Value), s.pln = true → R η s v → v = s.toV
  | .val _, _, _, h | .num _ _, _, _, h | .bol _, _, _, h | .bts _ _, _, _, h => by simp only [R] at h; simp only [SV.toV]; exact h
  | .ptr .., _, hf, _ | .slc .., _, hf, _ | .sle .., _, hf, _ | .hdl _, _, hf, _ | .fnc .., _, hf, _ => by simp [SV.pln] at hf
  | .agg l, v, hf, h => by
    simp only [SV.pln] at hf
    obtain ⟨x, rfl, h2⟩ := h
    simp only [SV.toV]; rw [← Rs.toVs l _ hf h2]
  | .tup l, v, hf, h => by
    simp only [SV.pln] at hf
    obtain ⟨x, rfl, h2⟩ := h
    simp only [SV.toV]; rw [← Rs.toVs l _ hf h2]
  | .ifc t s, v, hf, h => by
    simp only [SV.pln] at hf
    obtain ⟨x, rfl, h2⟩ := h
    simp only [SV.toV]; rw [← R.toV s _ hf h2]
theorem Rs.toVs {η : Env} : ∀ (l : List SV) (vs : List Value), plns l = true → Rs η l vs → vs = toVs l
  | [], vs, _, h => by simp only [Rs] at h; simp only [Go.Ex.toVs]; exact h
  | s :: l, vs, hf, h => by
    simp only [plns, Bool.and_eq_true] at hf
    obtain ⟨x, r, rfl, h2, h3⟩ := h
    simp only [Go.Ex.toVs]; rw [← R.toV s _ hf.1 h2, ← Rs.toVs l _ hf.2 h3]
end
mutual
theorem R.ofV {η : Env} : ∀ (s : SV), s.pln = true → R η s s.toV
  | .val _, _ | .num _ _, _ | .bol _, _ | .bts _ _, _ => by simp only [R, SV.toV]
  | .ptr .., hf | .slc .., hf | .sle .., hf | .hdl _, hf | .fnc .., hf => by simp [SV.pln] at hf
  | .agg l, hf => by simp only [SV.pln] at hf; exact ⟨_, rfl, by simpa using Rs.ofVs l hf⟩
  | .tup l, hf => by simp only [SV.pln] at hf; exact ⟨_, rfl, by simpa using Rs.ofVs l hf⟩
  | .ifc t s, hf => by simp only [SV.pln] at hf; exact ⟨_, rfl, R.ofV s hf⟩
theorem Rs.ofVs {η : Env} : ∀ (l : List SV), plns l = true → Rs η l (toVs l)
  | [], _ => Rs.nil
  | s :: l, hf => by
    simp only [plns, Bool.and_eq_true] at hf
    exact Rs.cons (R.ofV s hf.1) (Rs.ofVs l hf.2)
end
/-- What a way gives, as a value. -/
theorem leaf {P : Program} {C : Con P} {n : Nat} {f : FuncId} {args : List SV} {ans : List Bool} {s : SV} {L : List Prop}
    (h : gives (callR (conned C) (run (conned C) n) f args [] ans) s L) (hc : AllP L) (hs : s.pln = true) {w : World} {vs : List Value} (hargs : Rs [] args vs) {x : Value} (hx : s.toV = x) (hf : s.free = true) :
    Calls P f vs.toArray w (fun e w' => e = .returned x ∧ Go.RowKit.Below w.heap.size w w') :=
  (con_gives C n ans h hc hf hargs).mono fun e w' ⟨v, h1, h2, h3⟩ => ⟨by rw [h1, R.toV s v hs h2, hx], h3⟩
/-- One function's contract, by values. -/
def Con.ofVals {P : Program} (f : FuncId) (g : List SV → Option (SV × Prop)) (ok : ∀ args s p, g args = some (s, p) → p → s.pln = true ∧ ∀ (w : World) (vs : List Value), Rs [] args vs →
    Calls P f vs.toArray w (fun e w' => e = .returned s.toV ∧ Go.RowKit.Below w.heap.size w w')) : Con P :=
  Con.one f (fun args => match g args with | some (s, p) => some (s, .pr p) | none => none) fun args s c h hc w vs hv => by
    cases hg : g args with
    | none => simp [hg] at h
    | some r =>
      obtain ⟨s', p⟩ := r
      simp only [hg, Option.some.injEq, Prod.mk.injEq] at h
      obtain ⟨rfl, rfl⟩ := h
      obtain ⟨h1, h2⟩ := ok args s' p hg hc
      exact (h2 w vs hv).mono fun e w' ⟨e1, e2⟩ => ⟨_, e1, R.ofV _ h1, e2⟩
/-! ### bounds of arguments -/
theorem has_u8 {z : Int} (h : IntKind.u8.has z) : 0 ≤ z ∧ z < 256 := by
  simp only [IntKind.has, IntKind.min, IntKind.max, IntKind.signed, IntKind.bits] at h
  simp at h
  omega
theorem has_u16 {z : Int} (h : IntKind.u16.has z) : 0 ≤ z ∧ z < 65536 := by
  simp only [IntKind.has, IntKind.min, IntKind.max, IntKind.signed, IntKind.bits] at h
  simp at h
  omega
theorem has_u32 {z : Int} (h : IntKind.u32.has z) : 0 ≤ z ∧ z < 4294967296 := by
  simp only [IntKind.has, IntKind.min, IntKind.max, IntKind.signed, IntKind.bits] at h
  simp at h
  omega
theorem has_u64 {z : Int} (h : IntKind.u64.has z) : 0 ≤ z ∧ z < 18446744073709551616 := by
  simp only [IntKind.has, IntKind.min, IntKind.max, IntKind.signed, IntKind.bits] at h
  simp at h
  omega
theorem has_i64 {z : Int} (h : IntKind.i64.has z) : -9223372036854775808 ≤ z ∧ z < 9223372036854775808 := by
  simp only [IntKind.has, IntKind.min, IntKind.max, IntKind.signed, IntKind.bits] at h
  simp at h
  omega
theorem has_str {s : ByteArray} (h : (s.size : Int) ≤ IntKind.i64.max) : s.size ≤ 9223372036854775807 := by
  simp only [IntKind.max, IntKind.signed, IntKind.bits] at h
  simp at h
  omega
end Go.Ex
