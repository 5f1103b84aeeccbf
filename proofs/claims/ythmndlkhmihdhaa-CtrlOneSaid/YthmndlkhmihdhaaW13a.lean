/-
  Walks of functions, reckoned through, and what they give (part W13a). No condition beyond what each says. By an AI agent.
-/
import Derived.Test.YthmndlkhmihdhaaW13u
namespace Go.Proofs.Ythmndlkhmihdhaa
open Go.Ex
open Go.RowKit (Below)
set_option linter.unusedVariables false
set_option linter.unusedSimpArgs false

/-! ### the plain laws -/
theorem first0 (b : UInt8) : ((BitVec.ofInt 64 (0 : Int) ||| BitVec.ofInt 64 (b.toNat : Int)).toNat : Int) = b.toNat := by
  have := b.toNat_lt
  rw [or0 _ (by omega) (by omega)]
theorem and15 (a : UInt8) : ((BitVec.ofInt 8 (a.toNat : Int) &&& BitVec.ofInt 8 15).toNat : Int) = (a.toNat : Int) % 16 := by
  have := a.toNat_lt
  rw [BitVec.ofInt_natCast, BitVec.toNat_and, BitVec.toNat_ofNat, Nat.mod_eq_of_lt (by omega)]
  show ((a.toNat &&& 15 : Nat) : Int) = _
  rw [show (15 : Nat) = 2 ^ 4 - 1 from rfl, Nat.and_two_pow_sub_one_eq_mod]
  omega
theorem and1n (x : Int) (h0 : 0 ≤ x) (h : x < 256) : ((BitVec.ofInt 8 x &&& BitVec.ofInt 8 1).toNat : Int) = x % 2 := by
  obtain ⟨y, rfl⟩ := Int.eq_ofNat_of_zero_le h0
  rw [BitVec.ofInt_natCast, BitVec.toNat_and, BitVec.toNat_ofNat, Nat.mod_eq_of_lt (by omega)]
  show ((y &&& 1 : Nat) : Int) = _
  rw [Nat.and_one_is_mod]
  omega
theorem wd16 (a : UInt8) : IntKind.i64.wrap ((a.toNat : Int) / 16) = (a.toNat : Int) / 16 := by
  have := a.toNat_lt
  rw [wi64]; omega
theorem w8m (a : UInt8) : IntKind.u8.wrap ((a.toNat : Int) % 16) = (a.toNat : Int) % 16 := by
  have := a.toNat_lt
  rw [wu8]; omega
theorem wim (a : UInt8) : IntKind.i64.wrap ((a.toNat : Int) % 16) = (a.toNat : Int) % 16 := by
  have := a.toNat_lt
  rw [wi64]; omega
theorem d_byte (s : ByteArray) (h : ¬ s.size = 0) : byteAt s 0 = ((bAt s 0).toNat : Int) := byteAt_eq s 0 (by omega)
theorem d_byte1 (s : ByteArray) (h : 1 < s.size) : byteAt s 1 = ((bAt s 1).toNat : Int) := byteAt_eq s 1 h
theorem odd1 (a : UInt8) : (IntKind.u8.wrap ((BitVec.ofInt 8 ((a.toNat : Int) % 16) &&& BitVec.ofInt 8 1).toNat : Int) != 0) = decide (a.toNat % 2 = 1) := by
  have := a.toNat_lt
  rw [and1n _ (by omega) (by omega), wu8, Bool.eq_iff_iff]
  simp only [bne_iff_ne, ne_eq, decide_eq_true_eq]
  omega
theorem odd2 (a : UInt8) : ((a.toNat : Int).tmod 2 == 1) = decide (a.toNat % 2 = 1) := by
  rw [tmB, Bool.eq_iff_iff]
  simp only [beq_iff_eq, decide_eq_true_eq]
  omega
/-- What is wrong with a body. -/
def bad (s : ByteArray) (sub size : Nat) : Int :=
  if s.size = 0 then 4 else if (bAt s 0).toNat / 16 ≠ sub then 7 else if s.size < size then 4 else if size < s.size then 5 else 0
def pV (s : ByteArray) : Bool := decide (bad s 5 1 = 0) && decide ((bAt s 0).toNat % 2 = 1)
def nV (s : ByteArray) (sub : Nat) : Int := if bad s sub 10 = 0 then n8 (bAt s 2) (bAt s 3) (bAt s 4) (bAt s 5) (bAt s 6) (bAt s 7) (bAt s 8) (bAt s 9) else 0
def rV (s : ByteArray) : Int := if bad s 8 2 = 0 then ((bAt s 0).toNat : Int) % 16 else 0
def qV (s : ByteArray) : Int := if bad s 8 2 = 0 then ((bAt s 1).toNat : Int) else 0
theorem bx (s : ByteArray) (h : s.size = 10) (i : Nat) (hi : i < 8) : byteAt (s.extract 2 (s.size : Int).toNat) (i : Int) = ((bAt s (i + 2)).toNat : Int) := by
  rw [byteAt_eq _ _ (by rw [ByteArray.size_extract]; omega)]
  congr 2
  unfold bAt
  rw [ByteArray.data_extract, Array.getElem?_extract]
  simp only [Int.toNat_natCast]
  have : s.data.size = s.size := rfl
  split
  · rw [Nat.add_comm]
  · omega
theorem bx0 (s : ByteArray) (h : s.size = 10) : byteAt (s.extract 2 (s.size : Int).toNat) 0 = ((bAt s 2).toNat : Int) := bx s h 0 (by decide)
theorem bx1 (s : ByteArray) (h : s.size = 10) : byteAt (s.extract 2 (s.size : Int).toNat) 1 = ((bAt s 3).toNat : Int) := bx s h 1 (by decide)
theorem bx2 (s : ByteArray) (h : s.size = 10) : byteAt (s.extract 2 (s.size : Int).toNat) 2 = ((bAt s 4).toNat : Int) := bx s h 2 (by decide)
theorem bx3 (s : ByteArray) (h : s.size = 10) : byteAt (s.extract 2 (s.size : Int).toNat) 3 = ((bAt s 5).toNat : Int) := bx s h 3 (by decide)
theorem bx4 (s : ByteArray) (h : s.size = 10) : byteAt (s.extract 2 (s.size : Int).toNat) 4 = ((bAt s 6).toNat : Int) := bx s h 4 (by decide)
theorem bx5 (s : ByteArray) (h : s.size = 10) : byteAt (s.extract 2 (s.size : Int).toNat) 5 = ((bAt s 7).toNat : Int) := bx s h 5 (by decide)
theorem bx6 (s : ByteArray) (h : s.size = 10) : byteAt (s.extract 2 (s.size : Int).toNat) 6 = ((bAt s 8).toNat : Int) := bx s h 6 (by decide)
theorem bx7 (s : ByteArray) (h : s.size = 10) : byteAt (s.extract 2 (s.size : Int).toNat) 7 = ((bAt s 9).toNat : Int) := bx s h 7 (by decide)
theorem ref8 (a b c d e f g h : UInt8) : IntKind.u64.wrap (IntKind.u64.wrap (IntKind.u64.wrap (IntKind.u64.wrap (IntKind.u64.wrap (IntKind.u64.wrap (IntKind.u64.wrap (IntKind.u64.wrap (IntKind.u64.wrap (IntKind.u64.wrap (IntKind.u64.wrap (IntKind.u64.wrap (IntKind.u64.wrap (IntKind.u64.wrap (IntKind.u64.wrap ((0 : Int) + IntKind.u64.wrap (a.toNat : Int)) * 256) + IntKind.u64.wrap (b.toNat : Int)) * 256) + IntKind.u64.wrap (c.toNat : Int)) * 256) + IntKind.u64.wrap (d.toNat : Int)) * 256) + IntKind.u64.wrap (e.toNat : Int)) * 256) + IntKind.u64.wrap (f.toNat : Int)) * 256) + IntKind.u64.wrap (g.toNat : Int)) * 256) + IntKind.u64.wrap (h.toNat : Int)) = n8 a b c d e f g h := by
  have := a.toNat_lt; have := b.toNat_lt; have := c.toNat_lt; have := d.toNat_lt; have := e.toNat_lt; have := f.toNat_lt; have := g.toNat_lt
  rw [ref1, refStep _ b (by omega) (by omega), refStep _ c (by omega) (by omega), refStep _ d (by omega) (by omega), refStep _ e (by omega) (by omega), refStep _ f (by omega) (by omega), refStep _ g (by omega) (by omega), refStep _ h (by omega) (by omega), n8]

theorem p_calls (s : ByteArray) (hs : s.size ≤ 4611686018427387904) (w : World) :
    Calls Try.prog 18 #[.string s] w (fun e w' => e = .returned (.tuple #[.agg #[.bool (pV s)], .int .i64 (bad s 5 1)]) ∧ Below w.heap.size w w') := by
  have hb := byte_lt (bAt s 0)
  rcases Bool.eq_false_or_eq_true (s.toList == (ByteArray.mk (ByteArray.mk #[]).data.toList.toArray).toList) with hb0 | hb0 <;> have c0 := hb0 <;> try simp only [decide_eq_true_eq, decide_eq_false_iff_not, beq_iff_eq, bne_iff_ne, ne_eq, beq_eq_false_iff_ne, bne_eq_false_iff_eq, Bool.not_eq_true', Bool.not_eq_false', Bool.false_eq_true, if_false, Bool.and_true, Bool.true_and, ba_beq, ba_toList_beq, ba_none, wi64, Bool.and_eq_true, Bool.and_eq_false_imp, Bool.not_eq_true, Bool.not_eq_false, beq_self_eq_true, Int.ofNat_eq_natCast, fd16, fd256, w8b, wub, first0] at c0
  · refine leaf (p_0 s) (by simp only [AllP, and_true]; (repeat' apply And.intro) <;> first | (with_reducible assumption) | (with_reducible rfl) | omega | (simp only [ByteArray.size_extract]; omega)) rfl (Rs.cons (by simp only [R]) Rs.nil) ?_ rfl
    first
    | (have q : bad s 5 1 = 4 := (by unfold bad; rw [if_pos (by omega)])
       simp only [pV, q]; rfl)
    | (have q : bad s 5 1 = 7 := (by unfold bad; rw [if_neg (by omega), if_pos (by omega)])
       simp only [pV, q]; rfl)
    | (have q : bad s 5 1 = 4 := (by unfold bad; rw [if_neg (by omega), if_neg (by omega), if_pos (by omega)])
       simp only [pV, q]; rfl)
    | (have q : bad s 5 1 = 5 := (by unfold bad; rw [if_neg (by omega), if_neg (by omega), if_neg (by omega), if_pos (by omega)])
       simp only [pV, q]; rfl)
    | (have q : bad s 5 1 = 0 := (by unfold bad; rw [if_neg (by omega), if_neg (by omega), if_neg (by omega), if_neg (by omega)])
       simp only [pV, q, SV.toV, toVs, if_true, decide_true, Bool.true_and]
       simp only [wub, first0, w8b, and15, w8m, odd1])
  · rcases Bool.eq_false_or_eq_true (Decidable.decide ((1 : Int) > Go.IntKind.i64.wrap ((↑s.size : Int) - (0 : Int)))) with hb1 | hb1 <;> have c1 := hb1 <;> try simp only [decide_eq_true_eq, decide_eq_false_iff_not, beq_iff_eq, bne_iff_ne, ne_eq, beq_eq_false_iff_ne, bne_eq_false_iff_eq, Bool.not_eq_true', Bool.not_eq_false', Bool.false_eq_true, if_false, Bool.and_true, Bool.true_and, ba_beq, ba_toList_beq, ba_none, wi64, Bool.and_eq_true, Bool.and_eq_false_imp, Bool.not_eq_true, Bool.not_eq_false, beq_self_eq_true, Int.ofNat_eq_natCast, fd16, fd256, w8b, wub, first0] at c1
    · exfalso; first | omega | (simp only [ByteArray.size_extract] at *; omega)
    · rcases Bool.eq_false_or_eq_true (Go.IntKind.i64.wrap ((Go.IntKind.u8.wrap (Go.IntKind.u64.wrap (↑(BitVec.ofInt (64 : Nat) (0 : Int) ||| BitVec.ofInt (64 : Nat) (Go.IntKind.u64.wrap (↑(Go.Ex.bAt s (0 : Nat)).toNat : Int))).toNat : Int))).fdiv (16 : Int)) != (5 : Int)) with hb2 | hb2 <;> have c2 := hb2 <;> try simp only [decide_eq_true_eq, decide_eq_false_iff_not, beq_iff_eq, bne_iff_ne, ne_eq, beq_eq_false_iff_ne, bne_eq_false_iff_eq, Bool.not_eq_true', Bool.not_eq_false', Bool.false_eq_true, if_false, Bool.and_true, Bool.true_and, ba_beq, ba_toList_beq, ba_none, wi64, Bool.and_eq_true, Bool.and_eq_false_imp, Bool.not_eq_true, Bool.not_eq_false, beq_self_eq_true, Int.ofNat_eq_natCast, fd16, fd256, w8b, wub, first0] at c2
      · refine leaf (p_1 s) (by simp only [AllP, and_true]; (repeat' apply And.intro) <;> first | (with_reducible assumption) | (with_reducible rfl) | omega | (simp only [ByteArray.size_extract]; omega)) rfl (Rs.cons (by simp only [R]) Rs.nil) ?_ rfl
        first
        | (have q : bad s 5 1 = 4 := (by unfold bad; rw [if_pos (by omega)])
           simp only [pV, q]; rfl)
        | (have q : bad s 5 1 = 7 := (by unfold bad; rw [if_neg (by omega), if_pos (by omega)])
           simp only [pV, q]; rfl)
        | (have q : bad s 5 1 = 4 := (by unfold bad; rw [if_neg (by omega), if_neg (by omega), if_pos (by omega)])
           simp only [pV, q]; rfl)
        | (have q : bad s 5 1 = 5 := (by unfold bad; rw [if_neg (by omega), if_neg (by omega), if_neg (by omega), if_pos (by omega)])
           simp only [pV, q]; rfl)
        | (have q : bad s 5 1 = 0 := (by unfold bad; rw [if_neg (by omega), if_neg (by omega), if_neg (by omega), if_neg (by omega)])
           simp only [pV, q, SV.toV, toVs, if_true, decide_true, Bool.true_and]
           simp only [wub, first0, w8b, and15, w8m, odd1])
      · rcases Bool.eq_false_or_eq_true (Decidable.decide ((1 : Int) < (↑s.size : Int))) with hb3 | hb3 <;> have c3 := hb3 <;> try simp only [decide_eq_true_eq, decide_eq_false_iff_not, beq_iff_eq, bne_iff_ne, ne_eq, beq_eq_false_iff_ne, bne_eq_false_iff_eq, Bool.not_eq_true', Bool.not_eq_false', Bool.false_eq_true, if_false, Bool.and_true, Bool.true_and, ba_beq, ba_toList_beq, ba_none, wi64, Bool.and_eq_true, Bool.and_eq_false_imp, Bool.not_eq_true, Bool.not_eq_false, beq_self_eq_true, Int.ofNat_eq_natCast, fd16, fd256, w8b, wub, first0] at c3
        · refine leaf (p_3 s) (by simp only [AllP, and_true]; (repeat' apply And.intro) <;> first | (with_reducible assumption) | (with_reducible rfl) | omega | (simp only [ByteArray.size_extract]; omega)) rfl (Rs.cons (by simp only [R]) Rs.nil) ?_ rfl
          first
          | (have q : bad s 5 1 = 4 := (by unfold bad; rw [if_pos (by omega)])
             simp only [pV, q]; rfl)
          | (have q : bad s 5 1 = 7 := (by unfold bad; rw [if_neg (by omega), if_pos (by omega)])
             simp only [pV, q]; rfl)
          | (have q : bad s 5 1 = 4 := (by unfold bad; rw [if_neg (by omega), if_neg (by omega), if_pos (by omega)])
             simp only [pV, q]; rfl)
          | (have q : bad s 5 1 = 5 := (by unfold bad; rw [if_neg (by omega), if_neg (by omega), if_neg (by omega), if_pos (by omega)])
             simp only [pV, q]; rfl)
          | (have q : bad s 5 1 = 0 := (by unfold bad; rw [if_neg (by omega), if_neg (by omega), if_neg (by omega), if_neg (by omega)])
             simp only [pV, q, SV.toV, toVs, if_true, decide_true, Bool.true_and]
             simp only [wub, first0, w8b, and15, w8m, odd1])
        · refine leaf (p_2 s) (by simp only [AllP, and_true]; (repeat' apply And.intro) <;> first | (with_reducible assumption) | (with_reducible rfl) | omega | (simp only [ByteArray.size_extract]; omega)) rfl (Rs.cons (by simp only [R]) Rs.nil) ?_ rfl
          first
          | (have q : bad s 5 1 = 4 := (by unfold bad; rw [if_pos (by omega)])
             simp only [pV, q]; rfl)
          | (have q : bad s 5 1 = 7 := (by unfold bad; rw [if_neg (by omega), if_pos (by omega)])
             simp only [pV, q]; rfl)
          | (have q : bad s 5 1 = 4 := (by unfold bad; rw [if_neg (by omega), if_neg (by omega), if_pos (by omega)])
             simp only [pV, q]; rfl)
          | (have q : bad s 5 1 = 5 := (by unfold bad; rw [if_neg (by omega), if_neg (by omega), if_neg (by omega), if_pos (by omega)])
             simp only [pV, q]; rfl)
          | (have q : bad s 5 1 = 0 := (by unfold bad; rw [if_neg (by omega), if_neg (by omega), if_neg (by omega), if_neg (by omega)])
             simp only [pV, q, SV.toV, toVs, if_true, decide_true, Bool.true_and]
             simp only [wub, first0, w8b, and15, w8m, odd1])

theorem f_calls (s : ByteArray) (hs : s.size ≤ 4611686018427387904) (w : World) :
    Calls Try.prog 19 #[.string s] w (fun e w' => e = .returned (.tuple #[.agg #[.int .u64 (nV s 6)], .int .i64 (bad s 6 10)]) ∧ Below w.heap.size w w') := by
  have hb := byte_lt (bAt s 0)
  rcases Bool.eq_false_or_eq_true (s.toList == (ByteArray.mk (ByteArray.mk #[]).data.toList.toArray).toList) with hb0 | hb0 <;> have c0 := hb0 <;> try simp only [decide_eq_true_eq, decide_eq_false_iff_not, beq_iff_eq, bne_iff_ne, ne_eq, beq_eq_false_iff_ne, bne_eq_false_iff_eq, Bool.not_eq_true', Bool.not_eq_false', Bool.false_eq_true, if_false, Bool.and_true, Bool.true_and, ba_beq, ba_toList_beq, ba_none, wi64, Bool.and_eq_true, Bool.and_eq_false_imp, Bool.not_eq_true, Bool.not_eq_false, beq_self_eq_true, Int.ofNat_eq_natCast, fd16, fd256, w8b, wub, first0] at c0
  · refine leaf (f_0 s) (by simp only [AllP, and_true]; (repeat' apply And.intro) <;> first | (with_reducible assumption) | (with_reducible rfl) | omega | (simp only [ByteArray.size_extract]; omega)) rfl (Rs.cons (by simp only [R]) Rs.nil) ?_ rfl
    first
    | (have q : bad s 6 10 = 4 := (by unfold bad; rw [if_pos (by omega)])
       simp only [nV, q]; rfl)
    | (have q : bad s 6 10 = 7 := (by unfold bad; rw [if_neg (by omega), if_pos (by omega)])
       simp only [nV, q]; rfl)
    | (have q : bad s 6 10 = 4 := (by unfold bad; rw [if_neg (by omega), if_neg (by omega), if_pos (by omega)])
       simp only [nV, q]; rfl)
    | (have q : bad s 6 10 = 5 := (by unfold bad; rw [if_neg (by omega), if_neg (by omega), if_neg (by omega), if_pos (by omega)])
       simp only [nV, q]; rfl)
    | (have q : bad s 6 10 = 0 := (by unfold bad; rw [if_neg (by omega), if_neg (by omega), if_neg (by omega), if_neg (by omega)])
       simp only [nV, q, SV.toV, toVs, if_true, decide_true, Bool.true_and]
       simp only [or8, w64n8]
       (try rfl))
  · rcases Bool.eq_false_or_eq_true (Decidable.decide ((1 : Int) > Go.IntKind.i64.wrap ((↑s.size : Int) - (0 : Int)))) with hb1 | hb1 <;> have c1 := hb1 <;> try simp only [decide_eq_true_eq, decide_eq_false_iff_not, beq_iff_eq, bne_iff_ne, ne_eq, beq_eq_false_iff_ne, bne_eq_false_iff_eq, Bool.not_eq_true', Bool.not_eq_false', Bool.false_eq_true, if_false, Bool.and_true, Bool.true_and, ba_beq, ba_toList_beq, ba_none, wi64, Bool.and_eq_true, Bool.and_eq_false_imp, Bool.not_eq_true, Bool.not_eq_false, beq_self_eq_true, Int.ofNat_eq_natCast, fd16, fd256, w8b, wub, first0] at c1
    · exfalso; first | omega | (simp only [ByteArray.size_extract] at *; omega)
    · rcases Bool.eq_false_or_eq_true (Go.IntKind.i64.wrap ((Go.IntKind.u8.wrap (Go.IntKind.u64.wrap (↑(BitVec.ofInt (64 : Nat) (0 : Int) ||| BitVec.ofInt (64 : Nat) (Go.IntKind.u64.wrap (↑(Go.Ex.bAt s (0 : Nat)).toNat : Int))).toNat : Int))).fdiv (16 : Int)) != (6 : Int)) with hb2 | hb2 <;> have c2 := hb2 <;> try simp only [decide_eq_true_eq, decide_eq_false_iff_not, beq_iff_eq, bne_iff_ne, ne_eq, beq_eq_false_iff_ne, bne_eq_false_iff_eq, Bool.not_eq_true', Bool.not_eq_false', Bool.false_eq_true, if_false, Bool.and_true, Bool.true_and, ba_beq, ba_toList_beq, ba_none, wi64, Bool.and_eq_true, Bool.and_eq_false_imp, Bool.not_eq_true, Bool.not_eq_false, beq_self_eq_true, Int.ofNat_eq_natCast, fd16, fd256, w8b, wub, first0] at c2
      · refine leaf (f_1 s) (by simp only [AllP, and_true]; (repeat' apply And.intro) <;> first | (with_reducible assumption) | (with_reducible rfl) | omega | (simp only [ByteArray.size_extract]; omega)) rfl (Rs.cons (by simp only [R]) Rs.nil) ?_ rfl
        first
        | (have q : bad s 6 10 = 4 := (by unfold bad; rw [if_pos (by omega)])
           simp only [nV, q]; rfl)
        | (have q : bad s 6 10 = 7 := (by unfold bad; rw [if_neg (by omega), if_pos (by omega)])
           simp only [nV, q]; rfl)
        | (have q : bad s 6 10 = 4 := (by unfold bad; rw [if_neg (by omega), if_neg (by omega), if_pos (by omega)])
           simp only [nV, q]; rfl)
        | (have q : bad s 6 10 = 5 := (by unfold bad; rw [if_neg (by omega), if_neg (by omega), if_neg (by omega), if_pos (by omega)])
           simp only [nV, q]; rfl)
        | (have q : bad s 6 10 = 0 := (by unfold bad; rw [if_neg (by omega), if_neg (by omega), if_neg (by omega), if_neg (by omega)])
           simp only [nV, q, SV.toV, toVs, if_true, decide_true, Bool.true_and]
           simp only [or8, w64n8]
           (try rfl))
      · rcases Bool.eq_false_or_eq_true (Decidable.decide ((1 : Int) > Go.IntKind.i64.wrap ((↑s.size : Int) - (1 : Int)))) with hb3 | hb3 <;> have c3 := hb3 <;> try simp only [decide_eq_true_eq, decide_eq_false_iff_not, beq_iff_eq, bne_iff_ne, ne_eq, beq_eq_false_iff_ne, bne_eq_false_iff_eq, Bool.not_eq_true', Bool.not_eq_false', Bool.false_eq_true, if_false, Bool.and_true, Bool.true_and, ba_beq, ba_toList_beq, ba_none, wi64, Bool.and_eq_true, Bool.and_eq_false_imp, Bool.not_eq_true, Bool.not_eq_false, beq_self_eq_true, Int.ofNat_eq_natCast, fd16, fd256, w8b, wub, first0] at c3
        · refine leaf (f_2 s) (by simp only [AllP, and_true]; (repeat' apply And.intro) <;> first | (with_reducible assumption) | (with_reducible rfl) | omega | (simp only [ByteArray.size_extract]; omega)) rfl (Rs.cons (by simp only [R]) Rs.nil) ?_ rfl
          first
          | (have q : bad s 6 10 = 4 := (by unfold bad; rw [if_pos (by omega)])
             simp only [nV, q]; rfl)
          | (have q : bad s 6 10 = 7 := (by unfold bad; rw [if_neg (by omega), if_pos (by omega)])
             simp only [nV, q]; rfl)
          | (have q : bad s 6 10 = 4 := (by unfold bad; rw [if_neg (by omega), if_neg (by omega), if_pos (by omega)])
             simp only [nV, q]; rfl)
          | (have q : bad s 6 10 = 5 := (by unfold bad; rw [if_neg (by omega), if_neg (by omega), if_neg (by omega), if_pos (by omega)])
             simp only [nV, q]; rfl)
          | (have q : bad s 6 10 = 0 := (by unfold bad; rw [if_neg (by omega), if_neg (by omega), if_neg (by omega), if_neg (by omega)])
             simp only [nV, q, SV.toV, toVs, if_true, decide_true, Bool.true_and]
             simp only [or8, w64n8]
             (try rfl))
        · rcases Bool.eq_false_or_eq_true (Decidable.decide ((8 : Int) > Go.IntKind.i64.wrap ((↑s.size : Int) - (2 : Int)))) with hb4 | hb4 <;> have c4 := hb4 <;> try simp only [decide_eq_true_eq, decide_eq_false_iff_not, beq_iff_eq, bne_iff_ne, ne_eq, beq_eq_false_iff_ne, bne_eq_false_iff_eq, Bool.not_eq_true', Bool.not_eq_false', Bool.false_eq_true, if_false, Bool.and_true, Bool.true_and, ba_beq, ba_toList_beq, ba_none, wi64, Bool.and_eq_true, Bool.and_eq_false_imp, Bool.not_eq_true, Bool.not_eq_false, beq_self_eq_true, Int.ofNat_eq_natCast, fd16, fd256, w8b, wub, first0] at c4
          · refine leaf (f_3 s) (by simp only [AllP, and_true]; (repeat' apply And.intro) <;> first | (with_reducible assumption) | (with_reducible rfl) | omega | (simp only [ByteArray.size_extract]; omega)) rfl (Rs.cons (by simp only [R]) Rs.nil) ?_ rfl
            first
            | (have q : bad s 6 10 = 4 := (by unfold bad; rw [if_pos (by omega)])
               simp only [nV, q]; rfl)
            | (have q : bad s 6 10 = 7 := (by unfold bad; rw [if_neg (by omega), if_pos (by omega)])
               simp only [nV, q]; rfl)
            | (have q : bad s 6 10 = 4 := (by unfold bad; rw [if_neg (by omega), if_neg (by omega), if_pos (by omega)])
               simp only [nV, q]; rfl)
            | (have q : bad s 6 10 = 5 := (by unfold bad; rw [if_neg (by omega), if_neg (by omega), if_neg (by omega), if_pos (by omega)])
               simp only [nV, q]; rfl)
            | (have q : bad s 6 10 = 0 := (by unfold bad; rw [if_neg (by omega), if_neg (by omega), if_neg (by omega), if_neg (by omega)])
               simp only [nV, q, SV.toV, toVs, if_true, decide_true, Bool.true_and]
               simp only [or8, w64n8]
               (try rfl))
          · rcases Bool.eq_false_or_eq_true (Decidable.decide ((10 : Int) < (↑s.size : Int))) with hb5 | hb5 <;> have c5 := hb5 <;> try simp only [decide_eq_true_eq, decide_eq_false_iff_not, beq_iff_eq, bne_iff_ne, ne_eq, beq_eq_false_iff_ne, bne_eq_false_iff_eq, Bool.not_eq_true', Bool.not_eq_false', Bool.false_eq_true, if_false, Bool.and_true, Bool.true_and, ba_beq, ba_toList_beq, ba_none, wi64, Bool.and_eq_true, Bool.and_eq_false_imp, Bool.not_eq_true, Bool.not_eq_false, beq_self_eq_true, Int.ofNat_eq_natCast, fd16, fd256, w8b, wub, first0] at c5
            · refine leaf (f_5 s) (by simp only [AllP, and_true]; (repeat' apply And.intro) <;> first | (with_reducible assumption) | (with_reducible rfl) | omega | (simp only [ByteArray.size_extract]; omega)) rfl (Rs.cons (by simp only [R]) Rs.nil) ?_ rfl
              first
              | (have q : bad s 6 10 = 4 := (by unfold bad; rw [if_pos (by omega)])
                 simp only [nV, q]; rfl)
              | (have q : bad s 6 10 = 7 := (by unfold bad; rw [if_neg (by omega), if_pos (by omega)])
                 simp only [nV, q]; rfl)
              | (have q : bad s 6 10 = 4 := (by unfold bad; rw [if_neg (by omega), if_neg (by omega), if_pos (by omega)])
                 simp only [nV, q]; rfl)
              | (have q : bad s 6 10 = 5 := (by unfold bad; rw [if_neg (by omega), if_neg (by omega), if_neg (by omega), if_pos (by omega)])
                 simp only [nV, q]; rfl)
              | (have q : bad s 6 10 = 0 := (by unfold bad; rw [if_neg (by omega), if_neg (by omega), if_neg (by omega), if_neg (by omega)])
                 simp only [nV, q, SV.toV, toVs, if_true, decide_true, Bool.true_and]
                 simp only [or8, w64n8]
                 (try rfl))
            · refine leaf (f_4 s) (by simp only [AllP, and_true]; (repeat' apply And.intro) <;> first | (with_reducible assumption) | (with_reducible rfl) | omega | (simp only [ByteArray.size_extract]; omega)) rfl (Rs.cons (by simp only [R]) Rs.nil) ?_ rfl
              first
              | (have q : bad s 6 10 = 4 := (by unfold bad; rw [if_pos (by omega)])
                 simp only [nV, q]; rfl)
              | (have q : bad s 6 10 = 7 := (by unfold bad; rw [if_neg (by omega), if_pos (by omega)])
                 simp only [nV, q]; rfl)
              | (have q : bad s 6 10 = 4 := (by unfold bad; rw [if_neg (by omega), if_neg (by omega), if_pos (by omega)])
                 simp only [nV, q]; rfl)
              | (have q : bad s 6 10 = 5 := (by unfold bad; rw [if_neg (by omega), if_neg (by omega), if_neg (by omega), if_pos (by omega)])
                 simp only [nV, q]; rfl)
              | (have q : bad s 6 10 = 0 := (by unfold bad; rw [if_neg (by omega), if_neg (by omega), if_neg (by omega), if_neg (by omega)])
                 simp only [nV, q, SV.toV, toVs, if_true, decide_true, Bool.true_and]
                 simp only [or8, w64n8]
                 (try rfl))

theorem k_calls (s : ByteArray) (hs : s.size ≤ 4611686018427387904) (w : World) :
    Calls Try.prog 20 #[.string s] w (fun e w' => e = .returned (.tuple #[.agg #[.int .u64 (nV s 7)], .int .i64 (bad s 7 10)]) ∧ Below w.heap.size w w') := by
  have hb := byte_lt (bAt s 0)
  rcases Bool.eq_false_or_eq_true (s.toList == (ByteArray.mk (ByteArray.mk #[]).data.toList.toArray).toList) with hb0 | hb0 <;> have c0 := hb0 <;> try simp only [decide_eq_true_eq, decide_eq_false_iff_not, beq_iff_eq, bne_iff_ne, ne_eq, beq_eq_false_iff_ne, bne_eq_false_iff_eq, Bool.not_eq_true', Bool.not_eq_false', Bool.false_eq_true, if_false, Bool.and_true, Bool.true_and, ba_beq, ba_toList_beq, ba_none, wi64, Bool.and_eq_true, Bool.and_eq_false_imp, Bool.not_eq_true, Bool.not_eq_false, beq_self_eq_true, Int.ofNat_eq_natCast, fd16, fd256, w8b, wub, first0] at c0
  · refine leaf (k_0 s) (by simp only [AllP, and_true]; (repeat' apply And.intro) <;> first | (with_reducible assumption) | (with_reducible rfl) | omega | (simp only [ByteArray.size_extract]; omega)) rfl (Rs.cons (by simp only [R]) Rs.nil) ?_ rfl
    first
    | (have q : bad s 7 10 = 4 := (by unfold bad; rw [if_pos (by omega)])
       simp only [nV, q]; rfl)
    | (have q : bad s 7 10 = 7 := (by unfold bad; rw [if_neg (by omega), if_pos (by omega)])
       simp only [nV, q]; rfl)
    | (have q : bad s 7 10 = 4 := (by unfold bad; rw [if_neg (by omega), if_neg (by omega), if_pos (by omega)])
       simp only [nV, q]; rfl)
    | (have q : bad s 7 10 = 5 := (by unfold bad; rw [if_neg (by omega), if_neg (by omega), if_neg (by omega), if_pos (by omega)])
       simp only [nV, q]; rfl)
    | (have q : bad s 7 10 = 0 := (by unfold bad; rw [if_neg (by omega), if_neg (by omega), if_neg (by omega), if_neg (by omega)])
       simp only [nV, q, SV.toV, toVs, if_true, decide_true, Bool.true_and]
       simp only [or8, w64n8]
       (try rfl))
  · rcases Bool.eq_false_or_eq_true (Decidable.decide ((1 : Int) > Go.IntKind.i64.wrap ((↑s.size : Int) - (0 : Int)))) with hb1 | hb1 <;> have c1 := hb1 <;> try simp only [decide_eq_true_eq, decide_eq_false_iff_not, beq_iff_eq, bne_iff_ne, ne_eq, beq_eq_false_iff_ne, bne_eq_false_iff_eq, Bool.not_eq_true', Bool.not_eq_false', Bool.false_eq_true, if_false, Bool.and_true, Bool.true_and, ba_beq, ba_toList_beq, ba_none, wi64, Bool.and_eq_true, Bool.and_eq_false_imp, Bool.not_eq_true, Bool.not_eq_false, beq_self_eq_true, Int.ofNat_eq_natCast, fd16, fd256, w8b, wub, first0] at c1
    · exfalso; first | omega | (simp only [ByteArray.size_extract] at *; omega)
    · rcases Bool.eq_false_or_eq_true (Go.IntKind.i64.wrap ((Go.IntKind.u8.wrap (Go.IntKind.u64.wrap (↑(BitVec.ofInt (64 : Nat) (0 : Int) ||| BitVec.ofInt (64 : Nat) (Go.IntKind.u64.wrap (↑(Go.Ex.bAt s (0 : Nat)).toNat : Int))).toNat : Int))).fdiv (16 : Int)) != (7 : Int)) with hb2 | hb2 <;> have c2 := hb2 <;> try simp only [decide_eq_true_eq, decide_eq_false_iff_not, beq_iff_eq, bne_iff_ne, ne_eq, beq_eq_false_iff_ne, bne_eq_false_iff_eq, Bool.not_eq_true', Bool.not_eq_false', Bool.false_eq_true, if_false, Bool.and_true, Bool.true_and, ba_beq, ba_toList_beq, ba_none, wi64, Bool.and_eq_true, Bool.and_eq_false_imp, Bool.not_eq_true, Bool.not_eq_false, beq_self_eq_true, Int.ofNat_eq_natCast, fd16, fd256, w8b, wub, first0] at c2
      · refine leaf (k_1 s) (by simp only [AllP, and_true]; (repeat' apply And.intro) <;> first | (with_reducible assumption) | (with_reducible rfl) | omega | (simp only [ByteArray.size_extract]; omega)) rfl (Rs.cons (by simp only [R]) Rs.nil) ?_ rfl
        first
        | (have q : bad s 7 10 = 4 := (by unfold bad; rw [if_pos (by omega)])
           simp only [nV, q]; rfl)
        | (have q : bad s 7 10 = 7 := (by unfold bad; rw [if_neg (by omega), if_pos (by omega)])
           simp only [nV, q]; rfl)
        | (have q : bad s 7 10 = 4 := (by unfold bad; rw [if_neg (by omega), if_neg (by omega), if_pos (by omega)])
           simp only [nV, q]; rfl)
        | (have q : bad s 7 10 = 5 := (by unfold bad; rw [if_neg (by omega), if_neg (by omega), if_neg (by omega), if_pos (by omega)])
           simp only [nV, q]; rfl)
        | (have q : bad s 7 10 = 0 := (by unfold bad; rw [if_neg (by omega), if_neg (by omega), if_neg (by omega), if_neg (by omega)])
           simp only [nV, q, SV.toV, toVs, if_true, decide_true, Bool.true_and]
           simp only [or8, w64n8]
           (try rfl))
      · rcases Bool.eq_false_or_eq_true (Decidable.decide ((1 : Int) > Go.IntKind.i64.wrap ((↑s.size : Int) - (1 : Int)))) with hb3 | hb3 <;> have c3 := hb3 <;> try simp only [decide_eq_true_eq, decide_eq_false_iff_not, beq_iff_eq, bne_iff_ne, ne_eq, beq_eq_false_iff_ne, bne_eq_false_iff_eq, Bool.not_eq_true', Bool.not_eq_false', Bool.false_eq_true, if_false, Bool.and_true, Bool.true_and, ba_beq, ba_toList_beq, ba_none, wi64, Bool.and_eq_true, Bool.and_eq_false_imp, Bool.not_eq_true, Bool.not_eq_false, beq_self_eq_true, Int.ofNat_eq_natCast, fd16, fd256, w8b, wub, first0] at c3
        · refine leaf (k_2 s) (by simp only [AllP, and_true]; (repeat' apply And.intro) <;> first | (with_reducible assumption) | (with_reducible rfl) | omega | (simp only [ByteArray.size_extract]; omega)) rfl (Rs.cons (by simp only [R]) Rs.nil) ?_ rfl
          first
          | (have q : bad s 7 10 = 4 := (by unfold bad; rw [if_pos (by omega)])
             simp only [nV, q]; rfl)
          | (have q : bad s 7 10 = 7 := (by unfold bad; rw [if_neg (by omega), if_pos (by omega)])
             simp only [nV, q]; rfl)
          | (have q : bad s 7 10 = 4 := (by unfold bad; rw [if_neg (by omega), if_neg (by omega), if_pos (by omega)])
             simp only [nV, q]; rfl)
          | (have q : bad s 7 10 = 5 := (by unfold bad; rw [if_neg (by omega), if_neg (by omega), if_neg (by omega), if_pos (by omega)])
             simp only [nV, q]; rfl)
          | (have q : bad s 7 10 = 0 := (by unfold bad; rw [if_neg (by omega), if_neg (by omega), if_neg (by omega), if_neg (by omega)])
             simp only [nV, q, SV.toV, toVs, if_true, decide_true, Bool.true_and]
             simp only [or8, w64n8]
             (try rfl))
        · rcases Bool.eq_false_or_eq_true (Decidable.decide ((8 : Int) > Go.IntKind.i64.wrap ((↑s.size : Int) - (2 : Int)))) with hb4 | hb4 <;> have c4 := hb4 <;> try simp only [decide_eq_true_eq, decide_eq_false_iff_not, beq_iff_eq, bne_iff_ne, ne_eq, beq_eq_false_iff_ne, bne_eq_false_iff_eq, Bool.not_eq_true', Bool.not_eq_false', Bool.false_eq_true, if_false, Bool.and_true, Bool.true_and, ba_beq, ba_toList_beq, ba_none, wi64, Bool.and_eq_true, Bool.and_eq_false_imp, Bool.not_eq_true, Bool.not_eq_false, beq_self_eq_true, Int.ofNat_eq_natCast, fd16, fd256, w8b, wub, first0] at c4
          · refine leaf (k_3 s) (by simp only [AllP, and_true]; (repeat' apply And.intro) <;> first | (with_reducible assumption) | (with_reducible rfl) | omega | (simp only [ByteArray.size_extract]; omega)) rfl (Rs.cons (by simp only [R]) Rs.nil) ?_ rfl
            first
            | (have q : bad s 7 10 = 4 := (by unfold bad; rw [if_pos (by omega)])
               simp only [nV, q]; rfl)
            | (have q : bad s 7 10 = 7 := (by unfold bad; rw [if_neg (by omega), if_pos (by omega)])
               simp only [nV, q]; rfl)
            | (have q : bad s 7 10 = 4 := (by unfold bad; rw [if_neg (by omega), if_neg (by omega), if_pos (by omega)])
               simp only [nV, q]; rfl)
            | (have q : bad s 7 10 = 5 := (by unfold bad; rw [if_neg (by omega), if_neg (by omega), if_neg (by omega), if_pos (by omega)])
               simp only [nV, q]; rfl)
            | (have q : bad s 7 10 = 0 := (by unfold bad; rw [if_neg (by omega), if_neg (by omega), if_neg (by omega), if_neg (by omega)])
               simp only [nV, q, SV.toV, toVs, if_true, decide_true, Bool.true_and]
               simp only [or8, w64n8]
               (try rfl))
          · rcases Bool.eq_false_or_eq_true (Decidable.decide ((10 : Int) < (↑s.size : Int))) with hb5 | hb5 <;> have c5 := hb5 <;> try simp only [decide_eq_true_eq, decide_eq_false_iff_not, beq_iff_eq, bne_iff_ne, ne_eq, beq_eq_false_iff_ne, bne_eq_false_iff_eq, Bool.not_eq_true', Bool.not_eq_false', Bool.false_eq_true, if_false, Bool.and_true, Bool.true_and, ba_beq, ba_toList_beq, ba_none, wi64, Bool.and_eq_true, Bool.and_eq_false_imp, Bool.not_eq_true, Bool.not_eq_false, beq_self_eq_true, Int.ofNat_eq_natCast, fd16, fd256, w8b, wub, first0] at c5
            · refine leaf (k_5 s) (by simp only [AllP, and_true]; (repeat' apply And.intro) <;> first | (with_reducible assumption) | (with_reducible rfl) | omega | (simp only [ByteArray.size_extract]; omega)) rfl (Rs.cons (by simp only [R]) Rs.nil) ?_ rfl
              first
              | (have q : bad s 7 10 = 4 := (by unfold bad; rw [if_pos (by omega)])
                 simp only [nV, q]; rfl)
              | (have q : bad s 7 10 = 7 := (by unfold bad; rw [if_neg (by omega), if_pos (by omega)])
                 simp only [nV, q]; rfl)
              | (have q : bad s 7 10 = 4 := (by unfold bad; rw [if_neg (by omega), if_neg (by omega), if_pos (by omega)])
                 simp only [nV, q]; rfl)
              | (have q : bad s 7 10 = 5 := (by unfold bad; rw [if_neg (by omega), if_neg (by omega), if_neg (by omega), if_pos (by omega)])
                 simp only [nV, q]; rfl)
              | (have q : bad s 7 10 = 0 := (by unfold bad; rw [if_neg (by omega), if_neg (by omega), if_neg (by omega), if_neg (by omega)])
                 simp only [nV, q, SV.toV, toVs, if_true, decide_true, Bool.true_and]
                 simp only [or8, w64n8]
                 (try rfl))
            · refine leaf (k_4 s) (by simp only [AllP, and_true]; (repeat' apply And.intro) <;> first | (with_reducible assumption) | (with_reducible rfl) | omega | (simp only [ByteArray.size_extract]; omega)) rfl (Rs.cons (by simp only [R]) Rs.nil) ?_ rfl
              first
              | (have q : bad s 7 10 = 4 := (by unfold bad; rw [if_pos (by omega)])
                 simp only [nV, q]; rfl)
              | (have q : bad s 7 10 = 7 := (by unfold bad; rw [if_neg (by omega), if_pos (by omega)])
                 simp only [nV, q]; rfl)
              | (have q : bad s 7 10 = 4 := (by unfold bad; rw [if_neg (by omega), if_neg (by omega), if_pos (by omega)])
                 simp only [nV, q]; rfl)
              | (have q : bad s 7 10 = 5 := (by unfold bad; rw [if_neg (by omega), if_neg (by omega), if_neg (by omega), if_pos (by omega)])
                 simp only [nV, q]; rfl)
              | (have q : bad s 7 10 = 0 := (by unfold bad; rw [if_neg (by omega), if_neg (by omega), if_neg (by omega), if_neg (by omega)])
                 simp only [nV, q, SV.toV, toVs, if_true, decide_true, Bool.true_and]
                 simp only [or8, w64n8]
                 (try rfl))

theorem r_calls (s : ByteArray) (hs : s.size ≤ 4611686018427387904) (w : World) :
    Calls Try.prog 21 #[.string s] w (fun e w' => e = .returned (.tuple #[.agg #[.int .i64 (rV s), .int .i64 (qV s)], .int .i64 (bad s 8 2)]) ∧ Below w.heap.size w w') := by
  have hb := byte_lt (bAt s 0)
  rcases Bool.eq_false_or_eq_true (s.toList == (ByteArray.mk (ByteArray.mk #[]).data.toList.toArray).toList) with hb0 | hb0 <;> have c0 := hb0 <;> try simp only [decide_eq_true_eq, decide_eq_false_iff_not, beq_iff_eq, bne_iff_ne, ne_eq, beq_eq_false_iff_ne, bne_eq_false_iff_eq, Bool.not_eq_true', Bool.not_eq_false', Bool.false_eq_true, if_false, Bool.and_true, Bool.true_and, ba_beq, ba_toList_beq, ba_none, wi64, Bool.and_eq_true, Bool.and_eq_false_imp, Bool.not_eq_true, Bool.not_eq_false, beq_self_eq_true, Int.ofNat_eq_natCast, fd16, fd256, w8b, wub, first0] at c0
  · refine leaf (r_0 s) (by simp only [AllP, and_true]; (repeat' apply And.intro) <;> first | (with_reducible assumption) | (with_reducible rfl) | omega | (simp only [ByteArray.size_extract]; omega)) rfl (Rs.cons (by simp only [R]) Rs.nil) ?_ rfl
    first
    | (have q : bad s 8 2 = 4 := (by unfold bad; rw [if_pos (by omega)])
       simp only [rV, qV, q]; rfl)
    | (have q : bad s 8 2 = 7 := (by unfold bad; rw [if_neg (by omega), if_pos (by omega)])
       simp only [rV, qV, q]; rfl)
    | (have q : bad s 8 2 = 4 := (by unfold bad; rw [if_neg (by omega), if_neg (by omega), if_pos (by omega)])
       simp only [rV, qV, q]; rfl)
    | (have q : bad s 8 2 = 5 := (by unfold bad; rw [if_neg (by omega), if_neg (by omega), if_neg (by omega), if_pos (by omega)])
       simp only [rV, qV, q]; rfl)
    | (have q : bad s 8 2 = 0 := (by unfold bad; rw [if_neg (by omega), if_neg (by omega), if_neg (by omega), if_neg (by omega)])
       simp only [rV, qV, q, SV.toV, toVs, if_true, decide_true, Bool.true_and]
       simp only [wub, first0, w8b, and15, w8m, wim, wib])
  · rcases Bool.eq_false_or_eq_true (Decidable.decide ((1 : Int) > Go.IntKind.i64.wrap ((↑s.size : Int) - (0 : Int)))) with hb1 | hb1 <;> have c1 := hb1 <;> try simp only [decide_eq_true_eq, decide_eq_false_iff_not, beq_iff_eq, bne_iff_ne, ne_eq, beq_eq_false_iff_ne, bne_eq_false_iff_eq, Bool.not_eq_true', Bool.not_eq_false', Bool.false_eq_true, if_false, Bool.and_true, Bool.true_and, ba_beq, ba_toList_beq, ba_none, wi64, Bool.and_eq_true, Bool.and_eq_false_imp, Bool.not_eq_true, Bool.not_eq_false, beq_self_eq_true, Int.ofNat_eq_natCast, fd16, fd256, w8b, wub, first0] at c1
    · exfalso; first | omega | (simp only [ByteArray.size_extract] at *; omega)
    · rcases Bool.eq_false_or_eq_true (Go.IntKind.i64.wrap ((Go.IntKind.u8.wrap (Go.IntKind.u64.wrap (↑(BitVec.ofInt (64 : Nat) (0 : Int) ||| BitVec.ofInt (64 : Nat) (Go.IntKind.u64.wrap (↑(Go.Ex.bAt s (0 : Nat)).toNat : Int))).toNat : Int))).fdiv (16 : Int)) != (8 : Int)) with hb2 | hb2 <;> have c2 := hb2 <;> try simp only [decide_eq_true_eq, decide_eq_false_iff_not, beq_iff_eq, bne_iff_ne, ne_eq, beq_eq_false_iff_ne, bne_eq_false_iff_eq, Bool.not_eq_true', Bool.not_eq_false', Bool.false_eq_true, if_false, Bool.and_true, Bool.true_and, ba_beq, ba_toList_beq, ba_none, wi64, Bool.and_eq_true, Bool.and_eq_false_imp, Bool.not_eq_true, Bool.not_eq_false, beq_self_eq_true, Int.ofNat_eq_natCast, fd16, fd256, w8b, wub, first0] at c2
      · refine leaf (r_1 s) (by simp only [AllP, and_true]; (repeat' apply And.intro) <;> first | (with_reducible assumption) | (with_reducible rfl) | omega | (simp only [ByteArray.size_extract]; omega)) rfl (Rs.cons (by simp only [R]) Rs.nil) ?_ rfl
        first
        | (have q : bad s 8 2 = 4 := (by unfold bad; rw [if_pos (by omega)])
           simp only [rV, qV, q]; rfl)
        | (have q : bad s 8 2 = 7 := (by unfold bad; rw [if_neg (by omega), if_pos (by omega)])
           simp only [rV, qV, q]; rfl)
        | (have q : bad s 8 2 = 4 := (by unfold bad; rw [if_neg (by omega), if_neg (by omega), if_pos (by omega)])
           simp only [rV, qV, q]; rfl)
        | (have q : bad s 8 2 = 5 := (by unfold bad; rw [if_neg (by omega), if_neg (by omega), if_neg (by omega), if_pos (by omega)])
           simp only [rV, qV, q]; rfl)
        | (have q : bad s 8 2 = 0 := (by unfold bad; rw [if_neg (by omega), if_neg (by omega), if_neg (by omega), if_neg (by omega)])
           simp only [rV, qV, q, SV.toV, toVs, if_true, decide_true, Bool.true_and]
           simp only [wub, first0, w8b, and15, w8m, wim, wib])
      · rcases Bool.eq_false_or_eq_true (Decidable.decide ((1 : Int) > Go.IntKind.i64.wrap ((↑s.size : Int) - (1 : Int)))) with hb3 | hb3 <;> have c3 := hb3 <;> try simp only [decide_eq_true_eq, decide_eq_false_iff_not, beq_iff_eq, bne_iff_ne, ne_eq, beq_eq_false_iff_ne, bne_eq_false_iff_eq, Bool.not_eq_true', Bool.not_eq_false', Bool.false_eq_true, if_false, Bool.and_true, Bool.true_and, ba_beq, ba_toList_beq, ba_none, wi64, Bool.and_eq_true, Bool.and_eq_false_imp, Bool.not_eq_true, Bool.not_eq_false, beq_self_eq_true, Int.ofNat_eq_natCast, fd16, fd256, w8b, wub, first0] at c3
        · refine leaf (r_2 s) (by simp only [AllP, and_true]; (repeat' apply And.intro) <;> first | (with_reducible assumption) | (with_reducible rfl) | omega | (simp only [ByteArray.size_extract]; omega)) rfl (Rs.cons (by simp only [R]) Rs.nil) ?_ rfl
          first
          | (have q : bad s 8 2 = 4 := (by unfold bad; rw [if_pos (by omega)])
             simp only [rV, qV, q]; rfl)
          | (have q : bad s 8 2 = 7 := (by unfold bad; rw [if_neg (by omega), if_pos (by omega)])
             simp only [rV, qV, q]; rfl)
          | (have q : bad s 8 2 = 4 := (by unfold bad; rw [if_neg (by omega), if_neg (by omega), if_pos (by omega)])
             simp only [rV, qV, q]; rfl)
          | (have q : bad s 8 2 = 5 := (by unfold bad; rw [if_neg (by omega), if_neg (by omega), if_neg (by omega), if_pos (by omega)])
             simp only [rV, qV, q]; rfl)
          | (have q : bad s 8 2 = 0 := (by unfold bad; rw [if_neg (by omega), if_neg (by omega), if_neg (by omega), if_neg (by omega)])
             simp only [rV, qV, q, SV.toV, toVs, if_true, decide_true, Bool.true_and]
             simp only [wub, first0, w8b, and15, w8m, wim, wib])
        · rcases Bool.eq_false_or_eq_true (Decidable.decide ((2 : Int) < (↑s.size : Int))) with hb4 | hb4 <;> have c4 := hb4 <;> try simp only [decide_eq_true_eq, decide_eq_false_iff_not, beq_iff_eq, bne_iff_ne, ne_eq, beq_eq_false_iff_ne, bne_eq_false_iff_eq, Bool.not_eq_true', Bool.not_eq_false', Bool.false_eq_true, if_false, Bool.and_true, Bool.true_and, ba_beq, ba_toList_beq, ba_none, wi64, Bool.and_eq_true, Bool.and_eq_false_imp, Bool.not_eq_true, Bool.not_eq_false, beq_self_eq_true, Int.ofNat_eq_natCast, fd16, fd256, w8b, wub, first0] at c4
          · refine leaf (r_4 s) (by simp only [AllP, and_true]; (repeat' apply And.intro) <;> first | (with_reducible assumption) | (with_reducible rfl) | omega | (simp only [ByteArray.size_extract]; omega)) rfl (Rs.cons (by simp only [R]) Rs.nil) ?_ rfl
            first
            | (have q : bad s 8 2 = 4 := (by unfold bad; rw [if_pos (by omega)])
               simp only [rV, qV, q]; rfl)
            | (have q : bad s 8 2 = 7 := (by unfold bad; rw [if_neg (by omega), if_pos (by omega)])
               simp only [rV, qV, q]; rfl)
            | (have q : bad s 8 2 = 4 := (by unfold bad; rw [if_neg (by omega), if_neg (by omega), if_pos (by omega)])
               simp only [rV, qV, q]; rfl)
            | (have q : bad s 8 2 = 5 := (by unfold bad; rw [if_neg (by omega), if_neg (by omega), if_neg (by omega), if_pos (by omega)])
               simp only [rV, qV, q]; rfl)
            | (have q : bad s 8 2 = 0 := (by unfold bad; rw [if_neg (by omega), if_neg (by omega), if_neg (by omega), if_neg (by omega)])
               simp only [rV, qV, q, SV.toV, toVs, if_true, decide_true, Bool.true_and]
               simp only [wub, first0, w8b, and15, w8m, wim, wib])
          · refine leaf (r_3 s) (by simp only [AllP, and_true]; (repeat' apply And.intro) <;> first | (with_reducible assumption) | (with_reducible rfl) | omega | (simp only [ByteArray.size_extract]; omega)) rfl (Rs.cons (by simp only [R]) Rs.nil) ?_ rfl
            first
            | (have q : bad s 8 2 = 4 := (by unfold bad; rw [if_pos (by omega)])
               simp only [rV, qV, q]; rfl)
            | (have q : bad s 8 2 = 7 := (by unfold bad; rw [if_neg (by omega), if_pos (by omega)])
               simp only [rV, qV, q]; rfl)
            | (have q : bad s 8 2 = 4 := (by unfold bad; rw [if_neg (by omega), if_neg (by omega), if_pos (by omega)])
               simp only [rV, qV, q]; rfl)
            | (have q : bad s 8 2 = 5 := (by unfold bad; rw [if_neg (by omega), if_neg (by omega), if_neg (by omega), if_pos (by omega)])
               simp only [rV, qV, q]; rfl)
            | (have q : bad s 8 2 = 0 := (by unfold bad; rw [if_neg (by omega), if_neg (by omega), if_neg (by omega), if_neg (by omega)])
               simp only [rV, qV, q, SV.toV, toVs, if_true, decide_true, Bool.true_and]
               simp only [wub, first0, w8b, and15, w8m, wim, wib])

theorem rp_calls (s : ByteArray) (hs : s.size ≤ 4611686018427387904) (w : World) :
    Calls Try.prog 28 #[.string s] w (fun e w' => e = .returned (.tuple #[.agg #[.bool (pV s)], .int .i64 (bad s 5 1)]) ∧ Below w.heap.size w w') := by
  have hb := byte_lt (bAt s 0)
  rcases Bool.eq_false_or_eq_true (s.toList == (ByteArray.mk (ByteArray.mk #[]).data.toList.toArray).toList) with hb0 | hb0 <;> have c0 := hb0 <;> try simp only [decide_eq_true_eq, decide_eq_false_iff_not, beq_iff_eq, bne_iff_ne, ne_eq, beq_eq_false_iff_ne, bne_eq_false_iff_eq, Bool.not_eq_true', Bool.not_eq_false', Bool.false_eq_true, if_false, Bool.and_true, Bool.true_and, ba_beq, ba_toList_beq, ba_none, Bool.and_eq_true, Bool.and_eq_false_imp, Bool.not_eq_true, Bool.not_eq_false, beq_self_eq_true, Int.ofNat_eq_natCast, wib, tdB, tmB, wd16] at c0
  · refine leaf (rp_0 s) (by simp only [AllP, and_true]; (repeat' apply And.intro) <;> first | (with_reducible assumption) | (with_reducible rfl) | omega | (simp only [ByteArray.size_extract]; omega)) rfl (Rs.cons (by simp only [R]) Rs.nil) ?_ rfl
    first
    | (have q : bad s 5 1 = 4 := (by unfold bad; rw [if_pos (by omega)])
       simp only [pV, q]; rfl)
    | (have q : bad s 5 1 = 7 := (by unfold bad; rw [if_neg (by omega), if_pos (by omega)])
       simp only [pV, q]; rfl)
    | (have q : bad s 5 1 = 4 := (by unfold bad; rw [if_neg (by omega), if_neg (by omega), if_pos (by omega)])
       simp only [pV, q]; rfl)
    | (have q : bad s 5 1 = 5 := (by unfold bad; rw [if_neg (by omega), if_neg (by omega), if_neg (by omega), if_pos (by omega)])
       simp only [pV, q]; rfl)
    | (have q : bad s 5 1 = 0 := (by unfold bad; rw [if_neg (by omega), if_neg (by omega), if_neg (by omega), if_neg (by omega)])
       simp only [pV, q, SV.toV, toVs, if_true, decide_true, Bool.true_and]
       simp only [d_byte s (by assumption), odd2])
  · rcases Bool.eq_false_or_eq_true (Go.IntKind.i64.wrap ((Go.IntKind.i64.wrap (Go.Ex.byteAt s (0 : Int))).tdiv (16 : Int)) != (5 : Int)) with hb1 | hb1 <;> have c1 := hb1 <;> try simp only [decide_eq_true_eq, decide_eq_false_iff_not, beq_iff_eq, bne_iff_ne, ne_eq, beq_eq_false_iff_ne, bne_eq_false_iff_eq, Bool.not_eq_true', Bool.not_eq_false', Bool.false_eq_true, if_false, Bool.and_true, Bool.true_and, ba_beq, ba_toList_beq, ba_none, Bool.and_eq_true, Bool.and_eq_false_imp, Bool.not_eq_true, Bool.not_eq_false, beq_self_eq_true, Int.ofNat_eq_natCast, wib, tdB, tmB, wd16, d_byte s (by assumption)] at c1
    · refine leaf (rp_1 s) (by simp only [AllP, and_true]; (repeat' apply And.intro) <;> first | (with_reducible assumption) | (with_reducible rfl) | omega | (simp only [ByteArray.size_extract]; omega)) rfl (Rs.cons (by simp only [R]) Rs.nil) ?_ rfl
      first
      | (have q : bad s 5 1 = 4 := (by unfold bad; rw [if_pos (by omega)])
         simp only [pV, q]; rfl)
      | (have q : bad s 5 1 = 7 := (by unfold bad; rw [if_neg (by omega), if_pos (by omega)])
         simp only [pV, q]; rfl)
      | (have q : bad s 5 1 = 4 := (by unfold bad; rw [if_neg (by omega), if_neg (by omega), if_pos (by omega)])
         simp only [pV, q]; rfl)
      | (have q : bad s 5 1 = 5 := (by unfold bad; rw [if_neg (by omega), if_neg (by omega), if_neg (by omega), if_pos (by omega)])
         simp only [pV, q]; rfl)
      | (have q : bad s 5 1 = 0 := (by unfold bad; rw [if_neg (by omega), if_neg (by omega), if_neg (by omega), if_neg (by omega)])
         simp only [pV, q, SV.toV, toVs, if_true, decide_true, Bool.true_and]
         simp only [d_byte s (by assumption), odd2])
    · rcases Bool.eq_false_or_eq_true (Decidable.decide ((↑s.size : Int) < (1 : Int))) with hb2 | hb2 <;> have c2 := hb2 <;> try simp only [decide_eq_true_eq, decide_eq_false_iff_not, beq_iff_eq, bne_iff_ne, ne_eq, beq_eq_false_iff_ne, bne_eq_false_iff_eq, Bool.not_eq_true', Bool.not_eq_false', Bool.false_eq_true, if_false, Bool.and_true, Bool.true_and, ba_beq, ba_toList_beq, ba_none, Bool.and_eq_true, Bool.and_eq_false_imp, Bool.not_eq_true, Bool.not_eq_false, beq_self_eq_true, Int.ofNat_eq_natCast, wib, tdB, tmB, wd16, d_byte s (by assumption)] at c2
      · exfalso; first | omega | (simp only [ByteArray.size_extract] at *; omega)
      · rcases Bool.eq_false_or_eq_true (Decidable.decide ((↑s.size : Int) > (1 : Int))) with hb3 | hb3 <;> have c3 := hb3 <;> try simp only [decide_eq_true_eq, decide_eq_false_iff_not, beq_iff_eq, bne_iff_ne, ne_eq, beq_eq_false_iff_ne, bne_eq_false_iff_eq, Bool.not_eq_true', Bool.not_eq_false', Bool.false_eq_true, if_false, Bool.and_true, Bool.true_and, ba_beq, ba_toList_beq, ba_none, Bool.and_eq_true, Bool.and_eq_false_imp, Bool.not_eq_true, Bool.not_eq_false, beq_self_eq_true, Int.ofNat_eq_natCast, wib, tdB, tmB, wd16, d_byte s (by assumption)] at c3
        · refine leaf (rp_3 s) (by simp only [AllP, and_true]; (repeat' apply And.intro) <;> first | (with_reducible assumption) | (with_reducible rfl) | omega | (simp only [ByteArray.size_extract]; omega)) rfl (Rs.cons (by simp only [R]) Rs.nil) ?_ rfl
          first
          | (have q : bad s 5 1 = 4 := (by unfold bad; rw [if_pos (by omega)])
             simp only [pV, q]; rfl)
          | (have q : bad s 5 1 = 7 := (by unfold bad; rw [if_neg (by omega), if_pos (by omega)])
             simp only [pV, q]; rfl)
          | (have q : bad s 5 1 = 4 := (by unfold bad; rw [if_neg (by omega), if_neg (by omega), if_pos (by omega)])
             simp only [pV, q]; rfl)
          | (have q : bad s 5 1 = 5 := (by unfold bad; rw [if_neg (by omega), if_neg (by omega), if_neg (by omega), if_pos (by omega)])
             simp only [pV, q]; rfl)
          | (have q : bad s 5 1 = 0 := (by unfold bad; rw [if_neg (by omega), if_neg (by omega), if_neg (by omega), if_neg (by omega)])
             simp only [pV, q, SV.toV, toVs, if_true, decide_true, Bool.true_and]
             simp only [d_byte s (by assumption), odd2])
        · refine leaf (rp_2 s) (by simp only [AllP, and_true]; (repeat' apply And.intro) <;> first | (with_reducible assumption) | (with_reducible rfl) | omega | (simp only [ByteArray.size_extract]; omega)) rfl (Rs.cons (by simp only [R]) Rs.nil) ?_ rfl
          first
          | (have q : bad s 5 1 = 4 := (by unfold bad; rw [if_pos (by omega)])
             simp only [pV, q]; rfl)
          | (have q : bad s 5 1 = 7 := (by unfold bad; rw [if_neg (by omega), if_pos (by omega)])
             simp only [pV, q]; rfl)
          | (have q : bad s 5 1 = 4 := (by unfold bad; rw [if_neg (by omega), if_neg (by omega), if_pos (by omega)])
             simp only [pV, q]; rfl)
          | (have q : bad s 5 1 = 5 := (by unfold bad; rw [if_neg (by omega), if_neg (by omega), if_neg (by omega), if_pos (by omega)])
             simp only [pV, q]; rfl)
          | (have q : bad s 5 1 = 0 := (by unfold bad; rw [if_neg (by omega), if_neg (by omega), if_neg (by omega), if_neg (by omega)])
             simp only [pV, q, SV.toV, toVs, if_true, decide_true, Bool.true_and]
             simp only [d_byte s (by assumption), odd2])

theorem rf_calls (s : ByteArray) (hs : s.size ≤ 4611686018427387904) (w : World) :
    Calls Try.prog 29 #[.string s] w (fun e w' => e = .returned (.tuple #[.agg #[.int .u64 (nV s 6)], .int .i64 (bad s 6 10)]) ∧ Below w.heap.size w w') := by
  have hb := byte_lt (bAt s 0)
  rcases Bool.eq_false_or_eq_true (s.toList == (ByteArray.mk (ByteArray.mk #[]).data.toList.toArray).toList) with hb0 | hb0 <;> have c0 := hb0 <;> try simp only [decide_eq_true_eq, decide_eq_false_iff_not, beq_iff_eq, bne_iff_ne, ne_eq, beq_eq_false_iff_ne, bne_eq_false_iff_eq, Bool.not_eq_true', Bool.not_eq_false', Bool.false_eq_true, if_false, Bool.and_true, Bool.true_and, ba_beq, ba_toList_beq, ba_none, Bool.and_eq_true, Bool.and_eq_false_imp, Bool.not_eq_true, Bool.not_eq_false, beq_self_eq_true, Int.ofNat_eq_natCast, wib, tdB, tmB, wd16] at c0
  · refine leaf (rf_0 s) (by simp only [AllP, and_true]; (repeat' apply And.intro) <;> first | (with_reducible assumption) | (with_reducible rfl) | omega | (simp only [ByteArray.size_extract]; omega)) rfl (Rs.cons (by simp only [R]) Rs.nil) ?_ rfl
    first
    | (have q : bad s 6 10 = 4 := (by unfold bad; rw [if_pos (by omega)])
       simp only [nV, q]; rfl)
    | (have q : bad s 6 10 = 7 := (by unfold bad; rw [if_neg (by omega), if_pos (by omega)])
       simp only [nV, q]; rfl)
    | (have q : bad s 6 10 = 4 := (by unfold bad; rw [if_neg (by omega), if_neg (by omega), if_pos (by omega)])
       simp only [nV, q]; rfl)
    | (have q : bad s 6 10 = 5 := (by unfold bad; rw [if_neg (by omega), if_neg (by omega), if_neg (by omega), if_pos (by omega)])
       simp only [nV, q]; rfl)
    | (have q : bad s 6 10 = 0 := (by unfold bad; rw [if_neg (by omega), if_neg (by omega), if_neg (by omega), if_neg (by omega)])
       simp only [nV, q, SV.toV, toVs, if_true, decide_true, Bool.true_and]
       have h10 : s.size = 10 := (by omega)
       simp only [bx0 s h10, bx1 s h10, bx2 s h10, bx3 s h10, bx4 s h10, bx5 s h10, bx6 s h10, bx7 s h10]
       simp only [ref8]
       (try simp only [w64n8])
       (try rfl))
  · rcases Bool.eq_false_or_eq_true (Go.IntKind.i64.wrap ((Go.IntKind.i64.wrap (Go.Ex.byteAt s (0 : Int))).tdiv (16 : Int)) != (6 : Int)) with hb1 | hb1 <;> have c1 := hb1 <;> try simp only [decide_eq_true_eq, decide_eq_false_iff_not, beq_iff_eq, bne_iff_ne, ne_eq, beq_eq_false_iff_ne, bne_eq_false_iff_eq, Bool.not_eq_true', Bool.not_eq_false', Bool.false_eq_true, if_false, Bool.and_true, Bool.true_and, ba_beq, ba_toList_beq, ba_none, Bool.and_eq_true, Bool.and_eq_false_imp, Bool.not_eq_true, Bool.not_eq_false, beq_self_eq_true, Int.ofNat_eq_natCast, wib, tdB, tmB, wd16, d_byte s (by assumption)] at c1
    · refine leaf (rf_1 s) (by simp only [AllP, and_true]; (repeat' apply And.intro) <;> first | (with_reducible assumption) | (with_reducible rfl) | omega | (simp only [ByteArray.size_extract]; omega)) rfl (Rs.cons (by simp only [R]) Rs.nil) ?_ rfl
      first
      | (have q : bad s 6 10 = 4 := (by unfold bad; rw [if_pos (by omega)])
         simp only [nV, q]; rfl)
      | (have q : bad s 6 10 = 7 := (by unfold bad; rw [if_neg (by omega), if_pos (by omega)])
         simp only [nV, q]; rfl)
      | (have q : bad s 6 10 = 4 := (by unfold bad; rw [if_neg (by omega), if_neg (by omega), if_pos (by omega)])
         simp only [nV, q]; rfl)
      | (have q : bad s 6 10 = 5 := (by unfold bad; rw [if_neg (by omega), if_neg (by omega), if_neg (by omega), if_pos (by omega)])
         simp only [nV, q]; rfl)
      | (have q : bad s 6 10 = 0 := (by unfold bad; rw [if_neg (by omega), if_neg (by omega), if_neg (by omega), if_neg (by omega)])
         simp only [nV, q, SV.toV, toVs, if_true, decide_true, Bool.true_and]
         have h10 : s.size = 10 := (by omega)
         simp only [bx0 s h10, bx1 s h10, bx2 s h10, bx3 s h10, bx4 s h10, bx5 s h10, bx6 s h10, bx7 s h10]
         simp only [ref8]
         (try simp only [w64n8])
         (try rfl))
    · rcases Bool.eq_false_or_eq_true (Decidable.decide ((↑s.size : Int) < (10 : Int))) with hb2 | hb2 <;> have c2 := hb2 <;> try simp only [decide_eq_true_eq, decide_eq_false_iff_not, beq_iff_eq, bne_iff_ne, ne_eq, beq_eq_false_iff_ne, bne_eq_false_iff_eq, Bool.not_eq_true', Bool.not_eq_false', Bool.false_eq_true, if_false, Bool.and_true, Bool.true_and, ba_beq, ba_toList_beq, ba_none, Bool.and_eq_true, Bool.and_eq_false_imp, Bool.not_eq_true, Bool.not_eq_false, beq_self_eq_true, Int.ofNat_eq_natCast, wib, tdB, tmB, wd16, d_byte s (by assumption)] at c2
      · refine leaf (rf_2 s) (by simp only [AllP, and_true]; (repeat' apply And.intro) <;> first | (with_reducible assumption) | (with_reducible rfl) | omega | (simp only [ByteArray.size_extract]; omega)) rfl (Rs.cons (by simp only [R]) Rs.nil) ?_ rfl
        first
        | (have q : bad s 6 10 = 4 := (by unfold bad; rw [if_pos (by omega)])
           simp only [nV, q]; rfl)
        | (have q : bad s 6 10 = 7 := (by unfold bad; rw [if_neg (by omega), if_pos (by omega)])
           simp only [nV, q]; rfl)
        | (have q : bad s 6 10 = 4 := (by unfold bad; rw [if_neg (by omega), if_neg (by omega), if_pos (by omega)])
           simp only [nV, q]; rfl)
        | (have q : bad s 6 10 = 5 := (by unfold bad; rw [if_neg (by omega), if_neg (by omega), if_neg (by omega), if_pos (by omega)])
           simp only [nV, q]; rfl)
        | (have q : bad s 6 10 = 0 := (by unfold bad; rw [if_neg (by omega), if_neg (by omega), if_neg (by omega), if_neg (by omega)])
           simp only [nV, q, SV.toV, toVs, if_true, decide_true, Bool.true_and]
           have h10 : s.size = 10 := (by omega)
           simp only [bx0 s h10, bx1 s h10, bx2 s h10, bx3 s h10, bx4 s h10, bx5 s h10, bx6 s h10, bx7 s h10]
           simp only [ref8]
           (try simp only [w64n8])
           (try rfl))
      · rcases Bool.eq_false_or_eq_true (Decidable.decide ((↑s.size : Int) > (10 : Int))) with hb3 | hb3 <;> have c3 := hb3 <;> try simp only [decide_eq_true_eq, decide_eq_false_iff_not, beq_iff_eq, bne_iff_ne, ne_eq, beq_eq_false_iff_ne, bne_eq_false_iff_eq, Bool.not_eq_true', Bool.not_eq_false', Bool.false_eq_true, if_false, Bool.and_true, Bool.true_and, ba_beq, ba_toList_beq, ba_none, Bool.and_eq_true, Bool.and_eq_false_imp, Bool.not_eq_true, Bool.not_eq_false, beq_self_eq_true, Int.ofNat_eq_natCast, wib, tdB, tmB, wd16, d_byte s (by assumption)] at c3
        · refine leaf (rf_4 s) (by simp only [AllP, and_true]; (repeat' apply And.intro) <;> first | (with_reducible assumption) | (with_reducible rfl) | omega | (simp only [ByteArray.size_extract]; omega)) rfl (Rs.cons (by simp only [R]) Rs.nil) ?_ rfl
          first
          | (have q : bad s 6 10 = 4 := (by unfold bad; rw [if_pos (by omega)])
             simp only [nV, q]; rfl)
          | (have q : bad s 6 10 = 7 := (by unfold bad; rw [if_neg (by omega), if_pos (by omega)])
             simp only [nV, q]; rfl)
          | (have q : bad s 6 10 = 4 := (by unfold bad; rw [if_neg (by omega), if_neg (by omega), if_pos (by omega)])
             simp only [nV, q]; rfl)
          | (have q : bad s 6 10 = 5 := (by unfold bad; rw [if_neg (by omega), if_neg (by omega), if_neg (by omega), if_pos (by omega)])
             simp only [nV, q]; rfl)
          | (have q : bad s 6 10 = 0 := (by unfold bad; rw [if_neg (by omega), if_neg (by omega), if_neg (by omega), if_neg (by omega)])
             simp only [nV, q, SV.toV, toVs, if_true, decide_true, Bool.true_and]
             have h10 : s.size = 10 := (by omega)
             simp only [bx0 s h10, bx1 s h10, bx2 s h10, bx3 s h10, bx4 s h10, bx5 s h10, bx6 s h10, bx7 s h10]
             simp only [ref8]
             (try simp only [w64n8])
             (try rfl))
        · rcases Bool.eq_false_or_eq_true (Decidable.decide ((0 : Int) < (↑(s.extract (2 : Nat) (↑s.size : Int).toNat).size : Int))) with hb4 | hb4 <;> have c4 := hb4 <;> try simp only [decide_eq_true_eq, decide_eq_false_iff_not, beq_iff_eq, bne_iff_ne, ne_eq, beq_eq_false_iff_ne, bne_eq_false_iff_eq, Bool.not_eq_true', Bool.not_eq_false', Bool.false_eq_true, if_false, Bool.and_true, Bool.true_and, ba_beq, ba_toList_beq, ba_none, Bool.and_eq_true, Bool.and_eq_false_imp, Bool.not_eq_true, Bool.not_eq_false, beq_self_eq_true, Int.ofNat_eq_natCast, wib, tdB, tmB, wd16, d_byte s (by assumption)] at c4
          · rcases Bool.eq_false_or_eq_true (Decidable.decide ((1 : Int) < (↑(s.extract (2 : Nat) (↑s.size : Int).toNat).size : Int))) with hb5 | hb5 <;> have c5 := hb5 <;> try simp only [decide_eq_true_eq, decide_eq_false_iff_not, beq_iff_eq, bne_iff_ne, ne_eq, beq_eq_false_iff_ne, bne_eq_false_iff_eq, Bool.not_eq_true', Bool.not_eq_false', Bool.false_eq_true, if_false, Bool.and_true, Bool.true_and, ba_beq, ba_toList_beq, ba_none, Bool.and_eq_true, Bool.and_eq_false_imp, Bool.not_eq_true, Bool.not_eq_false, beq_self_eq_true, Int.ofNat_eq_natCast, wib, tdB, tmB, wd16, d_byte s (by assumption)] at c5
            · rcases Bool.eq_false_or_eq_true (Decidable.decide ((2 : Int) < (↑(s.extract (2 : Nat) (↑s.size : Int).toNat).size : Int))) with hb6 | hb6 <;> have c6 := hb6 <;> try simp only [decide_eq_true_eq, decide_eq_false_iff_not, beq_iff_eq, bne_iff_ne, ne_eq, beq_eq_false_iff_ne, bne_eq_false_iff_eq, Bool.not_eq_true', Bool.not_eq_false', Bool.false_eq_true, if_false, Bool.and_true, Bool.true_and, ba_beq, ba_toList_beq, ba_none, Bool.and_eq_true, Bool.and_eq_false_imp, Bool.not_eq_true, Bool.not_eq_false, beq_self_eq_true, Int.ofNat_eq_natCast, wib, tdB, tmB, wd16, d_byte s (by assumption)] at c6
              · rcases Bool.eq_false_or_eq_true (Decidable.decide ((3 : Int) < (↑(s.extract (2 : Nat) (↑s.size : Int).toNat).size : Int))) with hb7 | hb7 <;> have c7 := hb7 <;> try simp only [decide_eq_true_eq, decide_eq_false_iff_not, beq_iff_eq, bne_iff_ne, ne_eq, beq_eq_false_iff_ne, bne_eq_false_iff_eq, Bool.not_eq_true', Bool.not_eq_false', Bool.false_eq_true, if_false, Bool.and_true, Bool.true_and, ba_beq, ba_toList_beq, ba_none, Bool.and_eq_true, Bool.and_eq_false_imp, Bool.not_eq_true, Bool.not_eq_false, beq_self_eq_true, Int.ofNat_eq_natCast, wib, tdB, tmB, wd16, d_byte s (by assumption)] at c7
                · rcases Bool.eq_false_or_eq_true (Decidable.decide ((4 : Int) < (↑(s.extract (2 : Nat) (↑s.size : Int).toNat).size : Int))) with hb8 | hb8 <;> have c8 := hb8 <;> try simp only [decide_eq_true_eq, decide_eq_false_iff_not, beq_iff_eq, bne_iff_ne, ne_eq, beq_eq_false_iff_ne, bne_eq_false_iff_eq, Bool.not_eq_true', Bool.not_eq_false', Bool.false_eq_true, if_false, Bool.and_true, Bool.true_and, ba_beq, ba_toList_beq, ba_none, Bool.and_eq_true, Bool.and_eq_false_imp, Bool.not_eq_true, Bool.not_eq_false, beq_self_eq_true, Int.ofNat_eq_natCast, wib, tdB, tmB, wd16, d_byte s (by assumption)] at c8
                  · rcases Bool.eq_false_or_eq_true (Decidable.decide ((5 : Int) < (↑(s.extract (2 : Nat) (↑s.size : Int).toNat).size : Int))) with hb9 | hb9 <;> have c9 := hb9 <;> try simp only [decide_eq_true_eq, decide_eq_false_iff_not, beq_iff_eq, bne_iff_ne, ne_eq, beq_eq_false_iff_ne, bne_eq_false_iff_eq, Bool.not_eq_true', Bool.not_eq_false', Bool.false_eq_true, if_false, Bool.and_true, Bool.true_and, ba_beq, ba_toList_beq, ba_none, Bool.and_eq_true, Bool.and_eq_false_imp, Bool.not_eq_true, Bool.not_eq_false, beq_self_eq_true, Int.ofNat_eq_natCast, wib, tdB, tmB, wd16, d_byte s (by assumption)] at c9
                    · rcases Bool.eq_false_or_eq_true (Decidable.decide ((6 : Int) < (↑(s.extract (2 : Nat) (↑s.size : Int).toNat).size : Int))) with hb10 | hb10 <;> have c10 := hb10 <;> try simp only [decide_eq_true_eq, decide_eq_false_iff_not, beq_iff_eq, bne_iff_ne, ne_eq, beq_eq_false_iff_ne, bne_eq_false_iff_eq, Bool.not_eq_true', Bool.not_eq_false', Bool.false_eq_true, if_false, Bool.and_true, Bool.true_and, ba_beq, ba_toList_beq, ba_none, Bool.and_eq_true, Bool.and_eq_false_imp, Bool.not_eq_true, Bool.not_eq_false, beq_self_eq_true, Int.ofNat_eq_natCast, wib, tdB, tmB, wd16, d_byte s (by assumption)] at c10
                      · rcases Bool.eq_false_or_eq_true (Decidable.decide ((7 : Int) < (↑(s.extract (2 : Nat) (↑s.size : Int).toNat).size : Int))) with hb11 | hb11 <;> have c11 := hb11 <;> try simp only [decide_eq_true_eq, decide_eq_false_iff_not, beq_iff_eq, bne_iff_ne, ne_eq, beq_eq_false_iff_ne, bne_eq_false_iff_eq, Bool.not_eq_true', Bool.not_eq_false', Bool.false_eq_true, if_false, Bool.and_true, Bool.true_and, ba_beq, ba_toList_beq, ba_none, Bool.and_eq_true, Bool.and_eq_false_imp, Bool.not_eq_true, Bool.not_eq_false, beq_self_eq_true, Int.ofNat_eq_natCast, wib, tdB, tmB, wd16, d_byte s (by assumption)] at c11
                        · rcases Bool.eq_false_or_eq_true (Decidable.decide ((8 : Int) < (↑(s.extract (2 : Nat) (↑s.size : Int).toNat).size : Int))) with hb12 | hb12 <;> have c12 := hb12 <;> try simp only [decide_eq_true_eq, decide_eq_false_iff_not, beq_iff_eq, bne_iff_ne, ne_eq, beq_eq_false_iff_ne, bne_eq_false_iff_eq, Bool.not_eq_true', Bool.not_eq_false', Bool.false_eq_true, if_false, Bool.and_true, Bool.true_and, ba_beq, ba_toList_beq, ba_none, Bool.and_eq_true, Bool.and_eq_false_imp, Bool.not_eq_true, Bool.not_eq_false, beq_self_eq_true, Int.ofNat_eq_natCast, wib, tdB, tmB, wd16, d_byte s (by assumption)] at c12
                          · exfalso; first | omega | (simp only [ByteArray.size_extract] at *; omega)
                          · refine leaf (rf_3 s) (by simp only [AllP, and_true]; (repeat' apply And.intro) <;> first | (with_reducible assumption) | (with_reducible rfl) | omega | (simp only [ByteArray.size_extract]; omega)) rfl (Rs.cons (by simp only [R]) Rs.nil) ?_ rfl
                            first
                            | (have q : bad s 6 10 = 4 := (by unfold bad; rw [if_pos (by omega)])
                               simp only [nV, q]; rfl)
                            | (have q : bad s 6 10 = 7 := (by unfold bad; rw [if_neg (by omega), if_pos (by omega)])
                               simp only [nV, q]; rfl)
                            | (have q : bad s 6 10 = 4 := (by unfold bad; rw [if_neg (by omega), if_neg (by omega), if_pos (by omega)])
                               simp only [nV, q]; rfl)
                            | (have q : bad s 6 10 = 5 := (by unfold bad; rw [if_neg (by omega), if_neg (by omega), if_neg (by omega), if_pos (by omega)])
                               simp only [nV, q]; rfl)
                            | (have q : bad s 6 10 = 0 := (by unfold bad; rw [if_neg (by omega), if_neg (by omega), if_neg (by omega), if_neg (by omega)])
                               simp only [nV, q, SV.toV, toVs, if_true, decide_true, Bool.true_and]
                               have h10 : s.size = 10 := (by omega)
                               simp only [bx0 s h10, bx1 s h10, bx2 s h10, bx3 s h10, bx4 s h10, bx5 s h10, bx6 s h10, bx7 s h10]
                               simp only [ref8]
                               (try simp only [w64n8])
                               (try rfl))
                        · exfalso; first | omega | (simp only [ByteArray.size_extract] at *; omega)
                      · exfalso; first | omega | (simp only [ByteArray.size_extract] at *; omega)
                    · exfalso; first | omega | (simp only [ByteArray.size_extract] at *; omega)
                  · exfalso; first | omega | (simp only [ByteArray.size_extract] at *; omega)
                · exfalso; first | omega | (simp only [ByteArray.size_extract] at *; omega)
              · exfalso; first | omega | (simp only [ByteArray.size_extract] at *; omega)
            · exfalso; first | omega | (simp only [ByteArray.size_extract] at *; omega)
          · exfalso; first | omega | (simp only [ByteArray.size_extract] at *; omega)

theorem rk_calls (s : ByteArray) (hs : s.size ≤ 4611686018427387904) (w : World) :
    Calls Try.prog 30 #[.string s] w (fun e w' => e = .returned (.tuple #[.agg #[.int .u64 (nV s 7)], .int .i64 (bad s 7 10)]) ∧ Below w.heap.size w w') := by
  have hb := byte_lt (bAt s 0)
  rcases Bool.eq_false_or_eq_true (s.toList == (ByteArray.mk (ByteArray.mk #[]).data.toList.toArray).toList) with hb0 | hb0 <;> have c0 := hb0 <;> try simp only [decide_eq_true_eq, decide_eq_false_iff_not, beq_iff_eq, bne_iff_ne, ne_eq, beq_eq_false_iff_ne, bne_eq_false_iff_eq, Bool.not_eq_true', Bool.not_eq_false', Bool.false_eq_true, if_false, Bool.and_true, Bool.true_and, ba_beq, ba_toList_beq, ba_none, Bool.and_eq_true, Bool.and_eq_false_imp, Bool.not_eq_true, Bool.not_eq_false, beq_self_eq_true, Int.ofNat_eq_natCast, wib, tdB, tmB, wd16] at c0
  · refine leaf (rk_0 s) (by simp only [AllP, and_true]; (repeat' apply And.intro) <;> first | (with_reducible assumption) | (with_reducible rfl) | omega | (simp only [ByteArray.size_extract]; omega)) rfl (Rs.cons (by simp only [R]) Rs.nil) ?_ rfl
    first
    | (have q : bad s 7 10 = 4 := (by unfold bad; rw [if_pos (by omega)])
       simp only [nV, q]; rfl)
    | (have q : bad s 7 10 = 7 := (by unfold bad; rw [if_neg (by omega), if_pos (by omega)])
       simp only [nV, q]; rfl)
    | (have q : bad s 7 10 = 4 := (by unfold bad; rw [if_neg (by omega), if_neg (by omega), if_pos (by omega)])
       simp only [nV, q]; rfl)
    | (have q : bad s 7 10 = 5 := (by unfold bad; rw [if_neg (by omega), if_neg (by omega), if_neg (by omega), if_pos (by omega)])
       simp only [nV, q]; rfl)
    | (have q : bad s 7 10 = 0 := (by unfold bad; rw [if_neg (by omega), if_neg (by omega), if_neg (by omega), if_neg (by omega)])
       simp only [nV, q, SV.toV, toVs, if_true, decide_true, Bool.true_and]
       have h10 : s.size = 10 := (by omega)
       simp only [bx0 s h10, bx1 s h10, bx2 s h10, bx3 s h10, bx4 s h10, bx5 s h10, bx6 s h10, bx7 s h10]
       simp only [ref8]
       (try simp only [w64n8])
       (try rfl))
  · rcases Bool.eq_false_or_eq_true (Go.IntKind.i64.wrap ((Go.IntKind.i64.wrap (Go.Ex.byteAt s (0 : Int))).tdiv (16 : Int)) != (7 : Int)) with hb1 | hb1 <;> have c1 := hb1 <;> try simp only [decide_eq_true_eq, decide_eq_false_iff_not, beq_iff_eq, bne_iff_ne, ne_eq, beq_eq_false_iff_ne, bne_eq_false_iff_eq, Bool.not_eq_true', Bool.not_eq_false', Bool.false_eq_true, if_false, Bool.and_true, Bool.true_and, ba_beq, ba_toList_beq, ba_none, Bool.and_eq_true, Bool.and_eq_false_imp, Bool.not_eq_true, Bool.not_eq_false, beq_self_eq_true, Int.ofNat_eq_natCast, wib, tdB, tmB, wd16, d_byte s (by assumption)] at c1
    · refine leaf (rk_1 s) (by simp only [AllP, and_true]; (repeat' apply And.intro) <;> first | (with_reducible assumption) | (with_reducible rfl) | omega | (simp only [ByteArray.size_extract]; omega)) rfl (Rs.cons (by simp only [R]) Rs.nil) ?_ rfl
      first
      | (have q : bad s 7 10 = 4 := (by unfold bad; rw [if_pos (by omega)])
         simp only [nV, q]; rfl)
      | (have q : bad s 7 10 = 7 := (by unfold bad; rw [if_neg (by omega), if_pos (by omega)])
         simp only [nV, q]; rfl)
      | (have q : bad s 7 10 = 4 := (by unfold bad; rw [if_neg (by omega), if_neg (by omega), if_pos (by omega)])
         simp only [nV, q]; rfl)
      | (have q : bad s 7 10 = 5 := (by unfold bad; rw [if_neg (by omega), if_neg (by omega), if_neg (by omega), if_pos (by omega)])
         simp only [nV, q]; rfl)
      | (have q : bad s 7 10 = 0 := (by unfold bad; rw [if_neg (by omega), if_neg (by omega), if_neg (by omega), if_neg (by omega)])
         simp only [nV, q, SV.toV, toVs, if_true, decide_true, Bool.true_and]
         have h10 : s.size = 10 := (by omega)
         simp only [bx0 s h10, bx1 s h10, bx2 s h10, bx3 s h10, bx4 s h10, bx5 s h10, bx6 s h10, bx7 s h10]
         simp only [ref8]
         (try simp only [w64n8])
         (try rfl))
    · rcases Bool.eq_false_or_eq_true (Decidable.decide ((↑s.size : Int) < (10 : Int))) with hb2 | hb2 <;> have c2 := hb2 <;> try simp only [decide_eq_true_eq, decide_eq_false_iff_not, beq_iff_eq, bne_iff_ne, ne_eq, beq_eq_false_iff_ne, bne_eq_false_iff_eq, Bool.not_eq_true', Bool.not_eq_false', Bool.false_eq_true, if_false, Bool.and_true, Bool.true_and, ba_beq, ba_toList_beq, ba_none, Bool.and_eq_true, Bool.and_eq_false_imp, Bool.not_eq_true, Bool.not_eq_false, beq_self_eq_true, Int.ofNat_eq_natCast, wib, tdB, tmB, wd16, d_byte s (by assumption)] at c2
      · refine leaf (rk_2 s) (by simp only [AllP, and_true]; (repeat' apply And.intro) <;> first | (with_reducible assumption) | (with_reducible rfl) | omega | (simp only [ByteArray.size_extract]; omega)) rfl (Rs.cons (by simp only [R]) Rs.nil) ?_ rfl
        first
        | (have q : bad s 7 10 = 4 := (by unfold bad; rw [if_pos (by omega)])
           simp only [nV, q]; rfl)
        | (have q : bad s 7 10 = 7 := (by unfold bad; rw [if_neg (by omega), if_pos (by omega)])
           simp only [nV, q]; rfl)
        | (have q : bad s 7 10 = 4 := (by unfold bad; rw [if_neg (by omega), if_neg (by omega), if_pos (by omega)])
           simp only [nV, q]; rfl)
        | (have q : bad s 7 10 = 5 := (by unfold bad; rw [if_neg (by omega), if_neg (by omega), if_neg (by omega), if_pos (by omega)])
           simp only [nV, q]; rfl)
        | (have q : bad s 7 10 = 0 := (by unfold bad; rw [if_neg (by omega), if_neg (by omega), if_neg (by omega), if_neg (by omega)])
           simp only [nV, q, SV.toV, toVs, if_true, decide_true, Bool.true_and]
           have h10 : s.size = 10 := (by omega)
           simp only [bx0 s h10, bx1 s h10, bx2 s h10, bx3 s h10, bx4 s h10, bx5 s h10, bx6 s h10, bx7 s h10]
           simp only [ref8]
           (try simp only [w64n8])
           (try rfl))
      · rcases Bool.eq_false_or_eq_true (Decidable.decide ((↑s.size : Int) > (10 : Int))) with hb3 | hb3 <;> have c3 := hb3 <;> try simp only [decide_eq_true_eq, decide_eq_false_iff_not, beq_iff_eq, bne_iff_ne, ne_eq, beq_eq_false_iff_ne, bne_eq_false_iff_eq, Bool.not_eq_true', Bool.not_eq_false', Bool.false_eq_true, if_false, Bool.and_true, Bool.true_and, ba_beq, ba_toList_beq, ba_none, Bool.and_eq_true, Bool.and_eq_false_imp, Bool.not_eq_true, Bool.not_eq_false, beq_self_eq_true, Int.ofNat_eq_natCast, wib, tdB, tmB, wd16, d_byte s (by assumption)] at c3
        · refine leaf (rk_4 s) (by simp only [AllP, and_true]; (repeat' apply And.intro) <;> first | (with_reducible assumption) | (with_reducible rfl) | omega | (simp only [ByteArray.size_extract]; omega)) rfl (Rs.cons (by simp only [R]) Rs.nil) ?_ rfl
          first
          | (have q : bad s 7 10 = 4 := (by unfold bad; rw [if_pos (by omega)])
             simp only [nV, q]; rfl)
          | (have q : bad s 7 10 = 7 := (by unfold bad; rw [if_neg (by omega), if_pos (by omega)])
             simp only [nV, q]; rfl)
          | (have q : bad s 7 10 = 4 := (by unfold bad; rw [if_neg (by omega), if_neg (by omega), if_pos (by omega)])
             simp only [nV, q]; rfl)
          | (have q : bad s 7 10 = 5 := (by unfold bad; rw [if_neg (by omega), if_neg (by omega), if_neg (by omega), if_pos (by omega)])
             simp only [nV, q]; rfl)
          | (have q : bad s 7 10 = 0 := (by unfold bad; rw [if_neg (by omega), if_neg (by omega), if_neg (by omega), if_neg (by omega)])
             simp only [nV, q, SV.toV, toVs, if_true, decide_true, Bool.true_and]
             have h10 : s.size = 10 := (by omega)
             simp only [bx0 s h10, bx1 s h10, bx2 s h10, bx3 s h10, bx4 s h10, bx5 s h10, bx6 s h10, bx7 s h10]
             simp only [ref8]
             (try simp only [w64n8])
             (try rfl))
        · rcases Bool.eq_false_or_eq_true (Decidable.decide ((0 : Int) < (↑(s.extract (2 : Nat) (↑s.size : Int).toNat).size : Int))) with hb4 | hb4 <;> have c4 := hb4 <;> try simp only [decide_eq_true_eq, decide_eq_false_iff_not, beq_iff_eq, bne_iff_ne, ne_eq, beq_eq_false_iff_ne, bne_eq_false_iff_eq, Bool.not_eq_true', Bool.not_eq_false', Bool.false_eq_true, if_false, Bool.and_true, Bool.true_and, ba_beq, ba_toList_beq, ba_none, Bool.and_eq_true, Bool.and_eq_false_imp, Bool.not_eq_true, Bool.not_eq_false, beq_self_eq_true, Int.ofNat_eq_natCast, wib, tdB, tmB, wd16, d_byte s (by assumption)] at c4
          · rcases Bool.eq_false_or_eq_true (Decidable.decide ((1 : Int) < (↑(s.extract (2 : Nat) (↑s.size : Int).toNat).size : Int))) with hb5 | hb5 <;> have c5 := hb5 <;> try simp only [decide_eq_true_eq, decide_eq_false_iff_not, beq_iff_eq, bne_iff_ne, ne_eq, beq_eq_false_iff_ne, bne_eq_false_iff_eq, Bool.not_eq_true', Bool.not_eq_false', Bool.false_eq_true, if_false, Bool.and_true, Bool.true_and, ba_beq, ba_toList_beq, ba_none, Bool.and_eq_true, Bool.and_eq_false_imp, Bool.not_eq_true, Bool.not_eq_false, beq_self_eq_true, Int.ofNat_eq_natCast, wib, tdB, tmB, wd16, d_byte s (by assumption)] at c5
            · rcases Bool.eq_false_or_eq_true (Decidable.decide ((2 : Int) < (↑(s.extract (2 : Nat) (↑s.size : Int).toNat).size : Int))) with hb6 | hb6 <;> have c6 := hb6 <;> try simp only [decide_eq_true_eq, decide_eq_false_iff_not, beq_iff_eq, bne_iff_ne, ne_eq, beq_eq_false_iff_ne, bne_eq_false_iff_eq, Bool.not_eq_true', Bool.not_eq_false', Bool.false_eq_true, if_false, Bool.and_true, Bool.true_and, ba_beq, ba_toList_beq, ba_none, Bool.and_eq_true, Bool.and_eq_false_imp, Bool.not_eq_true, Bool.not_eq_false, beq_self_eq_true, Int.ofNat_eq_natCast, wib, tdB, tmB, wd16, d_byte s (by assumption)] at c6
              · rcases Bool.eq_false_or_eq_true (Decidable.decide ((3 : Int) < (↑(s.extract (2 : Nat) (↑s.size : Int).toNat).size : Int))) with hb7 | hb7 <;> have c7 := hb7 <;> try simp only [decide_eq_true_eq, decide_eq_false_iff_not, beq_iff_eq, bne_iff_ne, ne_eq, beq_eq_false_iff_ne, bne_eq_false_iff_eq, Bool.not_eq_true', Bool.not_eq_false', Bool.false_eq_true, if_false, Bool.and_true, Bool.true_and, ba_beq, ba_toList_beq, ba_none, Bool.and_eq_true, Bool.and_eq_false_imp, Bool.not_eq_true, Bool.not_eq_false, beq_self_eq_true, Int.ofNat_eq_natCast, wib, tdB, tmB, wd16, d_byte s (by assumption)] at c7
                · rcases Bool.eq_false_or_eq_true (Decidable.decide ((4 : Int) < (↑(s.extract (2 : Nat) (↑s.size : Int).toNat).size : Int))) with hb8 | hb8 <;> have c8 := hb8 <;> try simp only [decide_eq_true_eq, decide_eq_false_iff_not, beq_iff_eq, bne_iff_ne, ne_eq, beq_eq_false_iff_ne, bne_eq_false_iff_eq, Bool.not_eq_true', Bool.not_eq_false', Bool.false_eq_true, if_false, Bool.and_true, Bool.true_and, ba_beq, ba_toList_beq, ba_none, Bool.and_eq_true, Bool.and_eq_false_imp, Bool.not_eq_true, Bool.not_eq_false, beq_self_eq_true, Int.ofNat_eq_natCast, wib, tdB, tmB, wd16, d_byte s (by assumption)] at c8
                  · rcases Bool.eq_false_or_eq_true (Decidable.decide ((5 : Int) < (↑(s.extract (2 : Nat) (↑s.size : Int).toNat).size : Int))) with hb9 | hb9 <;> have c9 := hb9 <;> try simp only [decide_eq_true_eq, decide_eq_false_iff_not, beq_iff_eq, bne_iff_ne, ne_eq, beq_eq_false_iff_ne, bne_eq_false_iff_eq, Bool.not_eq_true', Bool.not_eq_false', Bool.false_eq_true, if_false, Bool.and_true, Bool.true_and, ba_beq, ba_toList_beq, ba_none, Bool.and_eq_true, Bool.and_eq_false_imp, Bool.not_eq_true, Bool.not_eq_false, beq_self_eq_true, Int.ofNat_eq_natCast, wib, tdB, tmB, wd16, d_byte s (by assumption)] at c9
                    · rcases Bool.eq_false_or_eq_true (Decidable.decide ((6 : Int) < (↑(s.extract (2 : Nat) (↑s.size : Int).toNat).size : Int))) with hb10 | hb10 <;> have c10 := hb10 <;> try simp only [decide_eq_true_eq, decide_eq_false_iff_not, beq_iff_eq, bne_iff_ne, ne_eq, beq_eq_false_iff_ne, bne_eq_false_iff_eq, Bool.not_eq_true', Bool.not_eq_false', Bool.false_eq_true, if_false, Bool.and_true, Bool.true_and, ba_beq, ba_toList_beq, ba_none, Bool.and_eq_true, Bool.and_eq_false_imp, Bool.not_eq_true, Bool.not_eq_false, beq_self_eq_true, Int.ofNat_eq_natCast, wib, tdB, tmB, wd16, d_byte s (by assumption)] at c10
                      · rcases Bool.eq_false_or_eq_true (Decidable.decide ((7 : Int) < (↑(s.extract (2 : Nat) (↑s.size : Int).toNat).size : Int))) with hb11 | hb11 <;> have c11 := hb11 <;> try simp only [decide_eq_true_eq, decide_eq_false_iff_not, beq_iff_eq, bne_iff_ne, ne_eq, beq_eq_false_iff_ne, bne_eq_false_iff_eq, Bool.not_eq_true', Bool.not_eq_false', Bool.false_eq_true, if_false, Bool.and_true, Bool.true_and, ba_beq, ba_toList_beq, ba_none, Bool.and_eq_true, Bool.and_eq_false_imp, Bool.not_eq_true, Bool.not_eq_false, beq_self_eq_true, Int.ofNat_eq_natCast, wib, tdB, tmB, wd16, d_byte s (by assumption)] at c11
                        · rcases Bool.eq_false_or_eq_true (Decidable.decide ((8 : Int) < (↑(s.extract (2 : Nat) (↑s.size : Int).toNat).size : Int))) with hb12 | hb12 <;> have c12 := hb12 <;> try simp only [decide_eq_true_eq, decide_eq_false_iff_not, beq_iff_eq, bne_iff_ne, ne_eq, beq_eq_false_iff_ne, bne_eq_false_iff_eq, Bool.not_eq_true', Bool.not_eq_false', Bool.false_eq_true, if_false, Bool.and_true, Bool.true_and, ba_beq, ba_toList_beq, ba_none, Bool.and_eq_true, Bool.and_eq_false_imp, Bool.not_eq_true, Bool.not_eq_false, beq_self_eq_true, Int.ofNat_eq_natCast, wib, tdB, tmB, wd16, d_byte s (by assumption)] at c12
                          · exfalso; first | omega | (simp only [ByteArray.size_extract] at *; omega)
                          · refine leaf (rk_3 s) (by simp only [AllP, and_true]; (repeat' apply And.intro) <;> first | (with_reducible assumption) | (with_reducible rfl) | omega | (simp only [ByteArray.size_extract]; omega)) rfl (Rs.cons (by simp only [R]) Rs.nil) ?_ rfl
                            first
                            | (have q : bad s 7 10 = 4 := (by unfold bad; rw [if_pos (by omega)])
                               simp only [nV, q]; rfl)
                            | (have q : bad s 7 10 = 7 := (by unfold bad; rw [if_neg (by omega), if_pos (by omega)])
                               simp only [nV, q]; rfl)
                            | (have q : bad s 7 10 = 4 := (by unfold bad; rw [if_neg (by omega), if_neg (by omega), if_pos (by omega)])
                               simp only [nV, q]; rfl)
                            | (have q : bad s 7 10 = 5 := (by unfold bad; rw [if_neg (by omega), if_neg (by omega), if_neg (by omega), if_pos (by omega)])
                               simp only [nV, q]; rfl)
                            | (have q : bad s 7 10 = 0 := (by unfold bad; rw [if_neg (by omega), if_neg (by omega), if_neg (by omega), if_neg (by omega)])
                               simp only [nV, q, SV.toV, toVs, if_true, decide_true, Bool.true_and]
                               have h10 : s.size = 10 := (by omega)
                               simp only [bx0 s h10, bx1 s h10, bx2 s h10, bx3 s h10, bx4 s h10, bx5 s h10, bx6 s h10, bx7 s h10]
                               simp only [ref8]
                               (try simp only [w64n8])
                               (try rfl))
                        · exfalso; first | omega | (simp only [ByteArray.size_extract] at *; omega)
                      · exfalso; first | omega | (simp only [ByteArray.size_extract] at *; omega)
                    · exfalso; first | omega | (simp only [ByteArray.size_extract] at *; omega)
                  · exfalso; first | omega | (simp only [ByteArray.size_extract] at *; omega)
                · exfalso; first | omega | (simp only [ByteArray.size_extract] at *; omega)
              · exfalso; first | omega | (simp only [ByteArray.size_extract] at *; omega)
            · exfalso; first | omega | (simp only [ByteArray.size_extract] at *; omega)
          · exfalso; first | omega | (simp only [ByteArray.size_extract] at *; omega)

theorem rr_calls (s : ByteArray) (hs : s.size ≤ 4611686018427387904) (w : World) :
    Calls Try.prog 31 #[.string s] w (fun e w' => e = .returned (.tuple #[.agg #[.int .i64 (rV s), .int .i64 (qV s)], .int .i64 (bad s 8 2)]) ∧ Below w.heap.size w w') := by
  have hb := byte_lt (bAt s 0)
  rcases Bool.eq_false_or_eq_true (s.toList == (ByteArray.mk (ByteArray.mk #[]).data.toList.toArray).toList) with hb0 | hb0 <;> have c0 := hb0 <;> try simp only [decide_eq_true_eq, decide_eq_false_iff_not, beq_iff_eq, bne_iff_ne, ne_eq, beq_eq_false_iff_ne, bne_eq_false_iff_eq, Bool.not_eq_true', Bool.not_eq_false', Bool.false_eq_true, if_false, Bool.and_true, Bool.true_and, ba_beq, ba_toList_beq, ba_none, Bool.and_eq_true, Bool.and_eq_false_imp, Bool.not_eq_true, Bool.not_eq_false, beq_self_eq_true, Int.ofNat_eq_natCast, wib, tdB, tmB, wd16] at c0
  · refine leaf (rr_0 s) (by simp only [AllP, and_true]; (repeat' apply And.intro) <;> first | (with_reducible assumption) | (with_reducible rfl) | omega | (simp only [ByteArray.size_extract]; omega)) rfl (Rs.cons (by simp only [R]) Rs.nil) ?_ rfl
    first
    | (have q : bad s 8 2 = 4 := (by unfold bad; rw [if_pos (by omega)])
       simp only [rV, qV, q]; rfl)
    | (have q : bad s 8 2 = 7 := (by unfold bad; rw [if_neg (by omega), if_pos (by omega)])
       simp only [rV, qV, q]; rfl)
    | (have q : bad s 8 2 = 4 := (by unfold bad; rw [if_neg (by omega), if_neg (by omega), if_pos (by omega)])
       simp only [rV, qV, q]; rfl)
    | (have q : bad s 8 2 = 5 := (by unfold bad; rw [if_neg (by omega), if_neg (by omega), if_neg (by omega), if_pos (by omega)])
       simp only [rV, qV, q]; rfl)
    | (have q : bad s 8 2 = 0 := (by unfold bad; rw [if_neg (by omega), if_neg (by omega), if_neg (by omega), if_neg (by omega)])
       simp only [rV, qV, q, SV.toV, toVs, if_true, decide_true, Bool.true_and]
       simp only [d_byte s (by assumption), d_byte1 s (by omega), wib, tmB, wim])
  · rcases Bool.eq_false_or_eq_true (Go.IntKind.i64.wrap ((Go.IntKind.i64.wrap (Go.Ex.byteAt s (0 : Int))).tdiv (16 : Int)) != (8 : Int)) with hb1 | hb1 <;> have c1 := hb1 <;> try simp only [decide_eq_true_eq, decide_eq_false_iff_not, beq_iff_eq, bne_iff_ne, ne_eq, beq_eq_false_iff_ne, bne_eq_false_iff_eq, Bool.not_eq_true', Bool.not_eq_false', Bool.false_eq_true, if_false, Bool.and_true, Bool.true_and, ba_beq, ba_toList_beq, ba_none, Bool.and_eq_true, Bool.and_eq_false_imp, Bool.not_eq_true, Bool.not_eq_false, beq_self_eq_true, Int.ofNat_eq_natCast, wib, tdB, tmB, wd16, d_byte s (by assumption)] at c1
    · refine leaf (rr_1 s) (by simp only [AllP, and_true]; (repeat' apply And.intro) <;> first | (with_reducible assumption) | (with_reducible rfl) | omega | (simp only [ByteArray.size_extract]; omega)) rfl (Rs.cons (by simp only [R]) Rs.nil) ?_ rfl
      first
      | (have q : bad s 8 2 = 4 := (by unfold bad; rw [if_pos (by omega)])
         simp only [rV, qV, q]; rfl)
      | (have q : bad s 8 2 = 7 := (by unfold bad; rw [if_neg (by omega), if_pos (by omega)])
         simp only [rV, qV, q]; rfl)
      | (have q : bad s 8 2 = 4 := (by unfold bad; rw [if_neg (by omega), if_neg (by omega), if_pos (by omega)])
         simp only [rV, qV, q]; rfl)
      | (have q : bad s 8 2 = 5 := (by unfold bad; rw [if_neg (by omega), if_neg (by omega), if_neg (by omega), if_pos (by omega)])
         simp only [rV, qV, q]; rfl)
      | (have q : bad s 8 2 = 0 := (by unfold bad; rw [if_neg (by omega), if_neg (by omega), if_neg (by omega), if_neg (by omega)])
         simp only [rV, qV, q, SV.toV, toVs, if_true, decide_true, Bool.true_and]
         simp only [d_byte s (by assumption), d_byte1 s (by omega), wib, tmB, wim])
    · rcases Bool.eq_false_or_eq_true (Decidable.decide ((↑s.size : Int) < (2 : Int))) with hb2 | hb2 <;> have c2 := hb2 <;> try simp only [decide_eq_true_eq, decide_eq_false_iff_not, beq_iff_eq, bne_iff_ne, ne_eq, beq_eq_false_iff_ne, bne_eq_false_iff_eq, Bool.not_eq_true', Bool.not_eq_false', Bool.false_eq_true, if_false, Bool.and_true, Bool.true_and, ba_beq, ba_toList_beq, ba_none, Bool.and_eq_true, Bool.and_eq_false_imp, Bool.not_eq_true, Bool.not_eq_false, beq_self_eq_true, Int.ofNat_eq_natCast, wib, tdB, tmB, wd16, d_byte s (by assumption)] at c2
      · refine leaf (rr_2 s) (by simp only [AllP, and_true]; (repeat' apply And.intro) <;> first | (with_reducible assumption) | (with_reducible rfl) | omega | (simp only [ByteArray.size_extract]; omega)) rfl (Rs.cons (by simp only [R]) Rs.nil) ?_ rfl
        first
        | (have q : bad s 8 2 = 4 := (by unfold bad; rw [if_pos (by omega)])
           simp only [rV, qV, q]; rfl)
        | (have q : bad s 8 2 = 7 := (by unfold bad; rw [if_neg (by omega), if_pos (by omega)])
           simp only [rV, qV, q]; rfl)
        | (have q : bad s 8 2 = 4 := (by unfold bad; rw [if_neg (by omega), if_neg (by omega), if_pos (by omega)])
           simp only [rV, qV, q]; rfl)
        | (have q : bad s 8 2 = 5 := (by unfold bad; rw [if_neg (by omega), if_neg (by omega), if_neg (by omega), if_pos (by omega)])
           simp only [rV, qV, q]; rfl)
        | (have q : bad s 8 2 = 0 := (by unfold bad; rw [if_neg (by omega), if_neg (by omega), if_neg (by omega), if_neg (by omega)])
           simp only [rV, qV, q, SV.toV, toVs, if_true, decide_true, Bool.true_and]
           simp only [d_byte s (by assumption), d_byte1 s (by omega), wib, tmB, wim])
      · rcases Bool.eq_false_or_eq_true (Decidable.decide ((↑s.size : Int) > (2 : Int))) with hb3 | hb3 <;> have c3 := hb3 <;> try simp only [decide_eq_true_eq, decide_eq_false_iff_not, beq_iff_eq, bne_iff_ne, ne_eq, beq_eq_false_iff_ne, bne_eq_false_iff_eq, Bool.not_eq_true', Bool.not_eq_false', Bool.false_eq_true, if_false, Bool.and_true, Bool.true_and, ba_beq, ba_toList_beq, ba_none, Bool.and_eq_true, Bool.and_eq_false_imp, Bool.not_eq_true, Bool.not_eq_false, beq_self_eq_true, Int.ofNat_eq_natCast, wib, tdB, tmB, wd16, d_byte s (by assumption)] at c3
        · refine leaf (rr_4 s) (by simp only [AllP, and_true]; (repeat' apply And.intro) <;> first | (with_reducible assumption) | (with_reducible rfl) | omega | (simp only [ByteArray.size_extract]; omega)) rfl (Rs.cons (by simp only [R]) Rs.nil) ?_ rfl
          first
          | (have q : bad s 8 2 = 4 := (by unfold bad; rw [if_pos (by omega)])
             simp only [rV, qV, q]; rfl)
          | (have q : bad s 8 2 = 7 := (by unfold bad; rw [if_neg (by omega), if_pos (by omega)])
             simp only [rV, qV, q]; rfl)
          | (have q : bad s 8 2 = 4 := (by unfold bad; rw [if_neg (by omega), if_neg (by omega), if_pos (by omega)])
             simp only [rV, qV, q]; rfl)
          | (have q : bad s 8 2 = 5 := (by unfold bad; rw [if_neg (by omega), if_neg (by omega), if_neg (by omega), if_pos (by omega)])
             simp only [rV, qV, q]; rfl)
          | (have q : bad s 8 2 = 0 := (by unfold bad; rw [if_neg (by omega), if_neg (by omega), if_neg (by omega), if_neg (by omega)])
             simp only [rV, qV, q, SV.toV, toVs, if_true, decide_true, Bool.true_and]
             simp only [d_byte s (by assumption), d_byte1 s (by omega), wib, tmB, wim])
        · refine leaf (rr_3 s) (by simp only [AllP, and_true]; (repeat' apply And.intro) <;> first | (with_reducible assumption) | (with_reducible rfl) | omega | (simp only [ByteArray.size_extract]; omega)) rfl (Rs.cons (by simp only [R]) Rs.nil) ?_ rfl
          first
          | (have q : bad s 8 2 = 4 := (by unfold bad; rw [if_pos (by omega)])
             simp only [rV, qV, q]; rfl)
          | (have q : bad s 8 2 = 7 := (by unfold bad; rw [if_neg (by omega), if_pos (by omega)])
             simp only [rV, qV, q]; rfl)
          | (have q : bad s 8 2 = 4 := (by unfold bad; rw [if_neg (by omega), if_neg (by omega), if_pos (by omega)])
             simp only [rV, qV, q]; rfl)
          | (have q : bad s 8 2 = 5 := (by unfold bad; rw [if_neg (by omega), if_neg (by omega), if_neg (by omega), if_pos (by omega)])
             simp only [rV, qV, q]; rfl)
          | (have q : bad s 8 2 = 0 := (by unfold bad; rw [if_neg (by omega), if_neg (by omega), if_neg (by omega), if_neg (by omega)])
             simp only [rV, qV, q, SV.toV, toVs, if_true, decide_true, Bool.true_and]
             simp only [d_byte s (by assumption), d_byte1 s (by omega), wib, tmB, wim])
end Go.Proofs.Ythmndlkhmihdhaa
