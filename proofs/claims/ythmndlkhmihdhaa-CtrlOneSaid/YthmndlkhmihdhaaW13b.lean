/-
  Walks of functions, reckoned through, and what they give (part W13b). No condition beyond what each says. By an AI agent.
-/
import Derived.Test.YthmndlkhmihdhaaW13a
namespace Go.Proofs.Ythmndlkhmihdhaa
open Go.Ex
open Go.RowKit (Below)
set_option linter.unusedVariables false
set_option linter.unusedSimpArgs false

theorem pf {n k : Int} (hk : 0 ≤ k) : UInt8.ofNat (IntKind.u8.wrap (n.fdiv k)).toNat = byK k n := by
  apply byK_of; rw [wu8, fd _ _ hk]
theorem pg (n : Int) : UInt8.ofNat (IntKind.u8.wrap n).toNat = byK 1 n := by
  apply byK_of; rw [wu8, Int.ediv_one]
theorem pg1 (n : Int) : UInt8.ofNat (IntKind.u8.wrap (n.fdiv 256)).toNat = byK 256 n := by
  apply byK_of; rw [wu8]; simp only [fd256] <;> omega
theorem pg2 (n : Int) : UInt8.ofNat (IntKind.u8.wrap ((n.fdiv 256).fdiv 256)).toNat = byK 65536 n := by
  apply byK_of; rw [wu8]; simp only [fd256] <;> omega
theorem pg3 (n : Int) : UInt8.ofNat (IntKind.u8.wrap (((n.fdiv 256).fdiv 256).fdiv 256)).toNat = byK 16777216 n := by
  apply byK_of; rw [wu8]; simp only [fd256] <;> omega
theorem pg4 (n : Int) : UInt8.ofNat (IntKind.u8.wrap ((((n.fdiv 256).fdiv 256).fdiv 256).fdiv 256)).toNat = byK 4294967296 n := by
  apply byK_of; rw [wu8]; simp only [fd256] <;> omega
theorem pg5 (n : Int) : UInt8.ofNat (IntKind.u8.wrap (((((n.fdiv 256).fdiv 256).fdiv 256).fdiv 256).fdiv 256)).toNat = byK 1099511627776 n := by
  apply byK_of; rw [wu8]; simp only [fd256] <;> omega
theorem pg6 (n : Int) : UInt8.ofNat (IntKind.u8.wrap ((((((n.fdiv 256).fdiv 256).fdiv 256).fdiv 256).fdiv 256).fdiv 256)).toNat = byK 281474976710656 n := by
  apply byK_of; rw [wu8]; simp only [fd256] <;> omega
theorem pg7 (n : Int) : UInt8.ofNat (IntKind.u8.wrap (((((((n.fdiv 256).fdiv 256).fdiv 256).fdiv 256).fdiv 256).fdiv 256).fdiv 256)).toNat = byK 72057594037927936 n := by
  apply byK_of; rw [wu8]; simp only [fd256] <;> omega

/-- The body of a number. -/
def nL (sub : Nat) (n : Int) : List UInt8 := [UInt8.ofNat (sub * 16), UInt8.ofNat 0, byK 72057594037927936 n, byK 281474976710656 n, byK 1099511627776 n, byK 4294967296 n, byK 16777216 n, byK 65536 n, byK 256 n, byK 1 n]
def pL (b : Bool) : List UInt8 := if b then [UInt8.ofNat 81] else [UInt8.ofNat 80]
def rOk (a b : Int) : Bool := decide (0 ≤ a ∧ a ≤ 15 ∧ 0 ≤ b ∧ b ≤ 255)
def rL (a b : Int) : List UInt8 := if rOk a b then [byK 1 (128 + a), byK 1 b] else []
def rE (a b : Int) : Int := if rOk a b then 0 else 2
theorem rnum (a b : Int) (ha : 0 ≤ a ∧ a ≤ 15) (hb : 0 ≤ b ∧ b ≤ 255) :
    IntKind.u64.wrap (IntKind.u16.wrap (IntKind.i64.wrap ((BitVec.ofInt 64 (IntKind.i64.wrap ((BitVec.ofInt 64 32768 ||| BitVec.ofInt 64 (IntKind.i64.wrap (a * 256))).toNat : Int)) ||| BitVec.ofInt 64 b).toNat : Int))) = (128 + a) * 256 + b := by
  have e1 : IntKind.i64.wrap (a * 256) = a * 256 := by rw [wi64]; omega
  have e2 : ((BitVec.ofInt 64 32768 ||| BitVec.ofInt 64 (a * 256)).toNat : Int) = (128 + a) * 256 := by
    obtain ⟨x, rfl⟩ := Int.eq_ofNat_of_zero_le ha.1
    have e : ((x : Int) * 256) = ((x * 256 : Nat) : Int) := by omega
    rw [e, show (32768 : Int) = ((32768 : Nat) : Int) from rfl, BitVec.ofInt_natCast, BitVec.ofInt_natCast, BitVec.toNat_or, BitVec.toNat_ofNat, BitVec.toNat_ofNat, Nat.mod_eq_of_lt (by omega), Nat.mod_eq_of_lt (by omega)]
    have := Nat.shiftLeft_add_eq_or_of_lt (i := 12) (b := x * 256) (by omega) 8
    rw [show 8 <<< 12 = 32768 from rfl] at this
    rw [← this]; omega
  rw [e1, e2]
  have e3 : IntKind.i64.wrap ((128 + a) * 256) = (128 + a) * 256 := by rw [wi64]; omega
  rw [e3, orI _ _ (by omega) (by omega) hb.1 (by omega), wi64, wu16, wu64]; omega
theorem p1a (a b : Int) (ha : 0 ≤ a ∧ a ≤ 15) (hb : 0 ≤ b ∧ b ≤ 255) : UInt8.ofNat (IntKind.u8.wrap (((128 + a) * 256 + b).fdiv 256)).toNat = byK 1 (128 + a) := by
  apply byK_of; rw [wu8, fd256]; omega
theorem p1b (a b : Int) (ha : 0 ≤ a ∧ a ≤ 15) (hb : 0 ≤ b ∧ b ≤ 255) : UInt8.ofNat (IntKind.u8.wrap ((128 + a) * 256 + b)).toNat = byK 1 b := by
  apply byK_of; rw [wu8]; omega
theorem p2a (a : Int) (ha : 0 ≤ a ∧ a ≤ 15) : UInt8.ofNat (IntKind.u8.wrap ((IntKind.u64.wrap (IntKind.i64.wrap (128 + a))).fdiv 1)).toNat = byK 1 (128 + a) := by
  apply byK_of; rw [wu8, fd _ _ (by decide), wu64, wi64]; omega
theorem p2b (b : Int) (hb : 0 ≤ b ∧ b ≤ 255) : UInt8.ofNat (IntKind.u8.wrap ((IntKind.u64.wrap b).fdiv 1)).toNat = byK 1 b := by
  apply byK_of; rw [wu8, fd _ _ (by decide), wu64]; omega
theorem fd0 (x k : Int) (hk : 0 < k) : x.fdiv k = 0 ↔ 0 ≤ x ∧ x < k := by
  rw [fd _ _ (by omega)]
  constructor
  · intro h
    have h1 := Int.emod_add_mul_ediv x k
    rw [h] at h1
    have h2 := Int.emod_nonneg x (show k ≠ 0 by omega)
    have h3 := Int.emod_lt_of_pos x hk
    simp only [Int.mul_zero, Int.add_zero] at h1
    omega
  · intro ⟨h1, h2⟩
    exact Int.ediv_eq_zero_of_lt h1 h2

theorem ep_calls (b : Bool) (w : World) : Calls Try.prog 8 #[.agg #[.bool b]] w (fun e w' => e = .returned (.tuple #[.string ⟨(pL b).toArray⟩, .int .i64 0]) ∧ Below w.heap.size w w') := by
  cases b
  · exact leaf (ep_1 false) (by simp [AllP]) rfl (Rs.cons (by exact ⟨_, rfl, by simp [Rs, R]⟩) Rs.nil) rfl rfl
  · exact leaf (ep_0 true) (by simp [AllP]) rfl (Rs.cons (by exact ⟨_, rfl, by simp [Rs, R]⟩) Rs.nil) rfl rfl
theorem xp_calls (b : Bool) (w : World) : Calls Try.prog 11 #[.agg #[.bool b]] w (fun e w' => e = .returned (.string ⟨(pL b).toArray⟩) ∧ Below w.heap.size w w') := by
  cases b
  · exact leaf (xp_1 false) (by simp [AllP]) rfl (Rs.cons (by exact ⟨_, rfl, by simp [Rs, R]⟩) Rs.nil) rfl rfl
  · exact leaf (xp_0 true) (by simp [AllP]) rfl (Rs.cons (by exact ⟨_, rfl, by simp [Rs, R]⟩) Rs.nil) rfl rfl
theorem ef_calls (n : Int) (w : World) : Calls Try.prog 9 #[.agg #[.int .u64 n]] w (fun e w' => e = .returned (.tuple #[.string ⟨(nL 6 n).toArray⟩, .int .i64 0]) ∧ Below w.heap.size w w') := by
  refine leaf (ef_0 n) (by simp [AllP]) rfl (Rs.cons (by exact ⟨_, rfl, by simp [Rs, R]⟩) Rs.nil) ?_ rfl
  simp only [SV.toV, toVs, nL]
  (try simp only [pg7])
  (try simp only [pg6])
  (try simp only [pg5])
  (try simp only [pg4])
  (try simp only [pg3])
  (try simp only [pg2])
  (try simp only [pg1])
  (try simp only [pg])
  (try rfl)
theorem ek_calls (n : Int) (w : World) : Calls Try.prog 10 #[.agg #[.int .u64 n]] w (fun e w' => e = .returned (.tuple #[.string ⟨(nL 7 n).toArray⟩, .int .i64 0]) ∧ Below w.heap.size w w') := by
  refine leaf (ek_0 n) (by simp [AllP]) rfl (Rs.cons (by exact ⟨_, rfl, by simp [Rs, R]⟩) Rs.nil) ?_ rfl
  simp only [SV.toV, toVs, nL]
  (try simp only [pg7])
  (try simp only [pg6])
  (try simp only [pg5])
  (try simp only [pg4])
  (try simp only [pg3])
  (try simp only [pg2])
  (try simp only [pg1])
  (try simp only [pg])
  (try rfl)
theorem xf_calls (n : Int) (w : World) : Calls Try.prog 12 #[.agg #[.int .u64 n]] w (fun e w' => e = .returned (.string ⟨(nL 6 n).toArray⟩) ∧ Below w.heap.size w w') := by
  refine leaf (xf_0 n) (by simp [AllP]) rfl (Rs.cons (by exact ⟨_, rfl, by simp [Rs, R]⟩) Rs.nil) ?_ rfl
  simp only [SV.toV, toVs, nL]
  simp only [pf (show (0 : Int) ≤ 72057594037927936 by decide), pf (show (0 : Int) ≤ 281474976710656 by decide), pf (show (0 : Int) ≤ 1099511627776 by decide), pf (show (0 : Int) ≤ 4294967296 by decide), pf (show (0 : Int) ≤ 16777216 by decide), pf (show (0 : Int) ≤ 65536 by decide), pf (show (0 : Int) ≤ 256 by decide), pf (show (0 : Int) ≤ 1 by decide)]
  (try rfl)
theorem xk_calls (n : Int) (w : World) : Calls Try.prog 13 #[.agg #[.int .u64 n]] w (fun e w' => e = .returned (.string ⟨(nL 7 n).toArray⟩) ∧ Below w.heap.size w w') := by
  refine leaf (xk_0 n) (by simp [AllP]) rfl (Rs.cons (by exact ⟨_, rfl, by simp [Rs, R]⟩) Rs.nil) ?_ rfl
  simp only [SV.toV, toVs, nL]
  simp only [pf (show (0 : Int) ≤ 72057594037927936 by decide), pf (show (0 : Int) ≤ 281474976710656 by decide), pf (show (0 : Int) ≤ 1099511627776 by decide), pf (show (0 : Int) ≤ 4294967296 by decide), pf (show (0 : Int) ≤ 16777216 by decide), pf (show (0 : Int) ≤ 65536 by decide), pf (show (0 : Int) ≤ 256 by decide), pf (show (0 : Int) ≤ 1 by decide)]
  (try rfl)
theorem er_calls (a b : Int) (w : World) : Calls Try.prog 14 #[.agg #[.int .i64 a, .int .i64 b]] w (fun e w' => e = .returned (.tuple #[.string ⟨(rL a b).toArray⟩, .int .i64 (rE a b)]) ∧ Below w.heap.size w w') := by
  rcases Bool.eq_false_or_eq_true (a.fdiv (16 : Int) != (0 : Int)) with hb0 | hb0 <;> have c0 := hb0 <;> try simp only [decide_eq_true_eq, decide_eq_false_iff_not, beq_iff_eq, bne_iff_ne, ne_eq, beq_eq_false_iff_ne, bne_eq_false_iff_eq, Bool.not_eq_true', Bool.not_eq_false', Bool.false_eq_true, if_false, Bool.and_true, Bool.true_and, ba_beq, ba_toList_beq, ba_none, Bool.and_eq_true, Bool.and_eq_false_imp, Bool.not_eq_true, Bool.not_eq_false, beq_self_eq_true, Int.ofNat_eq_natCast, fd0 _ _ (show (0 : Int) < 16 by decide), fd0 _ _ (show (0 : Int) < 256 by decide)] at c0
  · refine leaf (er_1 a b) (by simp only [AllP, and_true]; (repeat' apply And.intro) <;> first | (with_reducible assumption) | (with_reducible rfl) | omega) rfl (Rs.cons (by exact ⟨_, rfl, by simp [Rs, R]⟩) Rs.nil) ?_ rfl
    have q : rOk a b = false := decide_eq_false (by omega)
    simp only [rL, rE, q, if_false, Bool.false_eq_true]; rfl
  · rcases Bool.eq_false_or_eq_true (b.fdiv (256 : Int) != (0 : Int)) with hb1 | hb1 <;> have c1 := hb1 <;> try simp only [decide_eq_true_eq, decide_eq_false_iff_not, beq_iff_eq, bne_iff_ne, ne_eq, beq_eq_false_iff_ne, bne_eq_false_iff_eq, Bool.not_eq_true', Bool.not_eq_false', Bool.false_eq_true, if_false, Bool.and_true, Bool.true_and, ba_beq, ba_toList_beq, ba_none, Bool.and_eq_true, Bool.and_eq_false_imp, Bool.not_eq_true, Bool.not_eq_false, beq_self_eq_true, Int.ofNat_eq_natCast, fd0 _ _ (show (0 : Int) < 16 by decide), fd0 _ _ (show (0 : Int) < 256 by decide)] at c1
    · refine leaf (er_2 a b) (by simp only [AllP, and_true]; (repeat' apply And.intro) <;> first | (with_reducible assumption) | (with_reducible rfl) | omega) rfl (Rs.cons (by exact ⟨_, rfl, by simp [Rs, R]⟩) Rs.nil) ?_ rfl
      have q : rOk a b = false := decide_eq_false (by omega)
      simp only [rL, rE, q, if_false, Bool.false_eq_true]; rfl
    · refine leaf (er_0 a b) (by simp only [AllP, and_true]; (repeat' apply And.intro) <;> first | (with_reducible assumption) | (with_reducible rfl) | omega) rfl (Rs.cons (by exact ⟨_, rfl, by simp [Rs, R]⟩) Rs.nil) ?_ rfl
      have q : rOk a b = true := decide_eq_true (by omega)
      simp only [SV.toV, toVs, rL, rE, q, if_true, rnum a b (by omega) (by omega), p1a a b (by omega) (by omega), p1b a b (by omega) (by omega)]

theorem xr_calls (a b : Int) (w : World) : Calls Try.prog 15 #[.agg #[.int .i64 a, .int .i64 b]] w (fun e w' => e = .returned (.tuple #[.string ⟨(rL a b).toArray⟩, .int .i64 (rE a b)]) ∧ Below w.heap.size w w') := by
  rcases Bool.eq_false_or_eq_true (Decidable.decide (a < (0 : Int))) with hb0 | hb0 <;> have c0 := hb0 <;> try simp only [decide_eq_true_eq, decide_eq_false_iff_not, beq_iff_eq, bne_iff_ne, ne_eq, beq_eq_false_iff_ne, bne_eq_false_iff_eq, Bool.not_eq_true', Bool.not_eq_false', Bool.false_eq_true, if_false, Bool.and_true, Bool.true_and, ba_beq, ba_toList_beq, ba_none, Bool.and_eq_true, Bool.and_eq_false_imp, Bool.not_eq_true, Bool.not_eq_false, beq_self_eq_true, Int.ofNat_eq_natCast] at c0
  · refine leaf (xr_3 a b) (by simp only [AllP, and_true]; (repeat' apply And.intro) <;> first | (with_reducible assumption) | (with_reducible rfl) | omega) rfl (Rs.cons (by exact ⟨_, rfl, by simp [Rs, R]⟩) Rs.nil) ?_ rfl
    have q : rOk a b = false := decide_eq_false (by omega)
    simp only [rL, rE, q, if_false, Bool.false_eq_true]; rfl
  · rcases Bool.eq_false_or_eq_true (Decidable.decide (a > (15 : Int))) with hb1 | hb1 <;> have c1 := hb1 <;> try simp only [decide_eq_true_eq, decide_eq_false_iff_not, beq_iff_eq, bne_iff_ne, ne_eq, beq_eq_false_iff_ne, bne_eq_false_iff_eq, Bool.not_eq_true', Bool.not_eq_false', Bool.false_eq_true, if_false, Bool.and_true, Bool.true_and, ba_beq, ba_toList_beq, ba_none, Bool.and_eq_true, Bool.and_eq_false_imp, Bool.not_eq_true, Bool.not_eq_false, beq_self_eq_true, Int.ofNat_eq_natCast] at c1
    · refine leaf (xr_1 a b) (by simp only [AllP, and_true]; (repeat' apply And.intro) <;> first | (with_reducible assumption) | (with_reducible rfl) | omega) rfl (Rs.cons (by exact ⟨_, rfl, by simp [Rs, R]⟩) Rs.nil) ?_ rfl
      have q : rOk a b = false := decide_eq_false (by omega)
      simp only [rL, rE, q, if_false, Bool.false_eq_true]; rfl
    · rcases Bool.eq_false_or_eq_true (Decidable.decide (b < (0 : Int))) with hb2 | hb2 <;> have c2 := hb2 <;> try simp only [decide_eq_true_eq, decide_eq_false_iff_not, beq_iff_eq, bne_iff_ne, ne_eq, beq_eq_false_iff_ne, bne_eq_false_iff_eq, Bool.not_eq_true', Bool.not_eq_false', Bool.false_eq_true, if_false, Bool.and_true, Bool.true_and, ba_beq, ba_toList_beq, ba_none, Bool.and_eq_true, Bool.and_eq_false_imp, Bool.not_eq_true, Bool.not_eq_false, beq_self_eq_true, Int.ofNat_eq_natCast] at c2
      · refine leaf (xr_4 a b) (by simp only [AllP, and_true]; (repeat' apply And.intro) <;> first | (with_reducible assumption) | (with_reducible rfl) | omega) rfl (Rs.cons (by exact ⟨_, rfl, by simp [Rs, R]⟩) Rs.nil) ?_ rfl
        have q : rOk a b = false := decide_eq_false (by omega)
        simp only [rL, rE, q, if_false, Bool.false_eq_true]; rfl
      · rcases Bool.eq_false_or_eq_true (Decidable.decide (b > (255 : Int))) with hb3 | hb3 <;> have c3 := hb3 <;> try simp only [decide_eq_true_eq, decide_eq_false_iff_not, beq_iff_eq, bne_iff_ne, ne_eq, beq_eq_false_iff_ne, bne_eq_false_iff_eq, Bool.not_eq_true', Bool.not_eq_false', Bool.false_eq_true, if_false, Bool.and_true, Bool.true_and, ba_beq, ba_toList_beq, ba_none, Bool.and_eq_true, Bool.and_eq_false_imp, Bool.not_eq_true, Bool.not_eq_false, beq_self_eq_true, Int.ofNat_eq_natCast] at c3
        · refine leaf (xr_2 a b) (by simp only [AllP, and_true]; (repeat' apply And.intro) <;> first | (with_reducible assumption) | (with_reducible rfl) | omega) rfl (Rs.cons (by exact ⟨_, rfl, by simp [Rs, R]⟩) Rs.nil) ?_ rfl
          have q : rOk a b = false := decide_eq_false (by omega)
          simp only [rL, rE, q, if_false, Bool.false_eq_true]; rfl
        · refine leaf (xr_0 a b) (by simp only [AllP, and_true]; (repeat' apply And.intro) <;> first | (with_reducible assumption) | (with_reducible rfl) | omega) rfl (Rs.cons (by exact ⟨_, rfl, by simp [Rs, R]⟩) Rs.nil) ?_ rfl
          have q : rOk a b = true := decide_eq_true (by omega)
          simp only [SV.toV, toVs, rL, rE, q, if_true, p2a a (by omega), p2b b (by omega)]
end Go.Proofs.Ythmndlkhmihdhaa
