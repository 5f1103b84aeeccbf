/-
  Walks of functions, reckoned through, and what they give (part W10a). No condition beyond what each says. By an AI agent.
-/
import Derived.Test.YtmngnhbnicgjfaaWd
import Derived.Test.YtmngnhbnicgjfaaWq
import Derived.Test.YtmngnhbnicgjfaaWe
import Derived.Test.YtmngnhbnicgjfaaWf
import Derived.Test.YtmngnhbnicgjfaaWr
namespace Go.Proofs.Ytmngnhbnicgjfaa
open Go.Ex
open Go.RowKit (Below)
set_option linter.unusedVariables false
set_option linter.unusedSimpArgs false

/-! ### the plain laws -/
structure JV where
  fo : Int
  bk : Bool
  id : Int
  t : Int
  n : Int
  m : ByteArray
def JV.v (x : JV) : Value := .agg #[.int .i64 x.fo, .bool x.bk, .int .i64 x.id, .int .u32 x.t, .int .u32 x.n, .string x.m]
def JV.sv (x : JV) : SV := .agg [.val (.int .i64 x.fo), .val (.bool x.bk), .val (.int .i64 x.id), .val (.int .u32 x.t), .val (.int .u32 x.n), .val (.string x.m)]
def JV.none : JV := ⟨0, false, 0, 0, 0, ⟨#[]⟩⟩
/-- What a text is read as. -/
def dec (s : ByteArray) : JV × Int :=
  if s.size = 0 then (.none, 4)
  else if (bAt s 0).toNat / 16 ≠ 1 then (.none, 7)
  else if s.size = 10 then (⟨0, decide ((bAt s 0).toNat % 2 = 1), (bAt s 1).toNat, n4 (bAt s 2) (bAt s 3) (bAt s 4) (bAt s 5), n4 (bAt s 6) (bAt s 7) (bAt s 8) (bAt s 9), ⟨#[]⟩⟩, 0)
  else if s.size = 14 then (⟨1, decide ((bAt s 0).toNat % 2 = 1), (bAt s 1).toNat, 0, n4 (bAt s 10) (bAt s 11) (bAt s 12) (bAt s 13), ⟨(cutL s 2 8).toArray⟩⟩, 0)
  else if s.size = 22 then (⟨2, false, 0, 0, 0, ⟨(cutL s 2 20).toArray⟩⟩, 0)
  else (.none, 5)
theorem bit0 (a : UInt8) : (IntKind.u8.wrap ((BitVec.ofInt 8 (IntKind.u8.wrap (IntKind.u64.wrap ((BitVec.ofInt 64 (0 : Int) ||| BitVec.ofInt 64 (IntKind.u64.wrap (a.toNat : Int))).toNat : Int))) &&& BitVec.ofInt 8 (1 : Int)).toNat : Int) != 0) = decide (a.toNat % 2 = 1) := by
  rw [firstOr, wub, w8b, and1, wu8, Bool.eq_iff_iff]
  simp only [bne_iff_ne, ne_eq, decide_eq_true_eq]
  omega
theorem odd (a : UInt8) : ((a.toNat : Int).tmod 2 == 1) = decide (a.toNat % 2 = 1) := by
  rw [tmB, Bool.eq_iff_iff]
  simp only [beq_iff_eq, decide_eq_true_eq]
  omega
theorem cut22 (s : ByteArray) (h : s.size = 22) : s.extract 2 ((s.size : Int)).toNat = ⟨(cutL s 2 20).toArray⟩ := by
  have := cutL_eq (s := s) (i := 2) (j := 22) (by decide) (by omega)
  rw [this, h]; rfl
theorem d_byte (s : ByteArray) (h : ¬ s.size = 0) : byteAt s 0 = ((bAt s 0).toNat : Int) := byteAt_eq s 0 (by omega)

theorem dec_calls (s : ByteArray) (hs : s.size ≤ 4611686018427387904) (w : World) :
    Calls Try.prog 14 #[.string s] w (fun e w' => e = .returned (.tuple #[(dec s).1.v, .int .i64 (dec s).2]) ∧ Below w.heap.size w w') := by
  have hb := byte_lt (bAt s 0)
  rcases Bool.eq_false_or_eq_true (s.toList == (ByteArray.mk (ByteArray.mk #[]).data.toList.toArray).toList) with hb0 | hb0
  · have c0 := hb0
    simp only [decide_eq_true_eq, decide_eq_false_iff_not, beq_iff_eq, bne_iff_ne, ne_eq, beq_eq_false_iff_ne, bne_eq_false_iff_eq, Bool.not_eq_true', Bool.not_eq_false', Bool.false_eq_true, if_false, Bool.and_true, Bool.true_and, ba_beq, ba_toList_beq, ba_none, wi64, Bool.and_eq_true, Bool.and_eq_false_imp, Bool.not_eq_true, Bool.not_eq_false, beq_self_eq_true, Int.ofNat_eq_natCast, fd16, fd256, tdB, tmB, w8b, wu8] at c0
    exact leaf (d_0 s) (by simp only [AllP, and_true]; (repeat' apply And.intro) <;> first | assumption | rfl | omega) rfl (Rs.cons (by simp only [R]) Rs.nil) (by simp only [dec]; rw [if_pos (by omega)]; (try simp only [d_byte s (by assumption)]); (try rw [cut22 s (by omega)]); simp only [SV.toV, toVs, JV.v, JV.none, or4, bit0, odd, ref4]; (try simp only [ref1, firstOr]); (try simp only [w64n4, w32n4, wub, w8b, wib]); (try rfl)) rfl
  · have c0 := hb0
    simp only [decide_eq_true_eq, decide_eq_false_iff_not, beq_iff_eq, bne_iff_ne, ne_eq, beq_eq_false_iff_ne, bne_eq_false_iff_eq, Bool.not_eq_true', Bool.not_eq_false', Bool.false_eq_true, if_false, Bool.and_true, Bool.true_and, ba_beq, ba_toList_beq, ba_none, wi64, Bool.and_eq_true, Bool.and_eq_false_imp, Bool.not_eq_true, Bool.not_eq_false, beq_self_eq_true, Int.ofNat_eq_natCast, fd16, fd256, tdB, tmB, w8b, wu8] at c0
    rcases Bool.eq_false_or_eq_true ((Go.Ex.byteAt s (0 : Int)).fdiv (16 : Int) != (1 : Int)) with hb1 | hb1
    · have c1 := hb1
      simp only [decide_eq_true_eq, decide_eq_false_iff_not, beq_iff_eq, bne_iff_ne, ne_eq, beq_eq_false_iff_ne, bne_eq_false_iff_eq, Bool.not_eq_true', Bool.not_eq_false', Bool.false_eq_true, if_false, Bool.and_true, Bool.true_and, ba_beq, ba_toList_beq, ba_none, wi64, Bool.and_eq_true, Bool.and_eq_false_imp, Bool.not_eq_true, Bool.not_eq_false, beq_self_eq_true, Int.ofNat_eq_natCast, fd16, fd256, tdB, tmB, w8b, wu8, d_byte s (by assumption)] at c1
      exact leaf (d_1 s) (by simp only [AllP, and_true]; (repeat' apply And.intro) <;> first | assumption | rfl | omega) rfl (Rs.cons (by simp only [R]) Rs.nil) (by simp only [dec]; rw [if_neg (by omega), if_pos (by omega)]; (try simp only [d_byte s (by assumption)]); (try rw [cut22 s (by omega)]); simp only [SV.toV, toVs, JV.v, JV.none, or4, bit0, odd, ref4]; (try simp only [ref1, firstOr]); (try simp only [w64n4, w32n4, wub, w8b, wib]); (try rfl)) rfl
    · have c1 := hb1
      simp only [decide_eq_true_eq, decide_eq_false_iff_not, beq_iff_eq, bne_iff_ne, ne_eq, beq_eq_false_iff_ne, bne_eq_false_iff_eq, Bool.not_eq_true', Bool.not_eq_false', Bool.false_eq_true, if_false, Bool.and_true, Bool.true_and, ba_beq, ba_toList_beq, ba_none, wi64, Bool.and_eq_true, Bool.and_eq_false_imp, Bool.not_eq_true, Bool.not_eq_false, beq_self_eq_true, Int.ofNat_eq_natCast, fd16, fd256, tdB, tmB, w8b, wu8, d_byte s (by assumption)] at c1
      rcases Bool.eq_false_or_eq_true (Decidable.decide ((1 : Int) > Go.IntKind.i64.wrap ((↑s.size : Int) - (0 : Int)))) with hb2 | hb2
      · have c2 := hb2
        simp only [decide_eq_true_eq, decide_eq_false_iff_not, beq_iff_eq, bne_iff_ne, ne_eq, beq_eq_false_iff_ne, bne_eq_false_iff_eq, Bool.not_eq_true', Bool.not_eq_false', Bool.false_eq_true, if_false, Bool.and_true, Bool.true_and, ba_beq, ba_toList_beq, ba_none, wi64, Bool.and_eq_true, Bool.and_eq_false_imp, Bool.not_eq_true, Bool.not_eq_false, beq_self_eq_true, Int.ofNat_eq_natCast, fd16, fd256, tdB, tmB, w8b, wu8, d_byte s (by assumption)] at c2
        exfalso; omega
      · have c2 := hb2
        simp only [decide_eq_true_eq, decide_eq_false_iff_not, beq_iff_eq, bne_iff_ne, ne_eq, beq_eq_false_iff_ne, bne_eq_false_iff_eq, Bool.not_eq_true', Bool.not_eq_false', Bool.false_eq_true, if_false, Bool.and_true, Bool.true_and, ba_beq, ba_toList_beq, ba_none, wi64, Bool.and_eq_true, Bool.and_eq_false_imp, Bool.not_eq_true, Bool.not_eq_false, beq_self_eq_true, Int.ofNat_eq_natCast, fd16, fd256, tdB, tmB, w8b, wu8, d_byte s (by assumption)] at c2
        rcases Bool.eq_false_or_eq_true (Decidable.decide ((1 : Int) > Go.IntKind.i64.wrap ((↑s.size : Int) - (1 : Int)))) with hb3 | hb3
        · have c3 := hb3
          simp only [decide_eq_true_eq, decide_eq_false_iff_not, beq_iff_eq, bne_iff_ne, ne_eq, beq_eq_false_iff_ne, bne_eq_false_iff_eq, Bool.not_eq_true', Bool.not_eq_false', Bool.false_eq_true, if_false, Bool.and_true, Bool.true_and, ba_beq, ba_toList_beq, ba_none, wi64, Bool.and_eq_true, Bool.and_eq_false_imp, Bool.not_eq_true, Bool.not_eq_false, beq_self_eq_true, Int.ofNat_eq_natCast, fd16, fd256, tdB, tmB, w8b, wu8, d_byte s (by assumption)] at c3
          rcases Bool.eq_false_or_eq_true ((↑s.size : Int) == (10 : Int)) with hb4 | hb4
          · have c4 := hb4
            simp only [decide_eq_true_eq, decide_eq_false_iff_not, beq_iff_eq, bne_iff_ne, ne_eq, beq_eq_false_iff_ne, bne_eq_false_iff_eq, Bool.not_eq_true', Bool.not_eq_false', Bool.false_eq_true, if_false, Bool.and_true, Bool.true_and, ba_beq, ba_toList_beq, ba_none, wi64, Bool.and_eq_true, Bool.and_eq_false_imp, Bool.not_eq_true, Bool.not_eq_false, beq_self_eq_true, Int.ofNat_eq_natCast, fd16, fd256, tdB, tmB, w8b, wu8, d_byte s (by assumption)] at c4
            exfalso; omega
          · have c4 := hb4
            simp only [decide_eq_true_eq, decide_eq_false_iff_not, beq_iff_eq, bne_iff_ne, ne_eq, beq_eq_false_iff_ne, bne_eq_false_iff_eq, Bool.not_eq_true', Bool.not_eq_false', Bool.false_eq_true, if_false, Bool.and_true, Bool.true_and, ba_beq, ba_toList_beq, ba_none, wi64, Bool.and_eq_true, Bool.and_eq_false_imp, Bool.not_eq_true, Bool.not_eq_false, beq_self_eq_true, Int.ofNat_eq_natCast, fd16, fd256, tdB, tmB, w8b, wu8, d_byte s (by assumption)] at c4
            rcases Bool.eq_false_or_eq_true ((↑s.size : Int) == (14 : Int)) with hb5 | hb5
            · have c5 := hb5
              simp only [decide_eq_true_eq, decide_eq_false_iff_not, beq_iff_eq, bne_iff_ne, ne_eq, beq_eq_false_iff_ne, bne_eq_false_iff_eq, Bool.not_eq_true', Bool.not_eq_false', Bool.false_eq_true, if_false, Bool.and_true, Bool.true_and, ba_beq, ba_toList_beq, ba_none, wi64, Bool.and_eq_true, Bool.and_eq_false_imp, Bool.not_eq_true, Bool.not_eq_false, beq_self_eq_true, Int.ofNat_eq_natCast, fd16, fd256, tdB, tmB, w8b, wu8, d_byte s (by assumption)] at c5
              exfalso; omega
            · have c5 := hb5
              simp only [decide_eq_true_eq, decide_eq_false_iff_not, beq_iff_eq, bne_iff_ne, ne_eq, beq_eq_false_iff_ne, bne_eq_false_iff_eq, Bool.not_eq_true', Bool.not_eq_false', Bool.false_eq_true, if_false, Bool.and_true, Bool.true_and, ba_beq, ba_toList_beq, ba_none, wi64, Bool.and_eq_true, Bool.and_eq_false_imp, Bool.not_eq_true, Bool.not_eq_false, beq_self_eq_true, Int.ofNat_eq_natCast, fd16, fd256, tdB, tmB, w8b, wu8, d_byte s (by assumption)] at c5
              rcases Bool.eq_false_or_eq_true ((↑s.size : Int) == (22 : Int)) with hb6 | hb6
              · have c6 := hb6
                simp only [decide_eq_true_eq, decide_eq_false_iff_not, beq_iff_eq, bne_iff_ne, ne_eq, beq_eq_false_iff_ne, bne_eq_false_iff_eq, Bool.not_eq_true', Bool.not_eq_false', Bool.false_eq_true, if_false, Bool.and_true, Bool.true_and, ba_beq, ba_toList_beq, ba_none, wi64, Bool.and_eq_true, Bool.and_eq_false_imp, Bool.not_eq_true, Bool.not_eq_false, beq_self_eq_true, Int.ofNat_eq_natCast, fd16, fd256, tdB, tmB, w8b, wu8, d_byte s (by assumption)] at c6
                exfalso; omega
              · have c6 := hb6
                simp only [decide_eq_true_eq, decide_eq_false_iff_not, beq_iff_eq, bne_iff_ne, ne_eq, beq_eq_false_iff_ne, bne_eq_false_iff_eq, Bool.not_eq_true', Bool.not_eq_false', Bool.false_eq_true, if_false, Bool.and_true, Bool.true_and, ba_beq, ba_toList_beq, ba_none, wi64, Bool.and_eq_true, Bool.and_eq_false_imp, Bool.not_eq_true, Bool.not_eq_false, beq_self_eq_true, Int.ofNat_eq_natCast, fd16, fd256, tdB, tmB, w8b, wu8, d_byte s (by assumption)] at c6
                exact leaf (d_2 s) (by simp only [AllP, and_true]; (repeat' apply And.intro) <;> first | assumption | rfl | omega) rfl (Rs.cons (by simp only [R]) Rs.nil) (by simp only [dec]; rw [if_neg (by omega), if_neg (by omega), if_neg (by omega), if_neg (by omega), if_neg (by omega)]; (try simp only [d_byte s (by assumption)]); (try rw [cut22 s (by omega)]); simp only [SV.toV, toVs, JV.v, JV.none, or4, bit0, odd, ref4]; (try simp only [ref1, firstOr]); (try simp only [w64n4, w32n4, wub, w8b, wib]); (try rfl)) rfl
        · have c3 := hb3
          simp only [decide_eq_true_eq, decide_eq_false_iff_not, beq_iff_eq, bne_iff_ne, ne_eq, beq_eq_false_iff_ne, bne_eq_false_iff_eq, Bool.not_eq_true', Bool.not_eq_false', Bool.false_eq_true, if_false, Bool.and_true, Bool.true_and, ba_beq, ba_toList_beq, ba_none, wi64, Bool.and_eq_true, Bool.and_eq_false_imp, Bool.not_eq_true, Bool.not_eq_false, beq_self_eq_true, Int.ofNat_eq_natCast, fd16, fd256, tdB, tmB, w8b, wu8, d_byte s (by assumption)] at c3
          rcases Bool.eq_false_or_eq_true ((↑s.size : Int) == (10 : Int)) with hb4 | hb4
          · have c4 := hb4
            simp only [decide_eq_true_eq, decide_eq_false_iff_not, beq_iff_eq, bne_iff_ne, ne_eq, beq_eq_false_iff_ne, bne_eq_false_iff_eq, Bool.not_eq_true', Bool.not_eq_false', Bool.false_eq_true, if_false, Bool.and_true, Bool.true_and, ba_beq, ba_toList_beq, ba_none, wi64, Bool.and_eq_true, Bool.and_eq_false_imp, Bool.not_eq_true, Bool.not_eq_false, beq_self_eq_true, Int.ofNat_eq_natCast, fd16, fd256, tdB, tmB, w8b, wu8, d_byte s (by assumption)] at c4
            rcases Bool.eq_false_or_eq_true (Decidable.decide ((4 : Int) > Go.IntKind.i64.wrap ((↑s.size : Int) - (2 : Int)))) with hb5 | hb5
            · have c5 := hb5
              simp only [decide_eq_true_eq, decide_eq_false_iff_not, beq_iff_eq, bne_iff_ne, ne_eq, beq_eq_false_iff_ne, bne_eq_false_iff_eq, Bool.not_eq_true', Bool.not_eq_false', Bool.false_eq_true, if_false, Bool.and_true, Bool.true_and, ba_beq, ba_toList_beq, ba_none, wi64, Bool.and_eq_true, Bool.and_eq_false_imp, Bool.not_eq_true, Bool.not_eq_false, beq_self_eq_true, Int.ofNat_eq_natCast, fd16, fd256, tdB, tmB, w8b, wu8, d_byte s (by assumption)] at c5
              exfalso; omega
            · have c5 := hb5
              simp only [decide_eq_true_eq, decide_eq_false_iff_not, beq_iff_eq, bne_iff_ne, ne_eq, beq_eq_false_iff_ne, bne_eq_false_iff_eq, Bool.not_eq_true', Bool.not_eq_false', Bool.false_eq_true, if_false, Bool.and_true, Bool.true_and, ba_beq, ba_toList_beq, ba_none, wi64, Bool.and_eq_true, Bool.and_eq_false_imp, Bool.not_eq_true, Bool.not_eq_false, beq_self_eq_true, Int.ofNat_eq_natCast, fd16, fd256, tdB, tmB, w8b, wu8, d_byte s (by assumption)] at c5
              rcases Bool.eq_false_or_eq_true (Decidable.decide ((4 : Int) > Go.IntKind.i64.wrap ((↑s.size : Int) - (6 : Int)))) with hb6 | hb6
              · have c6 := hb6
                simp only [decide_eq_true_eq, decide_eq_false_iff_not, beq_iff_eq, bne_iff_ne, ne_eq, beq_eq_false_iff_ne, bne_eq_false_iff_eq, Bool.not_eq_true', Bool.not_eq_false', Bool.false_eq_true, if_false, Bool.and_true, Bool.true_and, ba_beq, ba_toList_beq, ba_none, wi64, Bool.and_eq_true, Bool.and_eq_false_imp, Bool.not_eq_true, Bool.not_eq_false, beq_self_eq_true, Int.ofNat_eq_natCast, fd16, fd256, tdB, tmB, w8b, wu8, d_byte s (by assumption)] at c6
                exfalso; omega
              · have c6 := hb6
                simp only [decide_eq_true_eq, decide_eq_false_iff_not, beq_iff_eq, bne_iff_ne, ne_eq, beq_eq_false_iff_ne, bne_eq_false_iff_eq, Bool.not_eq_true', Bool.not_eq_false', Bool.false_eq_true, if_false, Bool.and_true, Bool.true_and, ba_beq, ba_toList_beq, ba_none, wi64, Bool.and_eq_true, Bool.and_eq_false_imp, Bool.not_eq_true, Bool.not_eq_false, beq_self_eq_true, Int.ofNat_eq_natCast, fd16, fd256, tdB, tmB, w8b, wu8, d_byte s (by assumption)] at c6
                exact leaf (d_4 s) (by simp only [AllP, and_true]; (repeat' apply And.intro) <;> first | assumption | rfl | omega) rfl (Rs.cons (by simp only [R]) Rs.nil) (by simp only [dec]; rw [if_neg (by omega), if_neg (by omega), if_pos (by omega)]; (try simp only [d_byte s (by assumption)]); (try rw [cut22 s (by omega)]); simp only [SV.toV, toVs, JV.v, JV.none, or4, bit0, odd, ref4]; (try simp only [ref1, firstOr]); (try simp only [w64n4, w32n4, wub, w8b, wib]); (try rfl)) rfl
          · have c4 := hb4
            simp only [decide_eq_true_eq, decide_eq_false_iff_not, beq_iff_eq, bne_iff_ne, ne_eq, beq_eq_false_iff_ne, bne_eq_false_iff_eq, Bool.not_eq_true', Bool.not_eq_false', Bool.false_eq_true, if_false, Bool.and_true, Bool.true_and, ba_beq, ba_toList_beq, ba_none, wi64, Bool.and_eq_true, Bool.and_eq_false_imp, Bool.not_eq_true, Bool.not_eq_false, beq_self_eq_true, Int.ofNat_eq_natCast, fd16, fd256, tdB, tmB, w8b, wu8, d_byte s (by assumption)] at c4
            rcases Bool.eq_false_or_eq_true ((↑s.size : Int) == (14 : Int)) with hb5 | hb5
            · have c5 := hb5
              simp only [decide_eq_true_eq, decide_eq_false_iff_not, beq_iff_eq, bne_iff_ne, ne_eq, beq_eq_false_iff_ne, bne_eq_false_iff_eq, Bool.not_eq_true', Bool.not_eq_false', Bool.false_eq_true, if_false, Bool.and_true, Bool.true_and, ba_beq, ba_toList_beq, ba_none, wi64, Bool.and_eq_true, Bool.and_eq_false_imp, Bool.not_eq_true, Bool.not_eq_false, beq_self_eq_true, Int.ofNat_eq_natCast, fd16, fd256, tdB, tmB, w8b, wu8, d_byte s (by assumption)] at c5
              rcases Bool.eq_false_or_eq_true (Decidable.decide ((8 : Int) > Go.IntKind.i64.wrap ((↑s.size : Int) - (2 : Int)))) with hb6 | hb6
              · have c6 := hb6
                simp only [decide_eq_true_eq, decide_eq_false_iff_not, beq_iff_eq, bne_iff_ne, ne_eq, beq_eq_false_iff_ne, bne_eq_false_iff_eq, Bool.not_eq_true', Bool.not_eq_false', Bool.false_eq_true, if_false, Bool.and_true, Bool.true_and, ba_beq, ba_toList_beq, ba_none, wi64, Bool.and_eq_true, Bool.and_eq_false_imp, Bool.not_eq_true, Bool.not_eq_false, beq_self_eq_true, Int.ofNat_eq_natCast, fd16, fd256, tdB, tmB, w8b, wu8, d_byte s (by assumption)] at c6
                exfalso; omega
              · have c6 := hb6
                simp only [decide_eq_true_eq, decide_eq_false_iff_not, beq_iff_eq, bne_iff_ne, ne_eq, beq_eq_false_iff_ne, bne_eq_false_iff_eq, Bool.not_eq_true', Bool.not_eq_false', Bool.false_eq_true, if_false, Bool.and_true, Bool.true_and, ba_beq, ba_toList_beq, ba_none, wi64, Bool.and_eq_true, Bool.and_eq_false_imp, Bool.not_eq_true, Bool.not_eq_false, beq_self_eq_true, Int.ofNat_eq_natCast, fd16, fd256, tdB, tmB, w8b, wu8, d_byte s (by assumption)] at c6
                rcases Bool.eq_false_or_eq_true (Decidable.decide ((4 : Int) > Go.IntKind.i64.wrap ((↑s.size : Int) - (10 : Int)))) with hb7 | hb7
                · have c7 := hb7
                  simp only [decide_eq_true_eq, decide_eq_false_iff_not, beq_iff_eq, bne_iff_ne, ne_eq, beq_eq_false_iff_ne, bne_eq_false_iff_eq, Bool.not_eq_true', Bool.not_eq_false', Bool.false_eq_true, if_false, Bool.and_true, Bool.true_and, ba_beq, ba_toList_beq, ba_none, wi64, Bool.and_eq_true, Bool.and_eq_false_imp, Bool.not_eq_true, Bool.not_eq_false, beq_self_eq_true, Int.ofNat_eq_natCast, fd16, fd256, tdB, tmB, w8b, wu8, d_byte s (by assumption)] at c7
                  exfalso; omega
                · have c7 := hb7
                  simp only [decide_eq_true_eq, decide_eq_false_iff_not, beq_iff_eq, bne_iff_ne, ne_eq, beq_eq_false_iff_ne, bne_eq_false_iff_eq, Bool.not_eq_true', Bool.not_eq_false', Bool.false_eq_true, if_false, Bool.and_true, Bool.true_and, ba_beq, ba_toList_beq, ba_none, wi64, Bool.and_eq_true, Bool.and_eq_false_imp, Bool.not_eq_true, Bool.not_eq_false, beq_self_eq_true, Int.ofNat_eq_natCast, fd16, fd256, tdB, tmB, w8b, wu8, d_byte s (by assumption)] at c7
                  exact leaf (d_5 s) (by simp only [AllP, and_true]; (repeat' apply And.intro) <;> first | assumption | rfl | omega) rfl (Rs.cons (by simp only [R]) Rs.nil) (by simp only [dec]; rw [if_neg (by omega), if_neg (by omega), if_neg (by omega), if_pos (by omega)]; (try simp only [d_byte s (by assumption)]); (try rw [cut22 s (by omega)]); simp only [SV.toV, toVs, JV.v, JV.none, or4, bit0, odd, ref4]; (try simp only [ref1, firstOr]); (try simp only [w64n4, w32n4, wub, w8b, wib]); (try rfl)) rfl
            · have c5 := hb5
              simp only [decide_eq_true_eq, decide_eq_false_iff_not, beq_iff_eq, bne_iff_ne, ne_eq, beq_eq_false_iff_ne, bne_eq_false_iff_eq, Bool.not_eq_true', Bool.not_eq_false', Bool.false_eq_true, if_false, Bool.and_true, Bool.true_and, ba_beq, ba_toList_beq, ba_none, wi64, Bool.and_eq_true, Bool.and_eq_false_imp, Bool.not_eq_true, Bool.not_eq_false, beq_self_eq_true, Int.ofNat_eq_natCast, fd16, fd256, tdB, tmB, w8b, wu8, d_byte s (by assumption)] at c5
              rcases Bool.eq_false_or_eq_true ((↑s.size : Int) == (22 : Int)) with hb6 | hb6
              · have c6 := hb6
                simp only [decide_eq_true_eq, decide_eq_false_iff_not, beq_iff_eq, bne_iff_ne, ne_eq, beq_eq_false_iff_ne, bne_eq_false_iff_eq, Bool.not_eq_true', Bool.not_eq_false', Bool.false_eq_true, if_false, Bool.and_true, Bool.true_and, ba_beq, ba_toList_beq, ba_none, wi64, Bool.and_eq_true, Bool.and_eq_false_imp, Bool.not_eq_true, Bool.not_eq_false, beq_self_eq_true, Int.ofNat_eq_natCast, fd16, fd256, tdB, tmB, w8b, wu8, d_byte s (by assumption)] at c6
                rcases Bool.eq_false_or_eq_true (Decidable.decide ((20 : Int) > Go.IntKind.i64.wrap ((↑s.size : Int) - (2 : Int)))) with hb7 | hb7
                · have c7 := hb7
                  simp only [decide_eq_true_eq, decide_eq_false_iff_not, beq_iff_eq, bne_iff_ne, ne_eq, beq_eq_false_iff_ne, bne_eq_false_iff_eq, Bool.not_eq_true', Bool.not_eq_false', Bool.false_eq_true, if_false, Bool.and_true, Bool.true_and, ba_beq, ba_toList_beq, ba_none, wi64, Bool.and_eq_true, Bool.and_eq_false_imp, Bool.not_eq_true, Bool.not_eq_false, beq_self_eq_true, Int.ofNat_eq_natCast, fd16, fd256, tdB, tmB, w8b, wu8, d_byte s (by assumption)] at c7
                  exfalso; omega
                · have c7 := hb7
                  simp only [decide_eq_true_eq, decide_eq_false_iff_not, beq_iff_eq, bne_iff_ne, ne_eq, beq_eq_false_iff_ne, bne_eq_false_iff_eq, Bool.not_eq_true', Bool.not_eq_false', Bool.false_eq_true, if_false, Bool.and_true, Bool.true_and, ba_beq, ba_toList_beq, ba_none, wi64, Bool.and_eq_true, Bool.and_eq_false_imp, Bool.not_eq_true, Bool.not_eq_false, beq_self_eq_true, Int.ofNat_eq_natCast, fd16, fd256, tdB, tmB, w8b, wu8, d_byte s (by assumption)] at c7
                  exact leaf (d_6 s) (by simp only [AllP, and_true]; (repeat' apply And.intro) <;> first | assumption | rfl | omega) rfl (Rs.cons (by simp only [R]) Rs.nil) (by simp only [dec]; rw [if_neg (by omega), if_neg (by omega), if_neg (by omega), if_neg (by omega), if_pos (by omega)]; (try simp only [d_byte s (by assumption)]); (try rw [cut22 s (by omega)]); simp only [SV.toV, toVs, JV.v, JV.none, or4, bit0, odd, ref4]; (try simp only [ref1, firstOr]); (try simp only [w64n4, w32n4, wub, w8b, wib]); (try rfl)) rfl
              · have c6 := hb6
                simp only [decide_eq_true_eq, decide_eq_false_iff_not, beq_iff_eq, bne_iff_ne, ne_eq, beq_eq_false_iff_ne, bne_eq_false_iff_eq, Bool.not_eq_true', Bool.not_eq_false', Bool.false_eq_true, if_false, Bool.and_true, Bool.true_and, ba_beq, ba_toList_beq, ba_none, wi64, Bool.and_eq_true, Bool.and_eq_false_imp, Bool.not_eq_true, Bool.not_eq_false, beq_self_eq_true, Int.ofNat_eq_natCast, fd16, fd256, tdB, tmB, w8b, wu8, d_byte s (by assumption)] at c6
                exact leaf (d_3 s) (by simp only [AllP, and_true]; (repeat' apply And.intro) <;> first | assumption | rfl | omega) rfl (Rs.cons (by simp only [R]) Rs.nil) (by simp only [dec]; rw [if_neg (by omega), if_neg (by omega), if_neg (by omega), if_neg (by omega), if_neg (by omega)]; (try simp only [d_byte s (by assumption)]); (try rw [cut22 s (by omega)]); simp only [SV.toV, toVs, JV.v, JV.none, or4, bit0, odd, ref4]; (try simp only [ref1, firstOr]); (try simp only [w64n4, w32n4, wub, w8b, wib]); (try rfl)) rfl

theorem ref_dec_14 (s : ByteArray) (h : s.size = 14) (h1 : (bAt s 0).toNat / 16 = 1) (w : World) :
    Calls Try.prog 15 #[.string s] w (fun e w' => e = .returned (.tuple #[(dec s).1.v, .int .i64 (dec s).2]) ∧ Below w.heap.size w w') := by
  have hsp := spelled s h
  refine leaf (q14_0 s) ?_ rfl (Rs.cons ?_ Rs.nil) ?_ rfl
  · refine ⟨?_, ?_, trivial⟩
    · rw [ba_toList_beq, decide_eq_false_iff_not, ba_none]; show ¬ (14 = 0); decide
    simp only [decide_eq_true_eq, decide_eq_false_iff_not, beq_iff_eq, bne_iff_ne, ne_eq, beq_eq_false_iff_ne, bne_eq_false_iff_eq, Bool.not_eq_true', Bool.not_eq_false', Bool.false_eq_true, if_false, Bool.and_true, Bool.true_and, ba_beq, ba_toList_beq, ba_none, wi64, Bool.and_eq_true, Bool.and_eq_false_imp, Bool.not_eq_true, Bool.not_eq_false, beq_self_eq_true, Int.ofNat_eq_natCast, fd16, fd256, tdB, tmB, w8b, wu8]
    omega
  · simp only [R]; exact congrArg Value.string hsp
  · simp only [dec]; rw [if_neg (by omega), if_neg (by omega), if_neg (by omega), if_pos (by omega)]; (try simp only [d_byte s (by assumption)]); (try rw [cut22 s (by omega)]); simp only [SV.toV, toVs, JV.v, JV.none, or4, bit0, odd, ref4]; (try simp only [ref1, firstOr]); (try simp only [w64n4, w32n4, wub, w8b, wib]); (try rfl)

theorem ref_dec_calls (s : ByteArray) (hs : s.size ≤ 4611686018427387904) (w : World) :
    Calls Try.prog 15 #[.string s] w (fun e w' => e = .returned (.tuple #[(dec s).1.v, .int .i64 (dec s).2]) ∧ Below w.heap.size w w') := by
  have hb := byte_lt (bAt s 0)
  by_cases h14 : s.size = 14 ∧ (bAt s 0).toNat / 16 = 1
  · exact ref_dec_14 s h14.1 h14.2 w
  rcases Bool.eq_false_or_eq_true (s.toList == (ByteArray.mk (ByteArray.mk #[]).data.toList.toArray).toList) with hb0 | hb0
  · have c0 := hb0
    simp only [decide_eq_true_eq, decide_eq_false_iff_not, beq_iff_eq, bne_iff_ne, ne_eq, beq_eq_false_iff_ne, bne_eq_false_iff_eq, Bool.not_eq_true', Bool.not_eq_false', Bool.false_eq_true, if_false, Bool.and_true, Bool.true_and, ba_beq, ba_toList_beq, ba_none, wi64, Bool.and_eq_true, Bool.and_eq_false_imp, Bool.not_eq_true, Bool.not_eq_false, beq_self_eq_true, Int.ofNat_eq_natCast, fd16, fd256, tdB, tmB, w8b, wu8] at c0
    exact leaf (q_0 s) (by simp only [AllP, and_true]; (repeat' apply And.intro) <;> first | assumption | rfl | omega) rfl (Rs.cons (by simp only [R]) Rs.nil) (by simp only [dec]; rw [if_pos (by omega)]; (try simp only [d_byte s (by assumption)]); (try rw [cut22 s (by omega)]); simp only [SV.toV, toVs, JV.v, JV.none, or4, bit0, odd, ref4]; (try simp only [ref1, firstOr]); (try simp only [w64n4, w32n4, wub, w8b, wib]); (try rfl)) rfl
  · have c0 := hb0
    simp only [decide_eq_true_eq, decide_eq_false_iff_not, beq_iff_eq, bne_iff_ne, ne_eq, beq_eq_false_iff_ne, bne_eq_false_iff_eq, Bool.not_eq_true', Bool.not_eq_false', Bool.false_eq_true, if_false, Bool.and_true, Bool.true_and, ba_beq, ba_toList_beq, ba_none, wi64, Bool.and_eq_true, Bool.and_eq_false_imp, Bool.not_eq_true, Bool.not_eq_false, beq_self_eq_true, Int.ofNat_eq_natCast, fd16, fd256, tdB, tmB, w8b, wu8] at c0
    rcases Bool.eq_false_or_eq_true (Go.IntKind.u8.wrap ((Go.Ex.byteAt s (0 : Int)).tdiv (16 : Int)) != (1 : Int)) with hb1 | hb1
    · have c1 := hb1
      simp only [decide_eq_true_eq, decide_eq_false_iff_not, beq_iff_eq, bne_iff_ne, ne_eq, beq_eq_false_iff_ne, bne_eq_false_iff_eq, Bool.not_eq_true', Bool.not_eq_false', Bool.false_eq_true, if_false, Bool.and_true, Bool.true_and, ba_beq, ba_toList_beq, ba_none, wi64, Bool.and_eq_true, Bool.and_eq_false_imp, Bool.not_eq_true, Bool.not_eq_false, beq_self_eq_true, Int.ofNat_eq_natCast, fd16, fd256, tdB, tmB, w8b, wu8, d_byte s (by assumption)] at c1
      exact leaf (q_1 s) (by simp only [AllP, and_true]; (repeat' apply And.intro) <;> first | assumption | rfl | omega) rfl (Rs.cons (by simp only [R]) Rs.nil) (by simp only [dec]; rw [if_neg (by omega), if_pos (by omega)]; (try simp only [d_byte s (by assumption)]); (try rw [cut22 s (by omega)]); simp only [SV.toV, toVs, JV.v, JV.none, or4, bit0, odd, ref4]; (try simp only [ref1, firstOr]); (try simp only [w64n4, w32n4, wub, w8b, wib]); (try rfl)) rfl
    · have c1 := hb1
      simp only [decide_eq_true_eq, decide_eq_false_iff_not, beq_iff_eq, bne_iff_ne, ne_eq, beq_eq_false_iff_ne, bne_eq_false_iff_eq, Bool.not_eq_true', Bool.not_eq_false', Bool.false_eq_true, if_false, Bool.and_true, Bool.true_and, ba_beq, ba_toList_beq, ba_none, wi64, Bool.and_eq_true, Bool.and_eq_false_imp, Bool.not_eq_true, Bool.not_eq_false, beq_self_eq_true, Int.ofNat_eq_natCast, fd16, fd256, tdB, tmB, w8b, wu8, d_byte s (by assumption)] at c1
      rcases Bool.eq_false_or_eq_true (Decidable.decide ((1 : Int) > Go.IntKind.i64.wrap ((↑s.size : Int) - (0 : Int)))) with hb2 | hb2
      · have c2 := hb2
        simp only [decide_eq_true_eq, decide_eq_false_iff_not, beq_iff_eq, bne_iff_ne, ne_eq, beq_eq_false_iff_ne, bne_eq_false_iff_eq, Bool.not_eq_true', Bool.not_eq_false', Bool.false_eq_true, if_false, Bool.and_true, Bool.true_and, ba_beq, ba_toList_beq, ba_none, wi64, Bool.and_eq_true, Bool.and_eq_false_imp, Bool.not_eq_true, Bool.not_eq_false, beq_self_eq_true, Int.ofNat_eq_natCast, fd16, fd256, tdB, tmB, w8b, wu8, d_byte s (by assumption)] at c2
        exfalso; omega
      · have c2 := hb2
        simp only [decide_eq_true_eq, decide_eq_false_iff_not, beq_iff_eq, bne_iff_ne, ne_eq, beq_eq_false_iff_ne, bne_eq_false_iff_eq, Bool.not_eq_true', Bool.not_eq_false', Bool.false_eq_true, if_false, Bool.and_true, Bool.true_and, ba_beq, ba_toList_beq, ba_none, wi64, Bool.and_eq_true, Bool.and_eq_false_imp, Bool.not_eq_true, Bool.not_eq_false, beq_self_eq_true, Int.ofNat_eq_natCast, fd16, fd256, tdB, tmB, w8b, wu8, d_byte s (by assumption)] at c2
        rcases Bool.eq_false_or_eq_true ((↑s.size : Int) == (10 : Int)) with hb3 | hb3
        · have c3 := hb3
          simp only [decide_eq_true_eq, decide_eq_false_iff_not, beq_iff_eq, bne_iff_ne, ne_eq, beq_eq_false_iff_ne, bne_eq_false_iff_eq, Bool.not_eq_true', Bool.not_eq_false', Bool.false_eq_true, if_false, Bool.and_true, Bool.true_and, ba_beq, ba_toList_beq, ba_none, wi64, Bool.and_eq_true, Bool.and_eq_false_imp, Bool.not_eq_true, Bool.not_eq_false, beq_self_eq_true, Int.ofNat_eq_natCast, fd16, fd256, tdB, tmB, w8b, wu8, d_byte s (by assumption)] at c3
          rcases Bool.eq_false_or_eq_true (Decidable.decide ((1 : Int) > Go.IntKind.i64.wrap ((↑s.size : Int) - (1 : Int)))) with hb4 | hb4
          · have c4 := hb4
            simp only [decide_eq_true_eq, decide_eq_false_iff_not, beq_iff_eq, bne_iff_ne, ne_eq, beq_eq_false_iff_ne, bne_eq_false_iff_eq, Bool.not_eq_true', Bool.not_eq_false', Bool.false_eq_true, if_false, Bool.and_true, Bool.true_and, ba_beq, ba_toList_beq, ba_none, wi64, Bool.and_eq_true, Bool.and_eq_false_imp, Bool.not_eq_true, Bool.not_eq_false, beq_self_eq_true, Int.ofNat_eq_natCast, fd16, fd256, tdB, tmB, w8b, wu8, d_byte s (by assumption)] at c4
            exfalso; omega
          · have c4 := hb4
            simp only [decide_eq_true_eq, decide_eq_false_iff_not, beq_iff_eq, bne_iff_ne, ne_eq, beq_eq_false_iff_ne, bne_eq_false_iff_eq, Bool.not_eq_true', Bool.not_eq_false', Bool.false_eq_true, if_false, Bool.and_true, Bool.true_and, ba_beq, ba_toList_beq, ba_none, wi64, Bool.and_eq_true, Bool.and_eq_false_imp, Bool.not_eq_true, Bool.not_eq_false, beq_self_eq_true, Int.ofNat_eq_natCast, fd16, fd256, tdB, tmB, w8b, wu8, d_byte s (by assumption)] at c4
            rcases Bool.eq_false_or_eq_true (Decidable.decide ((4 : Int) > Go.IntKind.i64.wrap ((↑s.size : Int) - (2 : Int)))) with hb5 | hb5
            · have c5 := hb5
              simp only [decide_eq_true_eq, decide_eq_false_iff_not, beq_iff_eq, bne_iff_ne, ne_eq, beq_eq_false_iff_ne, bne_eq_false_iff_eq, Bool.not_eq_true', Bool.not_eq_false', Bool.false_eq_true, if_false, Bool.and_true, Bool.true_and, ba_beq, ba_toList_beq, ba_none, wi64, Bool.and_eq_true, Bool.and_eq_false_imp, Bool.not_eq_true, Bool.not_eq_false, beq_self_eq_true, Int.ofNat_eq_natCast, fd16, fd256, tdB, tmB, w8b, wu8, d_byte s (by assumption)] at c5
              exfalso; omega
            · have c5 := hb5
              simp only [decide_eq_true_eq, decide_eq_false_iff_not, beq_iff_eq, bne_iff_ne, ne_eq, beq_eq_false_iff_ne, bne_eq_false_iff_eq, Bool.not_eq_true', Bool.not_eq_false', Bool.false_eq_true, if_false, Bool.and_true, Bool.true_and, ba_beq, ba_toList_beq, ba_none, wi64, Bool.and_eq_true, Bool.and_eq_false_imp, Bool.not_eq_true, Bool.not_eq_false, beq_self_eq_true, Int.ofNat_eq_natCast, fd16, fd256, tdB, tmB, w8b, wu8, d_byte s (by assumption)] at c5
              rcases Bool.eq_false_or_eq_true (Decidable.decide ((4 : Int) > Go.IntKind.i64.wrap ((↑s.size : Int) - (6 : Int)))) with hb6 | hb6
              · have c6 := hb6
                simp only [decide_eq_true_eq, decide_eq_false_iff_not, beq_iff_eq, bne_iff_ne, ne_eq, beq_eq_false_iff_ne, bne_eq_false_iff_eq, Bool.not_eq_true', Bool.not_eq_false', Bool.false_eq_true, if_false, Bool.and_true, Bool.true_and, ba_beq, ba_toList_beq, ba_none, wi64, Bool.and_eq_true, Bool.and_eq_false_imp, Bool.not_eq_true, Bool.not_eq_false, beq_self_eq_true, Int.ofNat_eq_natCast, fd16, fd256, tdB, tmB, w8b, wu8, d_byte s (by assumption)] at c6
                exfalso; omega
              · have c6 := hb6
                simp only [decide_eq_true_eq, decide_eq_false_iff_not, beq_iff_eq, bne_iff_ne, ne_eq, beq_eq_false_iff_ne, bne_eq_false_iff_eq, Bool.not_eq_true', Bool.not_eq_false', Bool.false_eq_true, if_false, Bool.and_true, Bool.true_and, ba_beq, ba_toList_beq, ba_none, wi64, Bool.and_eq_true, Bool.and_eq_false_imp, Bool.not_eq_true, Bool.not_eq_false, beq_self_eq_true, Int.ofNat_eq_natCast, fd16, fd256, tdB, tmB, w8b, wu8, d_byte s (by assumption)] at c6
                exact leaf (q_3 s) (by simp only [AllP, and_true]; (repeat' apply And.intro) <;> first | assumption | rfl | omega) rfl (Rs.cons (by simp only [R]) Rs.nil) (by simp only [dec]; rw [if_neg (by omega), if_neg (by omega), if_pos (by omega)]; (try simp only [d_byte s (by assumption)]); (try rw [cut22 s (by omega)]); simp only [SV.toV, toVs, JV.v, JV.none, or4, bit0, odd, ref4]; (try simp only [ref1, firstOr]); (try simp only [w64n4, w32n4, wub, w8b, wib]); (try rfl)) rfl
        · have c3 := hb3
          simp only [decide_eq_true_eq, decide_eq_false_iff_not, beq_iff_eq, bne_iff_ne, ne_eq, beq_eq_false_iff_ne, bne_eq_false_iff_eq, Bool.not_eq_true', Bool.not_eq_false', Bool.false_eq_true, if_false, Bool.and_true, Bool.true_and, ba_beq, ba_toList_beq, ba_none, wi64, Bool.and_eq_true, Bool.and_eq_false_imp, Bool.not_eq_true, Bool.not_eq_false, beq_self_eq_true, Int.ofNat_eq_natCast, fd16, fd256, tdB, tmB, w8b, wu8, d_byte s (by assumption)] at c3
          rcases Bool.eq_false_or_eq_true ((↑s.size : Int) == (14 : Int)) with hb4 | hb4
          · have c4 := hb4
            simp only [decide_eq_true_eq, decide_eq_false_iff_not, beq_iff_eq, bne_iff_ne, ne_eq, beq_eq_false_iff_ne, bne_eq_false_iff_eq, Bool.not_eq_true', Bool.not_eq_false', Bool.false_eq_true, if_false, Bool.and_true, Bool.true_and, ba_beq, ba_toList_beq, ba_none, wi64, Bool.and_eq_true, Bool.and_eq_false_imp, Bool.not_eq_true, Bool.not_eq_false, beq_self_eq_true, Int.ofNat_eq_natCast, fd16, fd256, tdB, tmB, w8b, wu8, d_byte s (by assumption)] at c4
            exfalso; apply h14; constructor <;> omega
          · have c4 := hb4
            simp only [decide_eq_true_eq, decide_eq_false_iff_not, beq_iff_eq, bne_iff_ne, ne_eq, beq_eq_false_iff_ne, bne_eq_false_iff_eq, Bool.not_eq_true', Bool.not_eq_false', Bool.false_eq_true, if_false, Bool.and_true, Bool.true_and, ba_beq, ba_toList_beq, ba_none, wi64, Bool.and_eq_true, Bool.and_eq_false_imp, Bool.not_eq_true, Bool.not_eq_false, beq_self_eq_true, Int.ofNat_eq_natCast, fd16, fd256, tdB, tmB, w8b, wu8, d_byte s (by assumption)] at c4
            rcases Bool.eq_false_or_eq_true ((↑s.size : Int) == (22 : Int)) with hb5 | hb5
            · have c5 := hb5
              simp only [decide_eq_true_eq, decide_eq_false_iff_not, beq_iff_eq, bne_iff_ne, ne_eq, beq_eq_false_iff_ne, bne_eq_false_iff_eq, Bool.not_eq_true', Bool.not_eq_false', Bool.false_eq_true, if_false, Bool.and_true, Bool.true_and, ba_beq, ba_toList_beq, ba_none, wi64, Bool.and_eq_true, Bool.and_eq_false_imp, Bool.not_eq_true, Bool.not_eq_false, beq_self_eq_true, Int.ofNat_eq_natCast, fd16, fd256, tdB, tmB, w8b, wu8, d_byte s (by assumption)] at c5
              exact leaf (q_5 s) (by simp only [AllP, and_true]; (repeat' apply And.intro) <;> first | assumption | rfl | omega) rfl (Rs.cons (by simp only [R]) Rs.nil) (by simp only [dec]; rw [if_neg (by omega), if_neg (by omega), if_neg (by omega), if_neg (by omega), if_pos (by omega)]; (try simp only [d_byte s (by assumption)]); (try rw [cut22 s (by omega)]); simp only [SV.toV, toVs, JV.v, JV.none, or4, bit0, odd, ref4]; (try simp only [ref1, firstOr]); (try simp only [w64n4, w32n4, wub, w8b, wib]); (try rfl)) rfl
            · have c5 := hb5
              simp only [decide_eq_true_eq, decide_eq_false_iff_not, beq_iff_eq, bne_iff_ne, ne_eq, beq_eq_false_iff_ne, bne_eq_false_iff_eq, Bool.not_eq_true', Bool.not_eq_false', Bool.false_eq_true, if_false, Bool.and_true, Bool.true_and, ba_beq, ba_toList_beq, ba_none, wi64, Bool.and_eq_true, Bool.and_eq_false_imp, Bool.not_eq_true, Bool.not_eq_false, beq_self_eq_true, Int.ofNat_eq_natCast, fd16, fd256, tdB, tmB, w8b, wu8, d_byte s (by assumption)] at c5
              exact leaf (q_2 s) (by simp only [AllP, and_true]; (repeat' apply And.intro) <;> first | assumption | rfl | omega) rfl (Rs.cons (by simp only [R]) Rs.nil) (by simp only [dec]; rw [if_neg (by omega), if_neg (by omega), if_neg (by omega), if_neg (by omega), if_neg (by omega)]; (try simp only [d_byte s (by assumption)]); (try rw [cut22 s (by omega)]); simp only [SV.toV, toVs, JV.v, JV.none, or4, bit0, odd, ref4]; (try simp only [ref1, firstOr]); (try simp only [w64n4, w32n4, wub, w8b, wib]); (try rfl)) rfl

end Go.Proofs.Ytmngnhbnicgjfaa