/-
  Walks of functions, reckoned through, and what they give (part W10jb). No condition beyond what each says. By an AI agent.
-/
import Derived.Test.YtmngnhbnicgjfaaW10ja
namespace Go.Proofs.Ytmngnhbnicgjfaa
open Go.Ex
open Go.RowKit (Below)
set_option linter.unusedVariables false
set_option linter.unusedSimpArgs false

set_option maxHeartbeats 4000000 in
theorem walk (s : ByteArray) (what bi : Int) (hz : s.size ≤ 140737488355328) (kw : 0 ≤ what ∧ what < 256) (kb : 0 ≤ bi ∧ bi < 256) (w : World) : Calls Try.prog 6 #[.string s, .int .u8 what, .int .u8 bi] w (fun e w' => e = .returned (.bool true) ∧ Below w.heap.size w w') := by
  have hargs : Rs [] [.val (.string s), .val (.int .u8 what), .val (.int .u8 bi)] [.string s, .int .u8 what, .int .u8 bi] := Rs.cons (by simp only [R]) (Rs.cons (by simp only [R]) (Rs.cons (by simp only [R]) Rs.nil))
  have tz := T_size s
  have s1 : s.size + 22 ≤ 9223372036854775807 := by omega
  have s10 : 10 ≤ (T s).size := by omega
  have s14 : 14 ≤ (T s).size := by omega
  have s22 : 22 ≤ (T s).size := by omega
  have hw : IntKind.i64.wrap (what.tmod 3) = what % 3 := by rw [tm _ _ kw.1, wi64]; omega
  have big : ∀ n : Nat, n ≤ 22 → n ≤ 4611686018427387904 := fun n h => by omega
  by_cases c0 : what % 3 = 0
  · have zB : (B10 s).size ≤ 4611686018427387904 := big _ (by show 10 ≤ 22; decide)
    have zO : (O10 s bi).size ≤ 4611686018427387904 := big _ (by show 10 ≤ 22; decide)
    have zf : (F10 s).fo = 0 := rfl
    exact leaf (jpass_0 s what bi) (by simp only [AllP, and_true, true_and, hw, c0, s1, s10, s14, s22, zB, zO, zf, B10_dec, O10_dec s bi kb, F10_enc, (F10_t s).1, (F10_t s).2, (F10_n s).1, (F10_n s).2, F10_m, beq_self_eq_true, bne_self_eq_false, ba_beq, show ((0 : Int) == 2) = false from rfl, show ((1 : Int) == 2) = false from rfl, Bool.and_true, Bool.and_self, Bool.false_eq_true, if_false, Bool.not_true, Bool.not_false, decide_true]) rfl hargs (by simp only [SV.toV, B10_dec, F10_enc, beq_self_eq_true]) rfl
  by_cases c1 : what % 3 = 1
  · have zB : (B14 s).size ≤ 4611686018427387904 := big _ (by show 14 ≤ 22; decide)
    have zO : (O14 s bi).size ≤ 4611686018427387904 := big _ (by show 14 ≤ 22; decide)
    have zf : (F14 s).fo = 1 := rfl
    exact leaf (jpass_1 s what bi) (by simp only [AllP, and_true, true_and, hw, c1, s1, s10, s14, s22, zB, zO, zf, B14_dec, O14_dec s bi kb, F14_enc, (F14_t s).1, (F14_t s).2, (F14_n s).1, (F14_n s).2, F14_m, beq_self_eq_true, bne_self_eq_false, ba_beq, show ((0 : Int) == 2) = false from rfl, show ((1 : Int) == 2) = false from rfl, Bool.and_true, Bool.and_self, Bool.false_eq_true, if_false, Bool.not_true, Bool.not_false, decide_true]) rfl hargs (by simp only [SV.toV, B14_dec, F14_enc, beq_self_eq_true]) rfl
  have c2 : what % 3 = 2 := by omega
  have zB : (B22 s).size ≤ 4611686018427387904 := big _ (by show 22 ≤ 22; decide)
  have zO : (O22 s bi).size ≤ 4611686018427387904 := big _ (by show 22 ≤ 22; decide)
  have zf : (F22 s).fo = 2 := rfl
  exact leaf (jpass_2 s what bi) (by simp only [AllP, and_true, true_and, hw, c2, s1, s10, s14, s22, zB, zO, zf, B22_dec, O22_dec s bi kb, F22_enc, (F22_t s).1, (F22_t s).2, (F22_n s).1, (F22_n s).2, F22_m, beq_self_eq_true, bne_self_eq_false, ba_beq, show ((0 : Int) == 2) = false from rfl, show ((1 : Int) == 2) = false from rfl, Bool.and_true, Bool.and_self, Bool.false_eq_true, if_false, Bool.not_true, Bool.not_false, decide_true]) rfl hargs (by simp only [SV.toV, B22_dec, F22_enc, beq_self_eq_true]) rfl
end Go.Proofs.Ytmngnhbnicgjfaa
