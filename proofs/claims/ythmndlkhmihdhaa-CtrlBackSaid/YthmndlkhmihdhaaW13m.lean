/-
  Walks of functions, reckoned through, and what they give (part W13m). No condition beyond what each says. By an AI agent.
-/
import Derived.Test.YthmndlkhmihdhaaW13l
namespace Go.Proofs.Ythmndlkhmihdhaa
open Go.Ex
open Go.RowKit (Below)
set_option linter.unusedVariables false
set_option linter.unusedSimpArgs false
set_option maxRecDepth 1000000 in
theorem back_0 (p : Bool) (n : Int) (a : Int) (b : Int) : gives (callR Y (run Y (100 : Nat)) (5 : FuncId) [SV.agg [SV.val (Value.bool p)], SV.val (Value.int IntKind.u64 n), SV.agg [SV.val (Value.int IntKind.i64 a), SV.val (Value.int IntKind.i64 b)]] [] [false, false, false, false, false, false, false, true, true]) (SV.val (Value.bool ((↑(rB a b).size : Int) == (2 : Int)))) [True, True, True, (pB p).size ≤ (4611686018427387904 : Nat), (nB (6 : Nat) n).size ≤ (4611686018427387904 : Nat), (nB (7 : Nat) n).size ≤ (4611686018427387904 : Nat), (if false = true then pV (pB p) == p && true else !(pV (pB p) == p && true)) = false, (bad (pB p) (5 : Nat) (1 : Nat) != (0 : Int)) = false, (nV (nB (6 : Nat) n) (6 : Nat) != n) = false, (bad (nB (6 : Nat) n) (6 : Nat) (10 : Nat) != (0 : Int)) = false, (nV (nB (7 : Nat) n) (7 : Nat) != n) = false, (bad (nB (7 : Nat) n) (7 : Nat) (10 : Nat) != (0 : Int)) = false, True, (rE a b != (0 : Int)) = false, (rB a b).size ≤ (4611686018427387904 : Nat), (if true = true then rV (rB a b) == a && (qV (rB a b) == b && true) else !(rV (rB a b) == a && (qV (rB a b) == b && true))) = true, (bad (rB a b) (8 : Nat) (2 : Nat) == (0 : Int)) = true] := by unfold gives; kernel_rfl
set_option maxRecDepth 1000000 in
theorem back_1 (p : Bool) (n : Int) (a : Int) (b : Int) : gives (callR Y (run Y (100 : Nat)) (5 : FuncId) [SV.agg [SV.val (Value.bool p)], SV.val (Value.int IntKind.u64 n), SV.agg [SV.val (Value.int IntKind.i64 a), SV.val (Value.int IntKind.i64 b)]] [] [false, false, false, false, false, false, true, true, true]) (SV.bol true) [True, True, True, (pB p).size ≤ (4611686018427387904 : Nat), (nB (6 : Nat) n).size ≤ (4611686018427387904 : Nat), (nB (7 : Nat) n).size ≤ (4611686018427387904 : Nat), (if false = true then pV (pB p) == p && true else !(pV (pB p) == p && true)) = false, (bad (pB p) (5 : Nat) (1 : Nat) != (0 : Int)) = false, (nV (nB (6 : Nat) n) (6 : Nat) != n) = false, (bad (nB (6 : Nat) n) (6 : Nat) (10 : Nat) != (0 : Int)) = false, (nV (nB (7 : Nat) n) (7 : Nat) != n) = false, (bad (nB (7 : Nat) n) (7 : Nat) (10 : Nat) != (0 : Int)) = false, True, (rE a b != (0 : Int)) = true, ((rB a b).toList == (ByteArray.mk (ByteArray.mk #[]).data.toList.toArray).toList) = true, decide (a < (0 : Int)) = true] := by unfold gives; kernel_rfl
set_option maxRecDepth 1000000 in
theorem back_2 (p : Bool) (n : Int) (a : Int) (b : Int) : gives (callR Y (run Y (100 : Nat)) (5 : FuncId) [SV.agg [SV.val (Value.bool p)], SV.val (Value.int IntKind.u64 n), SV.agg [SV.val (Value.int IntKind.i64 a), SV.val (Value.int IntKind.i64 b)]] [] [false, false, false, false, false, false, true, true, false, true]) (SV.bol true) [True, True, True, (pB p).size ≤ (4611686018427387904 : Nat), (nB (6 : Nat) n).size ≤ (4611686018427387904 : Nat), (nB (7 : Nat) n).size ≤ (4611686018427387904 : Nat), (if false = true then pV (pB p) == p && true else !(pV (pB p) == p && true)) = false, (bad (pB p) (5 : Nat) (1 : Nat) != (0 : Int)) = false, (nV (nB (6 : Nat) n) (6 : Nat) != n) = false, (bad (nB (6 : Nat) n) (6 : Nat) (10 : Nat) != (0 : Int)) = false, (nV (nB (7 : Nat) n) (7 : Nat) != n) = false, (bad (nB (7 : Nat) n) (7 : Nat) (10 : Nat) != (0 : Int)) = false, True, (rE a b != (0 : Int)) = true, ((rB a b).toList == (ByteArray.mk (ByteArray.mk #[]).data.toList.toArray).toList) = true, decide (a < (0 : Int)) = false, decide (a > (15 : Int)) = true] := by unfold gives; kernel_rfl
set_option maxRecDepth 1000000 in
theorem back_3 (p : Bool) (n : Int) (a : Int) (b : Int) : gives (callR Y (run Y (100 : Nat)) (5 : FuncId) [SV.agg [SV.val (Value.bool p)], SV.val (Value.int IntKind.u64 n), SV.agg [SV.val (Value.int IntKind.i64 a), SV.val (Value.int IntKind.i64 b)]] [] [false, false, false, false, false, false, true, true, false, false, true]) (SV.bol true) [True, True, True, (pB p).size ≤ (4611686018427387904 : Nat), (nB (6 : Nat) n).size ≤ (4611686018427387904 : Nat), (nB (7 : Nat) n).size ≤ (4611686018427387904 : Nat), (if false = true then pV (pB p) == p && true else !(pV (pB p) == p && true)) = false, (bad (pB p) (5 : Nat) (1 : Nat) != (0 : Int)) = false, (nV (nB (6 : Nat) n) (6 : Nat) != n) = false, (bad (nB (6 : Nat) n) (6 : Nat) (10 : Nat) != (0 : Int)) = false, (nV (nB (7 : Nat) n) (7 : Nat) != n) = false, (bad (nB (7 : Nat) n) (7 : Nat) (10 : Nat) != (0 : Int)) = false, True, (rE a b != (0 : Int)) = true, ((rB a b).toList == (ByteArray.mk (ByteArray.mk #[]).data.toList.toArray).toList) = true, decide (a < (0 : Int)) = false, decide (a > (15 : Int)) = false, decide (b < (0 : Int)) = true] := by unfold gives; kernel_rfl
set_option maxRecDepth 1000000 in
theorem back_4 (p : Bool) (n : Int) (a : Int) (b : Int) : gives (callR Y (run Y (100 : Nat)) (5 : FuncId) [SV.agg [SV.val (Value.bool p)], SV.val (Value.int IntKind.u64 n), SV.agg [SV.val (Value.int IntKind.i64 a), SV.val (Value.int IntKind.i64 b)]] [] [false, false, false, false, false, false, true, true, false, false, false]) (SV.val (Value.bool (decide (b > (255 : Int))))) [True, True, True, (pB p).size ≤ (4611686018427387904 : Nat), (nB (6 : Nat) n).size ≤ (4611686018427387904 : Nat), (nB (7 : Nat) n).size ≤ (4611686018427387904 : Nat), (if false = true then pV (pB p) == p && true else !(pV (pB p) == p && true)) = false, (bad (pB p) (5 : Nat) (1 : Nat) != (0 : Int)) = false, (nV (nB (6 : Nat) n) (6 : Nat) != n) = false, (bad (nB (6 : Nat) n) (6 : Nat) (10 : Nat) != (0 : Int)) = false, (nV (nB (7 : Nat) n) (7 : Nat) != n) = false, (bad (nB (7 : Nat) n) (7 : Nat) (10 : Nat) != (0 : Int)) = false, True, (rE a b != (0 : Int)) = true, ((rB a b).toList == (ByteArray.mk (ByteArray.mk #[]).data.toList.toArray).toList) = true, decide (a < (0 : Int)) = false, decide (a > (15 : Int)) = false, decide (b < (0 : Int)) = false] := by unfold gives; kernel_rfl

theorem walkB (p : Bool) (n a b : Int) (hn : 0 ≤ n ∧ n < 18446744073709551616) (w : World) : Calls Try.prog 5 #[.agg #[.bool p], .int .u64 n, .agg #[.int .i64 a, .int .i64 b]] w (fun e w' => e = .returned (.bool true) ∧ Below w.heap.size w w') := by
  have s1 : (pB p).size ≤ 4611686018427387904 := by rw [pB_size]; decide
  have s2 : (nB 6 n).size ≤ 4611686018427387904 := by rw [nB_size]; decide
  have s3 : (nB 7 n).size ≤ 4611686018427387904 := by rw [nB_size]; decide
  have v6 := nB_V6 hn.1 hn.2
  have v7 := nB_V7 hn.1 hn.2
  cases q : rOk a b
  · obtain ⟨e1, e2⟩ := rB_no q
    have hr := of_decide_eq_false q
    have e3 : ((ByteArray.mk #[]).toList == (ByteArray.mk (ByteArray.mk #[]).data.toList.toArray).toList) = true := by rw [ba_toList_beq]; decide
    by_cases h1 : a < 0
    · refine leaf (back_1 p n a b) ?_ rfl (Rs.cons (by exact ⟨_, rfl, by simp [Rs, R]⟩) (Rs.cons (by simp only [R]) (Rs.cons (by exact ⟨_, rfl, by simp [Rs, R]⟩) Rs.nil))) rfl rfl
      simp only [AllP, and_true, true_and, beq_self_eq_true, bne_self_eq_false, ba_beq, ba_toList_beq, decide_true, Bool.and_true, Bool.and_self, Bool.not_true, Bool.false_eq_true, if_false, if_true, ne_eq, not_true_eq_false, s1, s2, s3, v6, v7, pB_V, pB_bad, nB_bad6, nB_bad7, e1, e2, e3, decide_eq_true h1]
      try decide
    · by_cases h2 : a > 15
      · refine leaf (back_2 p n a b) ?_ rfl (Rs.cons (by exact ⟨_, rfl, by simp [Rs, R]⟩) (Rs.cons (by simp only [R]) (Rs.cons (by exact ⟨_, rfl, by simp [Rs, R]⟩) Rs.nil))) rfl rfl
        simp only [AllP, and_true, true_and, beq_self_eq_true, bne_self_eq_false, ba_beq, ba_toList_beq, decide_true, Bool.and_true, Bool.and_self, Bool.not_true, Bool.false_eq_true, if_false, if_true, ne_eq, not_true_eq_false, s1, s2, s3, v6, v7, pB_V, pB_bad, nB_bad6, nB_bad7, e1, e2, e3, decide_eq_true h2, decide_eq_false h1]
        try decide
      · by_cases h3 : b < 0
        · refine leaf (back_3 p n a b) ?_ rfl (Rs.cons (by exact ⟨_, rfl, by simp [Rs, R]⟩) (Rs.cons (by simp only [R]) (Rs.cons (by exact ⟨_, rfl, by simp [Rs, R]⟩) Rs.nil))) rfl rfl
          simp only [AllP, and_true, true_and, beq_self_eq_true, bne_self_eq_false, ba_beq, ba_toList_beq, decide_true, Bool.and_true, Bool.and_self, Bool.not_true, Bool.false_eq_true, if_false, if_true, ne_eq, not_true_eq_false, s1, s2, s3, v6, v7, pB_V, pB_bad, nB_bad6, nB_bad7, e1, e2, e3, decide_eq_true h3, decide_eq_false h1, decide_eq_false h2]
          try decide
        · refine leaf (back_4 p n a b) ?_ rfl (Rs.cons (by exact ⟨_, rfl, by simp [Rs, R]⟩) (Rs.cons (by simp only [R]) (Rs.cons (by exact ⟨_, rfl, by simp [Rs, R]⟩) Rs.nil))) (by simp only [SV.toV]; rw [decide_eq_true (by omega)]) rfl
          simp only [AllP, and_true, true_and, beq_self_eq_true, bne_self_eq_false, ba_beq, ba_toList_beq, decide_true, Bool.and_true, Bool.and_self, Bool.not_true, Bool.false_eq_true, if_false, if_true, ne_eq, not_true_eq_false, s1, s2, s3, v6, v7, pB_V, pB_bad, nB_bad6, nB_bad7, e1, e2, e3, decide_eq_false h1, decide_eq_false h2, decide_eq_false h3]
          try decide
  · obtain ⟨e1, e2⟩ := rB_ok q
    obtain ⟨r1, r2, r3, r4⟩ := r_back q
    have s4 : (rB a b).size ≤ 4611686018427387904 := by rw [r1]; decide
    refine leaf (back_0 p n a b) ?_ rfl (Rs.cons (by exact ⟨_, rfl, by simp [Rs, R]⟩) (Rs.cons (by simp only [R]) (Rs.cons (by exact ⟨_, rfl, by simp [Rs, R]⟩) Rs.nil))) (by simp only [SV.toV, r1]; rfl) rfl
    simp only [AllP, and_true, true_and, beq_self_eq_true, bne_self_eq_false, ba_beq, ba_toList_beq, decide_true, Bool.and_true, Bool.and_self, Bool.not_true, Bool.false_eq_true, if_false, if_true, ne_eq, not_true_eq_false, s1, s2, s3, s4, v6, v7, pB_V, pB_bad, nB_bad6, nB_bad7, e2, r2, r3, r4]
end Go.Proofs.Ythmndlkhmihdhaa
