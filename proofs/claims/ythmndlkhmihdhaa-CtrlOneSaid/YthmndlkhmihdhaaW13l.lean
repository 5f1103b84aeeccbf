/-
  Walks of functions, reckoned through, and what they give (part W13l). No condition beyond what each says. By an AI agent.
-/
import Derived.Test.YthmndlkhmihdhaaW13c
namespace Go.Proofs.Ythmndlkhmihdhaa
open Go.Ex
open Go.RowKit (Below)
set_option linter.unusedVariables false
set_option linter.unusedSimpArgs false

theorem pB_size (p : Bool) : (pB p).size = 1 := by cases p <;> rfl
theorem pB_bad (p : Bool) : bad (pB p) 5 1 = 0 := by cases p <;> decide
theorem pB_V (p : Bool) : pV (pB p) = p := by cases p <;> decide
theorem nB_size (sub : Nat) (n : Int) : (nB sub n).size = 10 := rfl
theorem nB_0 (sub : Nat) (n : Int) : bAt (nB sub n) 0 = UInt8.ofNat (sub * 16) := rfl
theorem nB_bad6 (n : Int) : bad (nB 6 n) 6 10 = 0 := by unfold bad; rw [nB_size, nB_0]; rfl
theorem nB_bad7 (n : Int) : bad (nB 7 n) 7 10 = 0 := by unfold bad; rw [nB_size, nB_0]; rfl
theorem n8_id {n : Int} (h0 : 0 ≤ n) (h : n < 18446744073709551616) : n8 (byK 72057594037927936 n) (byK 281474976710656 n) (byK 1099511627776 n) (byK 4294967296 n) (byK 16777216 n) (byK 65536 n) (byK 256 n) (byK 1 n) = n := by
  unfold n8
  simp only [byK_toNat]
  omega
theorem nB_V6 {n : Int} (h0 : 0 ≤ n) (h : n < 18446744073709551616) : nV (nB 6 n) 6 = n := by
  unfold nV; rw [nB_bad6, if_pos rfl]; exact n8_id h0 h
theorem nB_V7 {n : Int} (h0 : 0 ≤ n) (h : n < 18446744073709551616) : nV (nB 7 n) 7 = n := by
  unfold nV; rw [nB_bad7, if_pos rfl]; exact n8_id h0 h
theorem rB_no {a b : Int} (h : rOk a b = false) : rB a b = ⟨#[]⟩ ∧ rE a b = 2 := by
  unfold rB rL rE; rw [h]; exact ⟨rfl, rfl⟩
theorem rB_ok {a b : Int} (h : rOk a b = true) : rB a b = ⟨#[byK 1 (128 + a), byK 1 b]⟩ ∧ rE a b = 0 := by
  unfold rB rL rE; rw [h]; exact ⟨rfl, rfl⟩
theorem r_back {a b : Int} (h : rOk a b = true) : (rB a b).size = 2 ∧ bad (rB a b) 8 2 = 0 ∧ rV (rB a b) = a ∧ qV (rB a b) = b := by
  have e := (rB_ok h).1
  have hr := of_decide_eq_true h
  have b0 : bAt (rB a b) 0 = byK 1 (128 + a) := by rw [e]; rfl
  have b1 : bAt (rB a b) 1 = byK 1 b := by rw [e]; rfl
  have s2 : (rB a b).size = 2 := by rw [e]; rfl
  have t0 := byK_toNat 1 (128 + a)
  have t1 := byK_toNat 1 b
  rw [Int.ediv_one] at t0 t1
  have hb : bad (rB a b) 8 2 = 0 := by
    unfold bad; rw [s2, b0, if_neg (by decide), if_neg (by omega), if_neg (by decide), if_neg (by decide)]
  refine ⟨s2, hb, ?_, ?_⟩
  · unfold rV; rw [hb, if_pos rfl, b0]; omega
  · unfold qV; rw [hb, if_pos rfl, b1]; omega
set_option maxRecDepth 1000000 in
theorem lays_0 (p : Bool) (n : Int) (a : Int) (b : Int) : gives (callR Y (run Y (100 : Nat)) (3 : FuncId) [SV.agg [SV.val (Value.bool p)], SV.val (Value.int IntKind.u64 n), SV.agg [SV.val (Value.int IntKind.i64 a), SV.val (Value.int IntKind.i64 b)]] [] [false, false, false, false, false, false, false]) (SV.bol true) [True, True, True, True, (!(pB p).toList == (pB p).toList) = false, True, (!(nB (6 : Nat) n).toList == (nB (6 : Nat) n).toList) = false, True, (!(nB (7 : Nat) n).toList == (nB (7 : Nat) n).toList) = false, True, True, (!(rB a b).toList == (rB a b).toList) = false, (rE a b != rE a b) = false, True, True, (!(rB (IntKind.i64.wrap ((IntKind.u64.wrap a).tmod (17 : Int))) (IntKind.i64.wrap ((IntKind.u64.wrap b).tmod (258 : Int)))).toList == (rB (IntKind.i64.wrap ((IntKind.u64.wrap a).tmod (17 : Int))) (IntKind.i64.wrap ((IntKind.u64.wrap b).tmod (258 : Int)))).toList) = false, (rE (IntKind.i64.wrap ((IntKind.u64.wrap a).tmod (17 : Int))) (IntKind.i64.wrap ((IntKind.u64.wrap b).tmod (258 : Int))) != rE (IntKind.i64.wrap ((IntKind.u64.wrap a).tmod (17 : Int))) (IntKind.i64.wrap ((IntKind.u64.wrap b).tmod (258 : Int)))) = false] := by unfold gives; kernel_rfl

theorem walkL (p : Bool) (n a b : Int) (w : World) : Calls Try.prog 3 #[.agg #[.bool p], .int .u64 n, .agg #[.int .i64 a, .int .i64 b]] w (fun e w' => e = .returned (.bool true) ∧ Below w.heap.size w w') := by
  refine leaf (lays_0 p n a b) ?_ rfl (Rs.cons (by exact ⟨_, rfl, by simp [Rs, R]⟩) (Rs.cons (by simp only [R]) (Rs.cons (by exact ⟨_, rfl, by simp [Rs, R]⟩) Rs.nil))) rfl rfl
  simp only [AllP, and_true, true_and, beq_self_eq_true, bne_self_eq_false, ba_beq, ba_toList_beq, decide_true, Bool.and_true, Bool.and_self, Bool.not_true, Bool.false_eq_true, if_false, if_true, ne_eq, not_true_eq_false]
end Go.Proofs.Ythmndlkhmihdhaa
