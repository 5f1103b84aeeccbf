/-
  Walks of functions, reckoned through, and what they give (part W10v). No condition beyond what each says. By an AI agent.
-/
import Derived.Test.YtmngnhbnicgjfaaW10r
import Derived.Test.YtmngnhbnicgjfaaW10s
import Derived.Test.YtmngnhbnicgjfaaW10t
import Derived.Test.YtmngnhbnicgjfaaW10u
namespace Go.Proofs.Ytmngnhbnicgjfaa
open Go.Ex
open Go.RowKit (Below)
set_option linter.unusedVariables false
set_option linter.unusedSimpArgs false

theorem le_big {a : ByteArray} {n : Nat} (h : a.size = n) (hn : n ≤ 40) : a.size ≤ 4611686018427387904 := by omega
theorem s40_size (s : ByteArray) : (s40 s).size ≤ 40 := by
  unfold s40
  rw [ByteArray.size_extract]
  split <;> omega

set_option maxHeartbeats 8000000 in
theorem reads0 (s : ByteArray) (x : DV) (n0 n1 : Int) (hx : x.Ok) (hn0 : 0 ≤ n0 ∧ n0 < 256) (hd : x.d.tmod 3 = 0) (vs : List Value) (hargs : Rs [] [.val (.string s), x.sv, .agg [.val (.int .u8 n0), .val (.int .u8 n1)]] vs) (w : World) :
    Calls Try.prog 4 vs.toArray w (fun e w' => e = .returned (.bool true) ∧ Below w.heap.size w w') := by
  have hiw : IntKind.i64.wrap x.i = x.i := by have := hx.i; rw [wi64]; omega
  have hi0 : 0 ≤ IntKind.i64.wrap x.i := by have := hx.i; omega
  have hi1 : IntKind.i64.wrap x.i ≤ 255 := by have := hx.i; omega
  have hmay : may (JV.mk 0 x.b (IntKind.i64.wrap x.i) x.t x.n (ByteArray.mk #[])) := ⟨hi0, hi1, .inl ⟨rfl, rfl⟩⟩
  have ht0 := hx.t.1
  have ht1 := hx.t.2
  have hn00 := hx.n.1
  have hn01 := hx.n.2
  have hlo : (0 : Int) ≤ (if (40 : Int) < (s.size : Int) then (40 : Int) else (s.size : Int)) := by split <;> omega
  have hhi : (if (40 : Int) < (s.size : Int) then (40 : Int) else (s.size : Int)) ≤ (s.size : Int) := by split <;> omega
  have h40 := s40_size s
  have hb : (bd0 x).size = 10 := rfl
  have hl : ((bl0 x).length : Int) = 10 := rfl
  have z1 : (bd0 x).size + (s40 s).size ≤ 9223372036854775807 := by omega
  have z2 : (s40 s).size ≤ 4611686018427387904 := by omega
  have z3 : (bd0 x).size ≤ 4611686018427387904 := by omega
  have z5 : ∀ k : Nat, ((bd0 x).extract 0 k).size ≤ 4611686018427387904 := fun k => by rw [ByteArray.size_extract]; omega
  have z6 : (bd0 x ++ s40 s).size ≤ 4611686018427387904 := by rw [size_app]; omega
  have zc : (0 : Int) < 4294967296 := by decide
  have hk : (IntKind.i64.wrap n0).tmod 10 = n0 % 10 := by
    have e : IntKind.i64.wrap n0 = n0 := by rw [wi64]; omega
    rw [e, tm _ _ hn0.1]
  by_cases j0 : n0 % 10 = 0
  · have hj : (IntKind.i64.wrap n0).tmod 10 = 0 := by rw [hk]; exact j0
    have z4 : (bt0_0 x n1).size ≤ 4611686018427387904 := le_big (n := 10) rfl (by decide)
    refine leaf (rd0_0 s x n0 n1) ?_ rfl hargs rfl rfl
    simp only [AllP, and_true, true_and, ne_false, bne_self_eq_false, beq_iff_eq, beq_eq_false_iff_ne, ne_eq, not_false_eq_true, not_true_eq_false, hj, hlo, hhi, Int.le_refl, z1, z2, z3, z4, z5, z6, hl, hd, hmay, ht0, ht1, hn00, hn01, zc, Int.reduceLE] <;> ((repeat' apply And.intro) <;> first | assumption | decide | omega)
  by_cases j1 : n0 % 10 = 1
  · have hj : (IntKind.i64.wrap n0).tmod 10 = 1 := by rw [hk]; exact j1
    have z4 : (bt0_1 x n1).size ≤ 4611686018427387904 := le_big (n := 10) rfl (by decide)
    refine leaf (rd0_1 s x n0 n1) ?_ rfl hargs rfl rfl
    simp only [AllP, and_true, true_and, ne_false, bne_self_eq_false, beq_iff_eq, beq_eq_false_iff_ne, ne_eq, not_false_eq_true, not_true_eq_false, hj, hlo, hhi, Int.le_refl, z1, z2, z3, z4, z5, z6, hl, hd, hmay, ht0, ht1, hn00, hn01, zc, Int.reduceLE] <;> ((repeat' apply And.intro) <;> first | assumption | decide | omega)
  by_cases j2 : n0 % 10 = 2
  · have hj : (IntKind.i64.wrap n0).tmod 10 = 2 := by rw [hk]; exact j2
    have z4 : (bt0_2 x n1).size ≤ 4611686018427387904 := le_big (n := 10) rfl (by decide)
    refine leaf (rd0_2 s x n0 n1) ?_ rfl hargs rfl rfl
    simp only [AllP, and_true, true_and, ne_false, bne_self_eq_false, beq_iff_eq, beq_eq_false_iff_ne, ne_eq, not_false_eq_true, not_true_eq_false, hj, hlo, hhi, Int.le_refl, z1, z2, z3, z4, z5, z6, hl, hd, hmay, ht0, ht1, hn00, hn01, zc, Int.reduceLE] <;> ((repeat' apply And.intro) <;> first | assumption | decide | omega)
  by_cases j3 : n0 % 10 = 3
  · have hj : (IntKind.i64.wrap n0).tmod 10 = 3 := by rw [hk]; exact j3
    have z4 : (bt0_3 x n1).size ≤ 4611686018427387904 := le_big (n := 10) rfl (by decide)
    refine leaf (rd0_3 s x n0 n1) ?_ rfl hargs rfl rfl
    simp only [AllP, and_true, true_and, ne_false, bne_self_eq_false, beq_iff_eq, beq_eq_false_iff_ne, ne_eq, not_false_eq_true, not_true_eq_false, hj, hlo, hhi, Int.le_refl, z1, z2, z3, z4, z5, z6, hl, hd, hmay, ht0, ht1, hn00, hn01, zc, Int.reduceLE] <;> ((repeat' apply And.intro) <;> first | assumption | decide | omega)
  by_cases j4 : n0 % 10 = 4
  · have hj : (IntKind.i64.wrap n0).tmod 10 = 4 := by rw [hk]; exact j4
    have z4 : (bt0_4 x n1).size ≤ 4611686018427387904 := le_big (n := 10) rfl (by decide)
    refine leaf (rd0_4 s x n0 n1) ?_ rfl hargs rfl rfl
    simp only [AllP, and_true, true_and, ne_false, bne_self_eq_false, beq_iff_eq, beq_eq_false_iff_ne, ne_eq, not_false_eq_true, not_true_eq_false, hj, hlo, hhi, Int.le_refl, z1, z2, z3, z4, z5, z6, hl, hd, hmay, ht0, ht1, hn00, hn01, zc, Int.reduceLE] <;> ((repeat' apply And.intro) <;> first | assumption | decide | omega)
  by_cases j5 : n0 % 10 = 5
  · have hj : (IntKind.i64.wrap n0).tmod 10 = 5 := by rw [hk]; exact j5
    have z4 : (bt0_5 x n1).size ≤ 4611686018427387904 := le_big (n := 10) rfl (by decide)
    refine leaf (rd0_5 s x n0 n1) ?_ rfl hargs rfl rfl
    simp only [AllP, and_true, true_and, ne_false, bne_self_eq_false, beq_iff_eq, beq_eq_false_iff_ne, ne_eq, not_false_eq_true, not_true_eq_false, hj, hlo, hhi, Int.le_refl, z1, z2, z3, z4, z5, z6, hl, hd, hmay, ht0, ht1, hn00, hn01, zc, Int.reduceLE] <;> ((repeat' apply And.intro) <;> first | assumption | decide | omega)
  by_cases j6 : n0 % 10 = 6
  · have hj : (IntKind.i64.wrap n0).tmod 10 = 6 := by rw [hk]; exact j6
    have z4 : (bt0_6 x n1).size ≤ 4611686018427387904 := le_big (n := 10) rfl (by decide)
    refine leaf (rd0_6 s x n0 n1) ?_ rfl hargs rfl rfl
    simp only [AllP, and_true, true_and, ne_false, bne_self_eq_false, beq_iff_eq, beq_eq_false_iff_ne, ne_eq, not_false_eq_true, not_true_eq_false, hj, hlo, hhi, Int.le_refl, z1, z2, z3, z4, z5, z6, hl, hd, hmay, ht0, ht1, hn00, hn01, zc, Int.reduceLE] <;> ((repeat' apply And.intro) <;> first | assumption | decide | omega)
  by_cases j7 : n0 % 10 = 7
  · have hj : (IntKind.i64.wrap n0).tmod 10 = 7 := by rw [hk]; exact j7
    have z4 : (bt0_7 x n1).size ≤ 4611686018427387904 := le_big (n := 10) rfl (by decide)
    refine leaf (rd0_7 s x n0 n1) ?_ rfl hargs rfl rfl
    simp only [AllP, and_true, true_and, ne_false, bne_self_eq_false, beq_iff_eq, beq_eq_false_iff_ne, ne_eq, not_false_eq_true, not_true_eq_false, hj, hlo, hhi, Int.le_refl, z1, z2, z3, z4, z5, z6, hl, hd, hmay, ht0, ht1, hn00, hn01, zc, Int.reduceLE] <;> ((repeat' apply And.intro) <;> first | assumption | decide | omega)
  by_cases j8 : n0 % 10 = 8
  · have hj : (IntKind.i64.wrap n0).tmod 10 = 8 := by rw [hk]; exact j8
    have z4 : (bt0_8 x n1).size ≤ 4611686018427387904 := le_big (n := 10) rfl (by decide)
    refine leaf (rd0_8 s x n0 n1) ?_ rfl hargs rfl rfl
    simp only [AllP, and_true, true_and, ne_false, bne_self_eq_false, beq_iff_eq, beq_eq_false_iff_ne, ne_eq, not_false_eq_true, not_true_eq_false, hj, hlo, hhi, Int.le_refl, z1, z2, z3, z4, z5, z6, hl, hd, hmay, ht0, ht1, hn00, hn01, zc, Int.reduceLE] <;> ((repeat' apply And.intro) <;> first | assumption | decide | omega)
  by_cases j9 : n0 % 10 = 9
  · have hj : (IntKind.i64.wrap n0).tmod 10 = 9 := by rw [hk]; exact j9
    have z4 : (bt0_9 x n1).size ≤ 4611686018427387904 := le_big (n := 10) rfl (by decide)
    refine leaf (rd0_9 s x n0 n1) ?_ rfl hargs rfl rfl
    simp only [AllP, and_true, true_and, ne_false, bne_self_eq_false, beq_iff_eq, beq_eq_false_iff_ne, ne_eq, not_false_eq_true, not_true_eq_false, hj, hlo, hhi, Int.le_refl, z1, z2, z3, z4, z5, z6, hl, hd, hmay, ht0, ht1, hn00, hn01, zc, Int.reduceLE] <;> ((repeat' apply And.intro) <;> first | assumption | decide | omega)
  omega
set_option maxHeartbeats 8000000 in
theorem reads1 (s : ByteArray) (x : DV) (n0 n1 : Int) (hx : x.Ok) (hn0 : 0 ≤ n0 ∧ n0 < 256) (hd0 : ¬ x.d.tmod 3 = 0) (hd : x.d.tmod 3 = 1) (vs : List Value) (hargs : Rs [] [.val (.string s), x.sv, .agg [.val (.int .u8 n0), .val (.int .u8 n1)]] vs) (w : World) :
    Calls Try.prog 4 vs.toArray w (fun e w' => e = .returned (.bool true) ∧ Below w.heap.size w w') := by
  have hiw : IntKind.i64.wrap x.i = x.i := by have := hx.i; rw [wi64]; omega
  have hi0 : 0 ≤ IntKind.i64.wrap x.i := by have := hx.i; omega
  have hi1 : IntKind.i64.wrap x.i ≤ 255 := by have := hx.i; omega
  have hmay : may (JV.mk 1 x.b (IntKind.i64.wrap x.i) 0 x.n (mc1 x)) := ⟨hi0, hi1, .inr (.inl ⟨rfl, rfl, rfl⟩)⟩
  have ht0 := hx.t.1
  have ht1 := hx.t.2
  have hn00 := hx.n.1
  have hn01 := hx.n.2
  have hlo : (0 : Int) ≤ (if (40 : Int) < (s.size : Int) then (40 : Int) else (s.size : Int)) := by split <;> omega
  have hhi : (if (40 : Int) < (s.size : Int) then (40 : Int) else (s.size : Int)) ≤ (s.size : Int) := by split <;> omega
  have h40 := s40_size s
  have hb : (bd1 x).size = 14 := rfl
  have hl : ((bl1 x).length : Int) = 14 := rfl
  have z1 : (bd1 x).size + (s40 s).size ≤ 9223372036854775807 := by omega
  have z2 : (s40 s).size ≤ 4611686018427387904 := by omega
  have z3 : (bd1 x).size ≤ 4611686018427387904 := by omega
  have z5 : ∀ k : Nat, ((bd1 x).extract 0 k).size ≤ 4611686018427387904 := fun k => by rw [ByteArray.size_extract]; omega
  have z6 : (bd1 x ++ s40 s).size ≤ 4611686018427387904 := by rw [size_app]; omega
  have zc : (0 : Int) < 4294967296 := by decide
  have hk : (IntKind.i64.wrap n0).tmod 14 = n0 % 14 := by
    have e : IntKind.i64.wrap n0 = n0 := by rw [wi64]; omega
    rw [e, tm _ _ hn0.1]
  by_cases j0 : n0 % 14 = 0
  · have hj : (IntKind.i64.wrap n0).tmod 14 = 0 := by rw [hk]; exact j0
    have z4 : (bt1_0 x n1).size ≤ 4611686018427387904 := le_big (n := 14) rfl (by decide)
    refine leaf (rd1_0 s x n0 n1) ?_ rfl hargs rfl rfl
    simp only [AllP, and_true, true_and, ne_false, bne_self_eq_false, beq_iff_eq, beq_eq_false_iff_ne, ne_eq, not_false_eq_true, not_true_eq_false, hj, hlo, hhi, Int.le_refl, z1, z2, z3, z4, z5, z6, hl, hd0, hd, hmay, ht0, ht1, hn00, hn01, zc, Int.reduceLE] <;> ((repeat' apply And.intro) <;> first | assumption | decide | omega)
  by_cases j1 : n0 % 14 = 1
  · have hj : (IntKind.i64.wrap n0).tmod 14 = 1 := by rw [hk]; exact j1
    have z4 : (bt1_1 x n1).size ≤ 4611686018427387904 := le_big (n := 14) rfl (by decide)
    refine leaf (rd1_1 s x n0 n1) ?_ rfl hargs rfl rfl
    simp only [AllP, and_true, true_and, ne_false, bne_self_eq_false, beq_iff_eq, beq_eq_false_iff_ne, ne_eq, not_false_eq_true, not_true_eq_false, hj, hlo, hhi, Int.le_refl, z1, z2, z3, z4, z5, z6, hl, hd0, hd, hmay, ht0, ht1, hn00, hn01, zc, Int.reduceLE] <;> ((repeat' apply And.intro) <;> first | assumption | decide | omega)
  by_cases j2 : n0 % 14 = 2
  · have hj : (IntKind.i64.wrap n0).tmod 14 = 2 := by rw [hk]; exact j2
    have z4 : (bt1_2 x n1).size ≤ 4611686018427387904 := le_big (n := 14) rfl (by decide)
    refine leaf (rd1_2 s x n0 n1) ?_ rfl hargs rfl rfl
    simp only [AllP, and_true, true_and, ne_false, bne_self_eq_false, beq_iff_eq, beq_eq_false_iff_ne, ne_eq, not_false_eq_true, not_true_eq_false, hj, hlo, hhi, Int.le_refl, z1, z2, z3, z4, z5, z6, hl, hd0, hd, hmay, ht0, ht1, hn00, hn01, zc, Int.reduceLE] <;> ((repeat' apply And.intro) <;> first | assumption | decide | omega)
  by_cases j3 : n0 % 14 = 3
  · have hj : (IntKind.i64.wrap n0).tmod 14 = 3 := by rw [hk]; exact j3
    have z4 : (bt1_3 x n1).size ≤ 4611686018427387904 := le_big (n := 14) rfl (by decide)
    refine leaf (rd1_3 s x n0 n1) ?_ rfl hargs rfl rfl
    simp only [AllP, and_true, true_and, ne_false, bne_self_eq_false, beq_iff_eq, beq_eq_false_iff_ne, ne_eq, not_false_eq_true, not_true_eq_false, hj, hlo, hhi, Int.le_refl, z1, z2, z3, z4, z5, z6, hl, hd0, hd, hmay, ht0, ht1, hn00, hn01, zc, Int.reduceLE] <;> ((repeat' apply And.intro) <;> first | assumption | decide | omega)
  by_cases j4 : n0 % 14 = 4
  · have hj : (IntKind.i64.wrap n0).tmod 14 = 4 := by rw [hk]; exact j4
    have z4 : (bt1_4 x n1).size ≤ 4611686018427387904 := le_big (n := 14) rfl (by decide)
    refine leaf (rd1_4 s x n0 n1) ?_ rfl hargs rfl rfl
    simp only [AllP, and_true, true_and, ne_false, bne_self_eq_false, beq_iff_eq, beq_eq_false_iff_ne, ne_eq, not_false_eq_true, not_true_eq_false, hj, hlo, hhi, Int.le_refl, z1, z2, z3, z4, z5, z6, hl, hd0, hd, hmay, ht0, ht1, hn00, hn01, zc, Int.reduceLE] <;> ((repeat' apply And.intro) <;> first | assumption | decide | omega)
  by_cases j5 : n0 % 14 = 5
  · have hj : (IntKind.i64.wrap n0).tmod 14 = 5 := by rw [hk]; exact j5
    have z4 : (bt1_5 x n1).size ≤ 4611686018427387904 := le_big (n := 14) rfl (by decide)
    refine leaf (rd1_5 s x n0 n1) ?_ rfl hargs rfl rfl
    simp only [AllP, and_true, true_and, ne_false, bne_self_eq_false, beq_iff_eq, beq_eq_false_iff_ne, ne_eq, not_false_eq_true, not_true_eq_false, hj, hlo, hhi, Int.le_refl, z1, z2, z3, z4, z5, z6, hl, hd0, hd, hmay, ht0, ht1, hn00, hn01, zc, Int.reduceLE] <;> ((repeat' apply And.intro) <;> first | assumption | decide | omega)
  by_cases j6 : n0 % 14 = 6
  · have hj : (IntKind.i64.wrap n0).tmod 14 = 6 := by rw [hk]; exact j6
    have z4 : (bt1_6 x n1).size ≤ 4611686018427387904 := le_big (n := 14) rfl (by decide)
    refine leaf (rd1_6 s x n0 n1) ?_ rfl hargs rfl rfl
    simp only [AllP, and_true, true_and, ne_false, bne_self_eq_false, beq_iff_eq, beq_eq_false_iff_ne, ne_eq, not_false_eq_true, not_true_eq_false, hj, hlo, hhi, Int.le_refl, z1, z2, z3, z4, z5, z6, hl, hd0, hd, hmay, ht0, ht1, hn00, hn01, zc, Int.reduceLE] <;> ((repeat' apply And.intro) <;> first | assumption | decide | omega)
  by_cases j7 : n0 % 14 = 7
  · have hj : (IntKind.i64.wrap n0).tmod 14 = 7 := by rw [hk]; exact j7
    have z4 : (bt1_7 x n1).size ≤ 4611686018427387904 := le_big (n := 14) rfl (by decide)
    refine leaf (rd1_7 s x n0 n1) ?_ rfl hargs rfl rfl
    simp only [AllP, and_true, true_and, ne_false, bne_self_eq_false, beq_iff_eq, beq_eq_false_iff_ne, ne_eq, not_false_eq_true, not_true_eq_false, hj, hlo, hhi, Int.le_refl, z1, z2, z3, z4, z5, z6, hl, hd0, hd, hmay, ht0, ht1, hn00, hn01, zc, Int.reduceLE] <;> ((repeat' apply And.intro) <;> first | assumption | decide | omega)
  by_cases j8 : n0 % 14 = 8
  · have hj : (IntKind.i64.wrap n0).tmod 14 = 8 := by rw [hk]; exact j8
    have z4 : (bt1_8 x n1).size ≤ 4611686018427387904 := le_big (n := 14) rfl (by decide)
    refine leaf (rd1_8 s x n0 n1) ?_ rfl hargs rfl rfl
    simp only [AllP, and_true, true_and, ne_false, bne_self_eq_false, beq_iff_eq, beq_eq_false_iff_ne, ne_eq, not_false_eq_true, not_true_eq_false, hj, hlo, hhi, Int.le_refl, z1, z2, z3, z4, z5, z6, hl, hd0, hd, hmay, ht0, ht1, hn00, hn01, zc, Int.reduceLE] <;> ((repeat' apply And.intro) <;> first | assumption | decide | omega)
  by_cases j9 : n0 % 14 = 9
  · have hj : (IntKind.i64.wrap n0).tmod 14 = 9 := by rw [hk]; exact j9
    have z4 : (bt1_9 x n1).size ≤ 4611686018427387904 := le_big (n := 14) rfl (by decide)
    refine leaf (rd1_9 s x n0 n1) ?_ rfl hargs rfl rfl
    simp only [AllP, and_true, true_and, ne_false, bne_self_eq_false, beq_iff_eq, beq_eq_false_iff_ne, ne_eq, not_false_eq_true, not_true_eq_false, hj, hlo, hhi, Int.le_refl, z1, z2, z3, z4, z5, z6, hl, hd0, hd, hmay, ht0, ht1, hn00, hn01, zc, Int.reduceLE] <;> ((repeat' apply And.intro) <;> first | assumption | decide | omega)
  by_cases j10 : n0 % 14 = 10
  · have hj : (IntKind.i64.wrap n0).tmod 14 = 10 := by rw [hk]; exact j10
    have z4 : (bt1_10 x n1).size ≤ 4611686018427387904 := le_big (n := 14) rfl (by decide)
    refine leaf (rd1_10 s x n0 n1) ?_ rfl hargs rfl rfl
    simp only [AllP, and_true, true_and, ne_false, bne_self_eq_false, beq_iff_eq, beq_eq_false_iff_ne, ne_eq, not_false_eq_true, not_true_eq_false, hj, hlo, hhi, Int.le_refl, z1, z2, z3, z4, z5, z6, hl, hd0, hd, hmay, ht0, ht1, hn00, hn01, zc, Int.reduceLE] <;> ((repeat' apply And.intro) <;> first | assumption | decide | omega)
  by_cases j11 : n0 % 14 = 11
  · have hj : (IntKind.i64.wrap n0).tmod 14 = 11 := by rw [hk]; exact j11
    have z4 : (bt1_11 x n1).size ≤ 4611686018427387904 := le_big (n := 14) rfl (by decide)
    refine leaf (rd1_11 s x n0 n1) ?_ rfl hargs rfl rfl
    simp only [AllP, and_true, true_and, ne_false, bne_self_eq_false, beq_iff_eq, beq_eq_false_iff_ne, ne_eq, not_false_eq_true, not_true_eq_false, hj, hlo, hhi, Int.le_refl, z1, z2, z3, z4, z5, z6, hl, hd0, hd, hmay, ht0, ht1, hn00, hn01, zc, Int.reduceLE] <;> ((repeat' apply And.intro) <;> first | assumption | decide | omega)
  by_cases j12 : n0 % 14 = 12
  · have hj : (IntKind.i64.wrap n0).tmod 14 = 12 := by rw [hk]; exact j12
    have z4 : (bt1_12 x n1).size ≤ 4611686018427387904 := le_big (n := 14) rfl (by decide)
    refine leaf (rd1_12 s x n0 n1) ?_ rfl hargs rfl rfl
    simp only [AllP, and_true, true_and, ne_false, bne_self_eq_false, beq_iff_eq, beq_eq_false_iff_ne, ne_eq, not_false_eq_true, not_true_eq_false, hj, hlo, hhi, Int.le_refl, z1, z2, z3, z4, z5, z6, hl, hd0, hd, hmay, ht0, ht1, hn00, hn01, zc, Int.reduceLE] <;> ((repeat' apply And.intro) <;> first | assumption | decide | omega)
  by_cases j13 : n0 % 14 = 13
  · have hj : (IntKind.i64.wrap n0).tmod 14 = 13 := by rw [hk]; exact j13
    have z4 : (bt1_13 x n1).size ≤ 4611686018427387904 := le_big (n := 14) rfl (by decide)
    refine leaf (rd1_13 s x n0 n1) ?_ rfl hargs rfl rfl
    simp only [AllP, and_true, true_and, ne_false, bne_self_eq_false, beq_iff_eq, beq_eq_false_iff_ne, ne_eq, not_false_eq_true, not_true_eq_false, hj, hlo, hhi, Int.le_refl, z1, z2, z3, z4, z5, z6, hl, hd0, hd, hmay, ht0, ht1, hn00, hn01, zc, Int.reduceLE] <;> ((repeat' apply And.intro) <;> first | assumption | decide | omega)
  omega
set_option maxHeartbeats 8000000 in
theorem reads2 (s : ByteArray) (x : DV) (n0 n1 : Int) (hx : x.Ok) (hn0 : 0 ≤ n0 ∧ n0 < 256) (hd0 : ¬ x.d.tmod 3 = 0) (hd : ¬ x.d.tmod 3 = 1) (vs : List Value) (hargs : Rs [] [.val (.string s), x.sv, .agg [.val (.int .u8 n0), .val (.int .u8 n1)]] vs) (w : World) :
    Calls Try.prog 4 vs.toArray w (fun e w' => e = .returned (.bool true) ∧ Below w.heap.size w w') := by
  have hiw : IntKind.i64.wrap x.i = x.i := by have := hx.i; rw [wi64]; omega
  have hi0 : 0 ≤ IntKind.i64.wrap x.i := by have := hx.i; omega
  have hi1 : IntKind.i64.wrap x.i ≤ 255 := by have := hx.i; omega
  have hmay : may (JV.mk 2 false 0 0 0 (mc2 x)) := ⟨Int.le_refl 0, (by decide : (0 : Int) ≤ 255), .inr (.inr ⟨rfl, rfl, rfl, rfl, rfl, rfl⟩)⟩
  have ht0 := hx.t.1
  have ht1 := hx.t.2
  have hn00 := hx.n.1
  have hn01 := hx.n.2
  have hlo : (0 : Int) ≤ (if (40 : Int) < (s.size : Int) then (40 : Int) else (s.size : Int)) := by split <;> omega
  have hhi : (if (40 : Int) < (s.size : Int) then (40 : Int) else (s.size : Int)) ≤ (s.size : Int) := by split <;> omega
  have h40 := s40_size s
  have hb : (bd2 x).size = 22 := rfl
  have hl : ((bl2 x).length : Int) = 22 := rfl
  have z1 : (bd2 x).size + (s40 s).size ≤ 9223372036854775807 := by omega
  have z2 : (s40 s).size ≤ 4611686018427387904 := by omega
  have z3 : (bd2 x).size ≤ 4611686018427387904 := by omega
  have z5 : ∀ k : Nat, ((bd2 x).extract 0 k).size ≤ 4611686018427387904 := fun k => by rw [ByteArray.size_extract]; omega
  have z6 : (bd2 x ++ s40 s).size ≤ 4611686018427387904 := by rw [size_app]; omega
  have zc : (0 : Int) < 4294967296 := by decide
  have hk : (IntKind.i64.wrap n0).tmod 22 = n0 % 22 := by
    have e : IntKind.i64.wrap n0 = n0 := by rw [wi64]; omega
    rw [e, tm _ _ hn0.1]
  by_cases j0 : n0 % 22 = 0
  · have hj : (IntKind.i64.wrap n0).tmod 22 = 0 := by rw [hk]; exact j0
    have z4 : (bt2_0 x n1).size ≤ 4611686018427387904 := le_big (n := 22) rfl (by decide)
    refine leaf (rd2_0 s x n0 n1) ?_ rfl hargs rfl rfl
    simp only [AllP, and_true, true_and, ne_false, bne_self_eq_false, beq_iff_eq, beq_eq_false_iff_ne, ne_eq, not_false_eq_true, not_true_eq_false, hj, hlo, hhi, Int.le_refl, z1, z2, z3, z4, z5, z6, hl, hd0, hd, hmay, ht0, ht1, hn00, hn01, zc, Int.reduceLE] <;> ((repeat' apply And.intro) <;> first | assumption | decide | omega)
  by_cases j1 : n0 % 22 = 1
  · have hj : (IntKind.i64.wrap n0).tmod 22 = 1 := by rw [hk]; exact j1
    have z4 : (bt2_1 x n1).size ≤ 4611686018427387904 := le_big (n := 22) rfl (by decide)
    refine leaf (rd2_1 s x n0 n1) ?_ rfl hargs rfl rfl
    simp only [AllP, and_true, true_and, ne_false, bne_self_eq_false, beq_iff_eq, beq_eq_false_iff_ne, ne_eq, not_false_eq_true, not_true_eq_false, hj, hlo, hhi, Int.le_refl, z1, z2, z3, z4, z5, z6, hl, hd0, hd, hmay, ht0, ht1, hn00, hn01, zc, Int.reduceLE] <;> ((repeat' apply And.intro) <;> first | assumption | decide | omega)
  by_cases j2 : n0 % 22 = 2
  · have hj : (IntKind.i64.wrap n0).tmod 22 = 2 := by rw [hk]; exact j2
    have z4 : (bt2_2 x n1).size ≤ 4611686018427387904 := le_big (n := 22) rfl (by decide)
    refine leaf (rd2_2 s x n0 n1) ?_ rfl hargs rfl rfl
    simp only [AllP, and_true, true_and, ne_false, bne_self_eq_false, beq_iff_eq, beq_eq_false_iff_ne, ne_eq, not_false_eq_true, not_true_eq_false, hj, hlo, hhi, Int.le_refl, z1, z2, z3, z4, z5, z6, hl, hd0, hd, hmay, ht0, ht1, hn00, hn01, zc, Int.reduceLE] <;> ((repeat' apply And.intro) <;> first | assumption | decide | omega)
  by_cases j3 : n0 % 22 = 3
  · have hj : (IntKind.i64.wrap n0).tmod 22 = 3 := by rw [hk]; exact j3
    have z4 : (bt2_3 x n1).size ≤ 4611686018427387904 := le_big (n := 22) rfl (by decide)
    refine leaf (rd2_3 s x n0 n1) ?_ rfl hargs rfl rfl
    simp only [AllP, and_true, true_and, ne_false, bne_self_eq_false, beq_iff_eq, beq_eq_false_iff_ne, ne_eq, not_false_eq_true, not_true_eq_false, hj, hlo, hhi, Int.le_refl, z1, z2, z3, z4, z5, z6, hl, hd0, hd, hmay, ht0, ht1, hn00, hn01, zc, Int.reduceLE] <;> ((repeat' apply And.intro) <;> first | assumption | decide | omega)
  by_cases j4 : n0 % 22 = 4
  · have hj : (IntKind.i64.wrap n0).tmod 22 = 4 := by rw [hk]; exact j4
    have z4 : (bt2_4 x n1).size ≤ 4611686018427387904 := le_big (n := 22) rfl (by decide)
    refine leaf (rd2_4 s x n0 n1) ?_ rfl hargs rfl rfl
    simp only [AllP, and_true, true_and, ne_false, bne_self_eq_false, beq_iff_eq, beq_eq_false_iff_ne, ne_eq, not_false_eq_true, not_true_eq_false, hj, hlo, hhi, Int.le_refl, z1, z2, z3, z4, z5, z6, hl, hd0, hd, hmay, ht0, ht1, hn00, hn01, zc, Int.reduceLE] <;> ((repeat' apply And.intro) <;> first | assumption | decide | omega)
  by_cases j5 : n0 % 22 = 5
  · have hj : (IntKind.i64.wrap n0).tmod 22 = 5 := by rw [hk]; exact j5
    have z4 : (bt2_5 x n1).size ≤ 4611686018427387904 := le_big (n := 22) rfl (by decide)
    refine leaf (rd2_5 s x n0 n1) ?_ rfl hargs rfl rfl
    simp only [AllP, and_true, true_and, ne_false, bne_self_eq_false, beq_iff_eq, beq_eq_false_iff_ne, ne_eq, not_false_eq_true, not_true_eq_false, hj, hlo, hhi, Int.le_refl, z1, z2, z3, z4, z5, z6, hl, hd0, hd, hmay, ht0, ht1, hn00, hn01, zc, Int.reduceLE] <;> ((repeat' apply And.intro) <;> first | assumption | decide | omega)
  by_cases j6 : n0 % 22 = 6
  · have hj : (IntKind.i64.wrap n0).tmod 22 = 6 := by rw [hk]; exact j6
    have z4 : (bt2_6 x n1).size ≤ 4611686018427387904 := le_big (n := 22) rfl (by decide)
    refine leaf (rd2_6 s x n0 n1) ?_ rfl hargs rfl rfl
    simp only [AllP, and_true, true_and, ne_false, bne_self_eq_false, beq_iff_eq, beq_eq_false_iff_ne, ne_eq, not_false_eq_true, not_true_eq_false, hj, hlo, hhi, Int.le_refl, z1, z2, z3, z4, z5, z6, hl, hd0, hd, hmay, ht0, ht1, hn00, hn01, zc, Int.reduceLE] <;> ((repeat' apply And.intro) <;> first | assumption | decide | omega)
  by_cases j7 : n0 % 22 = 7
  · have hj : (IntKind.i64.wrap n0).tmod 22 = 7 := by rw [hk]; exact j7
    have z4 : (bt2_7 x n1).size ≤ 4611686018427387904 := le_big (n := 22) rfl (by decide)
    refine leaf (rd2_7 s x n0 n1) ?_ rfl hargs rfl rfl
    simp only [AllP, and_true, true_and, ne_false, bne_self_eq_false, beq_iff_eq, beq_eq_false_iff_ne, ne_eq, not_false_eq_true, not_true_eq_false, hj, hlo, hhi, Int.le_refl, z1, z2, z3, z4, z5, z6, hl, hd0, hd, hmay, ht0, ht1, hn00, hn01, zc, Int.reduceLE] <;> ((repeat' apply And.intro) <;> first | assumption | decide | omega)
  by_cases j8 : n0 % 22 = 8
  · have hj : (IntKind.i64.wrap n0).tmod 22 = 8 := by rw [hk]; exact j8
    have z4 : (bt2_8 x n1).size ≤ 4611686018427387904 := le_big (n := 22) rfl (by decide)
    refine leaf (rd2_8 s x n0 n1) ?_ rfl hargs rfl rfl
    simp only [AllP, and_true, true_and, ne_false, bne_self_eq_false, beq_iff_eq, beq_eq_false_iff_ne, ne_eq, not_false_eq_true, not_true_eq_false, hj, hlo, hhi, Int.le_refl, z1, z2, z3, z4, z5, z6, hl, hd0, hd, hmay, ht0, ht1, hn00, hn01, zc, Int.reduceLE] <;> ((repeat' apply And.intro) <;> first | assumption | decide | omega)
  by_cases j9 : n0 % 22 = 9
  · have hj : (IntKind.i64.wrap n0).tmod 22 = 9 := by rw [hk]; exact j9
    have z4 : (bt2_9 x n1).size ≤ 4611686018427387904 := le_big (n := 22) rfl (by decide)
    refine leaf (rd2_9 s x n0 n1) ?_ rfl hargs rfl rfl
    simp only [AllP, and_true, true_and, ne_false, bne_self_eq_false, beq_iff_eq, beq_eq_false_iff_ne, ne_eq, not_false_eq_true, not_true_eq_false, hj, hlo, hhi, Int.le_refl, z1, z2, z3, z4, z5, z6, hl, hd0, hd, hmay, ht0, ht1, hn00, hn01, zc, Int.reduceLE] <;> ((repeat' apply And.intro) <;> first | assumption | decide | omega)
  by_cases j10 : n0 % 22 = 10
  · have hj : (IntKind.i64.wrap n0).tmod 22 = 10 := by rw [hk]; exact j10
    have z4 : (bt2_10 x n1).size ≤ 4611686018427387904 := le_big (n := 22) rfl (by decide)
    refine leaf (rd2_10 s x n0 n1) ?_ rfl hargs rfl rfl
    simp only [AllP, and_true, true_and, ne_false, bne_self_eq_false, beq_iff_eq, beq_eq_false_iff_ne, ne_eq, not_false_eq_true, not_true_eq_false, hj, hlo, hhi, Int.le_refl, z1, z2, z3, z4, z5, z6, hl, hd0, hd, hmay, ht0, ht1, hn00, hn01, zc, Int.reduceLE] <;> ((repeat' apply And.intro) <;> first | assumption | decide | omega)
  by_cases j11 : n0 % 22 = 11
  · have hj : (IntKind.i64.wrap n0).tmod 22 = 11 := by rw [hk]; exact j11
    have z4 : (bt2_11 x n1).size ≤ 4611686018427387904 := le_big (n := 22) rfl (by decide)
    refine leaf (rd2_11 s x n0 n1) ?_ rfl hargs rfl rfl
    simp only [AllP, and_true, true_and, ne_false, bne_self_eq_false, beq_iff_eq, beq_eq_false_iff_ne, ne_eq, not_false_eq_true, not_true_eq_false, hj, hlo, hhi, Int.le_refl, z1, z2, z3, z4, z5, z6, hl, hd0, hd, hmay, ht0, ht1, hn00, hn01, zc, Int.reduceLE] <;> ((repeat' apply And.intro) <;> first | assumption | decide | omega)
  by_cases j12 : n0 % 22 = 12
  · have hj : (IntKind.i64.wrap n0).tmod 22 = 12 := by rw [hk]; exact j12
    have z4 : (bt2_12 x n1).size ≤ 4611686018427387904 := le_big (n := 22) rfl (by decide)
    refine leaf (rd2_12 s x n0 n1) ?_ rfl hargs rfl rfl
    simp only [AllP, and_true, true_and, ne_false, bne_self_eq_false, beq_iff_eq, beq_eq_false_iff_ne, ne_eq, not_false_eq_true, not_true_eq_false, hj, hlo, hhi, Int.le_refl, z1, z2, z3, z4, z5, z6, hl, hd0, hd, hmay, ht0, ht1, hn00, hn01, zc, Int.reduceLE] <;> ((repeat' apply And.intro) <;> first | assumption | decide | omega)
  by_cases j13 : n0 % 22 = 13
  · have hj : (IntKind.i64.wrap n0).tmod 22 = 13 := by rw [hk]; exact j13
    have z4 : (bt2_13 x n1).size ≤ 4611686018427387904 := le_big (n := 22) rfl (by decide)
    refine leaf (rd2_13 s x n0 n1) ?_ rfl hargs rfl rfl
    simp only [AllP, and_true, true_and, ne_false, bne_self_eq_false, beq_iff_eq, beq_eq_false_iff_ne, ne_eq, not_false_eq_true, not_true_eq_false, hj, hlo, hhi, Int.le_refl, z1, z2, z3, z4, z5, z6, hl, hd0, hd, hmay, ht0, ht1, hn00, hn01, zc, Int.reduceLE] <;> ((repeat' apply And.intro) <;> first | assumption | decide | omega)
  by_cases j14 : n0 % 22 = 14
  · have hj : (IntKind.i64.wrap n0).tmod 22 = 14 := by rw [hk]; exact j14
    have z4 : (bt2_14 x n1).size ≤ 4611686018427387904 := le_big (n := 22) rfl (by decide)
    refine leaf (rd2_14 s x n0 n1) ?_ rfl hargs rfl rfl
    simp only [AllP, and_true, true_and, ne_false, bne_self_eq_false, beq_iff_eq, beq_eq_false_iff_ne, ne_eq, not_false_eq_true, not_true_eq_false, hj, hlo, hhi, Int.le_refl, z1, z2, z3, z4, z5, z6, hl, hd0, hd, hmay, ht0, ht1, hn00, hn01, zc, Int.reduceLE] <;> ((repeat' apply And.intro) <;> first | assumption | decide | omega)
  by_cases j15 : n0 % 22 = 15
  · have hj : (IntKind.i64.wrap n0).tmod 22 = 15 := by rw [hk]; exact j15
    have z4 : (bt2_15 x n1).size ≤ 4611686018427387904 := le_big (n := 22) rfl (by decide)
    refine leaf (rd2_15 s x n0 n1) ?_ rfl hargs rfl rfl
    simp only [AllP, and_true, true_and, ne_false, bne_self_eq_false, beq_iff_eq, beq_eq_false_iff_ne, ne_eq, not_false_eq_true, not_true_eq_false, hj, hlo, hhi, Int.le_refl, z1, z2, z3, z4, z5, z6, hl, hd0, hd, hmay, ht0, ht1, hn00, hn01, zc, Int.reduceLE] <;> ((repeat' apply And.intro) <;> first | assumption | decide | omega)
  by_cases j16 : n0 % 22 = 16
  · have hj : (IntKind.i64.wrap n0).tmod 22 = 16 := by rw [hk]; exact j16
    have z4 : (bt2_16 x n1).size ≤ 4611686018427387904 := le_big (n := 22) rfl (by decide)
    refine leaf (rd2_16 s x n0 n1) ?_ rfl hargs rfl rfl
    simp only [AllP, and_true, true_and, ne_false, bne_self_eq_false, beq_iff_eq, beq_eq_false_iff_ne, ne_eq, not_false_eq_true, not_true_eq_false, hj, hlo, hhi, Int.le_refl, z1, z2, z3, z4, z5, z6, hl, hd0, hd, hmay, ht0, ht1, hn00, hn01, zc, Int.reduceLE] <;> ((repeat' apply And.intro) <;> first | assumption | decide | omega)
  by_cases j17 : n0 % 22 = 17
  · have hj : (IntKind.i64.wrap n0).tmod 22 = 17 := by rw [hk]; exact j17
    have z4 : (bt2_17 x n1).size ≤ 4611686018427387904 := le_big (n := 22) rfl (by decide)
    refine leaf (rd2_17 s x n0 n1) ?_ rfl hargs rfl rfl
    simp only [AllP, and_true, true_and, ne_false, bne_self_eq_false, beq_iff_eq, beq_eq_false_iff_ne, ne_eq, not_false_eq_true, not_true_eq_false, hj, hlo, hhi, Int.le_refl, z1, z2, z3, z4, z5, z6, hl, hd0, hd, hmay, ht0, ht1, hn00, hn01, zc, Int.reduceLE] <;> ((repeat' apply And.intro) <;> first | assumption | decide | omega)
  by_cases j18 : n0 % 22 = 18
  · have hj : (IntKind.i64.wrap n0).tmod 22 = 18 := by rw [hk]; exact j18
    have z4 : (bt2_18 x n1).size ≤ 4611686018427387904 := le_big (n := 22) rfl (by decide)
    refine leaf (rd2_18 s x n0 n1) ?_ rfl hargs rfl rfl
    simp only [AllP, and_true, true_and, ne_false, bne_self_eq_false, beq_iff_eq, beq_eq_false_iff_ne, ne_eq, not_false_eq_true, not_true_eq_false, hj, hlo, hhi, Int.le_refl, z1, z2, z3, z4, z5, z6, hl, hd0, hd, hmay, ht0, ht1, hn00, hn01, zc, Int.reduceLE] <;> ((repeat' apply And.intro) <;> first | assumption | decide | omega)
  by_cases j19 : n0 % 22 = 19
  · have hj : (IntKind.i64.wrap n0).tmod 22 = 19 := by rw [hk]; exact j19
    have z4 : (bt2_19 x n1).size ≤ 4611686018427387904 := le_big (n := 22) rfl (by decide)
    refine leaf (rd2_19 s x n0 n1) ?_ rfl hargs rfl rfl
    simp only [AllP, and_true, true_and, ne_false, bne_self_eq_false, beq_iff_eq, beq_eq_false_iff_ne, ne_eq, not_false_eq_true, not_true_eq_false, hj, hlo, hhi, Int.le_refl, z1, z2, z3, z4, z5, z6, hl, hd0, hd, hmay, ht0, ht1, hn00, hn01, zc, Int.reduceLE] <;> ((repeat' apply And.intro) <;> first | assumption | decide | omega)
  by_cases j20 : n0 % 22 = 20
  · have hj : (IntKind.i64.wrap n0).tmod 22 = 20 := by rw [hk]; exact j20
    have z4 : (bt2_20 x n1).size ≤ 4611686018427387904 := le_big (n := 22) rfl (by decide)
    refine leaf (rd2_20 s x n0 n1) ?_ rfl hargs rfl rfl
    simp only [AllP, and_true, true_and, ne_false, bne_self_eq_false, beq_iff_eq, beq_eq_false_iff_ne, ne_eq, not_false_eq_true, not_true_eq_false, hj, hlo, hhi, Int.le_refl, z1, z2, z3, z4, z5, z6, hl, hd0, hd, hmay, ht0, ht1, hn00, hn01, zc, Int.reduceLE] <;> ((repeat' apply And.intro) <;> first | assumption | decide | omega)
  by_cases j21 : n0 % 22 = 21
  · have hj : (IntKind.i64.wrap n0).tmod 22 = 21 := by rw [hk]; exact j21
    have z4 : (bt2_21 x n1).size ≤ 4611686018427387904 := le_big (n := 22) rfl (by decide)
    refine leaf (rd2_21 s x n0 n1) ?_ rfl hargs rfl rfl
    simp only [AllP, and_true, true_and, ne_false, bne_self_eq_false, beq_iff_eq, beq_eq_false_iff_ne, ne_eq, not_false_eq_true, not_true_eq_false, hj, hlo, hhi, Int.le_refl, z1, z2, z3, z4, z5, z6, hl, hd0, hd, hmay, ht0, ht1, hn00, hn01, zc, Int.reduceLE] <;> ((repeat' apply And.intro) <;> first | assumption | decide | omega)
  omega

theorem walk0 (s : ByteArray) (x : DV) (n0 n1 : Int) (hx : x.Ok) (hn0 : 0 ≤ n0 ∧ n0 < 256) (w : World) :
    Calls Try.prog 4 #[.string s, x.v, .agg #[.int .u8 n0, .int .u8 n1]] w (fun e w' => e = .returned (.bool true) ∧ Below w.heap.size w w') := by
  have hargs : Rs [] [.val (.string s), x.sv, .agg [.val (.int .u8 n0), .val (.int .u8 n1)]] [.string s, x.v, .agg #[.int .u8 n0, .int .u8 n1]] :=
    Rs.cons (by simp only [R]) (Rs.cons (by exact ⟨_, rfl, by simp [Rs, R]⟩) (Rs.cons (by exact ⟨_, rfl, by simp [Rs, R]⟩) Rs.nil))
  by_cases h0 : x.d.tmod 3 = 0
  · exact reads0 s x n0 n1 hx hn0 h0 _ hargs w
  by_cases h1 : x.d.tmod 3 = 1
  · exact reads1 s x n0 n1 hx hn0 h0 h1 _ hargs w
  exact reads2 s x n0 n1 hx hn0 h0 h1 _ hargs w
end Go.Proofs.Ytmngnhbnicgjfaa
