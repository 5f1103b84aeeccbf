/-
  Walks of functions, reckoned through, and what they give (part W09fi). No condition beyond what each says. By an AI agent.
-/
import Derived.Test.YtomkceffoanhcaaW09y
import Derived.Test.YtomkceffoanhcaaW09s
namespace Go.Proofs.Ytomkceffoanhcaa
open Go.Ex
open Go.RowKit (Below)
set_option linter.unusedVariables false
set_option linter.unusedSimpArgs false
noncomputable def cf_r0 (x : CV) (ans : List Bool) : Rr (SV × Option (List SO)) := callR X0 (run X0 (100 : Nat)) (8 : FuncId) [x.sv] [] ans
def cf_p0 (x : CV) : Prop :=
  gives (cf_r0 x [true, true, true, true]) (SV.agg [SV.val (Value.int IntKind.i64 (IntKind.i64.wrap ((IntKind.u64.wrap x.fo).tmod (5 : Int)))), SV.val (Value.int IntKind.i64 (IntKind.i64.wrap ((IntKind.u64.wrap x.ver).tmod (16 : Int)))), SV.val (Value.bool x.sums), SV.val (Value.bool x.alone), SV.num IntKind.u64 (0 : Int), SV.num IntKind.u64 (0 : Int), SV.num IntKind.i64 (0 : Int), SV.num IntKind.u16 (0 : Int)]) [decide (IntKind.i64.wrap ((IntKind.u64.wrap x.fo).tmod (5 : Int)) < (1 : Int)) = true, decide (IntKind.i64.wrap ((IntKind.u64.wrap x.fo).tmod (5 : Int)) < (2 : Int)) = true, decide (IntKind.i64.wrap ((IntKind.u64.wrap x.fo).tmod (5 : Int)) < (3 : Int)) = true, decide (IntKind.i64.wrap ((IntKind.u64.wrap x.fo).tmod (5 : Int)) < (4 : Int)) = true]
def cf_p1 (x : CV) : Prop :=
  gives (cf_r0 x [false, true, true, true]) (SV.agg [SV.val (Value.int IntKind.i64 (IntKind.i64.wrap ((IntKind.u64.wrap x.fo).tmod (5 : Int)))), SV.val (Value.int IntKind.i64 (IntKind.i64.wrap ((IntKind.u64.wrap x.ver).tmod (16 : Int)))), SV.val (Value.bool x.sums), SV.val (Value.bool x.alone), SV.val (Value.int IntKind.u64 x.own), SV.num IntKind.u64 (0 : Int), SV.num IntKind.i64 (0 : Int), SV.num IntKind.u16 (0 : Int)]) [decide (IntKind.i64.wrap ((IntKind.u64.wrap x.fo).tmod (5 : Int)) < (1 : Int)) = false, decide (IntKind.i64.wrap ((IntKind.u64.wrap x.fo).tmod (5 : Int)) < (2 : Int)) = true, decide (IntKind.i64.wrap ((IntKind.u64.wrap x.fo).tmod (5 : Int)) < (3 : Int)) = true, decide (IntKind.i64.wrap ((IntKind.u64.wrap x.fo).tmod (5 : Int)) < (4 : Int)) = true]
def cf_p2 (x : CV) : Prop :=
  gives (cf_r0 x [false, false, true, true]) (SV.agg [SV.val (Value.int IntKind.i64 (IntKind.i64.wrap ((IntKind.u64.wrap x.fo).tmod (5 : Int)))), SV.val (Value.int IntKind.i64 (IntKind.i64.wrap ((IntKind.u64.wrap x.ver).tmod (16 : Int)))), SV.val (Value.bool x.sums), SV.val (Value.bool x.alone), SV.val (Value.int IntKind.u64 x.own), SV.val (Value.int IntKind.u64 x.peer), SV.num IntKind.i64 (0 : Int), SV.num IntKind.u16 (0 : Int)]) [decide (IntKind.i64.wrap ((IntKind.u64.wrap x.fo).tmod (5 : Int)) < (1 : Int)) = false, decide (IntKind.i64.wrap ((IntKind.u64.wrap x.fo).tmod (5 : Int)) < (2 : Int)) = false, decide (IntKind.i64.wrap ((IntKind.u64.wrap x.fo).tmod (5 : Int)) < (3 : Int)) = true, decide (IntKind.i64.wrap ((IntKind.u64.wrap x.fo).tmod (5 : Int)) < (4 : Int)) = true]
def cf_p3 (x : CV) : Prop :=
  gives (cf_r0 x [false, false, false, true]) (SV.agg [SV.val (Value.int IntKind.i64 (IntKind.i64.wrap ((IntKind.u64.wrap x.fo).tmod (5 : Int)))), SV.val (Value.int IntKind.i64 (IntKind.i64.wrap ((IntKind.u64.wrap x.ver).tmod (16 : Int)))), SV.val (Value.bool x.sums), SV.val (Value.bool x.alone), SV.val (Value.int IntKind.u64 x.own), SV.val (Value.int IntKind.u64 x.peer), SV.val (Value.int IntKind.i64 (IntKind.i64.wrap ((IntKind.u64.wrap x.ln).tmod (65536 : Int)))), SV.num IntKind.u16 (0 : Int)]) [decide (IntKind.i64.wrap ((IntKind.u64.wrap x.fo).tmod (5 : Int)) < (1 : Int)) = false, decide (IntKind.i64.wrap ((IntKind.u64.wrap x.fo).tmod (5 : Int)) < (2 : Int)) = false, decide (IntKind.i64.wrap ((IntKind.u64.wrap x.fo).tmod (5 : Int)) < (3 : Int)) = false, decide (IntKind.i64.wrap ((IntKind.u64.wrap x.fo).tmod (5 : Int)) < (4 : Int)) = true]
def cf_p4 (x : CV) : Prop :=
  gives (cf_r0 x [false, false, false, false]) (SV.agg [SV.val (Value.int IntKind.i64 (IntKind.i64.wrap ((IntKind.u64.wrap x.fo).tmod (5 : Int)))), SV.val (Value.int IntKind.i64 (IntKind.i64.wrap ((IntKind.u64.wrap x.ver).tmod (16 : Int)))), SV.val (Value.bool x.sums), SV.val (Value.bool x.alone), SV.val (Value.int IntKind.u64 x.own), SV.val (Value.int IntKind.u64 x.peer), SV.val (Value.int IntKind.i64 (IntKind.i64.wrap ((IntKind.u64.wrap x.ln).tmod (65536 : Int)))), SV.val (Value.int IntKind.u16 x.sm)]) [decide (IntKind.i64.wrap ((IntKind.u64.wrap x.fo).tmod (5 : Int)) < (1 : Int)) = false, decide (IntKind.i64.wrap ((IntKind.u64.wrap x.fo).tmod (5 : Int)) < (2 : Int)) = false, decide (IntKind.i64.wrap ((IntKind.u64.wrap x.fo).tmod (5 : Int)) < (3 : Int)) = false, decide (IntKind.i64.wrap ((IntKind.u64.wrap x.fo).tmod (5 : Int)) < (4 : Int)) = false]
set_option maxRecDepth 1000000 in
theorem cf_b0 (x : CV) : cf_p0 x ∧ cf_p1 x ∧ cf_p2 x ∧ cf_p3 x ∧ cf_p4 x := by
  unfold cf_p0 cf_p1 cf_p2 cf_p3 cf_p4 gives; exact ⟨by kernel_rfl, by kernel_rfl, by kernel_rfl, by kernel_rfl, by kernel_rfl⟩
theorem cf_0 (x : CV) : cf_p0 x := (cf_b0 x).1
theorem cf_1 (x : CV) : cf_p1 x := (cf_b0 x).2.1
theorem cf_2 (x : CV) : cf_p2 x := (cf_b0 x).2.2.1
theorem cf_3 (x : CV) : cf_p3 x := (cf_b0 x).2.2.2.1
theorem cf_4 (x : CV) : cf_p4 x := (cf_b0 x).2.2.2.2


def fitS (x : CV) : CV := ⟨fF x, fV x, x.sums, x.alone, (if fF x < 1 then 0 else x.own), (if fF x < 2 then 0 else x.peer), (if fF x < 3 then 0 else fL x), (if fF x < 4 then 0 else x.sm)⟩
theorem fit_calls (x : CV) (w : World) : Calls Try.prog 8 #[x.v] w (fun e w' => e = .returned (fitS x).v ∧ Below w.heap.size w w') := by
  have hargs : Rs [] [x.sv] [x.v] := Rs.cons (by exact ⟨_, rfl, by simp [Rs, R]⟩) Rs.nil
  obtain ⟨F, hF⟩ : ∃ F, fF x = F := ⟨_, rfl⟩
  have e0 : (IntKind.i64.wrap ((IntKind.u64.wrap x.fo).tmod (5 : Int))) = F := hF

  by_cases c1 : F < 1
  · have c2 : F < 2 := by omega
    have c3 : F < 3 := by omega
    have c4 : F < 4 := by omega
    exact leaf (cf_0 x) (by simp only [AllP, and_true, true_and, e0, decide_eq_true_eq, decide_eq_false_iff_not, not_true_eq_false, not_false_eq_true, c1, c2, c3, c4]) rfl hargs (by simp only [SV.toV, toVs, CV.v, fitS, hF, if_pos c1, if_pos c2, if_pos c3, if_pos c4]; rw [← hF]; rfl) rfl
  by_cases c2 : F < 2
  · have c3 : F < 3 := by omega
    have c4 : F < 4 := by omega
    exact leaf (cf_1 x) (by simp only [AllP, and_true, true_and, e0, decide_eq_true_eq, decide_eq_false_iff_not, not_true_eq_false, not_false_eq_true, c1, c2, c3, c4]) rfl hargs (by simp only [SV.toV, toVs, CV.v, fitS, hF, if_neg c1, if_pos c2, if_pos c3, if_pos c4]; rw [← hF]; rfl) rfl
  by_cases c3 : F < 3
  · have c4 : F < 4 := by omega
    exact leaf (cf_2 x) (by simp only [AllP, and_true, true_and, e0, decide_eq_true_eq, decide_eq_false_iff_not, not_true_eq_false, not_false_eq_true, c1, c2, c3, c4]) rfl hargs (by simp only [SV.toV, toVs, CV.v, fitS, hF, if_neg c1, if_neg c2, if_pos c3, if_pos c4]; rw [← hF]; rfl) rfl
  by_cases c4 : F < 4
  · exact leaf (cf_3 x) (by simp only [AllP, and_true, true_and, e0, decide_eq_true_eq, decide_eq_false_iff_not, not_true_eq_false, not_false_eq_true, c1, c2, c3, c4]) rfl hargs (by simp only [SV.toV, toVs, CV.v, fitS, hF, if_neg c1, if_neg c2, if_neg c3, if_pos c4]; rw [← hF]; rfl) rfl
  exact leaf (cf_4 x) (by simp only [AllP, and_true, true_and, e0, decide_eq_true_eq, decide_eq_false_iff_not, not_true_eq_false, not_false_eq_true, c1, c2, c3, c4]) rfl hargs (by simp only [SV.toV, toVs, CV.v, fitS, hF, if_neg c1, if_neg c2, if_neg c3, if_neg c4]; rw [← hF]; rfl) rfl

def fitG (args : List SV) : Option (SV × Prop) :=
  match args with
  | [.agg l] =>
    match SV.vals l with
    | some [.int .i64 fo, .int .i64 ver, .bool su, .bool al, .int .u64 own, .int .u64 peer, .int .i64 ln, .int .u16 sm] => some ((fitS ⟨fo, ver, su, al, own, peer, ln, sm⟩).sv, True)
    | _ => none
  | _ => none
theorem fitG_ok : ∀ args s p, fitG args = some (s, p) → p → s.pln = true ∧ ∀ (w : World) (vs : List Value), Rs [] args vs →
    Calls Try.prog 8 vs.toArray w (fun e w' => e = .returned s.toV ∧ Below w.heap.size w w') := by
  intro args s p hg hp
  unfold fitG at hg
  split at hg
  · rename_i l
    split at hg
    · rename_i fo ver su al own peer ln sm hl
      simp only [Option.some.injEq, Prod.mk.injEq] at hg
      obtain ⟨rfl, rfl⟩ := hg
      refine ⟨rfl, fun w vs hv => ?_⟩
      obtain rfl := args1 (args := []) hl hv
      exact fit_calls ⟨fo, ver, su, al, own, peer, ln, sm⟩ w
    · simp at hg
  · simp at hg
noncomputable def fitC : Con Try.prog := Con.ofVals 8 fitG fitG_ok
noncomputable def allP : Con Try.prog := fitC.or allC2
noncomputable def ZP : Cx := conned allP
theorem fit_may (x : CV) : may (fitS x) := by
  have g1 := fF_range x
  have g2 := fV_range x
  have g3 := fL_range x
  unfold may fitS
  simp only
  refine ⟨g1.1, g1.2, g2.1, g2.2, ?_, ?_, ?_, ?_, ?_, ?_⟩ <;> (repeat' split) <;> first | omega | (simp; done) | (simp; omega)
theorem fit_rng (x : CV) (h : Rng x) : Rng (fitS x) := by
  obtain ⟨h1, h2, h3⟩ := h
  unfold Rng fitS
  simp only
  refine ⟨?_, ?_, ?_⟩ <;> split <;> first | assumption | omega

end Go.Proofs.Ytomkceffoanhcaa
