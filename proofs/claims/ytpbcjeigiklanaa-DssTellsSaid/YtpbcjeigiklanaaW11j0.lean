/-
  Walks of functions, reckoned through, and what they give (part W11j0). No condition beyond what each says. By an AI agent.
-/
import Derived.Test.YtpbcjeigiklanaaW11i
import Derived.Test.YtpbcjeigiklanaaW11A
namespace Go.Proofs.Ytpbcjeigiklanaa
open Go.Ex
open Go.RowKit (Below)
set_option linter.unusedVariables false
set_option linter.unusedSimpArgs false

theorem fit_calls (x : SG) (w : World) : Calls Try.prog 9 #[x.v] w (fun e w' => e = .returned (fitS x).v ∧ Below w.heap.size w w') := by
  obtain ⟨fin, ha, la, ack, hm, ld, dsn, ssn, ln, hs, sm⟩ := x
  cases ha <;> cases hm

  · cases la
    · exact leaf (df00_0 fin false ld hs ack dsn ssn ln sm) ⟨rfl, trivial⟩ rfl (Rs.cons (by exact ⟨_, rfl, by simp [Rs, R]⟩) Rs.nil) rfl rfl
    · exact leaf (df00_1 fin true ld hs ack dsn ssn ln sm) ⟨rfl, trivial⟩ rfl (Rs.cons (by exact ⟨_, rfl, by simp [Rs, R]⟩) Rs.nil) rfl rfl
  · cases ld <;> cases hs
    · exact leaf (df01_0 fin la false false ack dsn ssn ln sm) ⟨rfl, rfl, trivial⟩ rfl (Rs.cons (by exact ⟨_, rfl, by simp [Rs, R]⟩) Rs.nil) rfl rfl
    · exact leaf (df01_1 fin la false true ack dsn ssn ln sm) ⟨rfl, rfl, trivial⟩ rfl (Rs.cons (by exact ⟨_, rfl, by simp [Rs, R]⟩) Rs.nil) rfl rfl
    · exact leaf (df01_2 fin la true false ack dsn ssn ln sm) ⟨rfl, rfl, trivial⟩ rfl (Rs.cons (by exact ⟨_, rfl, by simp [Rs, R]⟩) Rs.nil) rfl rfl
    · exact leaf (df01_3 fin la true true ack dsn ssn ln sm) ⟨rfl, rfl, trivial⟩ rfl (Rs.cons (by exact ⟨_, rfl, by simp [Rs, R]⟩) Rs.nil) rfl rfl
  · cases la
    · exact leaf (df10_0 fin false ld hs ack dsn ssn ln sm) ⟨rfl, trivial⟩ rfl (Rs.cons (by exact ⟨_, rfl, by simp [Rs, R]⟩) Rs.nil) rfl rfl
    · exact leaf (df10_1 fin true ld hs ack dsn ssn ln sm) ⟨rfl, trivial⟩ rfl (Rs.cons (by exact ⟨_, rfl, by simp [Rs, R]⟩) Rs.nil) rfl rfl
  · cases la <;> cases ld <;> cases hs
    · exact leaf (df11_0 fin false false false ack dsn ssn ln sm) ⟨rfl, rfl, rfl, trivial⟩ rfl (Rs.cons (by exact ⟨_, rfl, by simp [Rs, R]⟩) Rs.nil) rfl rfl
    · exact leaf (df11_1 fin false false true ack dsn ssn ln sm) ⟨rfl, rfl, rfl, trivial⟩ rfl (Rs.cons (by exact ⟨_, rfl, by simp [Rs, R]⟩) Rs.nil) rfl rfl
    · exact leaf (df11_2 fin false true false ack dsn ssn ln sm) ⟨rfl, rfl, rfl, trivial⟩ rfl (Rs.cons (by exact ⟨_, rfl, by simp [Rs, R]⟩) Rs.nil) rfl rfl
    · exact leaf (df11_3 fin false true true ack dsn ssn ln sm) ⟨rfl, rfl, rfl, trivial⟩ rfl (Rs.cons (by exact ⟨_, rfl, by simp [Rs, R]⟩) Rs.nil) rfl rfl
    · exact leaf (df11_4 fin true false false ack dsn ssn ln sm) ⟨rfl, rfl, rfl, trivial⟩ rfl (Rs.cons (by exact ⟨_, rfl, by simp [Rs, R]⟩) Rs.nil) rfl rfl
    · exact leaf (df11_5 fin true false true ack dsn ssn ln sm) ⟨rfl, rfl, rfl, trivial⟩ rfl (Rs.cons (by exact ⟨_, rfl, by simp [Rs, R]⟩) Rs.nil) rfl rfl
    · exact leaf (df11_6 fin true true false ack dsn ssn ln sm) ⟨rfl, rfl, rfl, trivial⟩ rfl (Rs.cons (by exact ⟨_, rfl, by simp [Rs, R]⟩) Rs.nil) rfl rfl
    · exact leaf (df11_7 fin true true true ack dsn ssn ln sm) ⟨rfl, rfl, rfl, trivial⟩ rfl (Rs.cons (by exact ⟨_, rfl, by simp [Rs, R]⟩) Rs.nil) rfl rfl

def fitG (args : List SV) : Option (SV × Prop) :=
  match args with
  | [.agg l] =>
    match SV.vals l with
    | some [.bool fin, .bool ha, .bool la, .int .u64 ack, .bool hm, .bool ld, .int .u64 dsn, .int .u32 ssn, .int .i64 ln, .bool hs, .int .u16 sm] => some (.agg [.val (.bool (fitS ⟨fin, ha, la, ack, hm, ld, dsn, ssn, ln, hs, sm⟩).fin), .val (.bool (fitS ⟨fin, ha, la, ack, hm, ld, dsn, ssn, ln, hs, sm⟩).ha), .val (.bool (fitS ⟨fin, ha, la, ack, hm, ld, dsn, ssn, ln, hs, sm⟩).la), .val (.int .u64 (fitS ⟨fin, ha, la, ack, hm, ld, dsn, ssn, ln, hs, sm⟩).ack), .val (.bool (fitS ⟨fin, ha, la, ack, hm, ld, dsn, ssn, ln, hs, sm⟩).hm), .val (.bool (fitS ⟨fin, ha, la, ack, hm, ld, dsn, ssn, ln, hs, sm⟩).ld), .val (.int .u64 (fitS ⟨fin, ha, la, ack, hm, ld, dsn, ssn, ln, hs, sm⟩).dsn), .val (.int .u32 (fitS ⟨fin, ha, la, ack, hm, ld, dsn, ssn, ln, hs, sm⟩).ssn), .val (.int .i64 (fitS ⟨fin, ha, la, ack, hm, ld, dsn, ssn, ln, hs, sm⟩).ln), .val (.bool (fitS ⟨fin, ha, la, ack, hm, ld, dsn, ssn, ln, hs, sm⟩).hs), .val (.int .u16 (fitS ⟨fin, ha, la, ack, hm, ld, dsn, ssn, ln, hs, sm⟩).sm)], True)
    | _ => none
  | _ => none
theorem fitG_ok : ∀ args s p, fitG args = some (s, p) → p → s.pln = true ∧ ∀ (w : World) (vs : List Value), Rs [] args vs →
    Calls Try.prog 9 vs.toArray w (fun e w' => e = .returned s.toV ∧ Below w.heap.size w w') := by
  intro args s p hg hp
  unfold fitG at hg
  split at hg
  · rename_i l
    split at hg
    · rename_i fin ha la ack hm ld dsn ssn ln hs sm hl
      simp only [Option.some.injEq, Prod.mk.injEq] at hg
      obtain ⟨rfl, rfl⟩ := hg
      refine ⟨rfl, fun w vs hv => ?_⟩
      obtain rfl := args1 hl hv
      exact fit_calls ⟨fin, ha, la, ack, hm, ld, dsn, ssn, ln, hs, sm⟩ w
    · simp at hg
  · simp at hg
def encG (args : List SV) : Option (SV × Prop) :=
  match args with
  | [.agg l] =>
    match SV.vals l with
    | some [.bool fin, .bool ha, .bool la, .int .u64 ack, .bool hm, .bool ld, .int .u64 dsn, .int .u32 ssn, .int .i64 ln, .bool hs, .int .u16 sm] => some (.tup [.val (.string (enc ⟨fin, ha, la, ack, hm, ld, dsn, ssn, ln, hs, sm⟩).1), .val (.int .i64 (enc ⟨fin, ha, la, ack, hm, ld, dsn, ssn, ln, hs, sm⟩).2)], Rng ⟨fin, ha, la, ack, hm, ld, dsn, ssn, ln, hs, sm⟩)
    | _ => none
  | _ => none
theorem encG_ok {f : FuncId} (h : ∀ (x : SG), Rng x → ∀ (w : World), Calls Try.prog f #[x.v] w (fun e w' => e = .returned (.tuple #[.string (enc x).1, .int .i64 (enc x).2]) ∧ Below w.heap.size w w')) :
    ∀ args s p, encG args = some (s, p) → p → s.pln = true ∧ ∀ (w : World) (vs : List Value), Rs [] args vs →
    Calls Try.prog f vs.toArray w (fun e w' => e = .returned s.toV ∧ Below w.heap.size w w') := by
  intro args s p hg hp
  unfold encG at hg
  split at hg
  · rename_i l
    split at hg
    · rename_i fin ha la ack hm ld dsn ssn ln hs sm hl
      simp only [Option.some.injEq, Prod.mk.injEq] at hg
      obtain ⟨rfl, rfl⟩ := hg
      refine ⟨rfl, fun w vs hv => ?_⟩
      obtain rfl := args1 hl hv
      exact h ⟨fin, ha, la, ack, hm, ld, dsn, ssn, ln, hs, sm⟩ hp w
    · simp at hg
  · simp at hg
noncomputable def fitC : Con Try.prog := Con.ofVals 9 fitG fitG_ok

end Go.Proofs.Ytpbcjeigiklanaa
