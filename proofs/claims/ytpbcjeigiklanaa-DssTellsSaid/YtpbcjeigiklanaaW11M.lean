/-
  Walks of functions, reckoned through, and what they give (part W11M). No condition beyond what each says. By an AI agent.
-/
import Derived.Test.YtpbcjeigiklanaaW11L
import Derived.Test.YtpbcjeigiklanaaW11A
namespace Go.Proofs.Ytpbcjeigiklanaa
open Go.Ex
open Go.RowKit (Below)
set_option linter.unusedVariables false
set_option linter.unusedSimpArgs false
set_option maxRecDepth 1000000 in
noncomputable def XB := conned (P := Try.prog) Con.nil
set_option maxRecDepth 1000000 in
theorem br00_0 (fin : Bool) (la : Bool) (ld : Bool) (hs : Bool) (ack : Int) (dsn : Int) (ssn : Int) (ln : Int) (sm : Int) : gives (callR XB (run XB (100 : Nat)) (47 : FuncId) [SV.agg [SV.val (Value.bool fin), SV.bol false, SV.val (Value.bool la), SV.val (Value.int IntKind.u64 ack), SV.bol false, SV.val (Value.bool ld), SV.val (Value.int IntKind.u64 dsn), SV.val (Value.int IntKind.u32 ssn), SV.val (Value.int IntKind.i64 ln), SV.val (Value.bool hs), SV.val (Value.int IntKind.u16 sm)]] [] []) (SV.agg [SV.bol false, SV.bol false, SV.bol false, SV.num IntKind.u64 (0 : Int), SV.bol false, SV.bol false, SV.num IntKind.u64 (0 : Int), SV.num IntKind.u32 (0 : Int), SV.num IntKind.i64 (0 : Int), SV.bol false, SV.num IntKind.u16 (0 : Int)]) [] := by unfold gives; kernel_rfl
set_option maxRecDepth 1000000 in
theorem br01_0 (fin : Bool) (la : Bool) (ld : Bool) (hs : Bool) (ack : Int) (dsn : Int) (ssn : Int) (ln : Int) (sm : Int) : gives (callR XB (run XB (100 : Nat)) (47 : FuncId) [SV.agg [SV.val (Value.bool fin), SV.bol false, SV.val (Value.bool la), SV.val (Value.int IntKind.u64 ack), SV.bol true, SV.val (Value.bool ld), SV.val (Value.int IntKind.u64 dsn), SV.val (Value.int IntKind.u32 ssn), SV.val (Value.int IntKind.i64 ln), SV.val (Value.bool hs), SV.val (Value.int IntKind.u16 sm)]] [] [false]) (SV.agg [SV.val (Value.bool fin), SV.bol false, SV.bol false, SV.num IntKind.u64 (0 : Int), SV.bol true, SV.val (Value.bool ld), SV.val (Value.int IntKind.u64 dsn), SV.val (Value.int IntKind.u32 ssn), SV.val (Value.int IntKind.i64 ln), SV.val (Value.bool hs), SV.num IntKind.u16 (0 : Int)]) [hs = false] := by unfold gives; kernel_rfl
set_option maxRecDepth 1000000 in
theorem br01_1 (fin : Bool) (la : Bool) (ld : Bool) (hs : Bool) (ack : Int) (dsn : Int) (ssn : Int) (ln : Int) (sm : Int) : gives (callR XB (run XB (100 : Nat)) (47 : FuncId) [SV.agg [SV.val (Value.bool fin), SV.bol false, SV.val (Value.bool la), SV.val (Value.int IntKind.u64 ack), SV.bol true, SV.val (Value.bool ld), SV.val (Value.int IntKind.u64 dsn), SV.val (Value.int IntKind.u32 ssn), SV.val (Value.int IntKind.i64 ln), SV.val (Value.bool hs), SV.val (Value.int IntKind.u16 sm)]] [] [true]) (SV.agg [SV.val (Value.bool fin), SV.bol false, SV.bol false, SV.num IntKind.u64 (0 : Int), SV.bol true, SV.val (Value.bool ld), SV.val (Value.int IntKind.u64 dsn), SV.val (Value.int IntKind.u32 ssn), SV.val (Value.int IntKind.i64 ln), SV.val (Value.bool hs), SV.val (Value.int IntKind.u16 sm)]) [hs = true] := by unfold gives; kernel_rfl
set_option maxRecDepth 1000000 in
theorem br10_0 (fin : Bool) (la : Bool) (ld : Bool) (hs : Bool) (ack : Int) (dsn : Int) (ssn : Int) (ln : Int) (sm : Int) : gives (callR XB (run XB (100 : Nat)) (47 : FuncId) [SV.agg [SV.val (Value.bool fin), SV.bol true, SV.val (Value.bool la), SV.val (Value.int IntKind.u64 ack), SV.bol false, SV.val (Value.bool ld), SV.val (Value.int IntKind.u64 dsn), SV.val (Value.int IntKind.u32 ssn), SV.val (Value.int IntKind.i64 ln), SV.val (Value.bool hs), SV.val (Value.int IntKind.u16 sm)]] [] []) (SV.agg [SV.bol false, SV.bol true, SV.val (Value.bool la), SV.val (Value.int IntKind.u64 ack), SV.bol false, SV.bol false, SV.num IntKind.u64 (0 : Int), SV.num IntKind.u32 (0 : Int), SV.num IntKind.i64 (0 : Int), SV.bol false, SV.num IntKind.u16 (0 : Int)]) [] := by unfold gives; kernel_rfl
set_option maxRecDepth 1000000 in
theorem br11_0 (fin : Bool) (la : Bool) (ld : Bool) (hs : Bool) (ack : Int) (dsn : Int) (ssn : Int) (ln : Int) (sm : Int) : gives (callR XB (run XB (100 : Nat)) (47 : FuncId) [SV.agg [SV.val (Value.bool fin), SV.bol true, SV.val (Value.bool la), SV.val (Value.int IntKind.u64 ack), SV.bol true, SV.val (Value.bool ld), SV.val (Value.int IntKind.u64 dsn), SV.val (Value.int IntKind.u32 ssn), SV.val (Value.int IntKind.i64 ln), SV.val (Value.bool hs), SV.val (Value.int IntKind.u16 sm)]] [] [false]) (SV.agg [SV.val (Value.bool fin), SV.bol true, SV.val (Value.bool la), SV.val (Value.int IntKind.u64 ack), SV.bol true, SV.val (Value.bool ld), SV.val (Value.int IntKind.u64 dsn), SV.val (Value.int IntKind.u32 ssn), SV.val (Value.int IntKind.i64 ln), SV.val (Value.bool hs), SV.num IntKind.u16 (0 : Int)]) [hs = false] := by unfold gives; kernel_rfl
set_option maxRecDepth 1000000 in
theorem br11_1 (fin : Bool) (la : Bool) (ld : Bool) (hs : Bool) (ack : Int) (dsn : Int) (ssn : Int) (ln : Int) (sm : Int) : gives (callR XB (run XB (100 : Nat)) (47 : FuncId) [SV.agg [SV.val (Value.bool fin), SV.bol true, SV.val (Value.bool la), SV.val (Value.int IntKind.u64 ack), SV.bol true, SV.val (Value.bool ld), SV.val (Value.int IntKind.u64 dsn), SV.val (Value.int IntKind.u32 ssn), SV.val (Value.int IntKind.i64 ln), SV.val (Value.bool hs), SV.val (Value.int IntKind.u16 sm)]] [] [true]) (SV.agg [SV.val (Value.bool fin), SV.bol true, SV.val (Value.bool la), SV.val (Value.int IntKind.u64 ack), SV.bol true, SV.val (Value.bool ld), SV.val (Value.int IntKind.u64 dsn), SV.val (Value.int IntKind.u32 ssn), SV.val (Value.int IntKind.i64 ln), SV.val (Value.bool hs), SV.val (Value.int IntKind.u16 sm)]) [hs = true] := by unfold gives; kernel_rfl


def bareS (x : SG) : SG := ⟨x.hm && x.fin, x.ha, x.ha && x.la, (if x.ha = true then x.ack else 0), x.hm, x.hm && x.ld, (if x.hm = true then x.dsn else 0), (if x.hm = true then x.ssn else 0), (if x.hm = true then x.ln else 0), x.hm && x.hs, (if (x.hm && x.hs) = true then x.sm else 0)⟩
theorem bare_calls (x : SG) (w : World) : Calls Try.prog 47 #[x.v] w (fun e w' => e = .returned (bareS x).v ∧ Below w.heap.size w w') := by
  obtain ⟨fin, ha, la, ack, hm, ld, dsn, ssn, ln, hs, sm⟩ := x
  cases ha <;> cases hm
  · exact leaf (br00_0 fin la ld hs ack dsn ssn ln sm) trivial rfl (Rs.cons (by exact ⟨_, rfl, by simp [Rs, R]⟩) Rs.nil) rfl rfl
  · cases hs
    · exact leaf (br01_0 fin la ld false ack dsn ssn ln sm) ⟨rfl, trivial⟩ rfl (Rs.cons (by exact ⟨_, rfl, by simp [Rs, R]⟩) Rs.nil) rfl rfl
    · exact leaf (br01_1 fin la ld true ack dsn ssn ln sm) ⟨rfl, trivial⟩ rfl (Rs.cons (by exact ⟨_, rfl, by simp [Rs, R]⟩) Rs.nil) rfl rfl
  · exact leaf (br10_0 fin la ld hs ack dsn ssn ln sm) trivial rfl (Rs.cons (by exact ⟨_, rfl, by simp [Rs, R]⟩) Rs.nil) rfl rfl
  · cases hs
    · exact leaf (br11_0 fin la ld false ack dsn ssn ln sm) ⟨rfl, trivial⟩ rfl (Rs.cons (by exact ⟨_, rfl, by simp [Rs, R]⟩) Rs.nil) rfl rfl
    · exact leaf (br11_1 fin la ld true ack dsn ssn ln sm) ⟨rfl, trivial⟩ rfl (Rs.cons (by exact ⟨_, rfl, by simp [Rs, R]⟩) Rs.nil) rfl rfl

def bareG (args : List SV) : Option (SV × Prop) :=
  match args with
  | [.agg l] =>
    match SV.vals l with
    | some [.bool fin, .bool ha, .bool la, .int .u64 ack, .bool hm, .bool ld, .int .u64 dsn, .int .u32 ssn, .int .i64 ln, .bool hs, .int .u16 sm] => some (.agg [.val (.bool (bareS ⟨fin, ha, la, ack, hm, ld, dsn, ssn, ln, hs, sm⟩).fin), .val (.bool (bareS ⟨fin, ha, la, ack, hm, ld, dsn, ssn, ln, hs, sm⟩).ha), .val (.bool (bareS ⟨fin, ha, la, ack, hm, ld, dsn, ssn, ln, hs, sm⟩).la), .val (.int .u64 (bareS ⟨fin, ha, la, ack, hm, ld, dsn, ssn, ln, hs, sm⟩).ack), .val (.bool (bareS ⟨fin, ha, la, ack, hm, ld, dsn, ssn, ln, hs, sm⟩).hm), .val (.bool (bareS ⟨fin, ha, la, ack, hm, ld, dsn, ssn, ln, hs, sm⟩).ld), .val (.int .u64 (bareS ⟨fin, ha, la, ack, hm, ld, dsn, ssn, ln, hs, sm⟩).dsn), .val (.int .u32 (bareS ⟨fin, ha, la, ack, hm, ld, dsn, ssn, ln, hs, sm⟩).ssn), .val (.int .i64 (bareS ⟨fin, ha, la, ack, hm, ld, dsn, ssn, ln, hs, sm⟩).ln), .val (.bool (bareS ⟨fin, ha, la, ack, hm, ld, dsn, ssn, ln, hs, sm⟩).hs), .val (.int .u16 (bareS ⟨fin, ha, la, ack, hm, ld, dsn, ssn, ln, hs, sm⟩).sm)], True)
    | _ => none
  | _ => none
theorem bareG_ok : ∀ args s p, bareG args = some (s, p) → p → s.pln = true ∧ ∀ (w : World) (vs : List Value), Rs [] args vs →
    Calls Try.prog 47 vs.toArray w (fun e w' => e = .returned s.toV ∧ Below w.heap.size w w') := by
  intro args s p hg hp
  unfold bareG at hg
  split at hg
  · rename_i l
    split at hg
    · rename_i fin ha la ack hm ld dsn ssn ln hs sm hl
      simp only [Option.some.injEq, Prod.mk.injEq] at hg
      obtain ⟨rfl, rfl⟩ := hg
      refine ⟨rfl, fun w vs hv => ?_⟩
      obtain rfl := args1 hl hv
      exact bare_calls ⟨fin, ha, la, ack, hm, ld, dsn, ssn, ln, hs, sm⟩ w
    · simp at hg
  · simp at hg
noncomputable def bareC : Con Try.prog := Con.ofVals 47 bareG bareG_ok
noncomputable def XM : Cx := conned (laidC.or bareC)

end Go.Proofs.Ytpbcjeigiklanaa
