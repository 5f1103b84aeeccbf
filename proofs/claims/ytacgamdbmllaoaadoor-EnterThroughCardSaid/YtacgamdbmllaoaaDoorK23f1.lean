/-
  Walks of functions, reckoned through, and what they give (part K23f1). No condition beyond what each says. By an AI agent.
-/
import Derived.Test.YtacgamdbmllaoaaDoorK23f0
namespace Go.Proofs.YtacgamdbmllaoaaDoor
open Go.Ex
open Go.RowKit (Below)
set_option linter.unusedVariables false
set_option maxRecDepth 1000000
theorem th_100 (T : Int → Int) (S L : TxF) (k0 k1 n0 n1 id : Int) : givesV (topR (enX (enR T S L)) (run (enX (enR T S L)) 80) 6 [.agg [.val (.int .u64 k0), .val (.int .u64 k1)], .agg [.val (.int .u32 n0), .val (.int .u32 n1)], .val (.int .u8 id), .agg [.bol true, .bol false, .bol false]] [globS] [false, false, false, false, true, true, false, true, true, false, true, true, false, true]) (thV L k0 k1 n0 n1 false) (LTh T S L k0 k1 n0 n1 id true false false) := by
  unfold givesV; kernel_rfl
theorem th_101 (T : Int → Int) (S L : TxF) (k0 k1 n0 n1 id : Int) : givesV (topR (enX (enR T S L)) (run (enX (enR T S L)) 80) 6 [.agg [.val (.int .u64 k0), .val (.int .u64 k1)], .agg [.val (.int .u32 n0), .val (.int .u32 n1)], .val (.int .u8 id), .agg [.bol true, .bol false, .bol true]] [globS] [false, false, false, false, true, true, false, true, true, false, true, true, false, true]) (thV L k0 k1 n0 n1 true) (LTh T S L k0 k1 n0 n1 id true false true) := by
  unfold givesV; kernel_rfl
theorem th_110 (T : Int → Int) (S L : TxF) (k0 k1 n0 n1 id : Int) : givesV (topR (enX (enR T S L)) (run (enX (enR T S L)) 80) 6 [.agg [.val (.int .u64 k0), .val (.int .u64 k1)], .agg [.val (.int .u32 n0), .val (.int .u32 n1)], .val (.int .u8 id), .agg [.bol true, .bol true, .bol false]] [globS] [false, false, false, false, true, true, false, true, true, false, true, true, false, true, true, false, true]) (thV L k0 k1 n0 n1 false) (LTh T S L k0 k1 n0 n1 id true true false) := by
  unfold givesV; kernel_rfl
theorem th_111 (T : Int → Int) (S L : TxF) (k0 k1 n0 n1 id : Int) : givesV (topR (enX (enR T S L)) (run (enX (enR T S L)) 80) 6 [.agg [.val (.int .u64 k0), .val (.int .u64 k1)], .agg [.val (.int .u32 n0), .val (.int .u32 n1)], .val (.int .u8 id), .agg [.bol true, .bol true, .bol true]] [globS] [false, false, false, false, true, true, false, true, true, false, true, true, false, true, true, false, true]) (thV L k0 k1 n0 n1 true) (LTh T S L k0 k1 n0 n1 id true true true) := by
  unfold givesV; kernel_rfl
theorem through_call (k0 k1 n0 n1 id : Int) (h : 0 ≤ id ∧ id < 256) (b0 b1 b2 : Bool) {η : Env} {W : World} {vs : List Value} (hr : HR W.heap.size η [globS] W)
    (hargs : Rs η [.agg [.val (.int .u64 k0), .val (.int .u64 k1)], .agg [.val (.int .u32 n0), .val (.int .u32 n1)], .val (.int .u8 id), .agg [.bol b0, .bol b1, .bol b2]] vs) :
    Calls Tryd.prog 6 vs.toArray W (fun e w' => ∃ v, e = .returned v ∧ v = .bool true ∧ Below W.heap.size W w') := by
  have ps : PSf shW 0 glL := ⟨rfl, rfl, rfl⟩
  have pl : PLf lgW 0 glL := ⟨rfl, rfl, rfl⟩
  have pt : PTf tkT 0 glL := ⟨rfl, rfl, rfl⟩
  have e : idT id = id := by unfold idT; rw [wi64]; omega
  have d0 : decide (idT id < 0) = false := by rw [e]; simp; omega
  have d1 : decide (idT id > 255) = false := by rw [e]; simp; omega
  have i1 : (idT id == idT id) = true := beq_self_eq_true _
  have t1 : (tkT k1 == tkT k1) = true := beq_self_eq_true _
  have t2 : (!(tkT k1 == tkT k1)) = false := by rw [t1]; rfl
  have s1 : eqT (shW k1 k0 n1 n0) (shW k1 k0 n1 n0) = true := eqT_self _
  have s2 : (!(eqT (shW k1 k0 n1 n0) (shW k1 k0 n1 n0))) = false := by rw [s1]; rfl
  have l1 : eqT (lgW k0 k1 n0 n1) (lgW k0 k1 n0 n1) = true := eqT_self _
  have fin : R [] (thV lgW k0 k1 n0 n1 b2) = R [] (.bol true) := by
    unfold thV
    cases b2 with
    | false => rfl
    | true => rw [if_pos rfl, l1]; rfl
  have hf : (thV lgW k0 k1 n0 n1 b2).free = true := by cases b2 <;> rfl
  have fin2 : ∀ {e : Ending} {w' : World}, (∃ v, e = .returned v ∧ R [] (thV lgW k0 k1 n0 n1 b2) v ∧ Below W.heap.size W w') → ∃ v, e = .returned v ∧ v = .bool true ∧ Below W.heap.size W w' := fun ⟨v, e1, hR, hb⟩ => by
    rw [fin] at hR
    simp only [R] at hR
    exact ⟨v, e1, hR, hb⟩
  cases b0 <;> cases b1 <;> cases b2
  · exact (callsV (X := enX _) rfl (enX_ct enR_ok) (enX_lp _) 80 (th_000 tkT shW lgW k0 k1 n0 n1 id) ⟨d0, d1, d0, d1, ⟨rfl, rfl⟩, pt, i1, pt, t1, t2, ps, i1, ps, s1, s2, pl, pl, l1, trivial⟩ hf hr hargs).mono fun e w' hq => fin2 hq
  · exact (callsV (X := enX _) rfl (enX_ct enR_ok) (enX_lp _) 80 (th_001 tkT shW lgW k0 k1 n0 n1 id) ⟨d0, d1, d0, d1, ⟨rfl, rfl⟩, pt, i1, pt, t1, t2, ps, i1, ps, s1, s2, pl, pl, l1, pl, pl, trivial⟩ hf hr hargs).mono fun e w' hq => fin2 hq
  · exact (callsV (X := enX _) rfl (enX_ct enR_ok) (enX_lp _) 80 (th_010 tkT shW lgW k0 k1 n0 n1 id) ⟨d0, d1, d0, d1, ⟨rfl, rfl⟩, pt, i1, pt, t1, t2, ps, i1, ps, s1, s2, ps, i1, ps, s1, s2, pl, pl, l1, trivial⟩ hf hr hargs).mono fun e w' hq => fin2 hq
  · exact (callsV (X := enX _) rfl (enX_ct enR_ok) (enX_lp _) 80 (th_011 tkT shW lgW k0 k1 n0 n1 id) ⟨d0, d1, d0, d1, ⟨rfl, rfl⟩, pt, i1, pt, t1, t2, ps, i1, ps, s1, s2, ps, i1, ps, s1, s2, pl, pl, l1, pl, pl, trivial⟩ hf hr hargs).mono fun e w' hq => fin2 hq
  · exact (callsV (X := enX _) rfl (enX_ct enR_ok) (enX_lp _) 80 (th_100 tkT shW lgW k0 k1 n0 n1 id) ⟨d0, d1, d0, d1, ⟨rfl, rfl⟩, pt, i1, pt, t1, t2, pt, i1, pt, t1, t2, ps, i1, ps, s1, s2, pl, pl, l1, trivial⟩ hf hr hargs).mono fun e w' hq => fin2 hq
  · exact (callsV (X := enX _) rfl (enX_ct enR_ok) (enX_lp _) 80 (th_101 tkT shW lgW k0 k1 n0 n1 id) ⟨d0, d1, d0, d1, ⟨rfl, rfl⟩, pt, i1, pt, t1, t2, pt, i1, pt, t1, t2, ps, i1, ps, s1, s2, pl, pl, l1, pl, pl, trivial⟩ hf hr hargs).mono fun e w' hq => fin2 hq
  · exact (callsV (X := enX _) rfl (enX_ct enR_ok) (enX_lp _) 80 (th_110 tkT shW lgW k0 k1 n0 n1 id) ⟨d0, d1, d0, d1, ⟨rfl, rfl⟩, pt, i1, pt, t1, t2, pt, i1, pt, t1, t2, ps, i1, ps, s1, s2, ps, i1, ps, s1, s2, pl, pl, l1, trivial⟩ hf hr hargs).mono fun e w' hq => fin2 hq
  · exact (callsV (X := enX _) rfl (enX_ct enR_ok) (enX_lp _) 80 (th_111 tkT shW lgW k0 k1 n0 n1 id) ⟨d0, d1, d0, d1, ⟨rfl, rfl⟩, pt, i1, pt, t1, t2, pt, i1, pt, t1, t2, ps, i1, ps, s1, s2, ps, i1, ps, s1, s2, pl, pl, l1, pl, pl, trivial⟩ hf hr hargs).mono fun e w' hq => fin2 hq
end Go.Proofs.YtacgamdbmllaoaaDoor
