/-
  Walks of functions, reckoned through, and what they give (part K23g). No condition beyond what each says. By an AI agent.
-/
import Derived.Test.YtacgamdbmllaoaaDoorK23w
namespace Go.Proofs.YtacgamdbmllaoaaDoor
open Go.Ex
open Go.RowKit (Below)
set_option linter.unusedVariables false
set_option maxRecDepth 1000000
/-! ### EnterForged -/
def idG (id : Int) : Int := IntKind.i64.wrap id
def LN (id : Int) : List Prop := [decide (idG id < 0) = false, decide (idG id > 255) = false]
def od (wh : Int) : Bool := wh.tmod 2 == 1
noncomputable def LTk (T : Int → Int) (x y id : Int) : List Prop := [PTf T 0 glL, (idG id == idG id) = true, PTf T 0 glL]
noncomputable def LSh (S : TxF) (e : Bool) (id : Int) (s : Bool) : List Prop := [PSf S 0 glL, PSf S 0 glL, PSf S 0 glL, (idG id == idG id) = true, PSf S 0 glL, e = s, (!(e == e)) = false]
noncomputable def LA (T : Int → Int) (k1 k2 id wh : Int) : List Prop :=
  [Pg 0 glL] ++ LN id ++ LN id ++ [od wh = false, PTf T 0 glL, PTf T 0 glL, (T k1 == T k2) = false] ++ LTk T k2 k1 id ++ [(T k2 == T k1) = false, (!((T k2 == T k1) == od wh)) = false, (!(od wh)) = true]
noncomputable def LB (T : Int → Int) (S L : TxF) (k0 k1 k2 n0 n1 id wh : Int) (s : Bool) : List Prop :=
  [Pg 0 glL] ++ LN id ++ LN id ++ [od wh = false, PTf T 0 glL, PTf T 0 glL, (T k1 == T k2) = true] ++ LTk T k2 k1 id ++ [(T k2 == T k1) = true, (!((T k2 == T k1) == true)) = false, od wh = false] ++
  LSh S (eqT (S k1 k0 n1 n0) (S k2 k0 n1 n0)) id s ++ List.replicate 4 (PLf L 0 glL)
noncomputable def LC (T : Int → Int) (S L : TxF) (k0 k1 k2 n0 n1 id wh : Int) (t s : Bool) : List Prop :=
  [Pg 0 glL] ++ LN id ++ LN id ++ [od wh = true] ++ LN id ++ [PTf T 0 glL, PTf T 0 glL, (T k1 == T k2) = t] ++ LTk T k1 k1 id ++
  (if t then [(T k1 == T k1) = true, (!((T k1 == T k1) == true)) = false] else [(T k1 == T k1) = true, (!((T k1 == T k1) == od wh)) = false, (!(od wh)) = false]) ++ [od wh = true] ++
  LSh S (eqT (S k1 k0 n1 n0) (S k1 k2 n1 n0)) id s ++ List.replicate 4 (PLf L 0 glL)
def vL (e : Bool) : SV := .val (.bool (e == e))
noncomputable def fR (T : Int → Int) (S L : TxF) (k0 k1 k2 n0 n1 id wh : Int) (ans : List Bool) := topR (enX (enR T S L)) (run (enX (enR T S L)) 80) 7 [.agg [.val (.int .u64 k0), .val (.int .u64 k1), .val (.int .u64 k2)], .agg [.val (.int .u32 n0), .val (.int .u32 n1)], .val (.int .u8 id), .val (.int .u8 wh)] [globS] ans
theorem fg_A (T : Int → Int) (S L : TxF) (k0 k1 k2 n0 n1 id wh : Int) : givesV (fR T S L k0 k1 k2 n0 n1 id wh [false, false, false, false, false, false, true, false, false, true]) (.bol true) (LA T k1 k2 id wh) := by unfold givesV; kernel_rfl
theorem fg_BT (T : Int → Int) (S L : TxF) (k0 k1 k2 n0 n1 id wh : Int) : givesV (fR T S L k0 k1 k2 n0 n1 id wh [false, false, false, false, false, true, true, true, false, false, true, true, false]) (vL (eqT (L k0 k2 n0 n1) (L k0 k1 n0 n1))) (LB T S L k0 k1 k2 n0 n1 id wh true) := by unfold givesV; kernel_rfl
theorem fg_CTT (T : Int → Int) (S L : TxF) (k0 k1 k2 n0 n1 id wh : Int) : givesV (fR T S L k0 k1 k2 n0 n1 id wh [false, false, false, false, true, false, false, true, true, true, false, true, true, true, false]) (vL (eqT (L k2 k1 n0 n1) (L k0 k1 n0 n1))) (LC T S L k0 k1 k2 n0 n1 id wh true true) := by unfold givesV; kernel_rfl
theorem fg_CFT (T : Int → Int) (S L : TxF) (k0 k1 k2 n0 n1 id wh : Int) : givesV (fR T S L k0 k1 k2 n0 n1 id wh [false, false, false, false, true, false, false, false, true, true, false, false, true, true, true, false]) (vL (eqT (L k2 k1 n0 n1) (L k0 k1 n0 n1))) (LC T S L k0 k1 k2 n0 n1 id wh false true) := by unfold givesV; kernel_rfl
theorem fg_BF (T : Int → Int) (S L : TxF) (k0 k1 k2 n0 n1 id wh : Int) : givesV (fR T S L k0 k1 k2 n0 n1 id wh [false, false, false, false, false, true, true, true, false, false, true, false, false]) (vL (eqT (L k0 k2 n0 n1) (L k0 k1 n0 n1))) (LB T S L k0 k1 k2 n0 n1 id wh false) := by unfold givesV; kernel_rfl
theorem fg_CTF (T : Int → Int) (S L : TxF) (k0 k1 k2 n0 n1 id wh : Int) : givesV (fR T S L k0 k1 k2 n0 n1 id wh [false, false, false, false, true, false, false, true, true, true, false, true, true, false, false]) (vL (eqT (L k2 k1 n0 n1) (L k0 k1 n0 n1))) (LC T S L k0 k1 k2 n0 n1 id wh true false) := by unfold givesV; kernel_rfl
theorem fg_CFF (T : Int → Int) (S L : TxF) (k0 k1 k2 n0 n1 id wh : Int) : givesV (fR T S L k0 k1 k2 n0 n1 id wh [false, false, false, false, true, false, false, false, true, true, false, false, true, true, false, false]) (vL (eqT (L k2 k1 n0 n1) (L k0 k1 n0 n1))) (LC T S L k0 k1 k2 n0 n1 id wh false false) := by unfold givesV; kernel_rfl
theorem forged_call (k0 k1 k2 n0 n1 id wh : Int) (h : 0 ≤ id ∧ id < 256) (hwh : 0 ≤ wh ∧ wh < 256) {η : Env} {W : World} {vs : List Value} (hr : HR W.heap.size η [globS] W)
    (hargs : Rs η [.agg [.val (.int .u64 k0), .val (.int .u64 k1), .val (.int .u64 k2)], .agg [.val (.int .u32 n0), .val (.int .u32 n1)], .val (.int .u8 id), .val (.int .u8 wh)] vs) :
    Calls Tryd.prog 7 vs.toArray W (fun e w' => ∃ v, e = .returned v ∧ v = .bool true ∧ Below W.heap.size W w') := by
  have ps : PSf shW 0 glL := ⟨rfl, rfl, rfl⟩
  have pl : PLf lgW 0 glL := ⟨rfl, rfl, rfl⟩
  have pt : PTf tkT 0 glL := ⟨rfl, rfl, rfl⟩
  have pg : Pg 0 glL := ⟨rfl, rfl⟩
  have e : idG id = id := by unfold idG; rw [wi64]; omega
  have d0 : decide (idG id < 0) = false := by rw [e]; simp; omega
  have d1 : decide (idG id > 255) = false := by rw [e]; simp; omega
  have i1 : (idG id == idG id) = true := beq_self_eq_true _
  have nb : ∀ b : Bool, (!(b == b)) = false := fun b => by cases b <;> rfl
  have t1 : (tkT k1 == tkT k1) = true := beq_self_eq_true _
  have sw : (tkT k2 == tkT k1) = (tkT k1 == tkT k2) := by
    by_cases q : tkT k1 = tkT k2
    · rw [q]
    · rw [beq_eq_false_iff_ne.2 q, beq_eq_false_iff_ne.2 (fun h => q h.symm)]
  have fin : ∀ {b : Bool} {e : Ending} {w' : World}, (∃ v, e = .returned v ∧ R [] (vL b) v ∧ Below W.heap.size W w') → ∃ v, e = .returned v ∧ v = .bool true ∧ Below W.heap.size W w' := fun {b e w'} ⟨v, e1, hR, hb⟩ => by
    unfold vL at hR
    rw [beq_self_eq_true] at hR
    simp only [R] at hR
    exact ⟨v, e1, hR, hb⟩
  cases ho : od wh with
  | false =>
    cases ht : (tkT k1 == tkT k2) with
    | false =>
      refine (callsV (X := enX _) rfl (enX_ct enR_ok) (enX_lp _) 80 (fg_A tkT shW lgW k0 k1 k2 n0 n1 id wh) ⟨pg, d0, d1, d0, d1, ho, pt, pt, ht, pt, i1, pt, by rw [sw, ht], by rw [sw, ht, ho]; rfl, by rw [ho]; rfl, trivial⟩ rfl hr hargs).mono fun e w' hq => ?_
      obtain ⟨v, rfl, hR, hb⟩ := hq
      exact ⟨_, rfl, by simpa only [R] using hR, hb⟩
    | true =>
      cases hs : eqT (shW k1 k0 n1 n0) (shW k2 k0 n1 n0) with
      | true => exact (callsV (X := enX _) rfl (enX_ct enR_ok) (enX_lp _) 80 (fg_BT tkT shW lgW k0 k1 k2 n0 n1 id wh) ⟨pg, d0, d1, d0, d1, ho, pt, pt, ht, pt, i1, pt, by rw [sw, ht], by rw [sw, ht]; rfl, ho, ps, ps, ps, i1, ps, hs, nb _, pl, pl, pl, pl, trivial⟩ rfl hr hargs).mono fun e w' hq => fin hq
      | false => exact (callsV (X := enX _) rfl (enX_ct enR_ok) (enX_lp _) 80 (fg_BF tkT shW lgW k0 k1 k2 n0 n1 id wh) ⟨pg, d0, d1, d0, d1, ho, pt, pt, ht, pt, i1, pt, by rw [sw, ht], by rw [sw, ht]; rfl, ho, ps, ps, ps, i1, ps, hs, nb _, pl, pl, pl, pl, trivial⟩ rfl hr hargs).mono fun e w' hq => fin hq
  | true =>
    cases ht : (tkT k1 == tkT k2) with
    | true =>
      cases hs : eqT (shW k1 k0 n1 n0) (shW k1 k2 n1 n0) with
      | true => exact (callsV (X := enX _) rfl (enX_ct enR_ok) (enX_lp _) 80 (fg_CTT tkT shW lgW k0 k1 k2 n0 n1 id wh) ⟨pg, d0, d1, d0, d1, ho, d0, d1, pt, pt, ht, pt, i1, pt, t1, by rw [t1]; rfl, ho, ps, ps, ps, i1, ps, hs, nb _, pl, pl, pl, pl, trivial⟩ rfl hr hargs).mono fun e w' hq => fin hq
      | false => exact (callsV (X := enX _) rfl (enX_ct enR_ok) (enX_lp _) 80 (fg_CTF tkT shW lgW k0 k1 k2 n0 n1 id wh) ⟨pg, d0, d1, d0, d1, ho, d0, d1, pt, pt, ht, pt, i1, pt, t1, by rw [t1]; rfl, ho, ps, ps, ps, i1, ps, hs, nb _, pl, pl, pl, pl, trivial⟩ rfl hr hargs).mono fun e w' hq => fin hq
    | false =>
      cases hs : eqT (shW k1 k0 n1 n0) (shW k1 k2 n1 n0) with
      | true => exact (callsV (X := enX _) rfl (enX_ct enR_ok) (enX_lp _) 80 (fg_CFT tkT shW lgW k0 k1 k2 n0 n1 id wh) ⟨pg, d0, d1, d0, d1, ho, d0, d1, pt, pt, ht, pt, i1, pt, t1, by rw [t1, ho]; rfl, by rw [ho]; rfl, ho, ps, ps, ps, i1, ps, hs, nb _, pl, pl, pl, pl, trivial⟩ rfl hr hargs).mono fun e w' hq => fin hq
      | false => exact (callsV (X := enX _) rfl (enX_ct enR_ok) (enX_lp _) 80 (fg_CFF tkT shW lgW k0 k1 k2 n0 n1 id wh) ⟨pg, d0, d1, d0, d1, ho, d0, d1, pt, pt, ht, pt, i1, pt, t1, by rw [t1, ho]; rfl, by rw [ho]; rfl, ho, ps, ps, ps, i1, ps, hs, nb _, pl, pl, pl, pl, trivial⟩ rfl hr hargs).mono fun e w' hq => fin hq
end Go.Proofs.YtacgamdbmllaoaaDoor
