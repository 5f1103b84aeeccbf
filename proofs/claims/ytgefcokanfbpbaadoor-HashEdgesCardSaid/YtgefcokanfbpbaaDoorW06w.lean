/-
  Walks of functions, reckoned through, and what they give (part W06w). No condition beyond what each says. By an AI agent.
-/
import Derived.Test.YtgefcokanfbpbaaDoorW06S
import Derived.Test.YtgefcokanfbpbaaDoorRows
import Derived.Test.YtgefcokanfbpbaaDoorTie
import Derived.Test.YtgefcokanfbpbaaDoorCards
import Derived.WalkKit
import Derived.ProofKit
import Derived.OpenShut
import Derived.ShutString
import Derived.ChangeOld
import Derived.Below
import Derived.SizedLaws
import Derived.ChangeMaps5
import Derived.MakeChecks
import Derived.Lay
import Derived.Lib.LaidU8
import Derived.SevenTiedAt
namespace Go.Proofs.YtgefcokanfbpbaaDoor
open Go.Ex Go.ChangeShapes Go.WideShapes Go.ChangeAt Go.RowKit
set_option linter.unusedVariables false
set_option maxRecDepth 100000
/-! ### the package's variable, out of the row's premise -/
abbrev laidL : List (String × DataW Unit) := [("plait/sha.rounds", Rows.laid_plait_sha_rounds)]
theorem own : ownKnob Tryd.prog.godebug = none := by kernel_rfl
theorem laidOut : laidOutB Tryd.prog = true := by kernel_rfl
theorem rounds_at : Tryd.prog.globalNamed "plait/sha.rounds" = some 0 := by kernel_rfl
theorem rounds_type : ((Tryd.prog.globals[0]?).map (·.type)).bind (fun t => Tryd.prog.underlying t) = some (.array 64 48) := by kernel_rfl
theorem u48 : Tryd.prog.underlying 48 = some (.int .u32) := by kernel_rfl
theorem c48 : Tryd.prog.cellsOf 48 = 1 := by kernel_rfl
theorem laid_eq : Rows.laid_plait_sha_rounds (H := Unit) = .agg (KL.map fun z => .lit (.int .u32 z)) := rfl
theorem KL_len : KL.length = 64 := rfl
theorem cells_laid {W : World} (h : laidMet Tryd.prog laidL W) : ∃ cs, W.var? Tryd.prog "plait/sha.rounds" = some cs ∧ ∀ i, i < 64 → cs[i]? = some (.int .u32 (KL.getD i 0)) := by
  obtain ⟨g, t, cs, fuel, p, h1, h2, h3, h4⟩ := Lib.laidMet.reads h (.head _)
  obtain rfl := Option.some.inj (rounds_at.symm.trans h1)
  have ht : Tryd.prog.underlying t = some (.array 64 48) := by
    have := rounds_type
    rw [h2] at this
    simpa using this
  refine ⟨cs, h3, fun i hi => ?_⟩
  rw [laid_eq] at h4
  obtain ⟨fuel', d, q, e1, e2⟩ := Lib.array_elem ht h4 i hi
  rw [c48] at e2
  have hki : KL[i]? = some (KL.getD i 0) := by
    rw [List.getD_eq_getElem?_getD, List.getElem?_eq_getElem (by rw [KL_len]; exact hi)]; rfl
  rw [List.getElem?_map, hki] at e1
  simp only [Option.map_some, Option.some.injEq] at e1
  subst e1
  have e3 : ∃ v, cs[i]? = some v ∧ (cs.toList.drop (i * 1)).take 1 = [v] := by
    rw [Nat.mul_one] at e2 ⊢
    cases hv : cs[i]? with
    | some v =>
      refine ⟨v, rfl, ?_⟩
      have : cs.toList[i]? = some v := by rw [Array.getElem?_toList]; exact hv
      rw [List.drop_eq_getElem_cons (List.getElem?_eq_some_iff.1 this).1]
      rw [(List.getElem?_eq_some_iff.1 this).2]; rfl
    | none =>
      have : cs.toList.length ≤ i := by
        have := Array.getElem?_eq_none_iff.1 hv
        simpa using this
      rw [List.drop_eq_nil_of_le this] at e2
      cases fuel' with
      | zero => simp [DataW.trod] at e2
      | succ f => simp [DataW.trod] at e2
  obtain ⟨v, e4, e5⟩ := e3
  rw [e5] at e2
  obtain ⟨n, e7, e6, _⟩ := DataW.trod_int u48 e2
  simp only [Prod.mk.injEq, DataW.lit.injEq, Lit.int.injEq, true_and] at e6
  simp only [List.cons.injEq, and_true] at e7
  rw [e4, e7, e6.1]
theorem hr_laid {W : World} (h : laidMet Tryd.prog laidL W) (B : Nat) : ∃ v, HR B [v] [globS] W := by
  obtain ⟨cs, h1, h2⟩ := cells_laid h
  refine ⟨.pointer (some ⟨0, 0, none⟩), rfl, fun k o hk => ?_, ?_⟩
  · have : k = 0 ∧ o = globS := by
      cases k with
      | zero => simp at hk; exact ⟨rfl, hk.symm⟩
      | succ k => simp at hk
    obtain ⟨rfl, rfl⟩ := this
    refine ⟨fun wr l hro => ?_, rfl⟩
    simp only [globS, SO.row, Option.some.injEq, Prod.mk.injEq] at hro
    obtain ⟨rfl, rfl⟩ := hro
    have hc := fun i => World.var?_cell rounds_at h1 i
    have hlt : 0 < W.heap.size := by
      have e := hc 0
      rw [h2 0 (by omega)] at e
      by_cases hn : 0 < W.heap.size
      · exact hn
      · rw [World.cell?, Array.getElem?_eq_none (by omega)] at e
        simp at e
    refine ⟨0, 0, rfl, hlt, (fun e => by cases e), fun i s hi => ?_⟩
    rw [List.getElem?_map] at hi
    obtain ⟨z, hz, rfl⟩ := Option.map_eq_some_iff.1 hi
    have hi64 : i < 64 := by rw [← KL_len]; exact (List.getElem?_eq_some_iff.1 hz).1
    have hki : KL.getD i 0 = z := by rw [List.getD_eq_getElem?_getD, hz]; rfl
    refine ⟨⟨.int .u32 z, ?_, by simp only [R], rfl⟩, fun e => by cases e⟩
    show W.cell? ⟨0, 0 + i, none⟩ = _
    rw [Nat.zero_add, hc i, h2 i hi64, hki]
  · intro k₁ k₂ s₁ s₂ l₁ wr₂ l₂ b₁ o₁ b₂ o₂ g1 r1 g2 r2 hne e1 e2
    cases k₁ with
    | zero => simp at g1; subst g1; simp [globS, SO.row] at r1
    | succ k => simp at g1
/-- A law that gives true, on a heap that holds the package's variable. -/
theorem law_of {f : FuncId} {args : List SV} {vs : List Value} {W : World} (hargs : Rs [] args vs) (hL : laidMet Tryd.prog laidL W)
    (h : ∀ {η : Env}, HR W.heap.size η [globS] W → Rs η args vs → Calls Tryd.prog f vs.toArray W (fun e w' => ∃ v, e = .returned v ∧ v = .bool true ∧ Below W.heap.size W w')) :
    Calls Tryd.prog f vs.toArray W (fun e w' => e = .returned (.bool true) ∧ Below W.heap.size W w') := by
  obtain ⟨v, hr⟩ := hr_laid hL W.heap.size
  refine (h hr (by simpa using hargs.ext (η := []) (μ := [v]))).mono fun e w' hq => ?_
  obtain ⟨v, rfl, rfl, hb⟩ := hq
  exact ⟨rfl, hb⟩
end Go.Proofs.YtgefcokanfbpbaaDoor
