/-
  Walks of functions, reckoned through, and what they give (part R00). No condition beyond what each says. By an AI agent.
-/
import Derived.Test.YtgefcokanfbpbaaDoorExS
import Derived.SliceStrings
import Derived.WideShapes
namespace Go.Proofs.YtgefcokanfbpbaaDoor
open Go.Ex Go.ChangeShapes Go.WideShapes
set_option linter.unusedVariables false
/-! ### a row among the arguments -/
def rowH (g : SO) (l : List SV) : List SO := [g, .cells false l, .cells false [], .dead]
theorem HR.rows {B : Nat} {v : Value} {g : SO} {W : World} (h : HR B [v] [g] W) (hg : ∀ wr l, g.row = some (wr, l) → wr = false) {b o : Nat} (c : Nat) {l : List SV} (hb : b < W.heap.size)
    (hl : ∀ i s, l[i]? = some s → CellIs [v, .pointer (some ⟨b, o, none⟩), .pointer (some ⟨b, o, none⟩), .slice none 0 c] W ⟨b, o + i, none⟩ false s) :
    HR B [v, .pointer (some ⟨b, o, none⟩), .pointer (some ⟨b, o, none⟩), .slice none 0 c] (rowH g l) W := by
  refine ⟨rfl, fun k x hk => ?_, ?_⟩
  · match k with
    | 0 =>
      simp only [rowH, List.getElem?_cons_zero, Option.some.injEq] at hk; subst hk
      have := (h.blk 0 g rfl).ext (μ := [.pointer (some ⟨b, o, none⟩), .pointer (some ⟨b, o, none⟩), .slice none 0 c])
      exact this
    | 1 =>
      simp only [rowH, List.getElem?_cons_succ, List.getElem?_cons_zero, Option.some.injEq] at hk; subst hk
      refine ⟨fun wr l' hro => ?_, trivial⟩
      simp only [SO.row, Option.some.injEq, Prod.mk.injEq] at hro
      obtain ⟨rfl, rfl⟩ := hro
      exact ⟨b, o, rfl, hb, (fun e => by cases e), fun i s hi => hl i s hi⟩
    | 2 =>
      simp only [rowH, List.getElem?_cons_succ, List.getElem?_cons_zero, Option.some.injEq] at hk; subst hk
      refine ⟨fun wr l' hro => ?_, trivial⟩
      simp only [SO.row, Option.some.injEq, Prod.mk.injEq] at hro
      obtain ⟨rfl, rfl⟩ := hro
      exact ⟨b, o, rfl, hb, (fun e => by cases e), fun i s hi => by simp at hi⟩
    | 3 =>
      simp only [rowH, List.getElem?_cons_succ, List.getElem?_cons_zero, Option.some.injEq] at hk; subst hk
      exact ⟨fun wr l' hro => by simp [SO.row] at hro, trivial⟩
    | k + 4 => simp [rowH] at hk
  · intro k₁ k₂ s₁ s₂ l₁ wr₂ l₂ b₁ o₁ b₂ o₂ g1 r1 g2 r2 hne e1 e2
    match k₁ with
    | 0 =>
      simp only [rowH, List.getElem?_cons_zero, Option.some.injEq] at g1; subst g1
      exact absurd (hg _ _ r1) (by decide)
    | 1 => simp [rowH] at g1; subst g1; simp [SO.row] at r1
    | 2 => simp [rowH] at g1; subst g1; simp [SO.row] at r1
    | 3 => simp [rowH] at g1; subst g1; simp [SO.row] at r1
    | k + 4 => simp [rowH] at g1
/-- A slice of strings: none, or a row of them. -/
def StrsAt (W : World) (v : Value) : Prop :=
  v = .slice none 0 0 ∨ ∃ (b o len cap : Nat) (ss : List ByteArray), v = .slice (some ⟨b, o, none⟩) len cap ∧ len ≤ cap ∧ b < W.heap.size ∧ ss.length = len ∧
    ∀ i s, ss[i]? = some s → W.cell? ⟨b, o + i, none⟩ = some (.string s)
theorem open_strs {H : Type} {enc : TypeId × Value → H} {P : Program} {w : World} {base : Nat} {t e : TypeId} {v : Value} {d : DataW H} {p : List MemPlace} (ht : P.underlying t = some (.slice e)) (he : P.underlying e = some .string) (hc : P.cellsOf e = 1)
    (h : DataW.Trod enc P w 0 (fun _ => true) true t v d p) (hv : Value.okWide P w .any base t v) : StrsAt w v := by
  obtain ⟨a', len', cap', rfl⟩ := okWide_slice ht hv
  obtain ⟨fuel, hf⟩ := h
  rcases open_strings ht he hc hf with ⟨hcs, _⟩ | ⟨a, len, cap, ss, hcs, _, hl, hm, hz, hx, hcell, hsz⟩
  · simp only [Value.cells] at hcs
    exact .inl (by simpa using hcs)
  · simp only [Value.cells] at hcs
    simp only [List.cons.injEq, Value.slice.injEq, and_true] at hcs
    obtain ⟨rfl, rfl, rfl⟩ := hcs
    simp only [Value.okWide, ht, Cell.okWide, Cell.ok] at hv
    obtain ⟨_, _, _, hs, row, cells, hsh, _⟩ := hv
    obtain ⟨b, o, sp⟩ := a
    simp only at hs hsh
    subst hs
    simp only [if_true] at hz
    have hb : b < w.heap.size := by
      by_cases hn : b < w.heap.size
      · exact hn
      · rw [World.shape?, Array.getElem?_eq_none (by omega)] at hsh
        simp at hsh
    refine .inr ⟨b, o, len', cap', ss.take len', rfl, hl, hb, by rw [List.length_take]; omega, fun i s hi => ?_⟩
    rw [List.getElem?_take] at hi
    split at hi
    · have hlt : i < ss.length := (List.getElem?_eq_some_iff.1 hi).1
      have := hcell i hlt
      rw [List.getD_eq_getElem?_getD, hi] at this
      by_cases h0 : i = 0
      · subst h0; simpa [Addr.add] using this
      · simpa [Addr.add, h0] using this
    · simp at hi
theorem cells_strs (η : Env) {W : World} {b o : Nat} {ss : List ByteArray} (h : ∀ i s, ss[i]? = some s → W.cell? ⟨b, o + i, none⟩ = some (.string s)) :
    ∀ i s, (ss.map fun s => SV.val (.string s))[i]? = some s → CellIs η W ⟨b, o + i, none⟩ false s := by
  intro i s hi
  rw [List.getElem?_map] at hi
  obtain ⟨t, ht, rfl⟩ := Option.map_eq_some_iff.1 hi
  exact ⟨⟨_, h i t ht, by simp only [R], rfl⟩, fun e => by cases e⟩
end Go.Proofs.YtgefcokanfbpbaaDoor
