/-
  Walks of functions, reckoned through, and what they give (part R02). No condition beyond what each says. By an AI agent.
-/
import Derived.Test.YtgefcokanfbpbaaDoorR01
namespace Go.Proofs.YtgefcokanfbpbaaDoor
open Go.Ex Go.ChangeShapes Go.WideShapes
set_option linter.unusedVariables false
/-! ### a row of bytes among the arguments, by its cells -/
/-- A slice of bytes: none, or a row of them. -/
def BytesAt (W : World) (v : Value) : Prop :=
  v = .slice none 0 0 ∨ ∃ (b o len cap : Nat) (L : List Value), v = .slice (some ⟨b, o, none⟩) len cap ∧ len ≤ cap ∧ b < W.heap.size ∧ L.length = len ∧
    (∀ j x, L[j]? = some x → W.cell? ⟨b, o + j, none⟩ = some x ∧ x.oneCell' = true) ∧ ∀ i, i < len → ∃ z : Int, L[i]? = some (.int .u8 z) ∧ 0 ≤ z ∧ z < 256
theorem open_u8s {H : Type} {enc : TypeId × Value → H} {P : Program} {w : World} {base : Nat} {t e : TypeId} {v : Value} {d : DataW H} {p : List MemPlace} (ht : P.underlying t = some (.slice e)) (he : P.underlying e = some (.int .u8)) (hc : P.cellsOf e = 1)
    (h : DataW.Trod enc P w 0 (fun _ => true) true t v d p) (hv : Value.okWide P w .any base t v) : BytesAt w v := by
  obtain ⟨a', len', cap', rfl⟩ := okWide_slice ht hv
  obtain ⟨fuel, hf⟩ := h
  rcases DataW.trod_slice ht hf with ⟨hcs, _⟩ | ⟨a, len, cap, elems, rest, n, _, hcs, _, hb, hl, hm, hlen, hel, hsp, hns⟩
  · simp only [Value.cells] at hcs
    exact .inl (by simpa using hcs)
  · simp only [Value.cells] at hcs
    simp only [List.cons.injEq, Value.slice.injEq, and_true] at hcs
    obtain ⟨rfl, rfl, rfl⟩ := hcs
    simp only [Value.okWide, ht, Cell.okWide, Cell.ok] at hv
    obtain ⟨_, _, _, hs, row, cells, hsh, _⟩ := hv
    obtain ⟨b, o, sp⟩ := a
    simp only at hs hsh
    subst hs
    have hbs : b < w.heap.size := by
      by_cases hn : b < w.heap.size
      · exact hn
      · rw [World.shape?, Array.getElem?_eq_none (by omega)] at hsh
        simp at hsh
    have each : ∀ i, i < len' → ∃ z : Int, (0 ≤ z ∧ z < 256) ∧ w.cell? ⟨b, o + i, none⟩ = some (.int .u8 z) := by
      intro i hi
      have hi2 : i < elems.length := by omega
      have := hel i hi
      rw [List.getElem?_eq_getElem hi2, Option.bind_eq_some_iff, hc] at this
      obtain ⟨cs, h1, h2⟩ := this
      obtain ⟨_, hcl, hcc⟩ := World.cells?_some h1
      obtain ⟨z, rfl, _, hz⟩ := DataW.trod_int he h2
      unfold Lit.wf at hz
      rw [Bool.and_eq_true] at hz
      have z1 : IntKind.u8.min ≤ z := of_decide_eq_true hz.1
      have z2 : z ≤ IntKind.u8.max := of_decide_eq_true hz.2
      rw [show IntKind.u8.min = 0 by decide] at z1
      rw [show IntKind.u8.max = 255 by decide] at z2
      have hq := hcc 0 (by omega)
      refine ⟨z, ⟨z1, by omega⟩, ?_⟩
      · rw [List.getElem?_cons_zero] at hq
        rw [← hq]
        congr 1
        by_cases h0 : i = 0 <;> simp [Addr.add, h0]
    let L : List Value := (List.range len').map fun j => (w.cell? ⟨b, o + j, none⟩).getD undef
    have cellL : ∀ j, j < len' → ∃ z : Int, L[j]? = some (.int .u8 z) ∧ w.cell? ⟨b, o + j, none⟩ = some (.int .u8 z) ∧ 0 ≤ z ∧ z < 256 := by
      intro j hj
      obtain ⟨z, h0, h1⟩ := each j hj
      refine ⟨z, ?_, h1, h0⟩
      show ((List.range len').map _)[j]? = _
      rw [List.getElem?_map, List.getElem?_range hj]
      simp [h1]
    refine .inr ⟨b, o, len', cap', L, rfl, hl, hbs, by simp [L], fun j x hx => ?_, fun i hi => ?_⟩
    · have hj : j < len' := by
        have := (List.getElem?_eq_some_iff.1 hx).1
        simpa [L] using this
      obtain ⟨z, h1, h2, _⟩ := cellL j hj
      rw [hx] at h1
      obtain rfl := Option.some.inj h1
      exact ⟨h2, rfl⟩
    · obtain ⟨z, h1, _, h3⟩ := cellL i hi
      exact ⟨z, h1, h3⟩
end Go.Proofs.YtgefcokanfbpbaaDoor
