/-
  Walks of functions, reckoned through, and what they give (part R01). No condition beyond what each says. By an AI agent.
-/
import Derived.Test.YtgefcokanfbpbaaDoorExS
import Derived.SliceStrings
import Derived.WideShapes
namespace Go.Proofs.YtgefcokanfbpbaaDoor
open Go.Ex Go.ChangeShapes Go.WideShapes
set_option linter.unusedVariables false
/-! ### a row of structs among the arguments, by its cells -/
mutual
/-- The kinds of a type's cells. -/
def kindsT (P : Program) : Nat → TypeId → Option (List CK)
  | 0, _ => none
  | d + 1, t => match P.underlying t with
    | some (.int k) => some [.int k]
    | some .bool => some [.bool]
    | some .string => some [.str]
    | some (.struct fs) => match kindsF P d fs.toList 0 with
      | some l => if l.length = P.cellsOf t then some l else none
      | none => none
    | _ => none
def kindsF (P : Program) : Nat → List Field → Nat → Option (List CK)
  | _, [], _ => some []
  | 0, _ :: _, _ => none
  | d + 1, f :: r, off => match kindsT P d f.type, kindsF P d r (off + P.cellsOf f.type) with
    | some a, some b => if f.offset = off ∧ a.length = P.cellsOf f.type then some (a ++ b) else none
    | _, _ => none
end
/-- These cells are of these kinds. -/
def fitsL : List CK → List Value → Prop
  | [], vs => vs = []
  | c :: r, vs => ∃ v l, vs = v :: l ∧ c.fits v ∧ fitsL r l
theorem fitsL_append : ∀ {a b : List CK} {x y : List Value}, fitsL a x → fitsL b y → fitsL (a ++ b) (x ++ y)
  | [], b, x, y, h, k => by simp only [fitsL] at h; subst h; exact k
  | c :: r, b, x, y, h, k => by
    obtain ⟨v, l, rfl, h1, h2⟩ := h
    exact ⟨v, l ++ y, rfl, h1, fitsL_append h2 k⟩
theorem fitsL_length : ∀ {a : List CK} {x : List Value}, fitsL a x → x.length = a.length
  | [], x, h => by simp only [fitsL] at h; subst h; rfl
  | c :: r, x, h => by
    obtain ⟨v, l, rfl, _, h2⟩ := h
    simp [fitsL_length h2]
theorem fits_one {c : CK} {v : Value} (h : c.fits v) : v.oneCell' = true := by
  cases c <;> simp only [CK.fits] at h <;> rw [h] <;> rfl
theorem fitsL_one : ∀ {a : List CK} {x : List Value}, fitsL a x → ∀ v ∈ x, v.oneCell' = true
  | [], x, h, v, hv => by simp only [fitsL] at h; subst h; simp at hv
  | c :: r, x, h, v, hv => by
    obtain ⟨u, l, rfl, h1, h2⟩ := h
    rcases List.mem_cons.1 hv with rfl | hv
    · exact fits_one h1
    · exact fitsL_one h2 v hv
section
variable {H : Type} {enc : TypeId × Value → H} {P : Program} {w : World} {base : Nat} {spare : Nat → Bool} {held : Bool}
mutual
theorem trod_fits : ∀ (d : Nat) {t : TypeId} {cks : List CK} {fuel : Nat} {cs : List Value} {x : DataW H × List MemPlace}, kindsT P d t = some cks → DataW.trod enc P w base spare held fuel t cs = some x → fitsL cks cs
  | 0, t, cks, fuel, cs, x, hk, h => by simp [kindsT] at hk
  | d + 1, t, cks, fuel, cs, x, hk, h => by
    simp only [kindsT] at hk
    split at hk
    · rename_i k hu
      simp only [Option.some.injEq] at hk; subst hk
      obtain ⟨n, rfl, _, _⟩ := DataW.trod_int hu h
      exact ⟨_, [], rfl, rfl, rfl⟩
    · rename_i hu
      simp only [Option.some.injEq] at hk; subst hk
      obtain ⟨b, rfl, _⟩ := DataW.trod_bool hu h
      exact ⟨_, [], rfl, rfl, rfl⟩
    · rename_i hu
      simp only [Option.some.injEq] at hk; subst hk
      obtain ⟨s, rfl, _, _⟩ := DataW.trod_string hu h
      exact ⟨_, [], rfl, rfl, rfl⟩
    · rename_i fs hu
      split at hk
      · rename_i l hl0
        split at hk
        · rename_i hlen
          simp only [Option.some.injEq] at hk; subst hk
          obtain ⟨xs, n, rfl, _, hl, hxs, hf⟩ := DataW.trod_struct hu h
          have := trods_fits d (fs := fs.toList) (off := 0) (cks := l) (cs := cs) hl0 fun i f hi => by
            have hfi : fs[i]? = some f := by simpa using hi
            have := hf i f hfi
            have hlt : i < xs.length := by rw [hxs]; exact (Array.getElem?_eq_some_iff.1 hfi).1
            exact ⟨n, xs[i], by rw [this, List.getElem?_eq_getElem hlt]⟩
          rw [List.drop_zero, hlen, ← hl, List.take_length] at this
          exact this
        · simp at hk
      · simp at hk
    · simp at hk
theorem trods_fits : ∀ (d : Nat) {fs : List Field} {off : Nat} {cks : List CK} {cs : List Value}, kindsF P d fs off = some cks →
    (∀ (i : Nat) (f : Field), fs[i]? = some f → ∃ n x, DataW.trod enc P w base spare held n f.type ((cs.drop f.offset).take (P.cellsOf f.type)) = some x) → fitsL cks ((cs.drop off).take cks.length)
  | d, [], off, cks, cs, hk, h => by
    have : cks = [] := by
      cases d <;> simp [kindsF] at hk <;> exact hk
    subst this
    simp [fitsL]
  | 0, f :: r, off, cks, cs, hk, h => by simp [kindsF] at hk
  | d + 1, f :: r, off, cks, cs, hk, h => by
    simp only [kindsF] at hk
    split at hk
    · rename_i a b ha hb
      split at hk
      · rename_i hc
        obtain ⟨ho, hal⟩ := hc
        simp only [Option.some.injEq] at hk; subst hk
        obtain ⟨n, x, hx⟩ := h 0 f rfl
        have h1 := trod_fits d ha hx
        rw [ho, ← hal] at h1
        have h2 := trods_fits d (cs := cs) hb fun i g hi => h (i + 1) g (by simpa using hi)
        rw [← hal] at h2
        have e : (cs.drop off).take (a ++ b).length = (cs.drop off).take a.length ++ (cs.drop (off + a.length)).take b.length := by
          rw [List.length_append, List.take_add, List.drop_drop]
        rw [e]
        exact fitsL_append h1 h2
      · simp at hk
    · simp at hk
end
end
/-- A slice of structs: none, or a row of their cells. -/
def RowsAt (W : World) (sz : Nat) (cks : List CK) (v : Value) : Prop :=
  v = .slice none 0 0 ∨ ∃ (b o len cap : Nat) (L : List Value), v = .slice (some ⟨b, o, none⟩) len cap ∧ len ≤ cap ∧ b < W.heap.size ∧ L.length = len * sz ∧
    (∀ j x, L[j]? = some x → W.cell? ⟨b, o + j, none⟩ = some x ∧ x.oneCell' = true) ∧ ∀ i, i < len → fitsFrom L (i * sz) cks
theorem fitsFrom_of (L : List Value) : ∀ (cks : List CK) (j : Nat) (cs : List Value), fitsL cks cs → (∀ i v, cs[i]? = some v → L[j + i]? = some v) → fitsFrom L j cks
  | [], j, cs, h, _ => trivial
  | c :: r, j, cs, h, hl => by
    obtain ⟨v, l, rfl, h1, h2⟩ := h
    refine ⟨?_, fitsFrom_of L r (j + 1) l h2 fun i v hi => ?_⟩
    · have := hl 0 v rfl
      rw [Nat.add_zero] at this
      unfold cellAt
      rw [List.getD_eq_getElem?_getD, this]; exact h1
    · have := hl (i + 1) v (by simpa using hi)
      rwa [show j + 1 + i = j + (i + 1) by omega]
theorem open_rows {H : Type} {enc : TypeId × Value → H} {P : Program} {w : World} {base : Nat} {t e : TypeId} {v : Value} {d : DataW H} {p : List MemPlace} {sz depth : Nat} {cks : List CK} (ht : P.underlying t = some (.slice e)) (hc : P.cellsOf e = sz) (hk : kindsT P depth e = some cks) (hsz : cks.length = sz) (hpos : 0 < sz)
    (h : DataW.Trod enc P w 0 (fun _ => true) true t v d p) (hv : Value.okWide P w .any base t v) : RowsAt w sz cks v := by
  obtain ⟨a', len', cap', rfl⟩ := okWide_slice ht hv
  obtain ⟨fuel, hf⟩ := h
  rcases DataW.trod_slice ht hf with ⟨hcs, _⟩ | ⟨a, len, cap, elems, rest, n, _, hcs, _, hb, hl, hm, hlen, hel, hsp, hns⟩
  · simp only [Value.cells] at hcs
    exact .inl (by simpa using hcs)
  · simp only [Value.cells] at hcs
    simp only [List.cons.injEq, Value.slice.injEq, and_true] at hcs
    obtain ⟨rfl, rfl, rfl⟩ := hcs
    simp only [Value.okWide, ht, Cell.okWide, Cell.ok] at hv
    obtain ⟨_, _, _, hs, row, cells, hsh, _⟩ := hv
    obtain ⟨b, o, sp⟩ := a
    simp only at hs hsh
    subst hs
    have hbs : b < w.heap.size := by
      by_cases hn : b < w.heap.size
      · exact hn
      · rw [World.shape?, Array.getElem?_eq_none (by omega)] at hsh
        simp at hsh
    -- each element
    have each : ∀ i, i < len' → ∃ cs, fitsL cks cs ∧ ∀ q, q < sz → w.cell? ⟨b, o + (i * sz + q), none⟩ = cs[q]? := by
      intro i hi
      have hi2 : i < elems.length := by omega
      have := hel i hi
      rw [List.getElem?_eq_getElem hi2, Option.bind_eq_some_iff, hc] at this
      obtain ⟨cs, h1, h2⟩ := this
      obtain ⟨_, hcl, hcc⟩ := World.cells?_some h1
      refine ⟨cs, trod_fits depth hk h2, fun q hq => ?_⟩
      rw [← hcc q hq]
      congr 1
      by_cases h0 : i * sz = 0 <;> by_cases hq0 : q = 0 <;> simp [Addr.add, h0, hq0] <;> omega
    let L : List Value := (List.range (len' * sz)).map fun j => (w.cell? ⟨b, o + j, none⟩).getD undef
    have getL : ∀ i q, i < len' → q < sz → ∃ cs, fitsL cks cs ∧ (∀ q, q < sz → w.cell? ⟨b, o + (i * sz + q), none⟩ = cs[q]?) ∧ cs.length = sz := fun i q hi hq => by
      obtain ⟨cs, h1, h2⟩ := each i hi
      exact ⟨cs, h1, h2, by rw [fitsL_length h1, hsz]⟩
    have cellL : ∀ j, j < len' * sz → ∃ x, L[j]? = some x ∧ w.cell? ⟨b, o + j, none⟩ = some x ∧ x.oneCell' = true := by
      intro j hj
      have hi : j / sz < len' := Nat.div_lt_of_lt_mul (by rw [Nat.mul_comm]; exact hj)
      have hq : j % sz < sz := Nat.mod_lt _ hpos
      obtain ⟨cs, h1, h2, h3⟩ := getL (j / sz) (j % sz) hi hq
      have e : j / sz * sz + j % sz = j := by rw [Nat.mul_comm]; exact Nat.div_add_mod j sz
      have := h2 (j % sz) hq
      rw [e, List.getElem?_eq_getElem (by omega)] at this
      refine ⟨_, ?_, this, fitsL_one h1 _ (List.getElem_mem (by omega))⟩
      show ((List.range (len' * sz)).map _)[j]? = _
      rw [List.getElem?_map, List.getElem?_range hj]
      simp [this]
    refine .inr ⟨b, o, len', cap', L, rfl, hl, hbs, by simp [L], fun j x hx => ?_, fun i hi => ?_⟩
    · have hj : j < len' * sz := by
        have := (List.getElem?_eq_some_iff.1 hx).1
        simpa [L] using this
      obtain ⟨y, h1, h2, h3⟩ := cellL j hj
      rw [hx] at h1
      obtain rfl := Option.some.inj h1
      exact ⟨h2, h3⟩
    · obtain ⟨cs, h1, h2⟩ := each i hi
      refine fitsFrom_of L cks (i * sz) cs h1 fun q x hq => ?_
      have hql : q < sz := by
        have := (List.getElem?_eq_some_iff.1 hq).1
        rw [fitsL_length h1, hsz] at this; exact this
      have hj : i * sz + q < len' * sz := by
        have : (i + 1) * sz ≤ len' * sz := Nat.mul_le_mul_right _ hi
        rw [Nat.add_mul, Nat.one_mul] at this
        omega
      obtain ⟨y, g1, g2, _⟩ := cellL (i * sz + q) hj
      have := h2 q hql
      rw [hq, g2] at this
      obtain rfl := Option.some.inj this
      exact g1
/-- Such a row, as a block. -/
theorem HR.rowF {B : Nat} {v : Value} {g : SO} {W : World} (h : HR B [v] [g] W) (hg : ∀ wr l, g.row = some (wr, l) → wr = false) {b o : Nat} (c : Nat) {L : List Value} (hb : b < W.heap.size)
    (hl : ∀ j x, L[j]? = some x → W.cell? ⟨b, o + j, none⟩ = some x ∧ x.oneCell' = true) :
    HR B [v, .pointer (some ⟨b, o, none⟩), .pointer (some ⟨b, o, none⟩), .slice none 0 c] [g, .fns L, .cells false [], .dead] W := by
  refine ⟨rfl, fun k x hk => ?_, ?_⟩
  · match k with
    | 0 =>
      simp only [List.getElem?_cons_zero, Option.some.injEq] at hk; subst hk
      exact (h.blk 0 g rfl).ext (μ := [.pointer (some ⟨b, o, none⟩), .pointer (some ⟨b, o, none⟩), .slice none 0 c])
    | 1 =>
      simp only [List.getElem?_cons_succ, List.getElem?_cons_zero, Option.some.injEq] at hk; subst hk
      refine ⟨fun wr l' hro => ?_, trivial⟩
      simp only [SO.row, Option.some.injEq, Prod.mk.injEq] at hro
      obtain ⟨rfl, rfl⟩ := hro
      refine ⟨b, o, rfl, hb, (fun e => by cases e), fun i s hi => ?_⟩
      rw [List.getElem?_map] at hi
      obtain ⟨x, hx, rfl⟩ := Option.map_eq_some_iff.1 hi
      obtain ⟨h1, h2⟩ := hl i x hx
      exact ⟨⟨x, h1, by simp only [R], h2⟩, fun e => by cases e⟩
    | 2 =>
      simp only [List.getElem?_cons_succ, List.getElem?_cons_zero, Option.some.injEq] at hk; subst hk
      refine ⟨fun wr l' hro => ?_, trivial⟩
      simp only [SO.row, Option.some.injEq, Prod.mk.injEq] at hro
      obtain ⟨rfl, rfl⟩ := hro
      exact ⟨b, o, rfl, hb, (fun e => by cases e), fun i s hi => by simp at hi⟩
    | 3 =>
      simp only [List.getElem?_cons_succ, List.getElem?_cons_zero, Option.some.injEq] at hk; subst hk
      exact ⟨fun wr l' hro => by simp [SO.row] at hro, trivial⟩
    | k + 4 => simp at hk
  · intro k₁ k₂ s₁ s₂ l₁ wr₂ l₂ b₁ o₁ b₂ o₂ g1 r1 g2 r2 hne e1 e2
    match k₁ with
    | 0 =>
      simp only [List.getElem?_cons_zero, Option.some.injEq] at g1; subst g1
      exact absurd (hg _ _ r1) (by decide)
    | 1 => simp at g1; subst g1; simp [SO.row] at r1
    | 2 => simp at g1; subst g1; simp [SO.row] at r1
    | 3 => simp at g1; subst g1; simp [SO.row] at r1
    | k + 4 => simp at g1
end Go.Proofs.YtgefcokanfbpbaaDoor
