/-
  A reckoner of programs and its soundness, part ExO: what it reckons is what 'Calls' says. No condition. By an AI agent.
-/
import Derived.Test.YtmngnhbnicgjfaaExN
import Derived.Carry
import Derived.WideShapes
import Derived.ChangeShapes
import Derived.OpenShut
namespace Go.Ex
open Go.RowKit (Below)

/-- Behind a call that leaves all below alone the arguments read as they did. -/
theorem trodAll_below {H : Type} {enc : TypeId × Value → H} {P : Program} (hl : laidOutB P = true) {W W' : World} (hb : Below W.heap.size W W') :
    ∀ {ts : List TypeId} {vs : List Value} {ds : List (DataW H)} {ps : List MemPlace}, (ts.all fun t => P.readableRec t && decide (t < P.types.size)) = true →
    DataW.TrodAll enc P W 0 (fun _ => true) true ts vs ds ps → DataW.TrodAll enc P W' 0 (fun b => decide (b < W.heap.size)) true ts vs ds ps
  | [], [], [], _, _, h => h
  | [], [], _ :: _, _, _, h => h.elim
  | [], _ :: _, _, _, _, h => h.elim
  | _ :: _, [], _, _, _, h => h.elim
  | _ :: _, _ :: _, [], _, _, h => h.elim
  | t :: ts, v :: vs, d :: ds, ps, ht, h => by
    obtain ⟨p, q, h1, h2, rfl⟩ := h
    simp only [List.all_cons, Bool.and_eq_true, decide_eq_true_eq] at ht
    have lt : ∀ x ∈ p, x.block < W.heap.size := by
      obtain ⟨m, hm⟩ := h1
      exact DataW.trod_lt m _ _ _ hm
    exact ⟨p, q, Below.trod hl ht.1.1 ht.1.2 h1 hb lt, trodAll_below hl hb ht.2 h2, rfl⟩

/-- Cells, one behind the other. -/
def CellsAre (P : Program) (W : World) (base : Nat) : List TypeId → List Value → Prop
  | [], cs => cs = []
  | u :: us, cs => ∃ x r, cs = x :: r ∧ Cell.okWide P W .any base u x ∧ CellsAre P W base us r
theorem CellsAre.of {P : Program} {W : World} {base : Nat} : ∀ (ts : List TypeId) (cs : List Value), cs.length = ts.length →
    (∀ (i : Nat) (u : TypeId) (v : Value), ts[i]? = some u → cs[i]? = some v → Cell.okWide P W .any base u v) → CellsAre P W base ts cs
  | [], cs, hl, _ => by simpa [CellsAre] using hl
  | u :: us, [], hl, _ => by simp at hl
  | u :: us, x :: r, hl, h => ⟨x, r, rfl, h 0 u x rfl rfl, CellsAre.of us r (by simpa using hl) fun i u' v h1 h2 => h (i + 1) u' v (by simpa using h1) (by simpa using h2)⟩

theorem cells_of {P : Program} {W : World} {base : Nat} {t : TypeId} {ts : List TypeId} {v : Value} (hts : P.cellTypes P.depth t = some ts) (hn : P.cellsOf t = ts.length) (ha : tagg P t = some true)
    (h : Value.okWide P W .any base t v) : ∃ cs : Array Value, v = .agg cs ∧ CellsAre P W base ts cs.toList := by
  have key : ∃ cs, v = .agg cs ∧ cs.size = P.cellsOf t ∧ Row.okWide P W .any base t cs := by
    unfold Value.okWide at h
    unfold tagg at ha
    split at h
    · exact h
    · exact h
    · rename_i n1 n2
      cases hu : P.underlying t with
      | none => simp [hu] at ha
      | some d => cases d <;> simp_all
  obtain ⟨cs, rfl, hs, ts', hts', _, hrow⟩ := key
  rw [hts] at hts'
  obtain rfl := Option.some.inj hts'
  refine ⟨cs, rfl, CellsAre.of ts cs.toList (by simp [hs, hn]) fun i u x hu hx => ?_⟩
  obtain ⟨u', hu', hc⟩ := hrow i x (by simpa using hx)
  have hlt : i < ts.length := (List.getElem?_eq_some_iff.1 hu).1
  rw [Nat.mod_eq_of_lt hlt, hu] at hu'
  obtain rfl := Option.some.inj hu'
  exact hc

theorem cell_int {P : Program} {W : World} {base : Nat} {u : TypeId} {k : IntKind} {x : Value} (hu : P.underlying u = some (.int k)) (h : Cell.okWide P W .any base u x) : ∃ z, x = .int k z ∧ k.has z := by
  simp only [Cell.okWide, hu] at h
  cases x <;> simp_all [Cell.ok]
theorem cell_bool {P : Program} {W : World} {base : Nat} {u : TypeId} {x : Value} (hu : P.underlying u = some .bool) (h : Cell.okWide P W .any base u x) : ∃ b, x = .bool b := by
  simp only [Cell.okWide, hu] at h
  cases x <;> simp_all [Cell.ok]
theorem cell_string {P : Program} {W : World} {base : Nat} {u : TypeId} {x : Value} (hu : P.underlying u = some .string) (h : Cell.okWide P W .any base u x) : ∃ s, x = .string s ∧ (s.size : Int) ≤ IntKind.i64.max := by
  simp only [Cell.okWide, hu] at h
  cases x <;> simp_all [Cell.ok]
/-- An argument of one cell. -/
theorem val_cell {P : Program} {W : World} {base : Nat} {t : TypeId} {v : Value} (ha : tagg P t = some false) (h : Value.okWide P W .any base t v) : Cell.okWide P W .any base t v := by
  unfold Value.okWide at h
  unfold tagg at ha
  split at h
  · rename_i fs hu; simp [hu] at ha
  · rename_i n e hu; simp [hu] at ha
  · exact h
end Go.Ex
