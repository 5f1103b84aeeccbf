/-
  A reckoner of programs and its soundness, part ExB: what it reckons is what 'Calls' says. No condition. By an AI agent.
-/
import Derived.Test.YtmngnhbnicgjfaaExA
namespace Go.Ex
open Go.RowKit (Below)

inductive SO where
  | cells (wr : Bool) (l : List SV)
  | dead
  deriving Inhabited

/-- One cell: what a row of cells may hold at a place. -/
def CellIs (η : Env) (w : World) (a : Addr) (wr : Bool) (s : SV) : Prop :=
  (∃ v, w.cell? a = some v ∧ R η s v ∧ v.oneCell' = true) ∧ (wr = true → w.frozen? a = false)

def BR (B : Nat) (η : Env) (w : World) (k : Nat) : SO → Prop
  | .cells wr l => ∃ b o, η[k]? = some (.pointer (some ⟨b, o, none⟩)) ∧ b < w.heap.size ∧ (wr = true → B ≤ b) ∧
      ∀ i s, l[i]? = some s → CellIs η w ⟨b, o + i, none⟩ wr s
  | .dead => True

/-- No block that may be written lies in another one. -/
def Apart (η : Env) (hp : List SO) : Prop :=
  ∀ (k₁ k₂ : Nat) (l₁ : List SV) (wr₂ : Bool) (l₂ : List SV) (b₁ o₁ b₂ o₂ : Nat), hp[k₁]? = some (SO.cells true l₁) → hp[k₂]? = some (SO.cells wr₂ l₂) → k₁ ≠ k₂ →
    η[k₁]? = some (Value.pointer (some ⟨b₁, o₁, none⟩)) → η[k₂]? = some (Value.pointer (some ⟨b₂, o₂, none⟩)) → b₁ ≠ b₂

structure HR (B : Nat) (η : Env) (hp : List SO) (w : World) : Prop where
  len : η.length = hp.length
  blk : ∀ k o, hp[k]? = some o → BR B η w k o
  apart : Apart η hp

theorem CellIs.ext {η μ : Env} {w : World} {a : Addr} {wr : Bool} {s : SV} (h : CellIs η w a wr s) : CellIs (η ++ μ) w a wr s := by
  obtain ⟨⟨v, h1, h2, h3⟩, h4⟩ := h
  exact ⟨⟨v, h1, h2.ext, h3⟩, h4⟩

/-- Whatever leaves the blocks below the heap's end alone leaves this alone. -/
theorem CellIs.below {η : Env} {w w' : World} {a : Addr} {wr : Bool} {s : SV} (h : CellIs η w a wr s) (hb : Below w.heap.size w w') (ha : a.block < w.heap.size) : CellIs η w' a wr s := by
  obtain ⟨⟨v, h1, h2, h3⟩, h4⟩ := h
  exact ⟨⟨v, by rw [hb.cell ha]; exact h1, h2, h3⟩, fun hw => by rw [hb.frozen ha]; exact h4 hw⟩

theorem BR.below {B : Nat} {η : Env} {w w' : World} {k : Nat} {o : SO} (h : BR B η w k o) (hb : Below w.heap.size w w') : BR B η w' k o := by
  cases o with
  | dead => trivial
  | cells wr l =>
    obtain ⟨b, o, h1, h2, h3, h4⟩ := h
    exact ⟨b, o, h1, Nat.lt_of_lt_of_le h2 hb.size, h3, fun i s hi => (h4 i s hi).below hb h2⟩

theorem HR.below {B : Nat} {η : Env} {hp : List SO} {w w' : World} (h : HR B η hp w) (hb : Below w.heap.size w w') : HR B η hp w' :=
  ⟨h.len, fun k o hk => (h.blk k o hk).below hb, h.apart⟩

theorem HR.drew {B : Nat} {η : Env} {hp : List SO} {w : World} (h : HR B η hp w) : HR B η hp w.drew :=
  h.below (Below.refl _ _).drew

theorem BR.ext {B : Nat} {η μ : Env} {w : World} {k : Nat} {o : SO} (h : BR B η w k o) : BR B (η ++ μ) w k o := by
  cases o with
  | dead => trivial
  | cells wr l =>
    obtain ⟨b, o, h1, h2, h3, h4⟩ := h
    exact ⟨b, o, get_ext h1, h2, h3, fun i s hi => (h4 i s hi).ext⟩

/-- A new block. -/
theorem HR.alloc {B : Nat} {η : Env} {hp : List SO} {w : World} (h : HR B η hp w) (hB : B ≤ w.heap.size) (l : List SV) (vs : List Value) (t : TypeId)
    (hvs : Rs η l vs) (h1 : ∀ v ∈ vs, v.oneCell' = true) :
    HR B (η ++ [.pointer (some ⟨w.heap.size, 0, none⟩)]) (hp ++ [.cells true l]) (w.alloc (.cells vs.toArray t)) := by
  have hbel : Below w.heap.size w (w.alloc (.cells vs.toArray t)) := (Below.refl _ _).alloc (Nat.le_refl _) _
  refine ⟨by simp [h.len], ?_, ?_⟩
  · intro k o hk
    by_cases hlt : k < hp.length
    · rw [List.getElem?_append_left hlt] at hk
      exact ((h.blk k o hk).below hbel).ext
    · have hk' : k = hp.length := by
        have := (List.getElem?_eq_some_iff.1 hk).1
        simp at this; omega
      subst hk'
      simp at hk; subst hk
      refine ⟨w.heap.size, 0, ?_, by simp, fun _ => hB, ?_⟩
      · rw [← h.len]; simp
      · intro i s hi
        obtain ⟨v, hv, hR⟩ := hvs.get hi
        refine ⟨⟨v, ?_, hR.ext, h1 v (List.mem_of_getElem? hv)⟩, fun _ => ?_⟩
        · simp only [Nat.zero_add]
          rw [World.cell?_alloc_new]
          simpa using hv
        · simp only [Nat.zero_add]
          simp
  · intro k₁ k₂ l₁ wr₂ l₂ b₁ o₁ b₂ o₂ hk1 hk2 hne e1 e2
    have old : ∀ {k : Nat} {wr : Bool} {l' : List SV} {b o : Nat}, k < hp.length → (hp ++ [SO.cells true l])[k]? = some (.cells wr l') →
        (η ++ [.pointer (some ⟨w.heap.size, 0, none⟩)])[k]? = some (.pointer (some ⟨b, o, none⟩)) → hp[k]? = some (.cells wr l') ∧ η[k]? = some (.pointer (some ⟨b, o, none⟩)) ∧ b < w.heap.size := by
      intro k wr l' b o hlt hk e
      rw [List.getElem?_append_left hlt] at hk
      rw [List.getElem?_append_left (by rw [h.len]; exact hlt)] at e
      obtain ⟨b', o', h1, h2, _⟩ := h.blk k _ hk
      rw [h1] at e
      simp at e
      exact ⟨hk, by rw [h1]; simp [e], by omega⟩
    have new : ∀ {k : Nat} {wr : Bool} {l' : List SV} {b o : Nat}, ¬ k < hp.length → (hp ++ [SO.cells true l])[k]? = some (.cells wr l') →
        (η ++ [.pointer (some ⟨w.heap.size, 0, none⟩)])[k]? = some (.pointer (some ⟨b, o, none⟩)) → k = hp.length ∧ b = w.heap.size := by
      intro k wr l' b o hlt hk e
      have := (List.getElem?_eq_some_iff.1 hk).1
      simp at this
      have hk' : k = hp.length := by omega
      subst hk'
      rw [← h.len] at e
      simp at e
      exact ⟨rfl, e.1.symm⟩
    by_cases c1 : k₁ < hp.length <;> by_cases c2 : k₂ < hp.length
    · obtain ⟨a1, a2, _⟩ := old c1 hk1 e1
      obtain ⟨d1, d2, _⟩ := old c2 hk2 e2
      exact h.apart k₁ k₂ l₁ wr₂ l₂ b₁ o₁ b₂ o₂ a1 d1 hne a2 d2
    · obtain ⟨_, _, a3⟩ := old c1 hk1 e1
      obtain ⟨_, d2⟩ := new c2 hk2 e2
      omega
    · obtain ⟨_, a2⟩ := new c1 hk1 e1
      obtain ⟨_, _, d3⟩ := old c2 hk2 e2
      omega
    · obtain ⟨a1, _⟩ := new c1 hk1 e1
      obtain ⟨d1, _⟩ := new c2 hk2 e2
      omega

/-- A store into a block that may be written. -/
theorem HR.set {B : Nat} {η : Env} {hp : List SO} {w : World} (h : HR B η hp w) {k : Nat} {l : List SV} (hk : hp[k]? = some (.cells true l)) {b o i : Nat}
    (he : η[k]? = some (.pointer (some ⟨b, o, none⟩))) (hi : i < l.length) {s : SV} {v : Value} (hR : R η s v) (h1 : v.oneCell' = true) :
    HR B η (hp.set k (.cells true (l.set i s))) (w.setCell ⟨b, o + i, none⟩ v) := by
  have hkl : k < hp.length := (List.getElem?_eq_some_iff.1 hk).1
  obtain ⟨b', o', e1, e2, e3, e4⟩ := h.blk k _ hk
  rw [he] at e1
  simp at e1
  obtain ⟨rfl, rfl⟩ := e1
  refine ⟨by simp [h.len], ?_, ?_⟩
  · intro k' o' hk'
    by_cases hkk : k = k'
    · subst hkk
      rw [List.getElem?_set_self hkl] at hk'
      simp at hk'; subst hk'
      refine ⟨b, o, he, by simpa using e2, e3, ?_⟩
      intro j s' hj
      by_cases hij : i = j
      · subst hij
        rw [List.getElem?_set_self hi] at hj
        simp at hj; subst hj
        obtain ⟨⟨u, hu, _⟩, hf⟩ := e4 i _ (List.getElem?_eq_getElem hi)
        exact ⟨⟨v, World.cell?_setCell_same _ _ _ hu, hR, h1⟩, fun hw => by rw [World.frozen?_setCell]; exact hf hw⟩
      · rw [List.getElem?_set_ne hij] at hj
        obtain ⟨⟨u, hu, hu2⟩, hf⟩ := e4 j _ hj
        refine ⟨⟨u, ?_, hu2⟩, fun hw => by rw [World.frozen?_setCell]; exact hf hw⟩
        rw [World.cell?_setCell_other _ _ _ _ (by intro e; injection e; omega)]
        exact hu
    · rw [List.getElem?_set_ne hkk] at hk'
      have := h.blk k' o' hk'
      cases o' with
      | dead => trivial
      | cells wr' l' =>
        obtain ⟨b2, o2, f1, f2, f3, f4⟩ := this
        have hbb : b ≠ b2 := h.apart k k' l wr' l' b o b2 o2 hk hk' hkk he f1
        refine ⟨b2, o2, f1, by simpa using f2, f3, fun j s' hj => ?_⟩
        obtain ⟨⟨u, hu, hu2⟩, hf⟩ := f4 j s' hj
        refine ⟨⟨u, ?_, hu2⟩, fun hw => by rw [World.frozen?_setCell]; exact hf hw⟩
        rw [World.cell?_setCell_other _ _ _ _ (by intro e; injection e; omega)]
        exact hu
  · intro k₁ k₂ l₁ wr₂ l₂ b₁ o₁ b₂ o₂ hk1 hk2 hne f1 f2
    have back : ∀ {k' : Nat} {wr : Bool} {l' : List SV}, (hp.set k (SO.cells true (l.set i s)))[k']? = some (.cells wr l') → ∃ l'', hp[k']? = some (.cells wr l'') := by
      intro k' wr l' hk'
      by_cases hkk : k = k'
      · subst hkk
        rw [List.getElem?_set_self hkl] at hk'
        simp at hk'
        obtain ⟨rfl, _⟩ := hk'
        exact ⟨l, hk⟩
      · rw [List.getElem?_set_ne hkk] at hk'
        exact ⟨l', hk'⟩
    obtain ⟨l1', g1⟩ := back hk1
    obtain ⟨l2', g2⟩ := back hk2
    exact h.apart k₁ k₂ l1' wr₂ l2' b₁ o₁ b₂ o₂ g1 g2 hne f1 f2
/-- More blocks, of which nothing is told. -/
theorem HR.pad {B : Nat} {η μ : Env} {hs : List SO} {w : World} (h : HR B η hs w) : HR B (η ++ μ) (hs ++ List.replicate μ.length .dead) w := by
  have old : ∀ (k : Nat) (wr : Bool) (l : List SV), (hs ++ List.replicate μ.length .dead)[k]? = some (.cells wr l) → k < hs.length ∧ hs[k]? = some (.cells wr l) := by
    intro k wr l hk
    by_cases hlt : k < hs.length
    · rw [List.getElem?_append_left hlt] at hk; exact ⟨hlt, hk⟩
    · rw [List.getElem?_append_right (by omega)] at hk
      have := List.mem_of_getElem? hk
      simp at this
  refine ⟨by simp [h.len], fun k o hk => ?_, ?_⟩
  · cases o with
    | dead => trivial
    | cells wr l => exact (h.blk k _ (old k wr l hk).2).ext
  · intro k₁ k₂ l₁ wr₂ l₂ b₁ o₁ b₂ o₂ h1 h2 hne e1 e2
    obtain ⟨c1, d1⟩ := old k₁ _ _ h1
    obtain ⟨c2, d2⟩ := old k₂ _ _ h2
    rw [List.getElem?_append_left (by rw [h.len]; exact c1)] at e1
    rw [List.getElem?_append_left (by rw [h.len]; exact c2)] at e2
    exact h.apart k₁ k₂ l₁ wr₂ l₂ b₁ o₁ b₂ o₂ d1 d2 hne e1 e2


/-- A new block that came about somehow. -/
theorem HR.grow {B : Nat} {η : Env} {hp : List SO} {w w' : World} (h : HR B η hp w) (hB : B ≤ w.heap.size) (hb : Below w.heap.size w w') (hsz : w.heap.size < w'.heap.size) (l : List SV)
    (hnew : ∀ (i : Nat) (s : SV), l[i]? = some s → CellIs η w' ⟨w.heap.size, i, none⟩ true s) :
    HR B (η ++ [.pointer (some ⟨w.heap.size, 0, none⟩)]) (hp ++ [.cells true l]) w' := by
  refine ⟨by simp [h.len], ?_, ?_⟩
  · intro k o hk
    by_cases hlt : k < hp.length
    · rw [List.getElem?_append_left hlt] at hk
      exact ((h.blk k o hk).below hb).ext
    · have hk' : k = hp.length := by
        have := (List.getElem?_eq_some_iff.1 hk).1
        simp at this; omega
      subst hk'
      simp at hk; subst hk
      refine ⟨w.heap.size, 0, ?_, hsz, fun _ => hB, ?_⟩
      · rw [← h.len]; simp
      · intro i s hi
        simp only [Nat.zero_add]
        exact (hnew i s hi).ext
  · intro k₁ k₂ l₁ wr₂ l₂ b₁ o₁ b₂ o₂ hk1 hk2 hne e1 e2
    have old : ∀ {k : Nat} {wr : Bool} {l' : List SV} {b o : Nat}, k < hp.length → (hp ++ [SO.cells true l])[k]? = some (.cells wr l') →
        (η ++ [.pointer (some ⟨w.heap.size, 0, none⟩)])[k]? = some (.pointer (some ⟨b, o, none⟩)) → hp[k]? = some (.cells wr l') ∧ η[k]? = some (.pointer (some ⟨b, o, none⟩)) ∧ b < w.heap.size := by
      intro k wr l' b o hlt hk e
      rw [List.getElem?_append_left hlt] at hk
      rw [List.getElem?_append_left (by rw [h.len]; exact hlt)] at e
      obtain ⟨b', o', h1, h2, _⟩ := h.blk k _ hk
      rw [h1] at e
      simp at e
      exact ⟨hk, by rw [h1]; simp [e], by omega⟩
    have new : ∀ {k : Nat} {wr : Bool} {l' : List SV} {b o : Nat}, ¬ k < hp.length → (hp ++ [SO.cells true l])[k]? = some (.cells wr l') →
        (η ++ [.pointer (some ⟨w.heap.size, 0, none⟩)])[k]? = some (.pointer (some ⟨b, o, none⟩)) → k = hp.length ∧ b = w.heap.size := by
      intro k wr l' b o hlt hk e
      have := (List.getElem?_eq_some_iff.1 hk).1
      simp at this
      have hk' : k = hp.length := by omega
      subst hk'
      rw [← h.len] at e
      simp at e
      exact ⟨rfl, e.1.symm⟩
    by_cases c1 : k₁ < hp.length <;> by_cases c2 : k₂ < hp.length
    · obtain ⟨a1, a2, _⟩ := old c1 hk1 e1
      obtain ⟨d1, d2, _⟩ := old c2 hk2 e2
      exact h.apart k₁ k₂ l₁ wr₂ l₂ b₁ o₁ b₂ o₂ a1 d1 hne a2 d2
    · obtain ⟨_, _, a3⟩ := old c1 hk1 e1
      obtain ⟨_, d2⟩ := new c2 hk2 e2
      omega
    · obtain ⟨_, a2⟩ := new c1 hk1 e1
      obtain ⟨_, _, d3⟩ := old c2 hk2 e2
      omega
    · obtain ⟨a1, _⟩ := new c1 hk1 e1
      obtain ⟨d1, _⟩ := new c2 hk2 e2
      omega
end Go.Ex
