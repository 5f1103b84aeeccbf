/-
  A reckoner of programs and its soundness, part ExJ1: what it reckons is what 'Calls' says. No condition. By an AI agent.
-/
import Derived.Test.YtmngnhbnicgjfaaExJ
namespace Go.Ex
open Go.RowKit (Below)

/-! ### blocks, numbered anew -/
mutual
def SV.ren (π : Nat → Nat) : SV → SV
  | .ptr k o => .ptr (π k) o
  | .slc k o l c => .slc (π k) o l c
  | .sle k o l kc => .sle (π k) o l (π kc)
  | .fnc g a b => .fnc g (rens π a) (rens π b)
  | .agg l => .agg (rens π l)
  | .tup l => .tup (rens π l)
  | .ifc t x => .ifc t (x.ren π)
  | .hdl k => .hdl (π k)
  | .val v => .val v
  | .num k z => .num k z
  | .bol b => .bol b
  | .bts c l => .bts c l
def rens (π : Nat → Nat) : List SV → List SV
  | [] => []
  | s :: l => s.ren π :: rens π l
end
theorem rens_length (π : Nat → Nat) : ∀ l : List SV, (rens π l).length = l.length
  | [] => rfl
  | s :: l => by simp [rens, rens_length π l]
theorem rens_get (π : Nat → Nat) : ∀ (l : List SV) (i : Nat), (rens π l)[i]? = (l[i]?).map (SV.ren π)
  | [], i => by simp [rens]
  | s :: l, 0 => by simp [rens]
  | s :: l, i + 1 => by simp [rens, rens_get π l i]
mutual
theorem R.ren {η η' : Env} {π : Nat → Nat} (h : ∀ k x, η[k]? = some x → η'[π k]? = some x) : ∀ (s : SV) (v : Value), R η s v → R η' (s.ren π) v
  | .val _, _, hR | .num _ _, _, hR | .bol _, _, hR | .bts _ _, _, hR => by simp only [SV.ren, R] at hR ⊢; exact hR
  | .ptr k o, v, hR => by
    obtain ⟨b, o', h1, h2⟩ := hR
    exact ⟨b, o', h _ _ h1, h2⟩
  | .slc k o l c, v, hR => by
    obtain ⟨b, o', h1, h2⟩ := hR
    exact ⟨b, o', h _ _ h1, h2⟩
  | .sle k o l kc, v, hR => by
    obtain ⟨b, o', c, h1, h2, h3, h4⟩ := hR
    exact ⟨b, o', c, h _ _ h1, h _ _ h2, h3, h4⟩
  | .fnc g a b, v, hR => by
    obtain ⟨x, y, h1, h2, h3⟩ := hR
    exact ⟨x, y, h1, Rs.ren h a _ h2, Rs.ren h b _ h3⟩
  | .agg l, v, hR => by
    obtain ⟨x, h1, h2⟩ := hR
    exact ⟨x, h1, Rs.ren h l _ h2⟩
  | .tup l, v, hR => by
    obtain ⟨x, h1, h2⟩ := hR
    exact ⟨x, h1, Rs.ren h l _ h2⟩
  | .ifc t s, v, hR => by
    obtain ⟨x, h1, h2⟩ := hR
    exact ⟨x, h1, R.ren h s _ h2⟩
  | .hdl k, v, hR => by
    simp only [SV.ren, R] at hR ⊢
    exact h _ _ hR
theorem Rs.ren {η η' : Env} {π : Nat → Nat} (h : ∀ k x, η[k]? = some x → η'[π k]? = some x) : ∀ (l : List SV) (vs : List Value), Rs η l vs → Rs η' (rens π l) vs
  | [], vs, hR => by simp only [rens, Rs] at hR ⊢; exact hR
  | s :: l, vs, hR => by
    obtain ⟨x, r, h1, h2, h3⟩ := hR
    exact ⟨x, r, h1, R.ren h s _ h2, Rs.ren h l _ h3⟩
end
def SO.ren (π : Nat → Nat) : SO → SO
  | .cells wr l => .cells wr (rens π l)
  | .dead => .dead
theorem BR.ren {B : Nat} {η η' : Env} {π : Nat → Nat} (h : ∀ k x, η[k]? = some x → η'[π k]? = some x) {w : World} {k k' : Nat} (hk : ∀ x, η[k]? = some x → η'[k']? = some x) {o : SO} (hb : BR B η w k o) : BR B η' w k' (o.ren π) := by
  cases o with
  | dead => trivial
  | cells wr l =>
    obtain ⟨b, o, h1, h2, h3, h4⟩ := hb
    refine ⟨b, o, hk _ h1, h2, h3, fun i s hi => ?_⟩
    rw [rens_get] at hi
    obtain ⟨s0, hs0, rfl⟩ := Option.map_eq_some_iff.1 hi
    obtain ⟨⟨v, g1, g2, g3⟩, g4⟩ := h4 i s0 hs0
    exact ⟨⟨v, g1, R.ren h s0 v g2, g3⟩, g4⟩

mutual
def SV.idxs : SV → List Nat
  | .ptr k _ => [k]
  | .slc k _ _ _ => [k]
  | .sle k _ _ kc => [k, kc]
  | .fnc _ a b => idxss a ++ idxss b
  | .agg l => idxss l
  | .tup l => idxss l
  | .ifc _ x => x.idxs
  | .hdl k => [k]
  | _ => []
def idxss : List SV → List Nat
  | [] => []
  | s :: l => s.idxs ++ idxss l
end
/-- those from 'n' on, each once, as they are met -/
def firsts (n : Nat) : List Nat → List Nat → List Nat
  | [], acc => acc
  | k :: r, acc => if n ≤ k && !acc.contains k then firsts n r (acc ++ [k]) else firsts n r acc
def newOrd (n m : Nat) (tm : List SV) : List Nat := firsts n ((List.range m).map (n + ·)) (firsts n (idxss tm) [])
def piOf (n : Nat) (ord : List Nat) (k : Nat) : Nat := if k < n then k else n + ord.idxOf k
def ordGood (n m : Nat) (ord : List Nat) : Bool :=
  ord.length == m &&
  ((List.range m).all fun i => ord[piOf n ord (n + i) - n]? == some (n + i)) &&
  ((List.range m).all fun j => match ord[j]? with | some k => decide (n ≤ k) && (piOf n ord k == n + j) && decide (k < n + m) | none => false)
def hpOf (n : Nat) (ord : List Nat) (hp : List SO) : List SO :=
  (hp.take n).map (SO.ren (piOf n ord)) ++ ord.map fun k => (hp.getD k .dead).ren (piOf n ord)
/-- The state, its new blocks numbered by their place in the frame. -/
def canon (n : Nat) (tm : List SV) (hp : List SO) : List SV × List SO :=
  let m := hp.length - n
  if m ≤ 1 then (tm, hp) else
  let ord := newOrd n m tm
  if ordGood n m ord && decide (n ≤ hp.length) then (rens (piOf n ord) tm, hpOf n ord hp) else (tm, hp)

theorem canon_sim {B : Nat} {w₀ : World} {η μ : Env} {tm : List SV} {hp : List SO} {a : Act} {w : World} (hs : Sim B w₀ (η ++ μ) tm hp a w) {n : Nat} (hn : η.length = n) :
    ∃ μ', Sim B w₀ (η ++ μ') (canon n tm hp).1 (canon n tm hp).2 a w := by
  unfold canon
  simp only []
  split
  · exact ⟨μ, hs⟩
  · split
    · rename_i hg
      generalize newOrd n (hp.length - n) tm = ord at hg ⊢
      generalize hm : hp.length - n = m at hg ⊢
      simp only [ordGood, Bool.and_eq_true, beq_iff_eq, List.all_eq_true, List.mem_range, decide_eq_true_eq] at hg
      obtain ⟨⟨⟨g1, g2⟩, g3⟩, g4⟩ := hg
      have hlen := hs.hr.len
      have hml : μ.length = m := by simp at hlen; omega
      have hpl : hp.length = n + m := by omega
      have o3 : ∀ j, j < m → ∃ k, ord[j]? = some k ∧ n ≤ k ∧ piOf n ord k = n + j ∧ k < n + m := by
        intro j hj
        have := g3 j hj
        split at this
        · rename_i k hk
          simp only [Bool.and_eq_true, decide_eq_true_eq, beq_iff_eq] at this
          exact ⟨k, hk, this.1.1, this.1.2, this.2⟩
        · simp at this
      have small : ∀ k, k < n → piOf n ord k = k := fun k hk => by simp [piOf, hk]
      let μ' : Env := ord.map fun k => ((η ++ μ)[k]?).getD undef
      have at' : ∀ j k, ord[j]? = some k → (η ++ μ')[n + j]? = some (((η ++ μ)[k]?).getD undef) := by
        intro j k hk
        rw [List.getElem?_append_right (by omega), hn, Nat.add_sub_cancel_left]
        simp [μ', hk]
      have there : ∀ k, k < n + m → ∃ x, (η ++ μ)[k]? = some x := by
        intro k hk
        have : k < (η ++ μ).length := by simp; omega
        exact ⟨_, List.getElem?_eq_getElem this⟩
      have key : ∀ k x, (η ++ μ)[k]? = some x → (η ++ μ')[piOf n ord k]? = some x := by
        intro k x hx
        have hk : k < n + m := by
          have := (List.getElem?_eq_some_iff.1 hx).1
          simp at this; omega
        by_cases hkn : k < n
        · rw [small k hkn]
          rw [List.getElem?_append_left (by omega)] at hx ⊢
          exact hx
        · obtain ⟨i, rfl⟩ : ∃ i, k = n + i := ⟨k - n, by omega⟩
          have e := g2 i (by omega)
          have hge : n ≤ piOf n ord (n + i) := by unfold piOf; split <;> omega
          obtain ⟨j, hj⟩ : ∃ j, piOf n ord (n + i) = n + j := ⟨piOf n ord (n + i) - n, by omega⟩
          rw [hj, Nat.add_sub_cancel_left] at e
          rw [hj, at' j _ e, hx]; rfl
      have get : ∀ k o, (hpOf n ord hp)[k]? = some o → (k < n ∧ ∃ o0, hp[k]? = some o0 ∧ o = o0.ren (piOf n ord)) ∨ (∃ j k0 o0, k = n + j ∧ j < m ∧ ord[j]? = some k0 ∧ hp[k0]? = some o0 ∧ o = o0.ren (piOf n ord)) := by
        intro k o hk
        unfold hpOf at hk
        by_cases hkn : k < n
        · rw [List.getElem?_append_left (by simp; omega)] at hk
          rw [List.getElem?_map, List.getElem?_take_of_lt hkn] at hk
          obtain ⟨o0, h0, rfl⟩ := Option.map_eq_some_iff.1 hk
          exact .inl ⟨hkn, o0, h0, rfl⟩
        · rw [List.getElem?_append_right (by simp; omega)] at hk
          have e : (List.map (SO.ren (piOf n ord)) (List.take n hp)).length = n := by simp; omega
          rw [e, List.getElem?_map] at hk
          obtain ⟨k0, h0, rfl⟩ := Option.map_eq_some_iff.1 hk
          have hj : k - n < m := by
            have := (List.getElem?_eq_some_iff.1 h0).1
            omega
          obtain ⟨k1, h1, h2, h3, h4⟩ := o3 _ hj
          rw [h0] at h1
          obtain rfl := Option.some.inj h1
          have : k0 < hp.length := by omega
          refine .inr ⟨k - n, k0, hp[k0], by omega, hj, h0, List.getElem?_eq_getElem this, ?_⟩
          simp [List.getD, List.getElem?_eq_getElem this]
      refine ⟨μ', Rs.ren key _ _ hs.tm, hs.df, ⟨?_, ?_, ?_⟩, hs.below, hs.hB⟩
      · simp [μ', hpOf, g1]; omega
      · intro k o hk
        rcases get k o hk with ⟨hkn, o0, h0, rfl⟩ | ⟨j, k0, o0, rfl, hj, hk0, h0, rfl⟩
        · refine BR.ren key (fun x hx => ?_) (hs.hr.blk k o0 h0)
          have := key k x hx
          rwa [small k hkn] at this
        · refine BR.ren key (fun x hx => ?_) (hs.hr.blk k0 o0 h0)
          rw [at' j k0 hk0, hx]; rfl
      · intro k₁ k₂ l₁ wr₂ l₂ b₁ p₁ b₂ p₂ hk1 hk2 hne e1 e2
        have back : ∀ k wr l b p, (hpOf n ord hp)[k]? = some (.cells wr l) → (η ++ μ')[k]? = some (.pointer (some ⟨b, p, none⟩)) → ∃ k0 l0, hp[k0]? = some (.cells wr l0) ∧ (η ++ μ)[k0]? = some (.pointer (some ⟨b, p, none⟩)) ∧ piOf n ord k0 = k := by
          intro k wr l b p hk he
          rcases get k _ hk with ⟨hkn, o0, h0, ho⟩ | ⟨j, k0, o0, rfl, hj, hk0, h0, ho⟩
          · cases o0 with
            | dead => simp [SO.ren] at ho
            | cells wr' l' =>
              simp only [SO.ren, SO.cells.injEq] at ho
              obtain ⟨rfl, _⟩ := ho
              refine ⟨k, l', h0, ?_, small k hkn⟩
              rw [List.getElem?_append_left (by omega)] at he ⊢
              exact he
          · cases o0 with
            | dead => simp [SO.ren] at ho
            | cells wr' l' =>
              simp only [SO.ren, SO.cells.injEq] at ho
              obtain ⟨rfl, _⟩ := ho
              obtain ⟨k1, h1, h2, h3, h4⟩ := o3 j hj
              rw [hk0] at h1
              obtain rfl := Option.some.inj h1
              obtain ⟨x, hx⟩ := there k0 h4
              rw [at' j k0 hk0, hx] at he
              simp only [Option.getD_some, Option.some.injEq] at he
              subst he
              exact ⟨k0, l', h0, hx, h3⟩
        obtain ⟨c1, m1, a1, a2, a3⟩ := back _ _ _ _ _ hk1 e1
        obtain ⟨c2, m2, d1, d2, d3⟩ := back _ _ _ _ _ hk2 e2
        exact hs.hr.apart c1 c2 m1 wr₂ m2 b₁ p₁ b₂ p₂ a1 d1 (fun e => hne (by rw [← a3, ← d3, e])) a2 d2
    · exact ⟨μ, hs⟩
/-- The same, reckoned out. -/
def canonR (n : Nat) (tm : List SV) (hp : List SO) (ans : List Bool) : Rr (List SV × List SO) :=
  if hp.length - n ≤ 1 then .ok (tm, hp) ans .tt else
  match canon n tm hp with
  | (tm', hp') => withSs tm' fun tm' => withO hp' fun hp' => .ok (tm', hp') ans .tt
theorem canonR_eq (n : Nat) (tm : List SV) (hp : List SO) (ans : List Bool) : canonR n tm hp ans = .ok (canon n tm hp) ans .tt := by
  unfold canonR
  split
  · rename_i h; unfold canon; simp [h]
  · simp only [withSs_eq, withO_eq]
end Go.Ex
