/-
  A reckoner of programs and its soundness, part ExJ: what it reckons is what 'Calls' says. No condition. By an AI agent.
-/
import Derived.Test.YtmngnhbnicgjfaaExI
namespace Go.Ex
open Go.RowKit (Below)

/-- What was there before is there, as it was, behind what was laid since. -/
theorem HR.restrict {B : Nat} {η μ : Env} {hp hp' : List SO} {w w' : World} (h : HR B η hp w) (h' : HR B (η ++ μ) hp' w') (ht : hp'.take hp.length = hp) : HR B η hp w' := by
  have at' : ∀ (k : Nat) (o : SO), hp[k]? = some o → hp'[k]? = some o := by
    intro k o hk
    have hlt := (List.getElem?_eq_some_iff.1 hk).1
    rw [← ht, List.getElem?_take_of_lt hlt] at hk
    exact hk
  have en : ∀ (k : Nat) (x : Value), k < hp.length → (η ++ μ)[k]? = some x → η[k]? = some x := by
    intro k x hlt hx
    rwa [List.getElem?_append_left (by rw [h.len]; exact hlt)] at hx
  refine ⟨h.len, fun k o hk => ?_, ?_⟩
  · have hlt := (List.getElem?_eq_some_iff.1 hk).1
    have h1 := h.blk k o hk
    have h2 := h'.blk k o (at' k o hk)
    cases o with
    | dead => trivial
    | cells wr l =>
      obtain ⟨b, o, e1, e2, e3, e4⟩ := h1
      obtain ⟨b', o', f1, f2, f3, f4⟩ := h2
      have := en k _ hlt f1
      rw [e1] at this
      simp at this
      obtain ⟨rfl, rfl⟩ := this
      refine ⟨b, o, e1, f2, f3, fun i s hi => ?_⟩
      obtain ⟨⟨v, g1, g2, g3⟩, _⟩ := e4 i s hi
      obtain ⟨⟨v', g1', g2', g3'⟩, g4'⟩ := f4 i s hi
      have : v' = v := R.fun g2' g2.ext
      subst this
      exact ⟨⟨v', g1', g2, g3'⟩, g4'⟩
  · exact h.apart

/-! ### a region that draws its order and only reads -/
def Cls (B : Nat) (w₀ : World) (η : Env) (hp : List SO) (w : World) : Prop := HR B η hp w ∧ Below B w₀ w

theorem opsR_hp {P : Program} {callf : CallF} {ops : Array Oper} : ∀ (l : List Oper) {tm tm' : List SV} {hp hp' : List SO} {ans ans' : List Bool} {c : Cnd},
    opsR P callf ops true l tm hp ans = .ok (tm', hp') ans' c → hp' = hp
  | [], tm, tm', hp, hp', ans, ans', c, h => by
    simp only [opsR] at h
    obtain ⟨pe, _, _⟩ := ok_inj h
    exact (Prod.mk.inj pe).2.symm
  | o :: l, tm, tm', hp, hp', ans, ans', c, h => by
    simp only [opsR] at h
    split at h
    · rename_i tm1 hp1 ans1 c1 h1
      split at h
      · rename_i x ans2 c2 h2
        obtain ⟨rfl, _, _⟩ := ok_inj h
        have e := opsR_hp l h2
        rw [e]
        simp only [step1, okS_eq, okM_eq] at h1
        split at h1
        · simp at h1
        · simp at h1
        · split at h1
          · simp at h1
          · obtain ⟨pe, _, _⟩ := ok_inj h1
            exact (Prod.mk.inj pe).2.symm
          · split at h1
            · simp at h1
            · simp at h1
            · split at h1
              · obtain ⟨pe, _, _⟩ := ok_inj h1
                exact (Prod.mk.inj pe).2.symm
              · simp at h1
              · split at h1
                · split at h1
                  · split at h1
                    · obtain ⟨pe, _, _⟩ := ok_inj h1
                      exact (Prod.mk.inj pe).2.symm
                    · simp at h1
                  · simp_all
                · simp at h1
                · simp at h1
              · simp at h1
      · simp at h
      · simp at h
    · simp at h
    · simp at h

theorem step1_quiet {P : Program} {callf : CallF} (hcf : CallOk P callf) {ops : Array Oper} {o : Oper} {tm tm' : List SV} {hp hp' : List SO} {ans ans' : List Bool} {c : Cnd}
    (h : step1 P callf ops true o tm hp ans = .ok (tm', hp') ans' c) (hc : c) {B : Nat} {η : Env} {a : Act} {w₀ : World} (hB : B ≤ w₀.heap.size) (hvs : Rs η tm a.tmps.toList) (hne : ∃ w, Cls B w₀ η hp w)
    {K : Act → Prop} (hK : ∀ v, Rs η tm' (a.put o.dst v).tmps.toList → K (a.put o.dst v)) :
    if Region.wanted o (yielded ops a.tmps) then o.quiet P a (Cls B w₀ η hp) K else K (a.put o.dst undef) := by
  simp only [step1, okS_eq, okM_eq] at h
  split at h
  · simp at h
  · simp at h
  · rename_i tm1 ans1 c1 h1
    split at h
    · simp at h
    · rename_i hg
      obtain ⟨pe, rfl, rfl⟩ := ok_inj h
      obtain ⟨rfl, rfl⟩ := Prod.mk.inj pe
      have e1 := settle_ok h1 hc hvs
      rw [gd_ok hg e1]
      exact hK undef (putS_ok o.dst e1 (by simp only [R]))
    · rename_i hg
      split at h
      · simp at h
      · simp at h
      · rename_i tm2 ans2 c2 h2
        have fin : c1 → c2 → OpOk P η hp (fun w => (execOp a.eval o).run P w) (sop P tm2 hp o) ∧ Rs η tm2 a.tmps.toList ∧ Region.wanted o (yielded ops a.tmps) = true := by
          intro k1 k2
          have e1 := settle_ok h1 k1 hvs
          have e2 := settle_ok h2 k2 e1
          exact ⟨sop_ok e2 o, e2, gd_ok hg e1⟩
        split at h
        · rename_i s cc hs
          obtain ⟨pe, rfl, rfl⟩ := ok_inj h
          obtain ⟨rfl, rfl⟩ := Prod.mk.inj pe
          obtain ⟨k1, k2, k3⟩ := hc.three
          obtain ⟨f1, f2, f3⟩ := fin k1 k2
          rw [hs] at f1
          rw [f3]
          obtain ⟨wn, hn⟩ := hne
          obtain ⟨v, hR, _⟩ := f1 k3 B wn hn.1
          simp only [if_true]
          refine ⟨v, fun w hw => ?_, hK v (putS_ok o.dst f2 hR)⟩
          obtain ⟨v', hR', hv'⟩ := f1 k3 B w hw.1
          have : v' = v := R.fun hR' hR
          subst this
          simp only [] at hv'
          show Oper.quietUpon _ _ _ _ _
          rw [hv']
          exact ⟨rfl, rfl⟩
        · simp at h
        · rename_i f args hs
          split at h
          · rename_i s hp1 ans3 cc hcall
            simp only [if_true] at h
            split at h
            · rename_i hsv0
              have hsv := (Bool.and_eq_true _ _ ▸ hsv0 : _ ∧ _).1
              have hno := (Bool.and_eq_true _ _ ▸ hsv0 : _ ∧ _).2
              obtain ⟨pe, rfl, rfl⟩ := ok_inj h
              obtain ⟨rfl, rfl⟩ := Prod.mk.inj pe
              obtain ⟨k1, k2, k3⟩ := hc.three
              obtain ⟨f1, f2, f3⟩ := fin k1 k2
              rw [hs] at f1
              obtain ⟨vs, hargs, hrun⟩ := f1
              obtain ⟨x, hx⟩ := Option.isSome_iff_exists.1 hsv
              rw [f3]
              simp only [if_true]
              refine ⟨x, fun w hw => ?_, hK x (putS_ok o.dst f2 (SV.R_val? hx))⟩
              obtain ⟨g1, g2⟩ := hcf _ _ _ _ _ _ _ _ hcall k3 B η w vs hw.1 (Nat.le_trans hB hw.2.size) hargs
              simp only [] at hrun
              show Oper.quietUpon _ _ _ _ _
              rw [hrun, g1]
              refine ⟨rfl, g2.mono fun e w' hq => ?_⟩
              obtain ⟨v, μ, rfl, hR, hr', hb⟩ := hq
              rw [Option.isNone_iff_eq_none.1 hno] at hr'
              exact ⟨by rw [SV.val?_R hx hR], hw.1.restrict hr' (List.take_length), hw.2.trans hb⟩
            · simp at h
          · simp at h
          · simp at h
        · simp at h

theorem opsR_quiet {P : Program} {callf : CallF} (hcf : CallOk P callf) {ops : Array Oper} {B : Nat} {w₀ : World} (hB : B ≤ w₀.heap.size) {η : Env} {hp : List SO} (hne : ∃ w, Cls B w₀ η hp w) {K : Act → Prop} : ∀ (l : List Oper) {tm tm' : List SV} {hp' : List SO} {ans ans' : List Bool} {c : Cnd},
    opsR P callf ops true l tm hp ans = .ok (tm', hp') ans' c → c → ∀ {a : Act}, Rs η tm a.tmps.toList → a.defers = [] →
    (∀ a', Rs η tm' a'.tmps.toList → a'.defers = [] → K a') → wpQuiet P ops (Cls B w₀ η hp) K l a
  | [], tm, tm', hp', ans, ans', c, h, hc, a, hs, hd, hQ => by
    simp only [opsR] at h
    obtain ⟨pe, _, _⟩ := ok_inj h
    obtain ⟨rfl, rfl⟩ := Prod.mk.inj pe
    exact hQ a hs hd
  | o :: l, tm, tm', hp', ans, ans', c, h, hc, a, hs, hd, hQ => by
    have hh := opsR_hp (o :: l) h
    simp only [opsR] at h
    split at h
    · rename_i tm1 hp1 ans1 c1 h1
      split at h
      · rename_i x ans2 c2 h2
        obtain ⟨rfl, rfl, rfl⟩ := ok_inj h
        have h3 := opsR_hp l h2
        have e : hp1 = hp := by rw [← h3]; exact hh
        subst e
        refine wpQuiet_step fun K' hK' => ?_
        refine step1_quiet hcf h1 hc.l hB hs hne fun v e1 => hK' _ ?_
        exact opsR_quiet hcf hB hne l h2 hc.r e1 (by rw [put_defers]; exact hd) hQ
      · simp at h
      · simp at h
    · simp at h
    · simp at h

/-! ### a region that draws its order, reads, and then acts -/
def noCall : CallF := fun _ _ _ _ => .bad
theorem step1_still {P : Program} {ops : Array Oper} {o : Oper} {tm tm' : List SV} {hp hp' : List SO} {ans ans' : List Bool} {c : Cnd}
    (h : step1 P noCall ops true o tm hp ans = .ok (tm', hp') ans' c) (hc : c) {B : Nat} {η : Env} {a : Act} {w : World} (hvs : Rs η tm a.tmps.toList) (hr : HR B η hp w)
    {K : Act → Prop} (hK : ∀ v, Rs η tm' (a.put o.dst v).tmps.toList → K (a.put o.dst v)) :
    if Region.wanted o (yielded ops a.tmps) then o.still P a w K else K (a.put o.dst undef) := by
  simp only [step1, okS_eq, okM_eq] at h
  split at h
  · simp at h
  · simp at h
  · rename_i tm1 ans1 c1 h1
    split at h
    · simp at h
    · rename_i hg
      obtain ⟨pe, rfl, rfl⟩ := ok_inj h
      obtain ⟨rfl, rfl⟩ := Prod.mk.inj pe
      have e1 := settle_ok h1 hc hvs
      rw [gd_ok hg e1]
      exact hK undef (putS_ok o.dst e1 (by simp only [R]))
    · rename_i hg
      split at h
      · simp at h
      · simp at h
      · rename_i tm2 ans2 c2 h2
        split at h
        · rename_i s cc hs
          obtain ⟨pe, rfl, rfl⟩ := ok_inj h
          obtain ⟨rfl, rfl⟩ := Prod.mk.inj pe
          obtain ⟨k1, k2, k3⟩ := hc.three
          have e1 := settle_ok h1 k1 hvs
          have e2 := settle_ok h2 k2 e1
          have f1 := sop_ok (P := P) e2 (hp := hp) o
          rw [hs] at f1
          rw [gd_ok hg e1]
          obtain ⟨v, hR, hv⟩ := f1 k3 B w hr
          simp only [if_true, Oper.still]
          simp only [] at hv
          rw [hv, Oper.stillUpon_value]
          exact hK v (putS_ok o.dst e2 hR)
        · simp at h
        · simp [noCall] at h
        · simp at h

theorem opsR_still {P : Program} {ops : Array Oper} {B : Nat} {η : Env} {hp : List SO} {w : World} (hr : HR B η hp w) {K : Act → Prop} : ∀ (l : List Oper) {tm tm' : List SV} {hp' : List SO} {ans ans' : List Bool} {c : Cnd},
    opsR P noCall ops true l tm hp ans = .ok (tm', hp') ans' c → c → ∀ {a : Act}, Rs η tm a.tmps.toList → a.defers = [] →
    (∀ a', Rs η tm' a'.tmps.toList → a'.defers = [] → K a') → wpStill P ops w K l a
  | [], tm, tm', hp', ans, ans', c, h, hc, a, hs, hd, hQ => by
    simp only [opsR] at h
    obtain ⟨pe, _, _⟩ := ok_inj h
    obtain ⟨rfl, rfl⟩ := Prod.mk.inj pe
    exact hQ a hs hd
  | o :: l, tm, tm', hp', ans, ans', c, h, hc, a, hs, hd, hQ => by
    have hh := opsR_hp (o :: l) h
    simp only [opsR] at h
    split at h
    · rename_i tm1 hp1 ans1 c1 h1
      split at h
      · rename_i x ans2 c2 h2
        obtain ⟨rfl, rfl, rfl⟩ := ok_inj h
        have h3 := opsR_hp l h2
        have e : hp1 = hp := by rw [← h3]; exact hh
        subst e
        refine wpStill_step fun K' hK' => ?_
        refine step1_still h1 hc.l hs hr fun v e1 => hK' _ ?_
        exact opsR_still hr l h2 hc.r e1 (by rw [put_defers]; exact hd) hQ
      · simp at h
      · simp at h
    · simp at h
    · simp at h

end Go.Ex
