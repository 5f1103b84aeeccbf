/-
  Walks of functions, reckoned through, and what they give (part W06l). No condition beyond what each says. By an AI agent.
-/
import Derived.Test.YtacgamdbmllaoaaDoorW06k
import Derived.Test.YtacgamdbmllaoaaDoorW06j
import Derived.Test.YtacgamdbmllaoaaDoorW06y
namespace Go.Proofs.YtacgamdbmllaoaaDoor
open Go.Ex
open Go.RowKit (Below)
set_option linter.unusedVariables false
set_option maxRecDepth 1000000
theorem padB_len (l : List UInt8) (m : Int) (h : l.length < 64) : (padB l m).length = if l.length < 56 then 64 else 128 := by
  unfold padB
  simp only [List.length_append, List.length_map, List.length_cons, List.length_replicate, List.length_nil]
  split <;> omega
theorem blkL_size (l : List UInt8) (m : Int) (i : Nat) (h : l.length < 64) (hi : i = 0 ∨ (i = 1 ∧ ¬ l.length < 56)) : (blkL l m i).size = 64 := by
  show ((((padB l m).drop (64 * i)).take 64)).toArray.size = 64
  rw [List.size_toArray, List.length_take, List.length_drop, padB_len l m h]
  split <;> omega
theorem LD_all (z : Z) (ini : List Int) (hi : ini.length = 8) (l : List UInt8) (h : l.length < 64) (m : Int) : AllP (LD z ini l m) := by
  have p0 : P23 (ini.map u) (blkL l m 0) 0 glL := ⟨blkL_size l m 0 h (.inl rfl), by simp [hi], wAll_u ini, rfl, rfl⟩
  unfold LD
  split
  · exact ⟨p0, trivial⟩
  · rename_i hn
    have p1 : P23 ((tkF z ini (blkL l m 0)).map u) (blkL l m 1) 0 glL := ⟨blkL_size l m 1 h (.inr ⟨rfl, hn⟩), by simp [tkF_len], wAll_u _, rfl, rfl⟩
    exact ⟨p0, p1, p1, trivial⟩
theorem frees_vals {α : Type} (f : α → Value) : ∀ l : List α, frees (l.map fun i => .val (f i)) = true
  | [] => rfl
  | x :: l => by simp only [List.map_cons, frees, Bool.and_eq_true]; exact ⟨rfl, frees_vals f l⟩
theorem dgS_free (w : List Int) : (dgS w).free = true := by
  unfold dgS; simp only [SV.free]; exact frees_vals _ _
theorem dig_call (ini : List Int) (hi : ini.length = 8) (s : ByteArray) (hs : s.size < 64) (m : Int) {η : Env} {w : World} {vs : List Value} (hr : HR w.heap.size η (hD ini s.data.toList m) w) (hargs : Rs η [.ptr 1 0] vs) :
    Calls Tryd.prog 60 vs.toArray w (fun e w' => ∃ v, e = .returned v ∧ R [] (dgS (dgW zL ini s.data.toList m)) v ∧ Below w.heap.size w w') := by
  have hl : s.data.toList.length < 64 := by rw [Array.length_toList]; exact hs
  have hd := dig_all zL ini hi m s.data.toList _ rfl hl
  unfold digR at hd
  exact callsL (X := X3 zL) rfl X3_ct (X3_lp zL) 90 hd (LD_all zL ini hi _ hl m) (dgS_free _) hr hargs
theorem digG_ok {q : Sh} (hq : qF zL q) {args : List SV} {hp : List SO} {s : SV} {c : Cnd} (h : digG q args hp = some (s, c)) (hc : c.Is) {B : Nat} {η : Env} {w : World} {vs : List Value} (hr : HR B η hp w) (hargs : Rs η args vs) :
    Calls Tryd.prog 60 vs.toArray w (fun e w' => ∃ v, e = .returned v ∧ R [] s v ∧ Below w.heap.size w w') := by
  unfold digG at h
  split at h
  · rename_i k
    split at h
    · rename_i g gl r
      split at h
      · rename_i wr l hk
        split at h
        · rename_i ini s0 m hh
          simp only [Option.some.injEq, Prod.mk.injEq] at h
          obtain ⟨rfl, rfl⟩ := h
          obtain ⟨h1, rfl, rfl⟩ := hc
          obtain ⟨c1, c2, c3, c4⟩ := hsh_cells hh
          obtain ⟨v0, v1, e1, h2⟩ := HR.two hr (k0 := 0) rfl hk (by decide) c3
          have h3 := h2 w.heap.size
          have c5 : (ini.map u ++ [SV.bts false s0.data.toList, SV.val (.int .u64 m)]).length = l.length := by rw [← c2]; simp [cW]
          have h4 := hr_cells (k := 1) (wr := false) h3 rfl c5 (fun i a a' ha ha' v hv => by
            have hlt : i < (cW ini s0 m).length := by rw [c2]; exact (List.getElem?_eq_some_iff.1 ha).1
            have := c4 i a _ ha (List.getElem?_eq_getElem hlt) _ v hv
            by_cases hi : i = 8
            · subst hi
              have e1 : (cW ini s0 m)[8]'hlt = .val (.string s0) := by
                simp [cW, c1]
              have e2 : a' = .bts false s0.data.toList := by
                rw [List.getElem?_append_right (by simp [c1])] at ha'
                simp [c1] at ha'
                exact ha'.symm
              rw [e1] at this
              subst e2
              simp only [R] at this ⊢
              rw [this]
            · have e2 : (cW ini s0 m)[i]? = some a' := by
                rw [← ha']
                unfold cW
                by_cases hi2 : i < 8
                · rw [List.getElem?_append_left (by simp [c1]; omega), List.getElem?_append_left (by simp [c1]; omega)]
                · rw [List.getElem?_append_right (by simp [c1]; omega), List.getElem?_append_right (by simp [c1]; omega)]
                  have : i - (ini.map u).length = (i - 9) + 1 := by simp [c1]; omega
                  rw [this]; rfl
              rw [List.getElem?_eq_getElem hlt] at e2
              rw [← Option.some.inj e2]
              exact this)
          rw [hq.2]
          refine dig_call ini c1 s0 h1 m (η := [v0, v1]) h4 ?_
          obtain ⟨a, x, rfl, g1, g2⟩ := hargs.cons_inv
          simp only [Rs] at g2; subst g2
          obtain ⟨b', o', x1, x2⟩ := g1
          rw [e1] at x1
          simp only [Option.some.injEq] at x1
          subst x1
          exact Rs.cons ⟨b', o', rfl, x2⟩ Rs.nil
        · simp at h
      · simp at h
    · simp at h
  · simp at h
theorem digG_free {q : Sh} {args : List SV} {hp : List SO} {s : SV} {c : Cnd} (h : digG q args hp = some (s, c)) : s.free = true := by
  unfold digG at h
  split at h
  · split at h
    · split at h
      · split at h
        · simp only [Option.some.injEq, Prod.mk.injEq] at h
          rw [← h.1]; exact dgS_free _
        · simp at h
      · simp at h
    · simp at h
  · simp at h
/-! ### contracts that change a hash, beside others -/
noncomputable def rawX (q : Sh) (g : Raw) : Cx :=
  ⟨Tryd.prog, fun f args hp => match g f args hp with
    | some (s, c) => if s.free then some (s, none, c) else none
    | none => if f = 59 then ct14 q args hp else if f = 60 then (match digG q args hp with | some (s, c) => some (s, none, c) | none => none) else none, fun _ _ _ _ => none⟩
theorem rawX_lp (q : Sh) (g : Raw) : LpOk (rawX q g) := fun _ _ _ _ _ _ _ h => by simp [rawX] at h
theorem rawX_ct {q : Sh} (hq : qF zL q) {g : Raw} (hg : g.Ok) : CtOk (rawX q g) := by
  intro f args hp s ho c h hc B η w vs hr hB hargs
  have ro : ∀ {s : SV} {f : FuncId}, s.free = true → Calls Tryd.prog f vs.toArray w (fun e w' => ∃ v, e = .returned v ∧ R [] s v ∧ Below w.heap.size w w') →
      Calls Tryd.prog f vs.toArray w (fun e w' => ∃ v μ, e = .returned v ∧ R (η ++ μ) s v ∧ HR B (η ++ μ) ((none : Option (List SO)).getD hp) w' ∧ Below B w w') := fun hs hq => hq.mono fun e w' hq => by
    obtain ⟨v, rfl, hR, hb⟩ := hq
    exact ⟨v, [], rfl, R.free _ _ hs hR, by simpa using hr.below hb, hb.mono hB⟩
  simp only [rawX] at h
  split at h
  · rename_i s1 c1 h1
    split at h
    · rename_i hs
      simp only [Option.some.injEq, Prod.mk.injEq] at h
      obtain ⟨rfl, rfl, rfl⟩ := h
      exact ro hs (hg f args hp _ _ h1 hc B η w vs hr hargs)
    · simp at h
  · split at h
    · rename_i hf; subst hf
      exact ct14_ok hq h hc hr hB hargs
    · split at h
      · rename_i hf; subst hf
        split at h
        · rename_i s1 c1 h1
          simp only [Option.some.injEq, Prod.mk.injEq] at h
          obtain ⟨rfl, rfl, rfl⟩ := h
          exact ro (digG_free h1) (digG_ok hq h1 hc hr hargs)
        · simp at h
      · simp at h
end Go.Proofs.YtacgamdbmllaoaaDoor
