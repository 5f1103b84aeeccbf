/-
  A reckoner of programs and its soundness, part ExF: what it reckons is what 'Calls' says. No condition. By an AI agent.
-/
import Derived.Test.YtmngnhbnicgjfaaExE2
namespace Go.Ex
open Go.RowKit (Below)

theorem fieldsOf_eq {P : Program} {t : TypeId} {fs : Array Field} (h : P.underlying t = some (.struct fs)) : P.fieldsOf t = fs := by
  simp [Program.fieldsOf, h]

theorem run_part_cell {P : Program} {t : TypeId} {vs : Array Value} {i : Nat} {v : Value} (h : tagg P t = some false) (hv : vs[i]? = some v) (w : World) : (part t vs i).run P w = .ok v w := by
  simp [part, run_isAgg' h, hv]
theorem run_part_agg {P : Program} {t : TypeId} {vs : Array Value} {i n : Nat} (h : tagg P t = some true) (hn : tsize P t = some n) (w : World) :
    (part t vs i).run P w = .ok (.agg (vs.extract i (i + n))) w := by
  simp [part, run_isAgg' h, run_sizeOf' hn]

/-- The rounds of '==' on arrays. -/
theorem run_eqLoop {P : Program} {w : World} (d : Nat) (e : TypeId) (xs ys : Array Value) (E : Value → Value → Option Bool)
    (hE : ∀ x y b, E x y = some b → (Op.equalIn d e x y).run P w = .ok b w) (hs : tsize P e = some 1) (ha : tagg P e = some false) :
    ∀ (ls ms : List Value) (k : Nat) (b : Bool), ls.length = ms.length → (∀ j v, ls[j]? = some v → xs[k + j]? = some v) → (∀ j v, ms[j]? = some v → ys[k + j]? = some v) →
      (ls.zip ms).foldr (fun (p : Value × Value) (r : Option Bool) => match E p.1 p.2, r with | some a, some b => some (a && b) | _, _ => none) (some true) = some b →
      ((forIn (List.range' k ls.length) ((none, ()) : Option Bool × PUnit) fun i (_ : Option Bool × PUnit) => do
          let __do_lift ← part e xs (i * 1)
          let __do_lift_1 ← part e ys (i * 1)
          let __do_lift ← Op.equalIn d e __do_lift __do_lift_1
          if (!__do_lift) = true then pure (ForInStep.done ((some false, ()) : Option Bool × PUnit)) else pure (ForInStep.yield (none, ())) : Sem (Option Bool × PUnit)).run P w) =
        .ok (if b then (none, ()) else (some false, ())) w
  | [], ms, k, b, hl, _, _, h => by
    simp at h; subst h; simp
  | x :: ls, [], k, b, hl, _, _, h => by simp at hl
  | x :: ls, y :: ms, k, b, hl, hx, hy, h => by
    simp only [List.zip_cons_cons, List.foldr_cons] at h
    split at h
    · rename_i a b' hxy hr
      simp at h; subst h
      have h0 := hx 0 x rfl
      have h1 := hy 0 y rfl
      simp only [Nat.add_zero] at h0 h1
      simp only [List.length_cons, List.range'_succ, List.forIn_cons, Sem.run_bind, Nat.mul_one, run_part_cell ha h0, run_part_cell ha h1, Result.andThen_ok, hE _ _ _ hxy, Sem.run_ite]
      cases a
      · simp
      · simp only [Bool.not_true, Bool.false_eq_true, if_false, Sem.run_pure, Result.andThen_ok, Bool.true_and]
        have := run_eqLoop d e xs ys E hE hs ha ls ms (k + 1) b' (by simpa using hl)
          (fun j v hj => by have := hx (j + 1) v (by simpa using hj); rwa [show k + (j + 1) = k + 1 + j by omega] at this)
          (fun j v hj => by have := hy (j + 1) v (by simpa using hj); rwa [show k + (j + 1) = k + 1 + j by omega] at this) hr
        simpa only [Nat.mul_one] using this
    · simp at h

theorem run_eqFields {P : Program} {w : World} (d : Nat) (xs ys : Array Value) (E : TypeId → Value → Value → Option Bool)
    (hE : ∀ t x y b, E t x y = some b → (Op.equalIn d t x y).run P w = .ok b w) : ∀ (fs : List Field) (b : Bool),
    fs.foldr (fun (f : Field) (r : Option Bool) =>
        if f.name = "_" then r else
        match tagg P f.type with
        | some false => match xs[f.offset]?, ys[f.offset]? with
          | some a, some b => match E f.type a b, r with | some a, some b => some (a && b) | _, _ => none
          | _, _ => none
        | some true => match tsize P f.type with
          | some n => match E f.type (.agg (xs.extract f.offset (f.offset + n))) (.agg (ys.extract f.offset (f.offset + n))), r with | some a, some b => some (a && b) | _, _ => none
          | none => none
        | none => none) (some true) = some b → (Op.eqFields d xs ys fs).run P w = .ok b w
  | [], b, h => by simp at h; subst h; simp [Op.eqFields]
  | f :: fs, b, h => by
    simp only [List.foldr_cons] at h
    simp only [Op.eqFields]
    split at h
    · rename_i hn
      rw [if_neg (by simp [hn])]
      exact run_eqFields d xs ys E hE fs b h
    · rename_i hn
      rw [if_pos hn]
      have fin : ∀ (vx vy : Value), (∀ w, (part f.type xs f.offset).run P w = .ok vx w) → (∀ w, (part f.type ys f.offset).run P w = .ok vy w) → ∀ (a b' : Bool), E f.type vx vy = some a →
          (Op.eqFields d xs ys fs).run P w = .ok b' w → Sem.run P (do
            let a ← part f.type xs f.offset
            let b ← part f.type ys f.offset
            let r ← Op.equalIn d f.type a b
            if (!r) = true then pure false else Op.eqFields d xs ys fs) w = .ok (a && b') w := by
        intro vx vy h1 h2 a b' h3 h4
        simp only [Sem.run_bind, h1, h2, Result.andThen_ok, hE _ _ _ _ h3, Sem.run_ite]
        cases a
        · simp
        · simp [h4]
      split at h
      · rename_i ha
        split at h
        · rename_i vx vy hx hy
          split at h
          · rename_i a b' h1 h2
            simp at h; subst h
            exact fin vx vy (run_part_cell ha hx) (run_part_cell ha hy) a b' h1 (run_eqFields d xs ys E hE fs b' h2)
          · simp at h
        · simp at h
      · rename_i ha
        split at h
        · rename_i n hn'
          split at h
          · rename_i a b' h1 h2
            simp at h; subst h
            exact fin _ _ (run_part_agg ha hn') (run_part_agg ha hn') a b' h1 (run_eqFields d xs ys E hE fs b' h2)
          · simp at h
        · simp at h
      · simp at h

theorem eqB_ok {P : Program} : ∀ (m : Nat) (t : TypeId) (x y : Value) (b : Bool), eqB P m t x y = some b → ∀ d, m ≤ d → ∀ w, (Op.equalIn d t x y).run P w = .ok b w
  | 0, _, _, _, _, h, _, _, _ => by simp [eqB] at h
  | m + 1, t, x, y, b, h, 0, hd, w => by omega
  | m + 1, t, x, y, b, h, d + 1, hd, w => by
    simp only [eqB] at h
    split at h
    · rename_i hu
      simp at h; subst h; simp [Op.equalIn, run_underlying hu]
    · rename_i hu
      split at h
      · rename_i hk; subst hk; simp at h; subst h; simp [Op.equalIn, run_underlying hu]
      · simp at h
    · rename_i hu
      simp at h; subst h; simp [Op.equalIn, run_underlying hu]
    · rename_i len e xs ys hu
      split at h
      · rename_i hs ha
        split at h
        · rename_i hsz
          have hl := run_eqLoop (P := P) (w := w) d e xs ys (eqB P m e) (fun x y b hb => eqB_ok m e x y b hb d (by omega) w) hs ha xs.toList ys.toList 0 b (by simp [hsz.1, hsz.2])
            (fun j v hj => by simpa using hj) (fun j v hj => by simpa using hj) h
          simp only [Array.length_toList, hsz.1] at hl
          simp only [Op.equalIn, Sem.run_bind, run_underlying hu, Result.andThen_ok, run_sizeOf' hs, Std.Legacy.Range.forIn_eq_forIn_range', Std.Legacy.Range.size, Nat.sub_zero, Nat.add_sub_cancel, Nat.div_one]
          rw [hl]
          cases b <;> simp
        · simp at h
      · simp at h
    · rename_i fs xs ys hu
      split at h
      · simp at h
      · rename_i hst
        have hst' : P.stoodInHeld t = false := by simpa using hst
        rw [run_equalIn_struct w d t xs ys (by rw [fieldsOf_eq hu]; exact hu) hst', fieldsOf_eq hu]
        have hE := fun (t : TypeId) (x y : Value) (b : Bool) (hb : eqB P m t x y = some b) => eqB_ok m t x y b hb d (by omega) w
        exact run_eqFields d xs ys (eqB P m) hE fs.toList b h
    · simp at h
end Go.Ex
