/-
  A reckoner of programs and its soundness, part ExC: what it reckons is what 'Calls' says. No condition. By an AI agent.
-/
import Derived.Test.YtmngnhbnicgjfaaExB
import Derived.Laws.Cells
import Derived.Laws.Entries
import Derived.Laws.IdiomCopy
namespace Go.Ex
open Go.RowKit (Below)

mutual
theorem R.fun {η : Env} : ∀ {s : SV} {v u : Value}, R η s v → R η s u → v = u
  | .val _, _, _, h, k => by simp only [R] at h k; rw [h, k]
  | .num _ _, _, _, h, k => by simp only [R] at h k; rw [h, k]
  | .bol _, _, _, h, k => by simp only [R] at h k; rw [h, k]
  | .bts _ _, _, _, h, k => by simp only [R] at h k; rw [h, k]
  | .ptr k off, v, u, h, h' => by
    simp only [R] at h h'
    obtain ⟨b, o, h1, h2⟩ := h
    obtain ⟨b', o', h1', h2'⟩ := h'
    rw [h1] at h1'; simp at h1'; obtain ⟨rfl, rfl⟩ := h1'; rw [h2, h2']
  | .slc k off len cap, v, u, h, h' => by
    simp only [R] at h h'
    obtain ⟨b, o, h1, h2⟩ := h
    obtain ⟨b', o', h1', h2'⟩ := h'
    rw [h1] at h1'; simp at h1'; obtain ⟨rfl, rfl⟩ := h1'; rw [h2, h2']
  | .sle k off len kc, v, u, h, h' => by
    simp only [R] at h h'
    obtain ⟨b, o, c, h1, h2, h3, h4⟩ := h
    obtain ⟨b', o', c', h1', h2', h3', h4'⟩ := h'
    rw [h1] at h1'; simp at h1'; obtain ⟨rfl, rfl⟩ := h1'
    rw [h2] at h2'; simp at h2'; subst h2'; rw [h4, h4']
  | .fnc g fs cs, v, u, h, h' => by
    simp only [R] at h h'
    obtain ⟨a, b, h1, h2, h3⟩ := h
    obtain ⟨a', b', h1', h2', h3'⟩ := h'
    rw [h1, h1', Array.toList_inj.1 (Rs.fun h2 h2'), Array.toList_inj.1 (Rs.fun h3 h3')]
  | .agg l, v, u, h, h' => by
    simp only [R] at h h'
    obtain ⟨a, h1, h2⟩ := h
    obtain ⟨a', h1', h2'⟩ := h'
    rw [h1, h1', Array.toList_inj.1 (Rs.fun h2 h2')]
  | .tup l, v, u, h, h' => by
    simp only [R] at h h'
    obtain ⟨a, h1, h2⟩ := h
    obtain ⟨a', h1', h2'⟩ := h'
    rw [h1, h1', Array.toList_inj.1 (Rs.fun h2 h2')]
  | .ifc ty x, v, u, h, h' => by
    simp only [R] at h h'
    obtain ⟨a, h1, h2⟩ := h
    obtain ⟨a', h1', h2'⟩ := h'
    rw [h1, h1', R.fun h2 h2']
  | .hdl k, v, u, h, h' => by
    simp only [R] at h h'
    rw [h] at h'; exact Option.some.inj h'
theorem Rs.fun {η : Env} : ∀ {l : List SV} {vs us : List Value}, Rs η l vs → Rs η l us → vs = us
  | [], _, _, h, k => by simp only [Rs] at h k; rw [h, k]
  | s :: l, vs, us, h, k => by
    simp only [Rs] at h k
    obtain ⟨x, r, h1, h2, h3⟩ := h
    obtain ⟨x', r', h1', h2', h3'⟩ := k
    rw [h1, h1', R.fun h2 h2', Rs.fun h3 h3']
end

/-- Surely one cell. -/
def SV.one : SV → Bool
  | .val x => x.oneCell'
  | .agg _ | .tup _ | .hdl _ => false
  | _ => true
theorem SV.one_R {η : Env} {s : SV} {v : Value} (h : s.one = true) (hR : R η s v) : v.oneCell' = true := by
  cases s <;> simp [SV.one] at h <;> simp only [R] at hR
  case val x => rw [hR]; exact h
  case num => rw [hR]; rfl
  case bol => rw [hR]; rfl
  case bts => rw [hR]; rfl
  case ptr => obtain ⟨_, _, _, rfl⟩ := hR; rfl
  case slc => obtain ⟨_, _, _, rfl⟩ := hR; rfl
  case sle => obtain ⟨_, _, _, _, _, _, rfl⟩ := hR; rfl
  case fnc => obtain ⟨_, _, rfl, _⟩ := hR; rfl
  case ifc => obtain ⟨_, rfl, _⟩ := hR; rfl

/-- The cells of a value, each one cell. -/
def SV.cells : SV → Option (List SV)
  | .agg l => if l.all SV.one then some l else none
  | s => if s.one then some [s] else none
theorem SV.cells_R {η : Env} {s : SV} {l : List SV} {v : Value} (h : s.cells = some l) (hR : R η s v) :
    Rs η l v.cells.toList ∧ ∀ x ∈ v.cells.toList, x.oneCell' = true := by
  have gen : ∀ {s : SV} {v : Value}, s.one = true → R η s v → Rs η [s] v.cells.toList ∧ ∀ x ∈ v.cells.toList, x.oneCell' = true := by
    intro s v h1 hR
    have h2 := SV.one_R h1 hR
    have hv : v.cells = #[v] := by cases v <;> first | rfl | simp [Value.oneCell'] at h2
    rw [hv]
    exact ⟨Rs.cons hR Rs.nil, by simp [h2]⟩
  cases s
  case agg m =>
    simp only [SV.cells] at h
    split at h
    · rename_i ha
      simp at h; subst h
      simp only [R] at hR
      obtain ⟨vs, rfl, hvs⟩ := hR
      refine ⟨hvs, fun x hx => ?_⟩
      change x ∈ vs.toList at hx
      obtain ⟨i, hi⟩ := List.mem_iff_getElem?.1 hx
      have hl := hvs.length
      have hi' : i < m.length := by
        have := (List.getElem?_eq_some_iff.1 hi).1
        omega
      obtain ⟨v, hv, hRv⟩ := hvs.get (List.getElem?_eq_getElem hi')
      have hxv : x = v := by
        have : some x = some v := hi.symm.trans hv
        exact Option.some.inj this
      subst hxv
      exact SV.one_R (by
        have := List.all_eq_true.1 ha m[i] (List.getElem_mem hi')
        exact this) hRv
    · simp at h
  all_goals
    simp only [SV.cells] at h
    split at h
    · simp at h; subst h; exact gen ‹_› hR
    · simp at h

/-! ## What is left open -/
inductive Cnd where
  | tt
  | pr (p : Prop)
  | eq (a b : SV)
  | both (c d : Cnd)
def Cnd.Is : Cnd → Prop
  | .tt => True
  | .pr p => p
  | .eq a b => a = b
  | .both c d => c.Is ∧ d.Is
instance : CoeSort Cnd Prop := ⟨Cnd.Is⟩
def Cnd.force {α : Type} (c : Cnd) (k : Cnd → α) : α :=
  match c with
  | .tt => k .tt
  | .pr p => k (.pr p)
  | .eq a b => k (.eq a b)
  | .both c d => k (.both c d)
theorem Cnd.force_eq {α : Type} (c : Cnd) (k : Cnd → α) : c.force k = k c := by cases c <;> rfl
def Cnd.join : Cnd → Cnd → Cnd
  | .tt, d => d
  | c, .tt => c
  | c, d => .both c d
def Cnd.and (c d : Cnd) : Cnd := c.force fun c => d.force fun d => Cnd.join c d
theorem Cnd.and_eq (c d : Cnd) : c.and d = Cnd.join c d := by simp only [Cnd.and, Cnd.force_eq]
theorem Cnd.Is.both {c d : Cnd} (h : (c.and d).Is) : c.Is ∧ d.Is := by
  rw [Cnd.and_eq] at h
  cases c <;> cases d <;> first | exact ⟨trivial, h⟩ | exact ⟨h, trivial⟩ | exact h
/-- What is left to show of it, but for sameness. -/
def Cnd.props : Cnd → List Prop → List Prop
  | .tt, r => r
  | .pr p, r => p :: r
  | .eq _ _, r => r
  | .both c d, r => c.props (d.props r)
def Cnd.lefts : Cnd → List SV → List SV
  | .tt, r => r
  | .pr _, r => r
  | .eq a _, r => a :: r
  | .both c d, r => c.lefts (d.lefts r)
def Cnd.rights : Cnd → List SV → List SV
  | .tt, r => r
  | .pr _, r => r
  | .eq _ b, r => b :: r
  | .both c d, r => c.rights (d.rights r)
def AllP : List Prop → Prop
  | [] => True
  | p :: l => p ∧ AllP l
theorem Cnd.len : ∀ (c : Cnd) (a b : List SV), a.length = b.length → (c.lefts a).length = (c.rights b).length
  | .tt, _, _, h => h
  | .pr _, _, _, h => h
  | .eq _ _, _, _, h => by simp [Cnd.lefts, Cnd.rights, h]
  | .both c d, a, b, h => Cnd.len c _ _ (Cnd.len d _ _ h)
theorem Cnd.is_of : ∀ (c : Cnd) (r : List Prop) (a b : List SV), AllP (c.props r) → c.lefts a = c.rights b → a.length = b.length → c.Is ∧ AllP r ∧ a = b
  | .tt, _, _, _, hp, he, _ => ⟨trivial, hp, he⟩
  | .pr _, _, _, _, hp, he, _ => ⟨hp.1, hp.2, he⟩
  | .eq x y, _, a, b, hp, he, _ => by
    simp only [Cnd.lefts, Cnd.rights, List.cons.injEq] at he
    exact ⟨he.1, hp, he.2⟩
  | .both c d, r, a, b, hp, he, hl => by
    obtain ⟨h1, h2, h3⟩ := Cnd.is_of c _ _ _ hp he (Cnd.len d a b hl)
    obtain ⟨g1, g2, g3⟩ := Cnd.is_of d _ _ _ h2 h3 hl
    exact ⟨⟨h1, g1⟩, g2, g3⟩
theorem Cnd.Is.l {c d : Cnd} (h : (c.and d).Is) : c.Is := h.both.1
theorem Cnd.Is.r {c d : Cnd} (h : (c.and d).Is) : d.Is := h.both.2
theorem Cnd.Is.three {c d e : Cnd} (h : (c.and (d.and e)).Is) : c.Is ∧ d.Is ∧ e.Is := ⟨h.l, h.r.l, h.r.r⟩
theorem Cnd.Is.four {c d e f : Cnd} (h : (c.and (d.and (e.and f))).Is) : c.Is ∧ d.Is ∧ e.Is ∧ f.Is := ⟨h.l, h.r.l, h.r.r.l, h.r.r.r⟩

/-! ## What an operation comes to -/
inductive OR where
  | pure (s : SV) (c : Cnd)
  | mem (s : SV) (hp : List SO) (c : Cnd)
  | call (f : FuncId) (args : List SV)
  | bad

/-- What is owed of an operation that runs as 'r'. -/
def OrOk (η : Env) (hp : List SO) (r : World → Result Value) : OR → Prop
  | .pure s c => c → ∀ B w, HR B η hp w → ∃ v, R η s v ∧ r w = .ok v w
  | .mem s hp' c => c → ∀ B w, HR B η hp w → B ≤ w.heap.size → ∃ v w' μ, r w = .ok v w' ∧ R (η ++ μ) s v ∧ HR B (η ++ μ) hp' w' ∧ Below B w w'
  | .call .. => False
  | .bad => True

theorem OrOk.value {η : Env} {hp : List SO} {r : World → Result Value} {s : SV} {v : Value} (hR : R η s v) (h : ∀ w, r w = .ok v w) : OrOk η hp r (.pure s .tt) :=
  fun _ _ w _ => ⟨v, hR, h w⟩

theorem add_at (b o i : Nat) : (⟨b, o, none⟩ : Addr).add i = ⟨b, o + i, none⟩ := by unfold Addr.add; split <;> simp_all

def tsize (P : Program) (t : TypeId) : Option Nat := (P.info? t).map (·.size)
def tagg (P : Program) (t : TypeId) : Option Bool :=
  match P.underlying t with
  | some (.struct _) | some (.array _ _) => some true
  | some _ => some false
  | none => none
theorem run_isAgg' {P : Program} {t : TypeId} {b : Bool} (h : tagg P t = some b) (w : World) : (isAgg t).run P w = .ok b w := by
  unfold tagg at h
  cases hu : P.underlying t with
  | none => simp [hu] at h
  | some d => cases d <;> simp [hu] at h <;> subst h <;> simp [isAgg, run_underlying hu]
theorem run_sizeOf' {P : Program} {t : TypeId} {n : Nat} (h : tsize P t = some n) (w : World) : (sizeOf t).run P w = .ok n w := by
  unfold tsize at h
  cases hi : P.info? t with
  | none => simp [hi] at h
  | some i => simp [hi] at h; simp [sizeOf, typeInfo, hi, h]

/-! ### load -/
def opLoad (P : Program) (hp : List SO) (ty : TypeId) : SV → OR
  | .ptr k off =>
    match hp[k]? with
    | some (.cells _ l) =>
      match tagg P ty with
      | some false => match l[off]? with
        | some s => .pure s .tt
        | none => .bad
      | some true => match tsize P ty with
        | some n => if off + n ≤ l.length then .pure (.agg ((l.drop off).take n)) .tt else .bad
        | none => .bad
      | none => .bad
    | _ => .bad
  | _ => .bad

theorem cells_row {η : Env} {w : World} {b : Nat} {wr : Bool} : ∀ (l : List SV) (o : Nat), (∀ (i : Nat) (s : SV), l[i]? = some s → CellIs η w ⟨b, o + i, none⟩ wr s) →
    ∃ vs, Rs η l vs ∧ ∀ (i : Nat) (v : Value), vs[i]? = some v → w.cell? ⟨b, o + i, none⟩ = some v ∧ v.oneCell' = true
  | [], _, _ => ⟨[], Rs.nil, by simp⟩
  | s :: l, o, e4 => by
    obtain ⟨⟨v, h1, h2, h3⟩, _⟩ := e4 0 s (by simp)
    obtain ⟨vs, hvs, hc⟩ := cells_row l (o + 1) (fun i s' hi => by
      have := e4 (i + 1) s' (by simpa using hi)
      rwa [show o + 1 + i = o + (i + 1) by omega])
    refine ⟨v :: vs, Rs.cons h2 hvs, fun i u hi => ?_⟩
    cases i with
    | zero => simp at hi; subst hi; exact ⟨h1, h3⟩
    | succ i =>
      have := hc i u (by simpa using hi)
      rwa [show o + 1 + i = o + (i + 1) by omega] at this

/-- The cells behind a pointer. -/
theorem BR.row {B : Nat} {η : Env} {w : World} {k : Nat} {wr : Bool} {l : List SV} {b o : Nat} (h : BR B η w k (.cells wr l))
    (he : η[k]? = some (.pointer (some ⟨b, o, none⟩))) : ∃ vs, Rs η l vs ∧ ∀ i v, vs[i]? = some v → w.cell? ⟨b, o + i, none⟩ = some v ∧ v.oneCell' = true := by
  obtain ⟨b', o', e1, e2, e3, e4⟩ := h
  rw [he] at e1; simp at e1; obtain ⟨rfl, rfl⟩ := e1
  exact cells_row l o e4

theorem opLoad_ok {P : Program} {η : Env} {hp : List SO} {ty : TypeId} {x : SV} {vx : Value} (hx : R η x vx) :
    OrOk η hp (fun w => (Instr.loadAt ty vx).run P w) (opLoad P hp ty x) := by
  cases x with
  | ptr k off =>
    simp only [R] at hx
    obtain ⟨b, o, he, rfl⟩ := hx
    simp only [opLoad]
    split
    · rename_i wr l hk
      split
      · rename_i hag
        split
        · rename_i s hs
          intro _ B w hr
          obtain ⟨vs, hvs, hc⟩ := (hr.blk k _ hk).row he
          obtain ⟨v, hv, hR⟩ := hvs.get hs
          refine ⟨v, hR, ?_⟩
          simp [Instr.loadAt, Instr.sureAddr, loadVar, run_isAgg' hag, (hc off v hv).1]
        · trivial
      · rename_i hag
        split
        · rename_i n hn
          split
          · rename_i hle
            intro _ B w hr
            obtain ⟨vs, hvs, hc⟩ := (hr.blk k _ hk).row he
            refine ⟨.agg ((vs.drop off).take n).toArray, ⟨_, rfl, by simpa using (hvs.drop off).take n⟩, ?_⟩
            have hl := hvs.length
            have hlen : ((vs.drop off).take n).length = n := by simp; omega
            have := run_loadCells_list (P := P) w ⟨b, o + off, none⟩ ((vs.drop off).take n) (fun j v hj => by
              have h1 : j < n := by
                have := (List.getElem?_eq_some_iff.1 hj).1
                omega
              rw [List.getElem?_take_of_lt h1, List.getElem?_drop] at hj
              rw [add_at, Nat.add_assoc]
              exact (hc _ v hj).1)
            rw [hlen] at this
            simp [Instr.loadAt, Instr.sureAddr, loadVar, run_isAgg' hag, run_sizeOf' hn, this]
          · trivial
        · trivial
      · trivial
    · trivial
  | _ => exact trivial

/-! ### store -/
/-- Cells from a place on. -/
def setAll (l : List SV) (i : Nat) : List SV → List SV
  | [] => l
  | s :: r => setAll (l.set i s) (i + 1) r
theorem setAll_length (l : List SV) (i : Nat) (r : List SV) : (setAll l i r).length = l.length := by
  induction r generalizing l i with
  | nil => rfl
  | cons s r ih => simp [setAll, ih]

theorem storeCells_ok {P : Program} {B : Nat} {η : Env} {k : Nat} {b o : Nat} (he : η[k]? = some (.pointer (some ⟨b, o, none⟩))) :
    ∀ (r : List SV) (us : List Value) (hp : List SO) (l : List SV) (off i : Nat) (w : World), HR B η hp w → hp[k]? = some (.cells true l) → Rs η r us →
      (∀ u ∈ us, u.oneCell' = true) → off + i + r.length ≤ l.length →
      ∃ w', (storeCells ⟨b, o + off, none⟩ us i).run P w = .ok () w' ∧ HR B η (hp.set k (.cells true (setAll l (off + i) r))) w' ∧ Below B w w'
  | [], us, hp, l, off, i, w, hr, hk, hus, _, _ => by
    simp only [Rs] at hus; subst hus
    refine ⟨w, by simp [storeCells], ?_, Below.refl _ _⟩
    have hset : hp.set k (.cells true l) = hp := by
      apply List.ext_getElem?
      intro j
      by_cases hj : k = j
      · subst hj; rw [List.getElem?_set_self (List.getElem?_eq_some_iff.1 hk).1, hk]
      · rw [List.getElem?_set_ne hj]
    simpa [setAll, hset] using hr
  | s :: r, us, hp, l, off, i, w, hr, hk, hus, h1, hle => by
    obtain ⟨u, us', rfl, hu, hus'⟩ := hus.cons_inv
    simp only [List.length_cons] at hle
    have hi : off + i < l.length := by omega
    have hu1 : u.oneCell' = true := h1 u (by simp)
    obtain ⟨b', o', e1, e2, e3, e4⟩ := hr.blk k _ hk
    rw [he] at e1; simp at e1; obtain ⟨rfl, rfl⟩ := e1
    obtain ⟨⟨v, hv, _⟩, hf⟩ := e4 (off + i) _ (List.getElem?_eq_getElem hi)
    have hkl : k < hp.length := (List.getElem?_eq_some_iff.1 hk).1
    have hr' := hr.set hk he hi hu hu1
    obtain ⟨w', hw', hr'', hb''⟩ := storeCells_ok (P := P) he r us' (hp.set k (.cells true (l.set (off + i) s))) (l.set (off + i) s) off (i + 1)
      (w.setCell ⟨b, o + (off + i), none⟩ u) hr' (by rw [List.getElem?_set_self hkl]) hus' (fun x hx => h1 x (by simp [hx])) (by simp; omega)
    refine ⟨w', ?_, ?_, ?_⟩
    · simp only [storeCells, Sem.run_bind, add_at]
      rw [show o + off + i = o + (off + i) by omega, run_store _ _ _ _ _ hu1, hv]
      simp only [hf rfl, Bool.false_eq_true, if_false, Result.andThen_ok]
      exact hw'
    · rw [List.set_set] at hr''
      simpa [setAll, Nat.add_assoc] using hr''
    · exact ((Below.refl _ _).setCell (p := ⟨b, o + (off + i), none⟩) (e3 rfl) u).trans hb''

def opStore (P : Program) (hp : List SO) (ty : TypeId) (x y : SV) : OR :=
  match x with
  | .ptr k off =>
    match hp[k]?, y.cells, tsize P ty with
    | some (.cells true l), some cy, some n => if cy.length = n ∧ off + n ≤ l.length then .mem (.val undef) (hp.set k (.cells true (setAll l off cy))) .tt else .bad
    | _, _, _ => .bad
  | _ => .bad

theorem opStore_ok {P : Program} {η : Env} {hp : List SO} {ty : TypeId} {x y : SV} {vx vy : Value} (hx : R η x vx) (hy : R η y vy) :
    OrOk η hp (fun w => ((Instr.storeAt ty vx vy).run P w).andThen fun _ w' => .ok undef w') (opStore P hp ty x y) := by
  unfold opStore
  split
  · rename_i k off
    simp only [R] at hx
    obtain ⟨b, o, he, rfl⟩ := hx
    split
    · rename_i l cy n hk hcy hn
      split
      · rename_i hc
        obtain ⟨hc1, hc2⟩ := hc
        intro _ B w hr hB
        obtain ⟨hcs, h1⟩ := SV.cells_R hcy hy
        obtain ⟨w', hw', hr', hb'⟩ := storeCells_ok (P := P) he cy vy.cells.toList hp l off 0 w hr hk hcs h1 (by omega)
        refine ⟨undef, w', [], ?_, by simp only [R], by simpa using hr', hb'⟩
        have hsz : vy.cells.size = n := by
          have := hcs.length
          rw [Array.length_toList] at this
          omega
        simp [Instr.storeAt, Instr.sureAddr, storeVar, run_sizeOf' hn, hsz, hw']
      · trivial
    · trivial
  · trivial

/-! ### alloc, box -/
def opBox (hp : List SO) (x : SV) : OR :=
  match x.cells with
  | some l => .mem (.ptr hp.length 0) (hp ++ [.cells true l]) .tt
  | none => .bad
theorem opBox_ok {P : Program} {η : Env} {hp : List SO} {ty : TypeId} {x : SV} {vx : Value} (hx : R η x vx) :
    OrOk η hp (fun w => (Instr.box ty vx).run P w) (opBox hp x) := by
  unfold opBox
  split
  · rename_i l hl
    intro _ B w hr hB
    obtain ⟨hcs, h1⟩ := SV.cells_R hl hx
    refine ⟨_, _, [.pointer (some ⟨w.heap.size, 0, none⟩)], by simp [Instr.box, newVar, newRow]; exact ⟨rfl, rfl⟩, ?_, ?_, ?_⟩
    · simp only [R]
      exact ⟨w.heap.size, 0, by rw [← hr.len]; simp, by simp⟩
    · have := hr.alloc hB l vx.cells.toList ty hcs h1
      simpa using this
    · exact (Below.refl _ _).alloc hB _
  · trivial

def opAlloc (P : Program) (hp : List SO) (ty : TypeId) : OR :=
  match (P.info? ty).bind (·.zero) with
  | some z => if (z.cells.toList.all fun x => x.oneCell') then .mem (.ptr hp.length 0) (hp ++ [.cells true (z.cells.toList.map ofV1)]) .tt else .bad
  | none => .bad
theorem opAlloc_ok {P : Program} {η : Env} {hp : List SO} {ty : TypeId} :
    OrOk η hp (fun w => (Instr.alloc ty true (.tuple #[])).run P w) (opAlloc P hp ty) := by
  unfold opAlloc
  split
  · rename_i z hz
    split
    · rename_i hall
      intro _ B w hr hB
      have hz' : (zeroValue ty).run P w = .ok z w := by
        cases hi : P.info? ty with
        | none => simp [hi] at hz
        | some i => simp [hi] at hz; simp [zeroValue, typeInfo, hi, hz]
      refine ⟨_, _, [.pointer (some ⟨w.heap.size, 0, none⟩)], by simp [Instr.alloc, hz', newVar, newRow]; exact ⟨rfl, rfl⟩, ?_, ?_, ?_⟩
      · simp only [R]
        exact ⟨w.heap.size, 0, by rw [← hr.len]; simp, by simp⟩
      · have := hr.alloc hB _ z.cells.toList ty (ofV1s_R η _) (fun v hv => List.all_eq_true.1 hall v hv)
        simpa using this
      · exact (Below.refl _ _).alloc hB _
    · trivial
  · trivial
end Go.Ex
