/-
  A reckoner of programs and its soundness, part ExE2: what it reckons is what 'Calls' says. No condition. By an AI agent.
-/
import Derived.Calls
import Derived.Below
import Derived.LoopN
import Derived.Deep.Quiet
import Derived.StillTail
import Derived.KernelRfl
import Derived.Tactics
import Derived.Laws.MakeOwn
import Derived.ArgAppend
import Derived.WideLaws
import Derived.Laws.AppendOwn
import Derived.Laws.Cells
import Derived.Laws.Entries
import Derived.Laws.IdiomCopy
import Derived.Laws.Strings
import Derived.Laws.Tables
import Derived.Laws.BytesString
import Derived.Laws.Concat
import Derived.Laws.StructEq
import Derived.Lib.AppendStr
import Derived.Lib.ConvBytes
import Derived.MapKept
namespace Go.Ex
open Go.RowKit (Below)

/-- A value as the reckoner holds it. -/
inductive SV where
  | val (x : Value)
  | num (k : IntKind) (z : Int)
  | bol (b : Bool)
  | bts (told : Bool) (l : List UInt8)
  | ptr (k off : Nat)
  | slc (k off len cap : Nat)
  | sle (k off len kc : Nat)
  | pto (k : Nat) (i : Int)
  | slo (k n kc : Nat)
  | fnc (g : FuncId) (first caps : List SV)
  | agg (l : List SV)
  | tup (l : List SV)
  | ifc (ty : TypeId) (x : SV)
  | hdl (k : Nat)
  deriving Inhabited

abbrev Env := List Value

mutual
def R (η : Env) : SV → Value → Prop
  | .val x, v => v = x
  | .num k z, v => v = .int k z
  | .bol b, v => v = .bool b
  | .bts _ l, v => v = .string ⟨l.toArray⟩
  | .ptr k off, v => ∃ b o, η[k]? = some (.pointer (some ⟨b, o, none⟩)) ∧ v = .pointer (some ⟨b, o + off, none⟩)
  | .slc k off len cap, v => ∃ b o, η[k]? = some (.pointer (some ⟨b, o, none⟩)) ∧ v = .slice (some ⟨b, o + off, none⟩) len cap
  | .sle k off len kc, v => ∃ b o c, η[k]? = some (.pointer (some ⟨b, o, none⟩)) ∧ η[kc]? = some (.slice none 0 c) ∧ len ≤ c ∧ v = .slice (some ⟨b, o + off, none⟩) len c
  | .pto k i, v => ∃ b o, η[k]? = some (.pointer (some ⟨b, o, none⟩)) ∧ v = .pointer (some ⟨b, o + i.toNat, none⟩)
  | .slo k n kc, v => ∃ b o c, η[k]? = some (.pointer (some ⟨b, o, none⟩)) ∧ η[kc]? = some (.slice none 0 c) ∧ n ≤ c ∧ v = .slice (some ⟨b, o, none⟩) n c
  | .fnc g first caps, v => ∃ fs cs, v = .func (.func g) fs cs ∧ Rs η first fs.toList ∧ Rs η caps cs.toList
  | .agg l, v => ∃ vs, v = .agg vs ∧ Rs η l vs.toList
  | .tup l, v => ∃ vs, v = .tuple vs ∧ Rs η l vs.toList
  | .ifc ty x, v => ∃ y, v = .iface ty y ∧ R η x y
  | .hdl k, v => η[k]? = some v
def Rs (η : Env) : List SV → List Value → Prop
  | [], vs => vs = []
  | s :: l, vs => ∃ x r, vs = x :: r ∧ R η s x ∧ Rs η l r
end

theorem get_ext {α : Type} {l m : List α} {k : Nat} {x : α} (h : l[k]? = some x) : (l ++ m)[k]? = some x := by
  have hk : k < l.length := (List.getElem?_eq_some_iff.1 h).1
  rw [List.getElem?_append_left hk]; exact h

mutual
theorem R.ext {η μ : Env} : ∀ {s : SV} {v : Value}, R η s v → R (η ++ μ) s v
  | .val _, _, h => by simpa only [R] using h
  | .num _ _, _, h => by simpa only [R] using h
  | .bol _, _, h => by simpa only [R] using h
  | .bts _ _, _, h => by simpa only [R] using h
  | .ptr k off, v, h => by
    simp only [R] at h ⊢
    obtain ⟨b, o, h1, h2⟩ := h
    exact ⟨b, o, get_ext h1, h2⟩
  | .slc k off len cap, v, h => by
    simp only [R] at h ⊢
    obtain ⟨b, o, h1, h2⟩ := h
    exact ⟨b, o, get_ext h1, h2⟩
  | .sle k off len kc, v, h => by
    simp only [R] at h ⊢
    obtain ⟨b, o, c, h1, h2, h3, h4⟩ := h
    exact ⟨b, o, c, get_ext h1, get_ext h2, h3, h4⟩
  | .pto k i, v, h => by
    simp only [R] at h ⊢
    obtain ⟨b, o, h1, h2⟩ := h
    exact ⟨b, o, get_ext h1, h2⟩
  | .slo k n kc, v, h => by
    simp only [R] at h ⊢
    obtain ⟨b, o, c, h1, h2, h3, h4⟩ := h
    exact ⟨b, o, c, get_ext h1, get_ext h2, h3, h4⟩
  | .fnc g fs cs, v, h => by
    simp only [R] at h ⊢
    obtain ⟨a, b, h1, h2, h3⟩ := h
    exact ⟨a, b, h1, Rs.ext h2, Rs.ext h3⟩
  | .agg l, v, h => by
    simp only [R] at h ⊢
    obtain ⟨a, h1, h2⟩ := h
    exact ⟨a, h1, Rs.ext h2⟩
  | .tup l, v, h => by
    simp only [R] at h ⊢
    obtain ⟨a, h1, h2⟩ := h
    exact ⟨a, h1, Rs.ext h2⟩
  | .ifc ty x, v, h => by
    simp only [R] at h ⊢
    obtain ⟨a, h1, h2⟩ := h
    exact ⟨a, h1, R.ext h2⟩
  | .hdl k, v, h => by
    simp only [R] at h ⊢
    exact get_ext h
theorem Rs.ext {η μ : Env} : ∀ {l : List SV} {vs : List Value}, Rs η l vs → Rs (η ++ μ) l vs
  | [], _, h => by simpa only [Rs] using h
  | s :: l, vs, h => by
    simp only [Rs] at h ⊢
    obtain ⟨x, r, h1, h2, h3⟩ := h
    exact ⟨x, r, h1, R.ext h2, Rs.ext h3⟩
end

theorem Rs.length {η : Env} : ∀ {l : List SV} {vs : List Value}, Rs η l vs → vs.length = l.length
  | [], vs, h => by simp only [Rs] at h; simp [h]
  | s :: l, vs, h => by
    simp only [Rs] at h
    obtain ⟨x, r, h1, _, h3⟩ := h
    simp [h1, Rs.length h3]

theorem Rs.get {η : Env} : ∀ {l : List SV} {vs : List Value} {i : Nat} {s : SV}, Rs η l vs → l[i]? = some s → ∃ v, vs[i]? = some v ∧ R η s v
  | [], _, _, _, _, hi => by simp at hi
  | s :: l, vs, 0, s', h, hi => by
    simp only [Rs] at h
    obtain ⟨x, r, h1, h2, h3⟩ := h
    simp at hi; subst hi
    exact ⟨x, by simp [h1], h2⟩
  | s :: l, vs, i + 1, s', h, hi => by
    simp only [Rs] at h
    obtain ⟨x, r, h1, h2, h3⟩ := h
    simp at hi
    obtain ⟨v, hv, hR⟩ := Rs.get h3 hi
    exact ⟨v, by simp [h1, hv], hR⟩

theorem Rs.nil {η : Env} : Rs η [] [] := by simp [Rs]
theorem Rs.cons {η : Env} {s : SV} {l : List SV} {v : Value} {vs : List Value} (h : R η s v) (hs : Rs η l vs) : Rs η (s :: l) (v :: vs) := by
  simp only [Rs]; exact ⟨v, vs, rfl, h, hs⟩
theorem Rs.cons_inv {η : Env} {s : SV} {l : List SV} {vs : List Value} (h : Rs η (s :: l) vs) : ∃ v r, vs = v :: r ∧ R η s v ∧ Rs η l r := by
  simpa only [Rs] using h

theorem Rs.set {η : Env} : ∀ {l : List SV} {vs : List Value} {i : Nat} {s : SV} {v : Value}, Rs η l vs → R η s v → Rs η (l.set i s) (vs.set i v)
  | [], vs, _, _, _, h, _ => by simp only [Rs] at h; subst h; simp [Rs]
  | s :: l, vs, 0, s', v', h, hs => by
    obtain ⟨x, r, h1, h2, h3⟩ := Rs.cons_inv h
    subst h1; simp only [List.set_cons_zero]; exact Rs.cons hs h3
  | s :: l, vs, i + 1, s', v', h, hs => by
    obtain ⟨x, r, h1, h2, h3⟩ := Rs.cons_inv h
    subst h1; simp only [List.set_cons_succ]; exact Rs.cons h2 (Rs.set h3 hs)

theorem Rs.append {η : Env} : ∀ {l m : List SV} {vs us : List Value}, Rs η l vs → Rs η m us → Rs η (l ++ m) (vs ++ us)
  | [], m, vs, us, h, hm => by simp only [Rs] at h; subst h; simpa using hm
  | s :: l, m, vs, us, h, hm => by
    obtain ⟨x, r, h1, h2, h3⟩ := Rs.cons_inv h
    subst h1; exact Rs.cons h2 (Rs.append h3 hm)

theorem Rs.drop {η : Env} : ∀ {l : List SV} {vs : List Value} (n : Nat), Rs η l vs → Rs η (l.drop n) (vs.drop n)
  | l, vs, 0, h => by simpa using h
  | [], vs, n + 1, h => by simp only [Rs] at h; subst h; simp [Rs]
  | s :: l, vs, n + 1, h => by
    obtain ⟨x, r, h1, h2, h3⟩ := Rs.cons_inv h
    subst h1; simpa using Rs.drop n h3

theorem Rs.take {η : Env} : ∀ {l : List SV} {vs : List Value} (n : Nat), Rs η l vs → Rs η (l.take n) (vs.take n)
  | l, vs, 0, h => by simp [Rs]
  | [], vs, n + 1, h => by simp only [Rs] at h; subst h; simp [Rs]
  | s :: l, vs, n + 1, h => by
    obtain ⟨x, r, h1, h2, h3⟩ := Rs.cons_inv h
    subst h1; simpa using Rs.cons h2 (Rs.take n h3)

theorem Rs.replicate {η : Env} (n : Nat) {s : SV} {v : Value} (h : R η s v) : Rs η (List.replicate n s) (List.replicate n v) := by
  induction n with
  | zero => simp [Rs]
  | succ n ih => simpa [List.replicate_succ] using Rs.cons h ih

/-- The value that a scalar is. -/
def SV.val? : SV → Option Value
  | .val y => some y
  | .num k z => some (.int k z)
  | .bol y => some (.bool y)
  | .bts _ y => some (.string ⟨y.toArray⟩)
  | _ => none

theorem SV.val?_R {η : Env} {s : SV} {x v : Value} (h : s.val? = some x) (hR : R η s v) : v = x := by
  cases s <;> simp [SV.val?] at h <;> subst h <;> simpa only [R] using hR
theorem SV.R_val? {η : Env} {s : SV} {x : Value} (h : s.val? = some x) : R η s x := by
  cases s <;> simp [SV.val?] at h <;> subst h <;> simp only [R]

/-- A closed value of one cell, its numbers told. -/
def ofV1 : Value → SV
  | .int k z => .num k z
  | .bool y => .bol y
  | .string s => .bts true s.data.toList
  | x => .val x
theorem ofV1_R (η : Env) (x : Value) : R η (ofV1 x) x := by
  cases x <;> simp only [ofV1, R]
theorem ofV1s_R (η : Env) : ∀ (l : List Value), Rs η (l.map ofV1) l
  | [] => Rs.nil
  | x :: l => Rs.cons (ofV1_R η x) (ofV1s_R η l)
/-- A closed value, its numbers told. -/
def ofV : Value → SV
  | .agg cs => .agg (cs.toList.map ofV1)
  | x => ofV1 x
theorem ofV_R (η : Env) (x : Value) : R η (ofV x) x := by
  cases x <;> simp only [ofV, ofV1, R]
  exact ⟨_, rfl, ofV1s_R η _⟩

/-- Is it told? -/
def closedV : Value → Bool
  | .pointer none | .slice none _ _ | .map none | .chan none | .nilFunc | .nilIface | .tuple ⟨[]⟩ => true
  | _ => false
def SV.lit : SV → Bool
  | .num .. | .bol .. => true
  | .bts c _ => c
  | .val v => closedV v
  | _ => false

/-- The outcome of an operation that touches no memory. -/
def _root_.Go.Sem.pr (P : Program) {α : Type} : Sem α → Option α
  | .pure a => some a
  | .program k => (k P).pr P
  | _ => none
theorem pr_run {P : Program} {α : Type} {s : Sem α} {a : α} (h : s.pr P = some a) (w : World) : s.run P w = .ok a w := by
  induction s with
  | pure x => simp only [Sem.pr, Option.some.injEq] at h; subst h; rfl
  | program k ih => simp only [Sem.pr] at h; simp only [Sem.run]; exact ih P h
  | _ => simp [Sem.pr] at h
end Go.Ex
namespace Go.Ex
set_option linter.unusedVariables false
/-! ### a row of one's own, whose block may be frozen behind its end -/
def freeTo (fz : Nat × Nat) (k : Nat) : Prop := ∀ i, i < k → ¬ (fz.1 ≤ i ∧ i < fz.2)
def ownsZ (w : World) (base : Nat) (e : TypeId) (size : Nat) (v : Value) (n : Nat) (xs : List Value) : Prop :=
  xs.length = n * size ∧
  ((v = .slice none 0 0 ∧ n = 0) ∨
   ∃ g cap cur, v = .slice (some ⟨g, 0, none⟩) n cap ∧ base ≤ g ∧ (∃ fz, w.heap[g]? = some (.cells cur e fz) ∧ freeTo fz cur.size) ∧ n ≤ cap ∧ cap ≤ maxLen ∧ cur.size = cap * size ∧ cur.toList.take (n * size) = xs)
theorem ownsZ.of {w : World} {base : Nat} {e : TypeId} {size : Nat} {v : Value} {n : Nat} {xs : List Value} (h : w.ownsRow base e size v n xs) : ownsZ w base e size v n xs := by
  refine ⟨h.1, ?_⟩
  rcases h.2 with h | ⟨g, cap, cur, h1, h2, h3, h4⟩
  · exact .inl h
  · exact .inr ⟨g, cap, cur, h1, h2, ⟨(0, 0), h3, fun i _ q => by omega⟩, h4⟩
theorem ownsZ.lt {w : World} {base : Nat} {e : TypeId} {size : Nat} {v : Value} {n : Nat} {xs : List Value} (h : ownsZ w base e size v n xs) : ∀ k, v.ownBlock = some k → base ≤ k ∧ k < w.heap.size := by
  intro k hk
  rcases h.2 with ⟨rfl, _⟩ | ⟨g, cap, cur, rfl, hb, ⟨fz, hg, _⟩, _⟩
  · simp [Value.ownBlock] at hk
  · simp [Value.ownBlock] at hk
    subst hk
    exact ⟨hb, (Array.getElem?_eq_some_iff.1 hg).1⟩
theorem ownsZ.cells {w : World} {base : Nat} {e : TypeId} {size : Nat} {v : Value} {n : Nat} {xs : List Value} (h : ownsZ w base e size v n xs) {g : Nat} (hg : v.ownBlock = some g) : ∀ j u, xs[j]? = some u → w.cell? ((⟨g, 0, none⟩ : Addr).add j) = some u := by
  intro j u hu
  rcases h.2 with ⟨rfl, _⟩ | ⟨g', cap, cur, rfl, _, ⟨fz, hgg, _⟩, _, _, _, htake⟩
  · simp [Value.ownBlock] at hg
  · simp [Value.ownBlock] at hg
    subst hg
    rw [← htake] at hu
    have hu' : cur.toList[j]? = some u := by
      rw [List.getElem?_take] at hu
      split at hu
      · exact hu
      · simp at hu
    rw [Addr.add_lit]
    simp only [World.cell?, Nat.zero_add, hgg]
    simpa using hu'
theorem ownsZ.free {w : World} {base : Nat} {e : TypeId} {size g c n : Nat} {xs : List Value} (h : ownsZ w base e size (.slice (some ⟨g, 0, none⟩) n c) n xs) {j : Nat} (hj : j < xs.length) : w.frozen? ⟨g, j, none⟩ = false := by
  rcases h.2 with ⟨q, _⟩ | ⟨g', cap, cur, q, _, ⟨fz, hgg, hf⟩, hnc, _, hcs, htake⟩
  · cases q
  · injection q with q _ _
    injection q with q
    injection q with q
    subst q
    have hlt : j < cur.size := by
      rw [h.1] at hj
      exact Nat.lt_of_lt_of_le hj (by rw [hcs]; exact Nat.mul_le_mul_right _ hnc)
    have := hf j hlt
    simp only [World.frozen?, hgg]
    simp
    omega
theorem ownsZ_heap {w w' : World} {B : Nat} {e : TypeId} {size g n c : Nat} {xs : List Value} (h : ownsZ w B e size (.slice (some ⟨g, 0, none⟩) n c) n xs) (hh : w'.heap[g]? = w.heap[g]?) :
    ownsZ w' B e size (.slice (some ⟨g, 0, none⟩) n c) n xs := by
  refine ⟨h.1, ?_⟩
  rcases h.2 with ⟨h1, _⟩ | ⟨g', cap, cur, h1, h2, ⟨fz, h3, hf⟩, h4⟩
  · cases h1
  · have e := h1
    injection e with h5 _ h1c
    injection h5 with h5
    injection h5 with h5
    subst h5
    exact .inr ⟨g, cap, cur, h1, h2, ⟨fz, by rw [hh]; exact h3, hf⟩, h4⟩
/-- What stands in the block behind stores. -/
theorem setCells_row (g : Nat) (e : TypeId) (fz : Nat × Nat) : ∀ (news : List Value) (o : Nat) (w : World) (cur : Array Value), w.heap[g]? = some (.cells cur e fz) → o + news.length ≤ cur.size →
    ∃ cur', (w.setCells g o news).heap[g]? = some (.cells cur' e fz) ∧ cur'.size = cur.size ∧ cur'.toList.take (o + news.length) = cur.toList.take o ++ news
  | [], o, w, cur, h, hl => ⟨cur, h, rfl, by simp⟩
  | v :: r, o, w, cur, h, hl => by
    simp only [List.length_cons] at hl
    have h1 : (w.setCell ⟨g, o, none⟩ v).heap[g]? = some (.cells (cur.setIfInBounds o v) e fz) := by
      simp only [World.setCell, Array.getElem?_modify, h, if_true]
      simp
    obtain ⟨cur', q1, q2, q3⟩ := setCells_row g e fz r (o + 1) _ _ h1 (by simp; omega)
    refine ⟨cur', q1, by simpa using q2, ?_⟩
    rw [List.length_cons, show o + (r.length + 1) = o + 1 + r.length by omega, q3]
    have hlt : o < cur.toList.length := by simp; omega
    rw [Array.toList_setIfInBounds, List.take_succ_eq_append_getElem (by simpa using hlt)]
    have ht : List.take o (cur.toList.set o v) = List.take o cur.toList := by
      apply List.ext_getElem?
      intro j
      simp only [List.getElem?_take]
      split
      · rw [List.getElem?_set_ne (by omega)]
      · rfl
    rw [ht]
    simp
theorem setCells_other (g : Nat) : ∀ (news : List Value) (o : Nat) (w : World) (k : Nat), k ≠ g → (w.setCells g o news).heap[k]? = w.heap[k]?
  | [], o, w, k, h => rfl
  | v :: r, o, w, k, h => by rw [World.setCells, setCells_other g r (o + 1) _ k h, Go.RowKit.Below.heap_setCell _ _ _ _ h]
theorem setCells_same (g : Nat) : ∀ (news : List Value) (o : Nat) (w : World), (w.setCells g o news).os = w.os ∧ (w.setCells g o news).tape = w.tape ∧ (w.setCells g o news).output = w.output ∧ (w.setCells g o news).heap.size = w.heap.size
  | [], o, w => ⟨rfl, rfl, rfl, rfl⟩
  | v :: r, o, w => by
    have := setCells_same g r (o + 1) (w.setCell ⟨g, o, none⟩ v)
    simpa [World.setCells, World.setCell] using this
theorem append_stepZ {P : Program} (w : World) (base : Nat) (t ty e : TypeId) (i : TypeInfo) (z : Value) (ht : P.underlying t = some (.slice e)) (hi : P.info? e = some i) (hz : i.zero = some z)
    (hzs : z.cells.size = i.size) (hsz : 0 < i.size) (v : Value) (n : Nat) (xs : List Value) (hown : ownsZ w base e i.size v n xs)
    (a : Addr) (m c : Nat) (news : List Value) (hl : news.length = m * i.size) (hnews : ∀ j u, news[j]? = some u → w.cell? (a.add j) = some u) (h1 : ∀ u ∈ news, u.oneCell' = true)
    (hm : 0 < m) (h63 : n + m ≤ 1000000000) (hbytes : (n + m) * i.bytes ≤ 1000000000) (hbase : base ≤ w.heap.size) :
    ∃ g cap w', (Builtin.append_ #[t, t] ty #[v, .slice (some a) m c]).run P w = .ok (.slice (some ⟨g, 0, none⟩) (n + m) cap) w' ∧
      ownsZ w' base e i.size (.slice (some ⟨g, 0, none⟩) (n + m) cap) (n + m) (xs ++ news) ∧ w.grownBy w' v.ownBlock ∧ (v.ownBlock = some g ∨ g = w.heap.size) := by
  have hmax : n + m ≤ maxLen := by simp only [maxLen]; omega
  have hlen : (xs ++ news).length = (n + m) * i.size := by rw [List.length_append, hown.1, hl, Nat.add_mul]
  have whole := hown
  rcases hown.2 with ⟨rfl, rfl⟩ | ⟨g, cap, cur, rfl, hbg, ⟨fz, hgg, hfree⟩, hnc, hcm, hcs, htake⟩
  · have hxs : xs = [] := List.eq_nil_of_length_eq_zero (by rw [hown.1]; simp)
    subst hxs
    obtain ⟨v', w', hr, ho, hg, _⟩ := run_append_own (P := P) w base t ty e i z i.size i.bytes ht hi hz rfl rfl hzs hsz (.slice none 0 0) 0 [] (World.ownsRow_nil w base e i.size) a m c news hl hnews h1 hmax (by omega) hbase
    have hr' := run_append_nil (P := P) w t ty e i z ht hi hz a m c news hl hnews hm (by omega) (by simp only [Nat.zero_add] at hbytes; omega)
    rw [hr] at hr'
    injection hr' with e1 e2
    subst e1
    simp only [Nat.zero_add] at ho hr ⊢
    exact ⟨_, _, w', hr, ownsZ.of ho, hg, .inr rfl⟩
  · by_cases hroom : n + m ≤ cap
    · have hfit : n * i.size + news.length ≤ cur.size := by rw [hl, hcs, ← Nat.add_mul]; exact Nat.mul_le_mul_right _ hroom
      have hr' := run_append_room_cells (P := P) (w := w) t ty e i ht hi g 0 n cap a m c news hl hnews h1 hroom (fun j hj => by
        simp only [World.cell?, hgg, Nat.zero_add]
        simp
        omega) (fun j hj => by
        have := hfree (n * i.size + j) (by omega)
        simp only [World.frozen?, hgg, Nat.zero_add]
        simp
        omega)
      obtain ⟨cur', q1, q2, q3⟩ := setCells_row g e fz news (n * i.size) w cur hgg hfit
      obtain ⟨s1, s2, s3, s4⟩ := setCells_same g news (n * i.size) w
      simp only [Nat.zero_add] at hr'
      refine ⟨g, cap, _, hr', ⟨hlen, .inr ⟨g, cap, cur', rfl, hbg, ⟨fz, q1, by rw [q2]; exact hfree⟩, hroom, hcm, by rw [q2]; exact hcs, ?_⟩⟩, ⟨s1, s2, s3, by rw [s4]; exact Nat.le_refl _, fun k hk hne => setCells_other g news _ w k (fun e => hne (by rw [e]; rfl))⟩, .inl rfl⟩
      rw [Nat.add_mul, ← hl, q3, htake]
    · have holds : ∀ j u, xs[j]? = some u → w.cell? ((⟨g, 0, none⟩ : Addr).add j) = some u := whole.cells (g := g) rfl
      have hr' := run_append_grow (P := P) w t ty e i z ht hi hz ⟨g, 0, none⟩ n cap xs hown.1 holds a m c news hl hnews (by omega) (by omega) (growslice_fits (by omega) (by omega))
      have hge := grownCap_ge w (n + m) cap e
      have hcm' : grownCap w (n + m) cap e ≤ maxLen := grownCap_le_maxLen w (n + m) cap e hmax
      refine ⟨_, _, _, hr', ownsZ.of ⟨hlen, .inr ⟨w.heap.size, _, _, rfl, hbase, heap_alloc_new w.drew _, hge, hcm', ?_, ?_⟩⟩, ⟨rfl, rfl, rfl, by simp, fun k hk _ => heap_alloc_old w.drew _ k hk⟩, .inr rfl⟩
      · simp only [Array.size_append, List.size_toArray, size_zeroCells, hzs, hown.1, hl, ← Nat.add_mul]
        congr 1
        omega
      · simp only [Array.toList_append, List.append_assoc]
        rw [← List.append_assoc, ← hlen]
        exact List.take_left
end Go.Ex
namespace Go.Ex
open Go.RowKit (Below)

/-- A byte, told or not. -/
def byteSV (told : Bool) (b : UInt8) : SV := if told then .num .u8 b.toNat else .val (.int .u8 b.toNat)
/-- The cells of a text that is not told. -/
def textCells (t : ByteArray) : List SV := t.data.toList.map (byteSV false)
def byteAt (s : ByteArray) (i : Int) : Int := if h : i.toNat < s.size then ((s[i.toNat]'h).toNat : Int) else 0
theorem textCells_length (t : ByteArray) : (textCells t).length = t.size := by
  show (List.map _ _).length = t.data.size
  rw [List.length_map, Array.length_toList]
theorem textCells_get (t : ByteArray) (i : Int) (h : i.toNat < t.size) : (textCells t)[i.toNat]? = some (.val (.int .u8 (byteAt t i))) := by
  have h' : i.toNat < t.data.size := h
  unfold textCells byteAt
  rw [List.getElem?_map, dif_pos h]
  have e : t.data.toList[i.toNat]? = some t.data[i.toNat] := by
    rw [Array.getElem?_toList]; exact Array.getElem?_eq_getElem h'
  rw [e]; rfl
/-- A text's bytes, as values. -/
def strC (t : ByteArray) : List Value := t.data.toList.map fun b => Value.int .u8 b.toNat
/-- A text with another byte. -/
def setB (t : ByteArray) (i z : Int) : ByteArray := ⟨t.data.setIfInBounds i.toNat (UInt8.ofNat z.toNat)⟩
theorem setB_size (t : ByteArray) (i z : Int) : (setB t i z).size = t.size := by
  show (t.data.setIfInBounds _ _).size = t.data.size
  simp
theorem setB_cells (t : ByteArray) (i z : Int) (h0 : 0 ≤ z) (h1 : z < 256) : textCells (setB t i z) = (textCells t).set i.toNat (.val (.int .u8 z)) := by
  unfold textCells setB
  simp only [Array.toList_setIfInBounds, List.map_set]
  congr 1
  unfold byteSV
  simp only [Bool.false_eq_true, if_false]
  have : ((UInt8.ofNat z.toNat).toNat : Int) = z := by
    rw [UInt8.toNat_ofNat']; omega
  rw [this]
/-- What is no cells, and lies as it lay: the record of a range over a function; a block for deferred calls. -/
inductive Fx where
  | lop (rdy : Bool) (ts : List SV) (ps : Array Tmp) (assign body : Code)
  | dfb
inductive SO where
  | cells (wr : Bool) (l : List SV)
  | dead
  | txt (t : ByteArray)
  | own (e : TypeId) (size n kc : Nat) (l : List SV)
  | otx (e : TypeId) (kc : Nat) (t : ByteArray)
  | ows (e : TypeId) (size n kc : Nat) (L : List Value)
  | mp (kk : IntKind) (es : List (Int × SV))
  | glob (g : Nat) (l : List SV)
  | fx (d : Fx)
  | fns (L : List Value)
  deriving Inhabited
/-- The cells that there are. -/
def SO.row : SO → Option (Bool × List SV)
  | .cells wr l => some (wr, l)
  | .dead => none
  | .txt t => some (true, textCells t)
  | .own _ _ _ _ l => some (true, l)
  | .otx _ _ t => some (true, textCells t)
  | .ows _ _ _ _ L => some (true, L.map .val)
  | .mp _ _ => none
  | .glob _ l => some (false, l)
  | .fx _ => none
  | .fns L => some (false, L.map .val)
/-- Cells that are told one by one. -/
def SO.told : SO → Option (List SV)
  | .cells _ l => some l
  | .own _ _ _ _ l => some l
  | _ => none
theorem SO.told_row {o : SO} {l : List SV} (h : o.told = some l) : ∃ wr, o.row = some (wr, l) := by
  cases o <;> simp [SO.told] at h <;> subst h <;> exact ⟨_, rfl⟩
def SO.plain : SO → Bool
  | .own .. => false
  | .otx .. => false
  | .ows .. => false
  | .mp .. => false
  | .glob .. => false
  | .fx .. => false
  | _ => true

/-- One cell: what a row of cells may hold at a place. -/
def CellIs (η : Env) (w : World) (a : Addr) (wr : Bool) (s : SV) : Prop :=
  (∃ v, w.cell? a = some v ∧ R η s v ∧ v.oneCell' = true) ∧ (wr = true → w.frozen? a = false)

def isC : Obj → Bool
  | .cells .. => true
  | _ => false
/-- A row that is held whole, with its spare places. -/
def OwnIs (B : Nat) (η : Env) (w : World) (k : Nat) : SO → Prop
  | .otx e kc t => ∃ g c, η[k]? = some (.pointer (some ⟨g, 0, none⟩)) ∧ η[kc]? = some (.slice none 0 c) ∧ ownsZ w B e 1 (.slice (some ⟨g, 0, none⟩) t.size c) t.size (strC t)
  | .ows e sz nn kc L => ∃ g c, η[k]? = some (.pointer (some ⟨g, 0, none⟩)) ∧ η[kc]? = some (.slice none 0 c) ∧ ownsZ w B e sz (.slice (some ⟨g, 0, none⟩) nn c) nn L
  | .own e size n kc l => ∃ g c xs, η[k]? = some (.pointer (some ⟨g, 0, none⟩)) ∧ η[kc]? = some (.slice none 0 c) ∧ ownsZ w B e size (.slice (some ⟨g, 0, none⟩) n c) n xs ∧ Rs η l xs ∧ ∀ x ∈ xs, x.oneCell' = true
  | .mp kk es => ∃ r arr clock, η[k]? = some (.map (some r)) ∧ B ≤ r ∧ w.heap[r]? = some (Obj.map arr clock) ∧ arr.toList.map (·.key) = es.map (fun e => Value.int kk e.1) ∧ Rs η (es.map (·.2)) (arr.toList.map (·.val))
  | .glob g _ => η[k]? = some (.pointer (some ⟨g, 0, none⟩))
  | .fx (.lop rdy ts ps assign body) => ∃ r fn vts D, η[k]? = some (.func (.yield r) #[] #[]) ∧ B ≤ r ∧
      w.heap[r]? = some (Obj.loop { state := if rdy then .ready else .busy, pending := none, fn := fn, tmps := vts, params := ps, assign := assign, body := body, defers := D }) ∧ Rs η ts vts.toList
  | .fx .dfb => ∃ r, η[k]? = some (.pointer (some ⟨r, 0, none⟩)) ∧ B ≤ r ∧ w.heap[r]? = some (Obj.deferred (some []))
  | _ => True
def BR (B : Nat) (η : Env) (w : World) (k : Nat) (o : SO) : Prop :=
  (∀ wr l, o.row = some (wr, l) → ∃ b o, η[k]? = some (.pointer (some ⟨b, o, none⟩)) ∧ b < w.heap.size ∧ (wr = true → B ≤ b) ∧
      ∀ i s, l[i]? = some s → CellIs η w ⟨b, o + i, none⟩ wr s) ∧ OwnIs B η w k o
theorem OwnIs.plain {B : Nat} {η : Env} {w : World} {k : Nat} {o : SO} (h : o.plain = true) : OwnIs B η w k o := by
  cases o <;> first | trivial | simp [SO.plain] at h
theorem OwnIs.keep {B : Nat} {η μ : Env} {w w' : World} {k : Nat} {o : SO} (h : OwnIs B η w k o) (hh : ∀ g, η[k]? = some (.pointer (some ⟨g, 0, none⟩)) → g < w.heap.size → w'.heap[g]? = w.heap[g]?)
    (hm : ∀ (r : Nat) (o : Obj), w.heap[r]? = some o → isC o = false → w'.heap[r]? = w.heap[r]?) : OwnIs B (η ++ μ) w' k o := by
  cases o with
  | own e size n kc l =>
    obtain ⟨g, c, xs, h1, h2, h3, h4, h5⟩ := h
    exact ⟨g, c, xs, get_ext h1, get_ext h2, ownsZ_heap h3 (hh g h1 (h3.lt g rfl).2), h4.ext, h5⟩
  | otx e kc t =>
    obtain ⟨g, c, h1, h2, h3⟩ := h
    exact ⟨g, c, get_ext h1, get_ext h2, ownsZ_heap h3 (hh g h1 (h3.lt g rfl).2)⟩
  | ows e sz nn kc L =>
    obtain ⟨g, c, h1, h2, h3⟩ := h
    exact ⟨g, c, get_ext h1, get_ext h2, ownsZ_heap h3 (hh g h1 (h3.lt g rfl).2)⟩
  | mp kk es =>
    obtain ⟨r, arr, clock, h1, h2, h3, h4, h5⟩ := h
    exact ⟨r, arr, clock, get_ext h1, h2, by rw [hm r _ h3 rfl]; exact h3, h4, h5.ext⟩
  | glob g l => exact get_ext h
  | fx d =>
    cases d with
    | lop rdy ts ps as bd =>
      obtain ⟨r, fn, vts, D, h1, h2, h3, h4⟩ := h
      exact ⟨r, fn, vts, D, get_ext h1, h2, by rw [hm r _ h3 rfl]; exact h3, h4.ext⟩
    | dfb =>
      obtain ⟨r, h1, h2, h3⟩ := h
      exact ⟨r, get_ext h1, h2, by rw [hm r _ h3 rfl]; exact h3⟩
  | _ => trivial
theorem OwnIs.keepN {B : Nat} {η μ : Env} {w w' : World} {k : Nat} {o : SO} (h : OwnIs B η w k o) (hro : o.row = none)
    (hm : ∀ (r : Nat) (o : Obj), w.heap[r]? = some o → isC o = false → w'.heap[r]? = w.heap[r]?) : OwnIs B (η ++ μ) w' k o := by
  cases o with
  | mp kk es =>
    obtain ⟨r, arr, clock, h1, h2, h3, h4, h5⟩ := h
    exact ⟨r, arr, clock, get_ext h1, h2, by rw [hm r _ h3 rfl]; exact h3, h4, h5.ext⟩
  | own e size n kc l => simp [SO.row] at hro
  | otx e kc t => simp [SO.row] at hro
  | ows e sz nn kc L => simp [SO.row] at hro
  | glob g l => exact get_ext h
  | fx d =>
    cases d with
    | lop rdy ts ps as bd =>
      obtain ⟨r, fn, vts, D, h1, h2, h3, h4⟩ := h
      exact ⟨r, fn, vts, D, get_ext h1, h2, by rw [hm r _ h3 rfl]; exact h3, h4.ext⟩
    | dfb =>
      obtain ⟨r, h1, h2, h3⟩ := h
      exact ⟨r, get_ext h1, h2, by rw [hm r _ h3 rfl]; exact h3⟩
  | _ => trivial

/-- No block that may be written lies in another one. -/
def Apart (η : Env) (hp : List SO) : Prop :=
  ∀ (k₁ k₂ : Nat) (s₁ s₂ : SO) (l₁ : List SV) (wr₂ : Bool) (l₂ : List SV) (b₁ o₁ b₂ o₂ : Nat), hp[k₁]? = some s₁ → s₁.row = some (true, l₁) → hp[k₂]? = some s₂ → s₂.row = some (wr₂, l₂) → k₁ ≠ k₂ →
    η[k₁]? = some (Value.pointer (some ⟨b₁, o₁, none⟩)) → η[k₂]? = some (Value.pointer (some ⟨b₂, o₂, none⟩)) → b₁ ≠ b₂

structure HR (B : Nat) (η : Env) (hp : List SO) (w : World) : Prop where
  len : η.length = hp.length
  blk : ∀ k o, hp[k]? = some o → BR B η w k o
  apart : Apart η hp

theorem CellIs.ext {η μ : Env} {w : World} {a : Addr} {wr : Bool} {s : SV} (h : CellIs η w a wr s) : CellIs (η ++ μ) w a wr s := by
  obtain ⟨⟨v, h1, h2, h3⟩, h4⟩ := h
  exact ⟨⟨v, h1, h2.ext, h3⟩, h4⟩

/-- Whatever leaves the blocks below the heap's end alone leaves this alone. -/
theorem CellIs.below {η : Env} {w w' : World} {a : Addr} {wr : Bool} {s : SV} (h : CellIs η w a wr s) (hb : Below w.heap.size w w') (ha : a.block < w.heap.size) : CellIs η w' a wr s := by
  obtain ⟨⟨v, h1, h2, h3⟩, h4⟩ := h
  exact ⟨⟨v, by rw [hb.cell ha]; exact h1, h2, h3⟩, fun hw => by rw [hb.frozen ha]; exact h4 hw⟩

theorem BR.below {B : Nat} {η : Env} {w w' : World} {k : Nat} {o : SO} (h : BR B η w k o) (hb : Below w.heap.size w w') : BR B η w' k o := by
  refine ⟨?_, by simpa using (h.2.keep (μ := []) (fun g _ hg => hb.block g hg) (fun r o hr _ => hb.block r (Array.getElem?_eq_some_iff.1 hr).1))⟩
  intro wr l hrow
  obtain ⟨b, o, h1, h2, h3, h4⟩ := h.1 wr l hrow
  exact ⟨b, o, h1, Nat.lt_of_lt_of_le h2 hb.size, h3, fun i s hi => (h4 i s hi).below hb h2⟩

theorem HR.below {B : Nat} {η : Env} {hp : List SO} {w w' : World} (h : HR B η hp w) (hb : Below w.heap.size w w') : HR B η hp w' :=
  ⟨h.len, fun k o hk => (h.blk k o hk).below hb, h.apart⟩

theorem HR.drew {B : Nat} {η : Env} {hp : List SO} {w : World} (h : HR B η hp w) : HR B η hp w.drew :=
  h.below (Below.refl _ _).drew

theorem BR.ext {B : Nat} {η μ : Env} {w : World} {k : Nat} {o : SO} (h : BR B η w k o) : BR B (η ++ μ) w k o := by
  refine ⟨?_, h.2.keep (fun g _ _ => rfl) (fun r o _ _ => rfl)⟩
  intro wr l hrow
  obtain ⟨b, o, h1, h2, h3, h4⟩ := h.1 wr l hrow
  exact ⟨b, o, get_ext h1, h2, h3, fun i s hi => (h4 i s hi).ext⟩

/-- One more block. -/
theorem HR.grow' {B : Nat} {η : Env} {hp : List SO} {w w' : World} (h : HR B η hp w) (hB : B ≤ w.heap.size) (hb : Below w.heap.size w w') (hsz : w.heap.size < w'.heap.size) (so : SO) (hpl : so.plain = true)
    (hnew : ∀ (wr : Bool) (l : List SV), so.row = some (wr, l) → ∀ (i : Nat) (s : SV), l[i]? = some s → CellIs η w' ⟨w.heap.size, i, none⟩ true s) :
    HR B (η ++ [.pointer (some ⟨w.heap.size, 0, none⟩)]) (hp ++ [so]) w' := by
  have split : ∀ {k : Nat} {o : SO}, (hp ++ [so])[k]? = some o → (k < hp.length ∧ hp[k]? = some o) ∨ (k = hp.length ∧ o = so) := by
    intro k o hk
    by_cases hlt : k < hp.length
    · rw [List.getElem?_append_left hlt] at hk; exact .inl ⟨hlt, hk⟩
    · have := (List.getElem?_eq_some_iff.1 hk).1
      simp at this
      have hk' : k = hp.length := by omega
      subst hk'
      simp at hk
      exact .inr ⟨rfl, hk.symm⟩
  refine ⟨by simp [h.len], ?_, ?_⟩
  · intro k o hk
    rcases split hk with ⟨_, hk⟩ | ⟨rfl, rfl⟩
    · exact ((h.blk k o hk).below hb).ext
    · refine ⟨?_, OwnIs.plain hpl⟩
      intro wr l hrow
      refine ⟨w.heap.size, 0, ?_, hsz, fun _ => hB, ?_⟩
      · rw [← h.len]; simp
      · intro i s hi
        simp only [Nat.zero_add]
        have := (hnew wr l hrow i s hi).ext (μ := [.pointer (some ⟨w.heap.size, 0, none⟩)])
        exact ⟨this.1, fun _ => this.2 rfl⟩
  · intro k₁ k₂ s₁ s₂ l₁ wr₂ l₂ b₁ o₁ b₂ o₂ hk1 r1 hk2 r2 hne e1 e2
    have old : ∀ {k : Nat} {o : SO} {wr : Bool} {l' : List SV} {b p : Nat}, k < hp.length → hp[k]? = some o → o.row = some (wr, l') →
        (η ++ [.pointer (some ⟨w.heap.size, 0, none⟩)])[k]? = some (.pointer (some ⟨b, p, none⟩)) → η[k]? = some (.pointer (some ⟨b, p, none⟩)) ∧ b < w.heap.size := by
      intro k o wr l' b p hlt hk hrow e
      rw [List.getElem?_append_left (by rw [h.len]; exact hlt)] at e
      obtain ⟨b', p', h1, h2, _⟩ := (h.blk k _ hk).1 _ _ hrow
      rw [h1] at e
      simp at e
      exact ⟨by rw [h1]; simp [e], by omega⟩
    have new : ∀ {b p : Nat}, (η ++ [.pointer (some ⟨w.heap.size, 0, none⟩)])[hp.length]? = some (.pointer (some ⟨b, p, none⟩)) → b = w.heap.size := by
      intro b p e
      rw [← h.len] at e
      simp at e
      exact e.1.symm
    rcases split hk1 with ⟨c1, g1⟩ | ⟨x1, y1⟩ <;> rcases split hk2 with ⟨c2, g2⟩ | ⟨x2, y2⟩
    · exact h.apart k₁ k₂ s₁ s₂ l₁ wr₂ l₂ b₁ o₁ b₂ o₂ g1 r1 g2 r2 hne (old c1 g1 r1 e1).1 (old c2 g2 r2 e2).1
    · have a3 := (old c1 g1 r1 e1).2
      rw [x2] at e2
      have d2 := new e2
      omega
    · rw [x1] at e1
      have a2 := new e1
      have d3 := (old c2 g2 r2 e2).2
      omega
    · exact absurd (x1.trans x2.symm) hne

/-- A new block. -/
theorem HR.alloc {B : Nat} {η : Env} {hp : List SO} {w : World} (h : HR B η hp w) (hB : B ≤ w.heap.size) (l : List SV) (vs : List Value) (t : TypeId)
    (hvs : Rs η l vs) (h1 : ∀ v ∈ vs, v.oneCell' = true) :
    HR B (η ++ [.pointer (some ⟨w.heap.size, 0, none⟩)]) (hp ++ [.cells true l]) (w.alloc (.cells vs.toArray t)) := by
  have hbel : Below w.heap.size w (w.alloc (.cells vs.toArray t)) := (Below.refl _ _).alloc (Nat.le_refl _) _
  refine h.grow' hB hbel (by simp) _ rfl ?_
  intro wr l' hrow i s hi
  simp only [SO.row, Option.some.injEq, Prod.mk.injEq] at hrow
  obtain ⟨rfl, rfl⟩ := hrow
  obtain ⟨v, hv, hR⟩ := hvs.get hi
  refine ⟨⟨v, ?_, hR, h1 v (List.mem_of_getElem? hv)⟩, fun _ => ?_⟩
  · rw [World.cell?_alloc_new]
    simpa using hv
  · simp

/-- A store into a block that may be written. -/
theorem HR.set' {B : Nat} {η : Env} {hp : List SO} {w : World} (h : HR B η hp w) {k : Nat} {so so' : SO} {l : List SV} (hk : hp[k]? = some so) (hrow : so.row = some (true, l)) {b o i : Nat}
    (he : η[k]? = some (.pointer (some ⟨b, o, none⟩))) (hi : i < l.length) {s : SV} {v : Value} (hR : R η s v) (h1 : v.oneCell' = true) (hrow' : so'.row = some (true, l.set i s)) (hpl : so'.plain = true) :
    HR B η (hp.set k so') (w.setCell ⟨b, o + i, none⟩ v) := by
  have hkl : k < hp.length := (List.getElem?_eq_some_iff.1 hk).1
  obtain ⟨b', o', e1, e2, e3, e4⟩ := (h.blk k _ hk).1 _ _ hrow
  rw [he] at e1
  simp at e1
  obtain ⟨rfl, rfl⟩ := e1
  have hmap : ∀ (r : Nat) (ob : Obj), w.heap[r]? = some ob → isC ob = false → (w.setCell ⟨b, o + i, none⟩ v).heap[r]? = w.heap[r]? := by
    intro r ob hr hob
    obtain ⟨⟨u, hu, _⟩, _⟩ := e4 i _ (List.getElem?_eq_getElem hi)
    have hne : b ≠ r := by
      intro e
      subst e
      cases ob <;> first | (simp [World.cell?, hr] at hu; done) | simp [isC] at hob
    simp [World.setCell, Array.getElem?_modify, hne]
  refine ⟨by simp [h.len], ?_, ?_⟩
  · intro k' o' hk'
    by_cases hkk : k = k'
    · subst hkk
      rw [List.getElem?_set_self hkl] at hk'
      simp at hk'; subst hk'
      refine ⟨?_, OwnIs.plain hpl⟩
      intro wr' l' hr'
      rw [hrow'] at hr'
      simp only [Option.some.injEq, Prod.mk.injEq] at hr'
      obtain ⟨rfl, rfl⟩ := hr'
      refine ⟨b, o, he, by simpa using e2, e3, ?_⟩
      intro j s' hj
      by_cases hij : i = j
      · subst hij
        rw [List.getElem?_set_self hi] at hj
        simp at hj; subst hj
        obtain ⟨⟨u, hu, _⟩, hf⟩ := e4 i _ (List.getElem?_eq_getElem hi)
        exact ⟨⟨v, World.cell?_setCell_same _ _ _ hu, hR, h1⟩, fun hw => by rw [World.frozen?_setCell]; exact hf hw⟩
      · rw [List.getElem?_set_ne hij] at hj
        obtain ⟨⟨u, hu, hu2⟩, hf⟩ := e4 j _ hj
        refine ⟨⟨u, ?_, hu2⟩, fun hw => by rw [World.frozen?_setCell]; exact hf hw⟩
        rw [World.cell?_setCell_other _ _ _ _ (by intro e; injection e; omega)]
        exact hu
    · rw [List.getElem?_set_ne hkk] at hk'
      refine ⟨?_, ?_⟩
      rotate_left
      · cases hro : o'.row with
        | none => simpa using (h.blk k' o' hk').2.keepN (μ := []) hro hmap
        | some pr =>
          obtain ⟨wr2, l2⟩ := pr
          have := (h.blk k' o' hk').2.keep (μ := []) (w' := w.setCell ⟨b, o + i, none⟩ v) (hm := hmap) fun g hg _ => by
            have hbb : b ≠ g := h.apart k k' so o' l wr2 l2 b o g 0 hk hrow hk' hro hkk he hg
            simp [World.setCell, Array.getElem?_modify, hbb]
          simpa using this
      intro wr' l' hr'
      obtain ⟨b2, o2, f1, f2, f3, f4⟩ := (h.blk k' o' hk').1 _ _ hr'
      have hbb : b ≠ b2 := h.apart k k' so o' l wr' l' b o b2 o2 hk hrow hk' hr' hkk he f1
      refine ⟨b2, o2, f1, by simpa using f2, f3, fun j s' hj => ?_⟩
      obtain ⟨⟨u, hu, hu2⟩, hf⟩ := f4 j s' hj
      refine ⟨⟨u, ?_, hu2⟩, fun hw => by rw [World.frozen?_setCell]; exact hf hw⟩
      rw [World.cell?_setCell_other _ _ _ _ (by intro e; injection e; omega)]
      exact hu
  · intro k₁ k₂ s₁ s₂ l₁ wr₂ l₂ b₁ o₁ b₂ o₂ hk1 r1 hk2 r2 hne f1 f2
    have back : ∀ {k' : Nat} {o' : SO} {wr : Bool} {l' : List SV}, (hp.set k so')[k']? = some o' → o'.row = some (wr, l') → ∃ o'' l'', hp[k']? = some o'' ∧ o''.row = some (wr, l'') := by
      intro k' o' wr l' hk' hr'
      by_cases hkk : k = k'
      · subst hkk
        rw [List.getElem?_set_self hkl] at hk'
        simp at hk'
        subst hk'
        rw [hrow'] at hr'
        simp only [Option.some.injEq, Prod.mk.injEq] at hr'
        obtain ⟨rfl, _⟩ := hr'
        exact ⟨so, l, hk, hrow⟩
      · rw [List.getElem?_set_ne hkk] at hk'
        exact ⟨o', l', hk', hr'⟩
    obtain ⟨o1', l1', g1, q1⟩ := back hk1 r1
    obtain ⟨o2', l2', g2, q2⟩ := back hk2 r2
    exact h.apart k₁ k₂ o1' o2' l1' wr₂ l2' b₁ o₁ b₂ o₂ g1 q1 g2 q2 hne f1 f2
theorem HR.set {B : Nat} {η : Env} {hp : List SO} {w : World} (h : HR B η hp w) {k : Nat} {l : List SV} (hk : hp[k]? = some (.cells true l)) {b o i : Nat}
    (he : η[k]? = some (.pointer (some ⟨b, o, none⟩))) (hi : i < l.length) {s : SV} {v : Value} (hR : R η s v) (h1 : v.oneCell' = true) :
    HR B η (hp.set k (.cells true (l.set i s))) (w.setCell ⟨b, o + i, none⟩ v) :=
  h.set' hk rfl he hi hR h1 rfl rfl
/-- More blocks, of which nothing is told. -/
theorem HR.pad {B : Nat} {η μ : Env} {hs : List SO} {w : World} (h : HR B η hs w) : HR B (η ++ μ) (hs ++ List.replicate μ.length .dead) w := by
  have old : ∀ (k : Nat) (o : SO) (wr : Bool) (l : List SV), (hs ++ List.replicate μ.length .dead)[k]? = some o → o.row = some (wr, l) → k < hs.length ∧ hs[k]? = some o := by
    intro k o wr l hk hr
    by_cases hlt : k < hs.length
    · rw [List.getElem?_append_left hlt] at hk; exact ⟨hlt, hk⟩
    · rw [List.getElem?_append_right (by omega)] at hk
      have := List.mem_of_getElem? hk
      simp at this
      obtain ⟨_, rfl⟩ := this
      simp [SO.row] at hr
  refine ⟨by simp [h.len], fun k o hk => ?_, ?_⟩
  · refine ⟨fun wr l hr => ?_, ?_⟩
    · exact (h.blk k _ (old k o wr l hk hr).2).ext.1 wr l hr
    · cases hro : o.row with
      | none =>
        by_cases hlt : k < hs.length
        · rw [List.getElem?_append_left hlt] at hk
          exact (h.blk k _ hk).ext.2
        · rw [List.getElem?_append_right (by omega)] at hk
          have := List.mem_of_getElem? hk
          simp at this
          obtain ⟨_, rfl⟩ := this
          trivial
      | some pr => exact (h.blk k _ (old k o pr.1 pr.2 hk hro).2).ext.2
  · intro k₁ k₂ s₁ s₂ l₁ wr₂ l₂ b₁ o₁ b₂ o₂ h1 r1 h2 r2 hne e1 e2
    obtain ⟨c1, d1⟩ := old k₁ _ _ _ h1 r1
    obtain ⟨c2, d2⟩ := old k₂ _ _ _ h2 r2
    rw [List.getElem?_append_left (by rw [h.len]; exact c1)] at e1
    rw [List.getElem?_append_left (by rw [h.len]; exact c2)] at e2
    exact h.apart k₁ k₂ s₁ s₂ l₁ wr₂ l₂ b₁ o₁ b₂ o₂ d1 r1 d2 r2 hne e1 e2

/-- A new block that came about somehow. -/
theorem HR.grow {B : Nat} {η : Env} {hp : List SO} {w w' : World} (h : HR B η hp w) (hB : B ≤ w.heap.size) (hb : Below w.heap.size w w') (hsz : w.heap.size < w'.heap.size) (l : List SV)
    (hnew : ∀ (i : Nat) (s : SV), l[i]? = some s → CellIs η w' ⟨w.heap.size, i, none⟩ true s) :
    HR B (η ++ [.pointer (some ⟨w.heap.size, 0, none⟩)]) (hp ++ [.cells true l]) w' := by
  refine h.grow' hB hb hsz _ rfl fun wr l' hrow => ?_
  simp only [SO.row, Option.some.injEq, Prod.mk.injEq] at hrow
  obtain ⟨rfl, rfl⟩ := hrow
  exact hnew
/-- What is told of a block, told otherwise. -/
theorem HR.turn {B : Nat} {η : Env} {hp : List SO} {w : World} (h : HR B η hp w) {k : Nat} {so so' : SO} (hk : hp[k]? = some so) (hrow : so'.row = so.row) (ho : OwnIs B η w k so') : HR B η (hp.set k so') w := by
  have hkl : k < hp.length := (List.getElem?_eq_some_iff.1 hk).1
  have back : ∀ {k' : Nat} {o' : SO}, (hp.set k so')[k']? = some o' → (k' = k ∧ o' = so') ∨ (k' ≠ k ∧ hp[k']? = some o') := by
    intro k' o' hk'
    by_cases hkk : k = k'
    · subst hkk
      rw [List.getElem?_set_self hkl] at hk'
      simp at hk'
      exact .inl ⟨rfl, hk'.symm⟩
    · rw [List.getElem?_set_ne hkk] at hk'
      exact .inr ⟨fun e => hkk e.symm, hk'⟩
  have row : ∀ {k' : Nat} {o' : SO} {wr : Bool} {l : List SV}, (hp.set k so')[k']? = some o' → o'.row = some (wr, l) → ∃ o'', hp[k']? = some o'' ∧ o''.row = some (wr, l) := by
    intro k' o' wr l hk' hr
    rcases back hk' with ⟨rfl, rfl⟩ | ⟨_, h'⟩
    · exact ⟨so, hk, by rw [← hrow]; exact hr⟩
    · exact ⟨o', h', hr⟩
  refine ⟨by simp [h.len], fun k' o' hk' => ?_, ?_⟩
  · refine ⟨fun wr l hr => ?_, ?_⟩
    · obtain ⟨o'', h1, h2⟩ := row hk' hr
      exact (h.blk k' o'' h1).1 wr l h2
    · rcases back hk' with ⟨rfl, rfl⟩ | ⟨_, h'⟩
      · exact ho
      · exact (h.blk k' o' h').2
  · intro k₁ k₂ s₁ s₂ l₁ wr₂ l₂ b₁ o₁ b₂ o₂ h1 r1 h2 r2 hne e1 e2
    obtain ⟨q1, g1, t1⟩ := row h1 r1
    obtain ⟨q2, g2, t2⟩ := row h2 r2
    exact h.apart k₁ k₂ q1 q2 l₁ wr₂ l₂ b₁ o₁ b₂ o₂ g1 t1 g2 t2 hne e1 e2
/-- A block of which nothing is told any more. -/
theorem HR.drop {B : Nat} {η : Env} {hp : List SO} {w : World} (h : HR B η hp w) (k : Nat) : HR B η (hp.set k .dead) w := by
  have back : ∀ {k' : Nat} {o' : SO} {wr : Bool} {l : List SV}, (hp.set k .dead)[k']? = some o' → o'.row = some (wr, l) → hp[k']? = some o' ∧ k' ≠ k := by
    intro k' o' wr l hk' hr
    by_cases hkk : k = k'
    · subst hkk
      rw [List.getElem?_set] at hk'
      simp only [if_true] at hk'
      split at hk'
      · simp at hk'; subst hk'; simp [SO.row] at hr
      · simp at hk'
    · rw [List.getElem?_set_ne hkk] at hk'
      exact ⟨hk', fun e => hkk e.symm⟩
  refine ⟨by simp [h.len], fun k' o' hk' => ⟨fun wr l hr => (h.blk k' o' (back hk' hr).1).1 wr l hr, ?_⟩, ?_⟩
  · cases hro : o'.row with
    | none =>
      by_cases hkk : k = k'
      · subst hkk
        rw [List.getElem?_set] at hk'
        simp only [if_true] at hk'
        split at hk'
        · simp at hk'; subst hk'; trivial
        · simp at hk'
      · rw [List.getElem?_set_ne hkk] at hk'
        exact (h.blk k' o' hk').2
    | some pr => exact (h.blk k' o' (back (wr := pr.1) (l := pr.2) hk' hro).1).2
  · intro k₁ k₂ s₁ s₂ l₁ wr₂ l₂ b₁ o₁ b₂ o₂ h1 r1 h2 r2 hne e1 e2
    exact h.apart k₁ k₂ s₁ s₂ l₁ wr₂ l₂ b₁ o₁ b₂ o₂ (back h1 r1).1 r1 (back h2 r2).1 r2 hne e1 e2
end Go.Ex
namespace Go.Ex
open Go.RowKit (Below)

mutual
theorem R.fun {η : Env} : ∀ {s : SV} {v u : Value}, R η s v → R η s u → v = u
  | .val _, _, _, h, k => by simp only [R] at h k; rw [h, k]
  | .num _ _, _, _, h, k => by simp only [R] at h k; rw [h, k]
  | .bol _, _, _, h, k => by simp only [R] at h k; rw [h, k]
  | .bts _ _, _, _, h, k => by simp only [R] at h k; rw [h, k]
  | .ptr k off, v, u, h, h' => by
    simp only [R] at h h'
    obtain ⟨b, o, h1, h2⟩ := h
    obtain ⟨b', o', h1', h2'⟩ := h'
    rw [h1] at h1'; simp at h1'; obtain ⟨rfl, rfl⟩ := h1'; rw [h2, h2']
  | .slc k off len cap, v, u, h, h' => by
    simp only [R] at h h'
    obtain ⟨b, o, h1, h2⟩ := h
    obtain ⟨b', o', h1', h2'⟩ := h'
    rw [h1] at h1'; simp at h1'; obtain ⟨rfl, rfl⟩ := h1'; rw [h2, h2']
  | .sle k off len kc, v, u, h, h' => by
    simp only [R] at h h'
    obtain ⟨b, o, c, h1, h2, h3, h4⟩ := h
    obtain ⟨b', o', c', h1', h2', h3', h4'⟩ := h'
    rw [h1] at h1'; simp at h1'; obtain ⟨rfl, rfl⟩ := h1'
    rw [h2] at h2'; simp at h2'; subst h2'; rw [h4, h4']
  | .pto k i, v, u, h, h' => by
    simp only [R] at h h'
    obtain ⟨b, o, h1, h2⟩ := h
    obtain ⟨b', o', h1', h2'⟩ := h'
    rw [h1] at h1'; simp at h1'; obtain ⟨rfl, rfl⟩ := h1'; rw [h2, h2']
  | .slo k n kc, v, u, h, h' => by
    simp only [R] at h h'
    obtain ⟨b, o, c, h1, h2, h3, h4⟩ := h
    obtain ⟨b', o', c', h1', h2', h3', h4'⟩ := h'
    rw [h1] at h1'; simp at h1'; obtain ⟨rfl, rfl⟩ := h1'
    rw [h2] at h2'; simp at h2'; subst h2'; rw [h4, h4']
  | .fnc g fs cs, v, u, h, h' => by
    simp only [R] at h h'
    obtain ⟨a, b, h1, h2, h3⟩ := h
    obtain ⟨a', b', h1', h2', h3'⟩ := h'
    rw [h1, h1', Array.toList_inj.1 (Rs.fun h2 h2'), Array.toList_inj.1 (Rs.fun h3 h3')]
  | .agg l, v, u, h, h' => by
    simp only [R] at h h'
    obtain ⟨a, h1, h2⟩ := h
    obtain ⟨a', h1', h2'⟩ := h'
    rw [h1, h1', Array.toList_inj.1 (Rs.fun h2 h2')]
  | .tup l, v, u, h, h' => by
    simp only [R] at h h'
    obtain ⟨a, h1, h2⟩ := h
    obtain ⟨a', h1', h2'⟩ := h'
    rw [h1, h1', Array.toList_inj.1 (Rs.fun h2 h2')]
  | .ifc ty x, v, u, h, h' => by
    simp only [R] at h h'
    obtain ⟨a, h1, h2⟩ := h
    obtain ⟨a', h1', h2'⟩ := h'
    rw [h1, h1', R.fun h2 h2']
  | .hdl k, v, u, h, h' => by
    simp only [R] at h h'
    rw [h] at h'; exact Option.some.inj h'
theorem Rs.fun {η : Env} : ∀ {l : List SV} {vs us : List Value}, Rs η l vs → Rs η l us → vs = us
  | [], _, _, h, k => by simp only [Rs] at h k; rw [h, k]
  | s :: l, vs, us, h, k => by
    simp only [Rs] at h k
    obtain ⟨x, r, h1, h2, h3⟩ := h
    obtain ⟨x', r', h1', h2', h3'⟩ := k
    rw [h1, h1', R.fun h2 h2', Rs.fun h3 h3']
end

/-- Surely one cell. -/
def SV.one : SV → Bool
  | .val x => x.oneCell'
  | .agg _ | .tup _ | .hdl _ => false
  | _ => true
theorem SV.one_R {η : Env} {s : SV} {v : Value} (h : s.one = true) (hR : R η s v) : v.oneCell' = true := by
  cases s <;> simp [SV.one] at h <;> simp only [R] at hR
  case val x => rw [hR]; exact h
  case num => rw [hR]; rfl
  case bol => rw [hR]; rfl
  case bts => rw [hR]; rfl
  case ptr => obtain ⟨_, _, _, rfl⟩ := hR; rfl
  case slc => obtain ⟨_, _, _, rfl⟩ := hR; rfl
  case sle => obtain ⟨_, _, _, _, _, _, rfl⟩ := hR; rfl
  case pto => obtain ⟨_, _, _, rfl⟩ := hR; rfl
  case slo => obtain ⟨_, _, _, _, _, _, rfl⟩ := hR; rfl
  case fnc => obtain ⟨_, _, rfl, _⟩ := hR; rfl
  case ifc => obtain ⟨_, rfl, _⟩ := hR; rfl

/-- The cells of a value, each one cell. -/
def SV.cells : SV → Option (List SV)
  | .agg l => if l.all SV.one then some l else none
  | s => if s.one then some [s] else none
theorem SV.cells_R {η : Env} {s : SV} {l : List SV} {v : Value} (h : s.cells = some l) (hR : R η s v) :
    Rs η l v.cells.toList ∧ ∀ x ∈ v.cells.toList, x.oneCell' = true := by
  have gen : ∀ {s : SV} {v : Value}, s.one = true → R η s v → Rs η [s] v.cells.toList ∧ ∀ x ∈ v.cells.toList, x.oneCell' = true := by
    intro s v h1 hR
    have h2 := SV.one_R h1 hR
    have hv : v.cells = #[v] := by cases v <;> first | rfl | simp [Value.oneCell'] at h2
    rw [hv]
    exact ⟨Rs.cons hR Rs.nil, by simp [h2]⟩
  cases s
  case agg m =>
    simp only [SV.cells] at h
    split at h
    · rename_i ha
      simp at h; subst h
      simp only [R] at hR
      obtain ⟨vs, rfl, hvs⟩ := hR
      refine ⟨hvs, fun x hx => ?_⟩
      change x ∈ vs.toList at hx
      obtain ⟨i, hi⟩ := List.mem_iff_getElem?.1 hx
      have hl := hvs.length
      have hi' : i < m.length := by
        have := (List.getElem?_eq_some_iff.1 hi).1
        omega
      obtain ⟨v, hv, hRv⟩ := hvs.get (List.getElem?_eq_getElem hi')
      have hxv : x = v := by
        have : some x = some v := hi.symm.trans hv
        exact Option.some.inj this
      subst hxv
      exact SV.one_R (by
        have := List.all_eq_true.1 ha m[i] (List.getElem_mem hi')
        exact this) hRv
    · simp at h
  all_goals
    simp only [SV.cells] at h
    split at h
    · simp at h; subst h; exact gen ‹_› hR
    · simp at h

/-! ## What is left open -/
inductive Cnd where
  | tt
  | pr (p : Prop)
  | eq (a b : SV)
  | both (c d : Cnd)
def Cnd.Is : Cnd → Prop
  | .tt => True
  | .pr p => p
  | .eq a b => a = b
  | .both c d => c.Is ∧ d.Is
instance : CoeSort Cnd Prop := ⟨Cnd.Is⟩
def Cnd.force {α : Type} (c : Cnd) (k : Cnd → α) : α :=
  match c with
  | .tt => k .tt
  | .pr p => k (.pr p)
  | .eq a b => k (.eq a b)
  | .both c d => k (.both c d)
theorem Cnd.force_eq {α : Type} (c : Cnd) (k : Cnd → α) : c.force k = k c := by cases c <;> rfl
def Cnd.join : Cnd → Cnd → Cnd
  | .tt, d => d
  | c, .tt => c
  | c, d => .both c d
def Cnd.and (c d : Cnd) : Cnd := c.force fun c => d.force fun d => Cnd.join c d
theorem Cnd.and_eq (c d : Cnd) : c.and d = Cnd.join c d := by simp only [Cnd.and, Cnd.force_eq]
theorem Cnd.Is.both {c d : Cnd} (h : (c.and d).Is) : c.Is ∧ d.Is := by
  rw [Cnd.and_eq] at h
  cases c <;> cases d <;> first | exact ⟨trivial, h⟩ | exact ⟨h, trivial⟩ | exact h
/-- What is left to show of it, but for sameness. -/
def Cnd.props : Cnd → List Prop → List Prop
  | .tt, r => r
  | .pr p, r => p :: r
  | .eq _ _, r => r
  | .both c d, r => c.props (d.props r)
def Cnd.lefts : Cnd → List SV → List SV
  | .tt, r => r
  | .pr _, r => r
  | .eq a _, r => a :: r
  | .both c d, r => c.lefts (d.lefts r)
def Cnd.rights : Cnd → List SV → List SV
  | .tt, r => r
  | .pr _, r => r
  | .eq _ b, r => b :: r
  | .both c d, r => c.rights (d.rights r)
def AllP : List Prop → Prop
  | [] => True
  | p :: l => p ∧ AllP l
theorem Cnd.len : ∀ (c : Cnd) (a b : List SV), a.length = b.length → (c.lefts a).length = (c.rights b).length
  | .tt, _, _, h => h
  | .pr _, _, _, h => h
  | .eq _ _, _, _, h => by simp [Cnd.lefts, Cnd.rights, h]
  | .both c d, a, b, h => Cnd.len c _ _ (Cnd.len d _ _ h)
theorem Cnd.is_of : ∀ (c : Cnd) (r : List Prop) (a b : List SV), AllP (c.props r) → c.lefts a = c.rights b → a.length = b.length → c.Is ∧ AllP r ∧ a = b
  | .tt, _, _, _, hp, he, _ => ⟨trivial, hp, he⟩
  | .pr _, _, _, _, hp, he, _ => ⟨hp.1, hp.2, he⟩
  | .eq x y, _, a, b, hp, he, _ => by
    simp only [Cnd.lefts, Cnd.rights, List.cons.injEq] at he
    exact ⟨he.1, hp, he.2⟩
  | .both c d, r, a, b, hp, he, hl => by
    obtain ⟨h1, h2, h3⟩ := Cnd.is_of c _ _ _ hp he (Cnd.len d a b hl)
    obtain ⟨g1, g2, g3⟩ := Cnd.is_of d _ _ _ h2 h3 hl
    exact ⟨⟨h1, g1⟩, g2, g3⟩
theorem Cnd.Is.l {c d : Cnd} (h : (c.and d).Is) : c.Is := h.both.1
theorem Cnd.Is.r {c d : Cnd} (h : (c.and d).Is) : d.Is := h.both.2
theorem Cnd.Is.three {c d e : Cnd} (h : (c.and (d.and e)).Is) : c.Is ∧ d.Is ∧ e.Is := ⟨h.l, h.r.l, h.r.r⟩
theorem Cnd.Is.four {c d e f : Cnd} (h : (c.and (d.and (e.and f))).Is) : c.Is ∧ d.Is ∧ e.Is ∧ f.Is := ⟨h.l, h.r.l, h.r.r.l, h.r.r.r⟩

/-! ## What an operation comes to -/
inductive OR where
  | pure (s : SV) (c : Cnd)
  | mem (s : SV) (hp : List SO) (c : Cnd)
  | call (f : FuncId) (args : List SV)
  | bad

/-- What is owed of an operation that runs as 'r'. -/
def OrOk (η : Env) (hp : List SO) (r : World → Result Value) : OR → Prop
  | .pure s c => c → ∀ B w, HR B η hp w → ∃ v, R η s v ∧ r w = .ok v w
  | .mem s hp' c => c → ∀ B w, HR B η hp w → B ≤ w.heap.size → ∃ v w' μ, r w = .ok v w' ∧ R (η ++ μ) s v ∧ HR B (η ++ μ) hp' w' ∧ Below B w w'
  | .call .. => False
  | .bad => True

theorem OrOk.value {η : Env} {hp : List SO} {r : World → Result Value} {s : SV} {v : Value} (hR : R η s v) (h : ∀ w, r w = .ok v w) : OrOk η hp r (.pure s .tt) :=
  fun _ _ w _ => ⟨v, hR, h w⟩

theorem add_at (b o i : Nat) : (⟨b, o, none⟩ : Addr).add i = ⟨b, o + i, none⟩ := by unfold Addr.add; split <;> simp_all

def tsize (P : Program) (t : TypeId) : Option Nat := (P.info? t).map (·.size)
def tagg (P : Program) (t : TypeId) : Option Bool :=
  match P.underlying t with
  | some (.struct _) | some (.array _ _) => some true
  | some _ => some false
  | none => none
theorem run_isAgg' {P : Program} {t : TypeId} {b : Bool} (h : tagg P t = some b) (w : World) : (isAgg t).run P w = .ok b w := by
  unfold tagg at h
  cases hu : P.underlying t with
  | none => simp [hu] at h
  | some d => cases d <;> simp [hu] at h <;> subst h <;> simp [isAgg, run_underlying hu]
theorem run_sizeOf' {P : Program} {t : TypeId} {n : Nat} (h : tsize P t = some n) (w : World) : (sizeOf t).run P w = .ok n w := by
  unfold tsize at h
  cases hi : P.info? t with
  | none => simp [hi] at h
  | some i => simp [hi] at h; simp [sizeOf, typeInfo, hi, h]

/-! ### load -/
/-- A package-level variable, by its number. -/
def findGlob (g : Nat) : List SO → Option (List SV)
  | [] => none
  | .glob g' l :: r => if g' = g then some l else findGlob g r
  | _ :: r => findGlob g r
theorem findGlob_ok {g : Nat} {l : List SV} : ∀ {hp : List SO}, findGlob g hp = some l → ∃ k : Nat, hp[k]? = some (SO.glob g l)
  | [], h => by simp [findGlob] at h
  | o :: r, h => by
    have next : findGlob g r = some l → ∃ k : Nat, (o :: r)[k]? = some (SO.glob g l) := fun h => by
      obtain ⟨k, hk⟩ := findGlob_ok h
      exact ⟨k + 1, by simpa using hk⟩
    cases o with
    | glob g' l' =>
      simp only [findGlob] at h
      split at h
      · rename_i e; subst e
        simp only [Option.some.injEq] at h; subst h
        exact ⟨0, rfl⟩
      · exact next h
    | _ => exact next (by simpa only [findGlob] using h)
/-! ### cells of a frozen row of untold length, by their types -/
inductive CK where
  | int (k : IntKind)
  | bool
  | str
def intOf : Value → Int
  | .int _ z => z
  | _ => 0
def boolOf : Value → Bool
  | .bool b => b
  | _ => false
def strOf : Value → ByteArray
  | .string s => s
  | _ => ⟨#[]⟩
def CK.sv : CK → Value → SV
  | .int k, v => .val (.int k (intOf v))
  | .bool, v => .val (.bool (boolOf v))
  | .str, v => .val (.string (strOf v))
def CK.fits : CK → Value → Prop
  | .int k, v => v = .int k (intOf v)
  | .bool, v => v = .bool (boolOf v)
  | .str, v => v = .string (strOf v)
theorem CK.fits_R {η : Env} {c : CK} {v : Value} (h : c.fits v) : R η (c.sv v) v := by
  cases c <;> simp only [CK.fits] at h <;> simp only [CK.sv, R] <;> exact h
def ckOf (P : Program) (t : TypeId) : Option CK :=
  match P.underlying t with
  | some (.int k) => some (.int k)
  | some .bool => some .bool
  | some .string => some .str
  | _ => none
def cellAt (L : List Value) (j : Nat) : Value := L.getD j undef
def cksFrom (L : List Value) (j : Nat) : List CK → List SV
  | [] => []
  | c :: r => c.sv (cellAt L j) :: cksFrom L (j + 1) r
def fitsFrom (L : List Value) (j : Nat) : List CK → Prop
  | [] => True
  | c :: r => c.fits (cellAt L j) ∧ fitsFrom L (j + 1) r
def loadP (L : List Value) (j : Nat) (cs : List CK) : Prop := j + cs.length ≤ L.length ∧ fitsFrom L j cs
def mapCk (P : Program) : List TypeId → Option (List CK)
  | [] => some []
  | t :: r => match ckOf P t, mapCk P r with
    | some c, some l => some (c :: l)
    | _, _ => none
def opLoadF (P : Program) (L : List Value) (ty : TypeId) (j : Nat) : OR :=
  match tagg P ty with
  | some false => match ckOf P ty with
    | some c => .pure (c.sv (cellAt L j)) (.pr (loadP L j [c]))
    | none => .bad
  | some true => match (P.cellTypes P.depth ty).bind (mapCk P), tsize P ty with
    | some cs, some n => if cs.length = n then .pure (.agg (cksFrom L j cs)) (.pr (loadP L j cs)) else .bad
    | _, _ => .bad
  | none => .bad
def opLoad (P : Program) (hp : List SO) (ty : TypeId) : SV → OR
  | .val (.pointer (some ⟨g, o, none⟩)) =>
    match findGlob g hp, tagg P ty with
    | some l, some false => match l[o]? with
      | some s => .pure s .tt
      | none => .bad
    | _, _ => .bad
  | .ptr k off =>
    match (hp[k]?).bind SO.told with
    | some l =>
      match tagg P ty with
      | some false => match l[off]? with
        | some s => .pure s .tt
        | none => .bad
      | some true => match tsize P ty with
        | some n => if off + n ≤ l.length then .pure (.agg ((l.drop off).take n)) .tt else .bad
        | none => .bad
      | none => .bad
    | _ => match hp[k]? with
      | some (.fns L) => opLoadF P L ty off
      | _ => .bad
  | .pto k i =>
    match hp[k]?, tagg P ty with
    | some (.txt t), some false => .pure (.val (.int .u8 (byteAt t i))) (.pr (i.toNat < t.size))
    | some (.otx _ _ t), some false => .pure (.val (.int .u8 (byteAt t i))) (.pr (i.toNat < t.size))
    | some (.fns L), _ => opLoadF P L ty i.toNat
    | some (.ows _ _ _ _ L), _ => opLoadF P L ty i.toNat
    | _, _ => .bad
  | _ => .bad

theorem cells_row {η : Env} {w : World} {b : Nat} {wr : Bool} : ∀ (l : List SV) (o : Nat), (∀ (i : Nat) (s : SV), l[i]? = some s → CellIs η w ⟨b, o + i, none⟩ wr s) →
    ∃ vs, Rs η l vs ∧ ∀ (i : Nat) (v : Value), vs[i]? = some v → w.cell? ⟨b, o + i, none⟩ = some v ∧ v.oneCell' = true
  | [], _, _ => ⟨[], Rs.nil, by simp⟩
  | s :: l, o, e4 => by
    obtain ⟨⟨v, h1, h2, h3⟩, _⟩ := e4 0 s (by simp)
    obtain ⟨vs, hvs, hc⟩ := cells_row l (o + 1) (fun i s' hi => by
      have := e4 (i + 1) s' (by simpa using hi)
      rwa [show o + 1 + i = o + (i + 1) by omega])
    refine ⟨v :: vs, Rs.cons h2 hvs, fun i u hi => ?_⟩
    cases i with
    | zero => simp at hi; subst hi; exact ⟨h1, h3⟩
    | succ i =>
      have := hc i u (by simpa using hi)
      rwa [show o + 1 + i = o + (i + 1) by omega] at this

/-- The cells behind a pointer. -/
theorem BR.row {B : Nat} {η : Env} {w : World} {k : Nat} {so : SO} {l : List SV} {b o : Nat} (h : BR B η w k so) (ht : so.told = some l)
    (he : η[k]? = some (.pointer (some ⟨b, o, none⟩))) : ∃ vs, Rs η l vs ∧ ∀ i v, vs[i]? = some v → w.cell? ⟨b, o + i, none⟩ = some v ∧ v.oneCell' = true := by
  obtain ⟨wr, hrow⟩ := SO.told_row ht
  obtain ⟨b', o', e1, e2, e3, e4⟩ := h.1 wr l hrow
  rw [he] at e1; simp at e1; obtain ⟨rfl, rfl⟩ := e1
  exact cells_row l o e4

theorem cksFrom_ok {η : Env} (L : List Value) : ∀ (cs : List CK) (j : Nat), fitsFrom L j cs → ∃ vs, Rs η (cksFrom L j cs) vs ∧ vs.length = cs.length ∧ ∀ (i : Nat) (v : Value), vs[i]? = some v → v = cellAt L (j + i)
  | [], j, _ => ⟨[], Rs.nil, rfl, by simp⟩
  | c :: r, j, h => by
    obtain ⟨vs, h1, h2, h3⟩ := cksFrom_ok L r (j + 1) h.2
    refine ⟨cellAt L j :: vs, Rs.cons (CK.fits_R h.1) h1, by simp [h2], fun i v hi => ?_⟩
    cases i with
    | zero => simp at hi; exact hi.symm
    | succ i =>
      have := h3 i v (by simpa using hi)
      rw [this]; congr 1; omega
theorem opLoadF_ok {P : Program} {η : Env} {hp : List SO} {ty : TypeId} {L : List Value} {k b o j : Nat} {so : SO} {wr : Bool} (hk : hp[k]? = some so) (hro : so.row = some (wr, L.map .val)) (he : η[k]? = some (.pointer (some ⟨b, o, none⟩))) :
    OrOk η hp (fun w => (Instr.loadAt ty (.pointer (some ⟨b, o + j, none⟩))).run P w) (opLoadF P L ty j) := by
  have cell : ∀ {B : Nat} {w : World}, HR B η hp w → ∀ i, i < L.length → w.cell? ⟨b, o + i, none⟩ = some (cellAt L i) := fun {B w} hr i hi => by
    obtain ⟨b', o', e1, e2, e3, e4⟩ := (hr.blk k _ hk).1 _ _ hro
    rw [he] at e1; simp at e1; obtain ⟨rfl, rfl⟩ := e1
    have hm : (L.map SV.val)[i]? = some (.val (cellAt L i)) := by
      rw [List.getElem?_map, List.getElem?_eq_getElem hi, cellAt, List.getD_eq_getElem?_getD, List.getElem?_eq_getElem hi]; rfl
    obtain ⟨⟨v, hv, hR, _⟩, _⟩ := e4 i _ hm
    simp only [R] at hR
    subst hR
    exact hv
  unfold opLoadF
  split
  · rename_i hag
    split
    · rename_i c hc
      intro (hl : loadP L j [c]) B w hr
      obtain ⟨h1, h2, _⟩ := hl
      simp only [List.length_cons, List.length_nil] at h1
      refine ⟨cellAt L j, CK.fits_R h2, ?_⟩
      simp [Instr.loadAt, Instr.sureAddr, loadVar, run_isAgg' hag, cell hr j (by omega)]
    · trivial
  · rename_i hag
    split
    · rename_i cs n hcs hn
      split
      · rename_i hlen
        intro (hl : loadP L j cs) B w hr
        obtain ⟨h1, h2⟩ := hl
        obtain ⟨vs, g1, g2, g3⟩ := cksFrom_ok (η := η) L cs j h2
        refine ⟨.agg vs.toArray, ⟨_, rfl, g1⟩, ?_⟩
        have := run_loadCells_list (P := P) w ⟨b, o + j, none⟩ vs (fun i v hi => by
          have hi' := (List.getElem?_eq_some_iff.1 hi).1
          rw [add_at, Nat.add_assoc, cell hr (j + i) (by omega), g3 i v hi])
        rw [g2, hlen] at this
        simp [Instr.loadAt, Instr.sureAddr, loadVar, run_isAgg' hag, run_sizeOf' hn, this]
      · trivial
    · trivial
  · trivial
theorem opLoad_ok {P : Program} {η : Env} {hp : List SO} {ty : TypeId} {x : SV} {vx : Value} (hx : R η x vx) :
    OrOk η hp (fun w => (Instr.loadAt ty vx).run P w) (opLoad P hp ty x) := by
  cases x with
  | val y =>
    simp only [R] at hx
    subst hx
    unfold opLoad
    split
    · rename_i g o he
      injection he with he
      subst he
      split
      · rename_i l hg ht
        obtain ⟨k, hk⟩ := findGlob_ok hg
        split
        · rename_i s hs
          intro _ B w hr
          obtain ⟨hrow, hown⟩ := hr.blk k _ hk
          obtain ⟨b, p, e1, _, _, e4⟩ := hrow false l rfl
          have hown : η[k]? = some (.pointer (some ⟨g, 0, none⟩)) := hown
          rw [e1] at hown
          simp at hown
          obtain ⟨rfl, rfl⟩ := hown
          obtain ⟨⟨v, hv, hR, _⟩, _⟩ := e4 o s hs
          rw [Nat.zero_add] at hv
          exact ⟨v, hR, by simp [Instr.loadAt, Instr.sureAddr, loadVar, run_isAgg' ht, hv]⟩
        · trivial
      · trivial
    all_goals first | trivial | (rename_i h; cases h)
  | ptr k off =>
    simp only [R] at hx
    obtain ⟨b, o, he, rfl⟩ := hx
    simp only [opLoad]
    split
    · rename_i l hkb
      obtain ⟨so, hk, hto⟩ := Option.bind_eq_some_iff.1 hkb
      split
      · rename_i hag
        split
        · rename_i s hs
          intro _ B w hr
          obtain ⟨vs, hvs, hc⟩ := (hr.blk k _ hk).row hto he
          obtain ⟨v, hv, hR⟩ := hvs.get hs
          refine ⟨v, hR, ?_⟩
          simp [Instr.loadAt, Instr.sureAddr, loadVar, run_isAgg' hag, (hc off v hv).1]
        · trivial
      · rename_i hag
        split
        · rename_i n hn
          split
          · rename_i hle
            intro _ B w hr
            obtain ⟨vs, hvs, hc⟩ := (hr.blk k _ hk).row hto he
            refine ⟨.agg ((vs.drop off).take n).toArray, ⟨_, rfl, by simpa using (hvs.drop off).take n⟩, ?_⟩
            have hl := hvs.length
            have hlen : ((vs.drop off).take n).length = n := by simp; omega
            have := run_loadCells_list (P := P) w ⟨b, o + off, none⟩ ((vs.drop off).take n) (fun j v hj => by
              have h1 : j < n := by
                have := (List.getElem?_eq_some_iff.1 hj).1
                omega
              rw [List.getElem?_take_of_lt h1, List.getElem?_drop] at hj
              rw [add_at, Nat.add_assoc]
              exact (hc _ v hj).1)
            rw [hlen] at this
            simp [Instr.loadAt, Instr.sureAddr, loadVar, run_isAgg' hag, run_sizeOf' hn, this]
          · trivial
        · trivial
      · trivial
    · split
      · rename_i L hk
        exact opLoadF_ok hk rfl he
      · trivial
  | pto k i =>
    simp only [R] at hx
    obtain ⟨b, o, he, rfl⟩ := hx
    simp only [opLoad]
    split
    · rename_i t hk hag
      intro (hc : i.toNat < t.size) B w hr
      obtain ⟨b', o', e1, e2, e3, e4⟩ := (hr.blk k _ hk).1 _ _ rfl
      rw [he] at e1; simp at e1; obtain ⟨rfl, rfl⟩ := e1
      obtain ⟨⟨v, hv, hR, _⟩, _⟩ := e4 i.toNat _ (textCells_get t i hc)
      refine ⟨v, hR, ?_⟩
      simp [Instr.loadAt, Instr.sureAddr, loadVar, run_isAgg' hag, hv]
    · rename_i e0 k0 t hk hag
      intro (hc : i.toNat < t.size) B w hr
      obtain ⟨b', o', e1, e2, e3, e4⟩ := (hr.blk k _ hk).1 _ _ rfl
      rw [he] at e1; simp at e1; obtain ⟨rfl, rfl⟩ := e1
      obtain ⟨⟨v, hv, hR, _⟩, _⟩ := e4 i.toNat _ (textCells_get t i hc)
      refine ⟨v, hR, ?_⟩
      simp [Instr.loadAt, Instr.sureAddr, loadVar, run_isAgg' hag, hv]
    · rename_i L hk
      exact opLoadF_ok hk rfl he
    · rename_i e0 k0 L hk
      exact opLoadF_ok hk rfl he
    · trivial
  | _ => exact trivial

/-! ### store -/
/-- Cells from a place on. -/
def setAll (l : List SV) (i : Nat) : List SV → List SV
  | [] => l
  | s :: r => setAll (l.set i s) (i + 1) r
theorem setAll_length (l : List SV) (i : Nat) (r : List SV) : (setAll l i r).length = l.length := by
  induction r generalizing l i with
  | nil => rfl
  | cons s r ih => simp [setAll, ih]

theorem storeCells_okS {P : Program} {B : Nat} {η : Env} {k : Nat} {b o : Nat} (he : η[k]? = some (.pointer (some ⟨b, o, none⟩))) :
    ∀ (r : List SV) (us : List Value) (hp : List SO) (l : List SV) (off i : Nat) (w : World), HR B η hp w → hp[k]? = some (.cells true l) → Rs η r us →
      (∀ u ∈ us, u.oneCell' = true) → off + i + r.length ≤ l.length →
      ∃ w', (storeCells ⟨b, o + off, none⟩ us i).run P w = .ok () w' ∧ HR B η (hp.set k (.cells true (setAll l (off + i) r))) w' ∧ Below B w w' ∧
      (∀ (g : Nat) (cur : Array Value) (e : TypeId) (fz : Nat × Nat), w.heap[g]? = some (.cells cur e fz) → ∃ cur', w'.heap[g]? = some (.cells cur' e fz) ∧ cur'.size = cur.size)
  | [], us, hp, l, off, i, w, hr, hk, hus, _, _ => by
    simp only [Rs] at hus; subst hus
    refine ⟨w, by simp [storeCells], ?_, Below.refl _ _, fun g cur e fz h => ⟨cur, h, rfl⟩⟩
    have hset : hp.set k (.cells true l) = hp := by
      apply List.ext_getElem?
      intro j
      by_cases hj : k = j
      · subst hj; rw [List.getElem?_set_self (List.getElem?_eq_some_iff.1 hk).1, hk]
      · rw [List.getElem?_set_ne hj]
    simpa [setAll, hset] using hr
  | s :: r, us, hp, l, off, i, w, hr, hk, hus, h1, hle => by
    obtain ⟨u, us', rfl, hu, hus'⟩ := hus.cons_inv
    simp only [List.length_cons] at hle
    have hi : off + i < l.length := by omega
    have hu1 : u.oneCell' = true := h1 u (by simp)
    obtain ⟨b', o', e1, e2, e3, e4⟩ := (hr.blk k _ hk).1 _ _ rfl
    rw [he] at e1; simp at e1; obtain ⟨rfl, rfl⟩ := e1
    obtain ⟨⟨v, hv, _⟩, hf⟩ := e4 (off + i) _ (List.getElem?_eq_getElem hi)
    have hkl : k < hp.length := (List.getElem?_eq_some_iff.1 hk).1
    have hr' := hr.set hk he hi hu hu1
    obtain ⟨w', hw', hr'', hb'', hsh⟩ := storeCells_okS (P := P) he r us' (hp.set k (.cells true (l.set (off + i) s))) (l.set (off + i) s) off (i + 1)
      (w.setCell ⟨b, o + (off + i), none⟩ u) hr' (by rw [List.getElem?_set_self hkl]) hus' (fun x hx => h1 x (by simp [hx])) (by simp; omega)
    refine ⟨w', ?_, ?_, ?_, fun g cur e fz h => ?_⟩
    · simp only [storeCells, Sem.run_bind, add_at]
      rw [show o + off + i = o + (off + i) by omega, run_store _ _ _ _ _ hu1, hv]
      simp only [hf rfl, Bool.false_eq_true, if_false, Result.andThen_ok]
      exact hw'
    · rw [List.set_set] at hr''
      simpa [setAll, Nat.add_assoc] using hr''
    · exact ((Below.refl _ _).setCell (p := ⟨b, o + (off + i), none⟩) (e3 rfl) u).trans hb''
    · have h1 : ∃ cur1, (w.setCell ⟨b, o + (off + i), none⟩ u).heap[g]? = some (.cells cur1 e fz) ∧ cur1.size = cur.size := by
        by_cases hg : g = b
        · subst hg
          refine ⟨cur.setIfInBounds (o + (off + i)) u, ?_, by simp⟩
          simp only [World.setCell, Array.getElem?_modify, h, if_true]
          simp
        · exact ⟨cur, by rw [Go.RowKit.Below.heap_setCell _ _ _ _ hg]; exact h, rfl⟩
      obtain ⟨cur1, h2, h3⟩ := h1
      obtain ⟨cur', h4, h5⟩ := hsh g cur1 e fz h2
      exact ⟨cur', h4, h5.trans h3⟩

theorem storeCells_ok {P : Program} {B : Nat} {η : Env} {k : Nat} {b o : Nat} (he : η[k]? = some (.pointer (some ⟨b, o, none⟩)))
    (r : List SV) (us : List Value) (hp : List SO) (l : List SV) (off i : Nat) (w : World) (hr : HR B η hp w) (hk : hp[k]? = some (.cells true l)) (hus : Rs η r us)
      (h1 : ∀ u ∈ us, u.oneCell' = true) (hle : off + i + r.length ≤ l.length) :
      ∃ w', (storeCells ⟨b, o + off, none⟩ us i).run P w = .ok () w' ∧ HR B η (hp.set k (.cells true (setAll l (off + i) r))) w' ∧ Below B w w' := by
  obtain ⟨w', q1, q2, q3, _⟩ := storeCells_okS (P := P) he r us hp l off i w hr hk hus h1 hle
  exact ⟨w', q1, q2, q3⟩
theorem Rs.of_getR {η : Env} : ∀ {l : List SV} {vs : List Value}, vs.length = l.length → (∀ (i : Nat) (s : SV), l[i]? = some s → ∃ v, vs[i]? = some v ∧ R η s v) → Rs η l vs
  | [], vs, hl, _ => by
    have : vs = [] := List.length_eq_zero_iff.1 hl
    subst this; exact Rs.nil
  | s :: l, vs, hl, h => by
    cases vs with
    | nil => simp at hl
    | cons v vs =>
      obtain ⟨v', h1, h2⟩ := h 0 s rfl
      simp at h1; subst h1
      exact Rs.cons h2 (Rs.of_getR (by simpa using hl) fun i x hx => by
        obtain ⟨y, q1, q2⟩ := h (i + 1) x (by simpa using hx)
        exact ⟨y, by simpa using q1, q2⟩)
/-- A row of one's own, its cells turned, is one's own still. -/
theorem HR.own_back {B : Nat} {η : Env} {hp : List SO} {w w' : World} (h : HR B η hp w) {k : Nat} {e : TypeId} {size n kc : Nat} {l l' : List SV} (hk : hp[k]? = some (.own e size n kc l)) (hl : l'.length = l.length)
    (h' : HR B η (hp.set k (.cells true l')) w') (hsh : ∀ (g : Nat) (cur : Array Value) (e : TypeId) (fz : Nat × Nat), w.heap[g]? = some (.cells cur e fz) → ∃ cur', w'.heap[g]? = some (.cells cur' e fz) ∧ cur'.size = cur.size) :
    HR B η (hp.set k (.own e size n kc l')) w' := by
  have hlt : k < hp.length := (List.getElem?_eq_some_iff.1 hk).1
  have hk' : (hp.set k (.cells true l'))[k]? = some (.cells true l') := List.getElem?_set_self hlt
  obtain ⟨g, c, xs, h1, h2, h3, h4, h5⟩ := (h.blk k _ hk).2
  obtain ⟨hx, h3⟩ := h3
  rcases h3 with ⟨q, _⟩ | ⟨g', cap, cur, q, hB, ⟨fz, hcur, hfree⟩, hn, hm, hsz, htake⟩
  · cases q
  · injection q with q1 q2 q3
    injection q1 with q1
    injection q1 with q1
    subst q1; subst q3
    obtain ⟨cur', hc', hs'⟩ := hsh g cur e fz hcur
    obtain ⟨b, o, f1, f2, f3, f4⟩ := (h'.blk k _ hk').1 true l' rfl
    rw [h1] at f1
    simp only [Option.some.injEq, Value.pointer.injEq, Addr.mk.injEq, and_true] at f1
    obtain ⟨rfl, rfl⟩ := f1
    have hcell : ∀ i, w'.cell? ⟨g, 0 + i, none⟩ = cur'[i]? := fun i => by simp [World.cell?, hc']
    have hle : n * size ≤ cur'.size := by rw [hs', hsz]; exact Nat.mul_le_mul_right _ hn
    have hlen : l'.length = n * size := by rw [hl, ← h4.length]; exact hx
    have own : OwnIs B η w' k (.own e size n kc l') := by
      refine ⟨g, c, cur'.toList.take (n * size), h1, h2, ⟨by rw [List.length_take, Array.length_toList]; omega, .inr ⟨g, c, cur', rfl, hB, ⟨fz, hc', by rw [hs']; exact hfree⟩, hn, hm, by rw [hs', hsz], rfl⟩⟩, Rs.of_getR (by rw [List.length_take, Array.length_toList]; omega) fun i s hi => ?_, fun x hx => ?_⟩
      · obtain ⟨⟨v, v1, v2, v3⟩, _⟩ := f4 i s hi
        rw [hcell] at v1
        have hi' : i < n * size := by rw [← hlen]; exact (List.getElem?_eq_some_iff.1 hi).1
        exact ⟨v, by rw [List.getElem?_take_of_lt hi', Array.getElem?_toList]; exact v1, v2⟩
      · obtain ⟨i, hi⟩ := List.mem_iff_getElem?.1 hx
        have hi' : i < n * size := by
          have := (List.getElem?_eq_some_iff.1 hi).1
          rw [List.length_take] at this; omega
        rw [List.getElem?_take_of_lt hi', Array.getElem?_toList] at hi
        obtain ⟨⟨v, v1, v2, v3⟩, _⟩ := f4 i _ (List.getElem?_eq_getElem (by rw [hlen]; exact hi'))
        rw [hcell, hi] at v1
        rw [Option.some.inj v1]; exact v3
    have := h'.turn (so' := .own e size n kc l') hk' rfl own
    rwa [List.set_set] at this

def opStore (P : Program) (hp : List SO) (ty : TypeId) (x y : SV) : OR :=
  match x with
  | .ptr k off =>
    match hp[k]?, y.cells, tsize P ty with
    | some (.cells true l), some cy, some n => if cy.length = n ∧ off + n ≤ l.length then .mem (.val undef) (hp.set k (.cells true (setAll l off cy))) .tt else .bad
    | some (.own e0 s0 n0 kc0 l), some cy, some n => if cy.length = n ∧ off + n ≤ l.length then .mem (.val undef) (hp.set k (.own e0 s0 n0 kc0 (setAll l off cy))) .tt else .bad
    | _, _, _ => .bad
  | .pto k i =>
    match hp[k]?, y.val?, tsize P ty with
    | some (.txt t), some (.int .u8 z), some 1 => .mem (.val undef) (hp.set k (.txt (setB t i z))) (.pr (i.toNat < t.size ∧ 0 ≤ z ∧ z < 256))
    | some (.otx _ _ t), some (.int .u8 z), some 1 => .mem (.val undef) (hp.set k (.txt (setB t i z))) (.pr (i.toNat < t.size ∧ 0 ≤ z ∧ z < 256))
    | _, _, _ => .bad
  | _ => .bad

theorem opStore_ok {P : Program} {η : Env} {hp : List SO} {ty : TypeId} {x y : SV} {vx vy : Value} (hx : R η x vx) (hy : R η y vy) :
    OrOk η hp (fun w => ((Instr.storeAt ty vx vy).run P w).andThen fun _ w' => .ok undef w') (opStore P hp ty x y) := by
  unfold opStore
  split
  · rename_i k off
    simp only [R] at hx
    obtain ⟨b, o, he, rfl⟩ := hx
    split
    · rename_i l cy n hk hcy hn
      split
      · rename_i hc
        obtain ⟨hc1, hc2⟩ := hc
        intro _ B w hr hB
        obtain ⟨hcs, h1⟩ := SV.cells_R hcy hy
        obtain ⟨w', hw', hr', hb'⟩ := storeCells_ok (P := P) he cy vy.cells.toList hp l off 0 w hr hk hcs h1 (by omega)
        refine ⟨undef, w', [], ?_, by simp only [R], by simpa using hr', hb'⟩
        have hsz : vy.cells.size = n := by
          have := hcs.length
          rw [Array.length_toList] at this
          omega
        simp [Instr.storeAt, Instr.sureAddr, storeVar, run_sizeOf' hn, hsz, hw']
      · trivial
    · rename_i e0 s0 n0 kc0 l cy n hk hcy hn
      split
      · rename_i hc
        obtain ⟨hc1, hc2⟩ := hc
        intro _ B w hr hB
        obtain ⟨hcs, h1⟩ := SV.cells_R hcy hy
        have hkl : k < hp.length := (List.getElem?_eq_some_iff.1 hk).1
        have hr2 := hr.turn (so' := .cells true l) hk rfl trivial
        obtain ⟨w', hw', hr', hb', hsh⟩ := storeCells_okS (P := P) he cy vy.cells.toList (hp.set k (.cells true l)) l off 0 w hr2 (by rw [List.getElem?_set_self hkl]) hcs h1 (by omega)
        rw [List.set_set] at hr'
        have hr'' := hr.own_back hk (setAll_length l (off + 0) cy) hr' hsh
        refine ⟨undef, w', [], ?_, by simp only [R], by simpa using hr'', hb'⟩
        have hsz : vy.cells.size = n := by
          have := hcs.length
          rw [Array.length_toList] at this
          omega
        simp [Instr.storeAt, Instr.sureAddr, storeVar, run_sizeOf' hn, hsz, hw']
      · trivial
    · trivial
  · rename_i k i
    simp only [R] at hx
    obtain ⟨b, o, he, rfl⟩ := hx
    split
    · rename_i t z hk hz hn
      intro (hc : i.toNat < t.size ∧ 0 ≤ z ∧ z < 256) B w hr hB
      have hv := SV.val?_R hz hy
      subst hv
      obtain ⟨b', o', e1, e2, e3, e4⟩ := (hr.blk k _ hk).1 _ _ rfl
      rw [he] at e1; simp at e1; obtain ⟨rfl, rfl⟩ := e1
      obtain ⟨⟨v, hv, _⟩, hf⟩ := e4 i.toNat _ (textCells_get t i hc.1)
      have hr' := hr.set' (so' := .txt (setB t i z)) hk rfl he (i := i.toNat) (by rw [textCells_length]; exact hc.1) (s := .val (.int .u8 z)) (v := .int .u8 z) (by simp only [R]) rfl
        (by simp only [SO.row, setB_cells t i z hc.2.1 hc.2.2]) rfl
      refine ⟨undef, _, [], ?_, by simp only [R], by simpa using hr', by
        exact (Below.refl _ _).setCell (p := ⟨b, o + i.toNat, none⟩) (e3 rfl) (.int .u8 z)⟩
      have hst : (storeCells ⟨b, o + i.toNat, none⟩ [.int .u8 z] 0).run P w = .ok () (w.setCell ⟨b, o + i.toNat, none⟩ (.int .u8 z)) := by
        simp only [storeCells, Sem.run_bind, add_at]
        rw [Nat.add_zero, run_store _ _ _ _ _ (by rfl : (Value.int .u8 z).oneCell' = true), hv]
        simp only [hf rfl, Bool.false_eq_true, if_false, Result.andThen_ok]
        rfl
      have hcl : (Value.int .u8 z).cells = #[.int .u8 z] := rfl
      simp [Instr.storeAt, Instr.sureAddr, storeVar, run_sizeOf' hn, hcl, hst]
    · rename_i e0 k0 t z hk hz hn
      intro (hc : i.toNat < t.size ∧ 0 ≤ z ∧ z < 256) B w hr hB
      have hv := SV.val?_R hz hy
      subst hv
      obtain ⟨b', o', e1, e2, e3, e4⟩ := (hr.blk k _ hk).1 _ _ rfl
      rw [he] at e1; simp at e1; obtain ⟨rfl, rfl⟩ := e1
      obtain ⟨⟨v, hv, _⟩, hf⟩ := e4 i.toNat _ (textCells_get t i hc.1)
      have hr' := hr.set' (so' := .txt (setB t i z)) hk rfl he (i := i.toNat) (by rw [textCells_length]; exact hc.1) (s := .val (.int .u8 z)) (v := .int .u8 z) (by simp only [R]) rfl
        (by simp only [SO.row, setB_cells t i z hc.2.1 hc.2.2]) rfl
      refine ⟨undef, _, [], ?_, by simp only [R], by simpa using hr', by
        exact (Below.refl _ _).setCell (p := ⟨b, o + i.toNat, none⟩) (e3 rfl) (.int .u8 z)⟩
      have hst : (storeCells ⟨b, o + i.toNat, none⟩ [.int .u8 z] 0).run P w = .ok () (w.setCell ⟨b, o + i.toNat, none⟩ (.int .u8 z)) := by
        simp only [storeCells, Sem.run_bind, add_at]
        rw [Nat.add_zero, run_store _ _ _ _ _ (by rfl : (Value.int .u8 z).oneCell' = true), hv]
        simp only [hf rfl, Bool.false_eq_true, if_false, Result.andThen_ok]
        rfl
      have hcl : (Value.int .u8 z).cells = #[.int .u8 z] := rfl
      simp [Instr.storeAt, Instr.sureAddr, storeVar, run_sizeOf' hn, hcl, hst]
    · trivial
  · trivial

/-! ### alloc, box -/
def opBox (hp : List SO) (x : SV) : OR :=
  match x.cells with
  | some l => .mem (.ptr hp.length 0) (hp ++ [.cells true l]) .tt
  | none => .bad
theorem opBox_ok {P : Program} {η : Env} {hp : List SO} {ty : TypeId} {x : SV} {vx : Value} (hx : R η x vx) :
    OrOk η hp (fun w => (Instr.box ty vx).run P w) (opBox hp x) := by
  unfold opBox
  split
  · rename_i l hl
    intro _ B w hr hB
    obtain ⟨hcs, h1⟩ := SV.cells_R hl hx
    refine ⟨_, _, [.pointer (some ⟨w.heap.size, 0, none⟩)], by simp [Instr.box, newVar, newRow]; exact ⟨rfl, rfl⟩, ?_, ?_, ?_⟩
    · simp only [R]
      exact ⟨w.heap.size, 0, by rw [← hr.len]; simp, by simp⟩
    · have := hr.alloc hB l vx.cells.toList ty hcs h1
      simpa using this
    · exact (Below.refl _ _).alloc hB _
  · trivial

def opAlloc (P : Program) (hp : List SO) (ty : TypeId) : OR :=
  match (P.info? ty).bind (·.zero) with
  | some z => if (z.cells.toList.all fun x => x.oneCell') then .mem (.ptr hp.length 0) (hp ++ [.cells true (z.cells.toList.map ofV1)]) .tt else .bad
  | none => .bad
theorem opAlloc_ok {P : Program} {η : Env} {hp : List SO} {ty : TypeId} :
    OrOk η hp (fun w => (Instr.alloc ty true (.tuple #[])).run P w) (opAlloc P hp ty) := by
  unfold opAlloc
  split
  · rename_i z hz
    split
    · rename_i hall
      intro _ B w hr hB
      have hz' : (zeroValue ty).run P w = .ok z w := by
        cases hi : P.info? ty with
        | none => simp [hi] at hz
        | some i => simp [hi] at hz; simp [zeroValue, typeInfo, hi, hz]
      refine ⟨_, _, [.pointer (some ⟨w.heap.size, 0, none⟩)], by simp [Instr.alloc, hz', newVar, newRow]; exact ⟨rfl, rfl⟩, ?_, ?_, ?_⟩
      · simp only [R]
        exact ⟨w.heap.size, 0, by rw [← hr.len]; simp, by simp⟩
      · have := hr.alloc hB _ z.cells.toList ty (ofV1s_R η _) (fun v hv => List.all_eq_true.1 hall v hv)
        simpa using this
      · exact (Below.refl _ _).alloc hB _
    · trivial
  · trivial
end Go.Ex
namespace Go.Ex
open Go.RowKit (Below)

/-! ### parts of a value -/
def svPart (P : Program) (t : TypeId) (l : List SV) (off : Nat) : Option SV :=
  match tagg P t with
  | some false => l[off]?
  | some true => (tsize P t).bind fun n => if off + n ≤ l.length then some (.agg ((l.drop off).take n)) else none
  | none => none
theorem svPart_ok {P : Program} {η : Env} {t : TypeId} {l : List SV} {off : Nat} {s : SV} (h : svPart P t l off = some s) {vs : Array Value} (hvs : Rs η l vs.toList) :
    ∃ v, R η s v ∧ ∀ w, (part t vs off).run P w = .ok v w := by
  unfold svPart at h
  split at h
  · rename_i ha
    obtain ⟨v, hv, hR⟩ := hvs.get h
    refine ⟨v, hR, fun w => ?_⟩
    have hv' : vs[off]? = some v := by simpa using hv
    simp [part, run_isAgg' ha, hv']
  · rename_i ha
    cases hn : tsize P t with
    | none => simp [hn] at h
    | some n =>
      simp only [hn, Option.bind_some] at h
      split at h
      · simp at h; subst h
        refine ⟨.agg (vs.extract off (off + n)), ⟨_, rfl, ?_⟩, fun w => ?_⟩
        · have := (hvs.drop off).take n
          simpa [Array.toList_extract, List.extract_eq_take_drop] using this
        · simp [part, run_isAgg' ha, run_sizeOf' hn]
      · simp at h
  · simp at h

def opField (P : Program) (ty : TypeId) (x : SV) (fi : Nat) : OR :=
  match x with
  | .agg l =>
    match P.underlying ty with
    | some (.struct fields) =>
      match fields[fi]? with
      | some f => match svPart P f.type l f.offset with
        | some s => .pure s .tt
        | none => .bad
      | none => .bad
    | _ => .bad
  | _ => .bad
theorem opField_ok {P : Program} {η : Env} {hp : List SO} {ty : TypeId} {x : SV} {vx : Value} {fi : Nat} (hx : R η x vx) :
    OrOk η hp (fun w => (Instr.field ty vx fi).run P w) (opField P ty x fi) := by
  unfold opField
  split
  · rename_i l
    simp only [R] at hx
    obtain ⟨vs, rfl, hvs⟩ := hx
    split
    · rename_i fields hu
      split
      · rename_i f hf
        split
        · rename_i s hs
          obtain ⟨v, hR, hv⟩ := svPart_ok hs hvs
          exact OrOk.value hR fun w => by simp [Instr.field, run_underlying hu, hf, asAgg, hv]
        · trivial
      · trivial
    · trivial
  · trivial

def opFieldAddr (P : Program) (ty : TypeId) (x : SV) (fi : Nat) : OR :=
  match x with
  | .ptr k off =>
    match P.underlying ty with
    | some (.struct fields) =>
      match fields[fi]? with
      | some f => match tsize P f.type with
        | some (_ + 1) => .pure (.ptr k (off + f.offset)) .tt
        | _ => .bad
      | none => .bad
    | _ => .bad
  | .pto k j =>
    match P.underlying ty with
    | some (.struct fields) =>
      match fields[fi]? with
      | some f => match tsize P f.type with
        | some (_ + 1) => .pure (.pto k (j + (f.offset : Int))) (.pr (0 ≤ j))
        | _ => .bad
      | none => .bad
    | _ => .bad
  | _ => .bad
theorem opFieldAddr_ok {P : Program} {η : Env} {hp : List SO} {ty : TypeId} {x : SV} {vx : Value} {fi : Nat} (hx : R η x vx) :
    OrOk η hp (fun w => (Instr.fieldAt ty vx fi).run P w) (opFieldAddr P ty x fi) := by
  unfold opFieldAddr
  split
  · rename_i k off
    simp only [R] at hx
    obtain ⟨b, o, he, rfl⟩ := hx
    split
    · rename_i fields hu
      split
      · rename_i f hf
        split
        · rename_i n hn
          exact OrOk.value (v := .pointer (some ⟨b, o + off + f.offset, none⟩)) ⟨b, o, he, by rw [Nat.add_assoc]⟩
            fun w => by simp [Instr.fieldAt, run_underlying hu, hf, Instr.sureAddr, fieldPlace, run_sizeOf' hn, add_at]
        · trivial
      · trivial
    · trivial
  · rename_i k j
    simp only [R] at hx
    obtain ⟨b, o, he, rfl⟩ := hx
    split
    · rename_i fields hu
      split
      · rename_i f hf
        split
        · rename_i n hn
          intro (hj : 0 ≤ j) B w hr
          exact ⟨.pointer (some ⟨b, o + j.toNat + f.offset, none⟩), ⟨b, o, he, by congr 3; omega⟩, by simp [Instr.fieldAt, run_underlying hu, hf, Instr.sureAddr, fieldPlace, run_sizeOf' hn, add_at]⟩
        · trivial
      · trivial
    · trivial
  · trivial

/-! ### an index -/

def opIndex (P : Program) (ty : TypeId) (x ix : SV) : OR :=
  match x, ix with
  | .agg l, .num _ z =>
    match P.underlying ty with
    | some (.array len elem) =>
      if 0 ≤ z ∧ z < len then
        match tsize P elem with
        | some n => match svPart P elem l (z.toNat * n) with
          | some s => .pure s .tt
          | none => .bad
        | none => .bad
      else .bad
    | _ => .bad
  | .bts true l, .num _ z =>
    if 0 ≤ z ∧ z < l.length then
      match P.underlying ty with
      | some .string => .pure (.num .u8 (byteAt ⟨l.toArray⟩ z)) .tt
      | _ => .bad
    else .bad
  | .bts false l, .num _ z =>
    if 0 ≤ z then
      match l[z.toNat]?, P.underlying ty with
      | some b, some .string => .pure (.val (.int .u8 b.toNat)) .tt
      | _, _ => .bad
    else .bad
  | x, ix =>
    match x.val?, ix.val?, P.underlying ty with
    | some (.string s), some (.int _ i), some .string => .pure (.val (.int .u8 (byteAt s i))) (.pr (0 ≤ i ∧ i < s.size))
    | _, _, _ => .bad
theorem opIndex_ok {P : Program} {η : Env} {hp : List SO} {ty : TypeId} {x ix : SV} {vx vi : Value} (hx : R η x vx) (hi : R η ix vi) :
    OrOk η hp (fun w => (Instr.index ty vx vi).run P w) (opIndex P ty x ix) := by
  unfold opIndex
  split
  · rename_i l k z
    simp only [R] at hx hi
    obtain ⟨vs, rfl, hvs⟩ := hx
    subst hi
    split
    · rename_i len elem hu
      split
      · rename_i hz
        split
        · rename_i n hn
          split
          · rename_i s hs
            obtain ⟨v, hR, hv⟩ := svPart_ok hs hvs
            exact OrOk.value hR fun w => by simp [Instr.index, asIntOf, run_underlying hu, hz, run_sizeOf' hn, hv]
          · trivial
        · trivial
      · trivial
    · trivial
  · rename_i l k z
    simp only [R] at hx hi
    subst hx; subst hi
    split
    · rename_i hz
      split
      · rename_i hu
        have hsz : (⟨l.toArray⟩ : ByteArray).size = l.length := by show l.toArray.size = _; simp
        refine OrOk.value (v := .int .u8 (byteAt ⟨l.toArray⟩ z)) (by simp only [R]) fun w => ?_
        have hlt : z.toNat < (⟨l.toArray⟩ : ByteArray).size := by rw [hsz]; omega
        have he : (⟨l.toArray⟩ : ByteArray)[z.toNat]? = some (⟨l.toArray⟩ : ByteArray)[z.toNat] := ByteArray.getElem?_lt' _ _ hlt
        simp only [Instr.index, asIntOf, Sem.run_bind, Sem.run_pure, Result.andThen_ok, run_underlying hu, hz.1, if_true, he, byteAt, hlt, dif_pos]
      · trivial
    · trivial
  · rename_i l k z
    simp only [R] at hx hi
    subst hx; subst hi
    split
    · rename_i hz
      split
      · rename_i b hb hu
        have hsz : (⟨l.toArray⟩ : ByteArray).size = l.length := by show l.toArray.size = _; simp
        have hl : z.toNat < l.length := (List.getElem?_eq_some_iff.1 hb).1
        refine OrOk.value (v := .int .u8 b.toNat) (by simp only [R]) fun w => ?_
        have hlt : z.toNat < (⟨l.toArray⟩ : ByteArray).size := by rw [hsz]; omega
        have he : (⟨l.toArray⟩ : ByteArray)[z.toNat]? = some (⟨l.toArray⟩ : ByteArray)[z.toNat] := ByteArray.getElem?_lt' _ _ hlt
        have hbb : (⟨l.toArray⟩ : ByteArray)[z.toNat] = b := by
          have e : (⟨l.toArray⟩ : ByteArray)[z.toNat] = l[z.toNat] := rfl
          rw [e]; exact (List.getElem?_eq_some_iff.1 hb).2
        simp only [Instr.index, asIntOf, Sem.run_bind, Sem.run_pure, Result.andThen_ok, run_underlying hu, hz, if_true, he, hbb]
      · trivial
    · trivial
  · split
    · rename_i s k i h1 h2 hu
      have e1 := SV.val?_R h1 hx
      have e2 := SV.val?_R h2 hi
      subst e1; subst e2
      intro (hc : 0 ≤ i ∧ i < s.size) B w hr
      refine ⟨.int .u8 (byteAt s i), by simp only [R], ?_⟩
      have hlt : i.toNat < s.size := by omega
      simp [Instr.index, asIntOf, run_underlying hu, hc.1, byteAt, hlt]
    · trivial

def opIndexAddr0 (P : Program) (ty : TypeId) (x ix : SV) : OR :=
  match ix with
  | .num _ z =>
    match x, P.underlying ty with
    | .ptr k off, some (.array len elem) =>
      match tsize P elem with
      | some n => if 0 ≤ z ∧ z < len then .pure (.ptr k (off + z.toNat * n)) .tt else .bad
      | none => .bad
    | .val (.pointer (some ⟨g, o, none⟩)), some (.array len elem) =>
      match tsize P elem with
      | some n => if 0 ≤ z ∧ z < len then .pure (.val (.pointer (some ⟨g, o + z.toNat * n, none⟩))) .tt else .bad
      | none => .bad
    | .slc k off len _, some (.slice elem) =>
      match tsize P elem with
      | some n => if 0 ≤ z ∧ z < len then .pure (.ptr k (off + z.toNat * n)) .tt else .bad
      | none => .bad
    | .sle k off len _, some (.slice elem) =>
      match tsize P elem with
      | some n => if 0 ≤ z ∧ z < len then .pure (.ptr k (off + z.toNat * n)) .tt else .bad
      | none => .bad
    | _, _ => .bad
  | _ => .bad
theorem opIndexAddr0_ok {P : Program} {η : Env} {hp : List SO} {ty : TypeId} {x ix : SV} {vx vi : Value} (hx : R η x vx) (hi : R η ix vi) :
    OrOk η hp (fun w => (Instr.indexAt ty vx vi).run P w) (opIndexAddr0 P ty x ix) := by
  unfold opIndexAddr0
  split
  · rename_i kk z
    simp only [R] at hi
    subst hi
    split
    · rename_i k off len elem hu
      simp only [R] at hx
      obtain ⟨b, o, he, rfl⟩ := hx
      split
      · rename_i n hn
        split
        · rename_i hz
          exact OrOk.value (v := .pointer (some ⟨b, o + off + z.toNat * n, none⟩)) ⟨b, o, he, by rw [Nat.add_assoc]⟩
            fun w => by simp [Instr.indexAt, asIntOf, run_underlying hu, Instr.sureAddr, hz, run_sizeOf' hn, add_at]
        · trivial
      · trivial
    · rename_i g o len elem hu
      simp only [R] at hx
      subst hx
      split
      · rename_i n hn
        split
        · rename_i hz
          exact OrOk.value (v := .pointer (some ⟨g, o + z.toNat * n, none⟩)) (by simp only [R])
            fun w => by simp [Instr.indexAt, asIntOf, run_underlying hu, Instr.sureAddr, hz, run_sizeOf' hn, add_at]
        · trivial
      · trivial
    · rename_i k off len cap elem hu
      simp only [R] at hx
      obtain ⟨b, o, he, rfl⟩ := hx
      split
      · rename_i n hn
        split
        · rename_i hz
          exact OrOk.value (v := .pointer (some ⟨b, o + off + z.toNat * n, none⟩)) ⟨b, o, he, by rw [Nat.add_assoc]⟩
            fun w => by simp [Instr.indexAt, asIntOf, run_underlying hu, hz, run_sizeOf' hn, add_at]
        · trivial
      · trivial
    · rename_i k off len kc elem hu
      simp only [R] at hx
      obtain ⟨b, o, c, he, _, _, rfl⟩ := hx
      split
      · rename_i n hn
        split
        · rename_i hz
          exact OrOk.value (v := .pointer (some ⟨b, o + off + z.toNat * n, none⟩)) ⟨b, o, he, by rw [Nat.add_assoc]⟩
            fun w => by simp [Instr.indexAt, asIntOf, run_underlying hu, hz, run_sizeOf' hn, add_at]
        · trivial
      · trivial
    · trivial
  · trivial

def opIndexAddr (P : Program) (ty : TypeId) (x ix : SV) : OR :=
  match x with
  | .slo k n _ =>
    match ix.val?, P.underlying ty with
    | some (.int _ i), some (.slice elem) => match P.underlying elem, tsize P elem, ix with
      | some (.int .u8), some 1, _ => .pure (.pto k i) (.pr (0 ≤ i ∧ i < n))
      | _, some sz, .num _ z => if 0 ≤ z then .pure (.ptr k (z.toNat * sz)) (.pr (z < n)) else .bad
      | _, some sz, _ => .pure (.pto k (i * (sz : Int))) (.pr (0 ≤ i ∧ i < n))
      | _, _, _ => .bad
    | _, _ => .bad
  | x => opIndexAddr0 P ty x ix
theorem opIndexAddr_ok {P : Program} {η : Env} {hp : List SO} {ty : TypeId} {x ix : SV} {vx vi : Value} (hx : R η x vx) (hi : R η ix vi) :
    OrOk η hp (fun w => (Instr.indexAt ty vx vi).run P w) (opIndexAddr P ty x ix) := by
  unfold opIndexAddr
  split
  · rename_i k n kc
    split
    · rename_i kk i elem hv hu
      have e := SV.val?_R hv hi
      subst e
      simp only [R] at hx
      obtain ⟨b, o, c, he, _, _, rfl⟩ := hx
      split
      · rename_i hu8 hn
        intro (hz : 0 ≤ i ∧ i < n) B w hr
        exact ⟨.pointer (some ⟨b, o + i.toNat, none⟩), ⟨b, o, he, rfl⟩, by simp [Instr.indexAt, asIntOf, run_underlying hu, hz, run_sizeOf' hn, add_at]⟩
      · rename_i sz ki z hn _
        simp only [SV.val?, Option.some.injEq, Value.int.injEq] at hv
        obtain ⟨rfl, rfl⟩ := hv
        split
        · rename_i h0
          intro (hz : z < n) B w hr
          exact ⟨.pointer (some ⟨b, o + z.toNat * sz, none⟩), ⟨b, o, he, rfl⟩, by simp [Instr.indexAt, asIntOf, run_underlying hu, h0, hz, run_sizeOf' hn, add_at]⟩
        · trivial
      · rename_i sz hn _ _
        intro (hz : 0 ≤ i ∧ i < n) B w hr
        have e : (i * (sz : Int)).toNat = i.toNat * sz := by
          obtain ⟨m, rfl⟩ := Int.eq_ofNat_of_zero_le hz.1
          simp only [Int.toNat_natCast]
          rw [← Int.natCast_mul]; rfl
        exact ⟨.pointer (some ⟨b, o + i.toNat * sz, none⟩), ⟨b, o, he, by rw [e]⟩, by simp [Instr.indexAt, asIntOf, run_underlying hu, hz, run_sizeOf' hn, add_at]⟩
      · trivial
    · trivial
  · exact opIndexAddr0_ok hx hi

/-! ### a slice expression -/
/-- A told bound. -/
def bnd (dflt : Nat) : Option SV → Option Nat
  | none => some dflt
  | some (.num _ z) => if 0 ≤ z then some z.toNat else none
  | _ => none
/-- Both are there, and go together, or neither. -/
def Ro (η : Env) : Option SV → Option Value → Prop
  | none, none => True
  | some s, some v => R η s v
  | _, _ => False
theorem run_sliceBounds {P : Program} {η : Env} {len cap l h : Nat} {lo hi : Option SV} {vlo vhi : Option Value} (hlo : Ro η lo vlo) (hhi : Ro η hi vhi)
    (e1 : bnd 0 lo = some l) (e2 : bnd len hi = some h) (c1 : l ≤ h) (c2 : h ≤ cap) (isS : Bool) (w : World) :
    (Instr.sliceBounds isS len cap vlo vhi none).run P w = .ok (l, h, cap) w := by
  have sb : ∀ (s : SV) (v : Value) (n y : Nat) (code : BoundsCode), R η s v → bnd 0 (some s) = some n → n ≤ y → (Instr.sliceBound v y code).run P w = .ok n w := by
    intro s v n y code hR hb hle
    cases s <;> simp [bnd] at hb
    simp only [R] at hR
    subst hR
    obtain ⟨h0, rfl⟩ := hb
    rename_i z
    have : z ≤ (y : Int) := by omega
    simp [Instr.sliceBound, asIntOf, h0, this]
  have nb : ∀ (s : SV) (d d' : Nat), bnd d (some s) = bnd d' (some s) := fun s d d' => by cases s <;> rfl
  unfold Instr.sliceBounds
  cases lo with
  | none =>
    cases vlo with
    | some _ => exact hlo.elim
    | none =>
      simp [bnd] at e1; subst e1
      cases hi with
      | none =>
        cases vhi with
        | some _ => exact hhi.elim
        | none => simp [bnd] at e2; subst e2; simp
      | some s =>
        cases vhi with
        | none => exact hhi.elim
        | some v => simp [sb s v h cap _ hhi (by rw [nb s 0 len]; exact e2) c2]
  | some s =>
    cases vlo with
    | none => exact hlo.elim
    | some v =>
      cases hi with
      | none =>
        cases vhi with
        | some _ => exact hhi.elim
        | none => simp [bnd] at e2; subst e2; simp [sb s v l len _ hlo e1 c1]
      | some s' =>
        cases vhi with
        | none => exact hhi.elim
        | some v' => simp [sb s v l h _ hlo e1 c1, sb s' v' h cap _ hhi (by rw [nb s' 0 len]; exact e2) c2]

/-- The number of a bound, told or not. -/
def ibnd (dflt : Int) : Option SV → Option Int
  | none => some dflt
  | some s => match s.val? with
    | some (.int _ i) => some i
    | _ => none
theorem run_sliceBounds' {P : Program} {η : Env} {len : Nat} {l h : Int} {lo hi : Option SV} {vlo vhi : Option Value} (hlo : Ro η lo vlo) (hhi : Ro η hi vhi)
    (e1 : ibnd 0 lo = some l) (e2 : ibnd len hi = some h) (c0 : 0 ≤ l) (c1 : l ≤ h) (c2 : h ≤ len) (isS : Bool) (w : World) :
    (Instr.sliceBounds isS len len vlo vhi none).run P w = .ok (l.toNat, h.toNat, len) w := by
  have sb : ∀ (s : SV) (v : Value) (n : Int) (y : Nat) (code : BoundsCode) (d : Int), R η s v → ibnd d (some s) = some n → 0 ≤ n → n ≤ y → (Instr.sliceBound v y code).run P w = .ok n.toNat w := by
    intro s v n y code d hR hb h0 hle
    simp only [ibnd] at hb
    split at hb
    · rename_i k i hv
      simp at hb; subst hb
      have := SV.val?_R hv hR
      subst this
      simp [Instr.sliceBound, asIntOf, h0, hle]
    · simp at hb
  have hh : h.toNat = h := by omega
  unfold Instr.sliceBounds
  cases lo with
  | none =>
    cases vlo with
    | some _ => exact hlo.elim
    | none =>
      simp [ibnd] at e1; subst e1
      cases hi with
      | none =>
        cases vhi with
        | some _ => exact hhi.elim
        | none => simp [ibnd] at e2; subst e2; simp
      | some s =>
        cases vhi with
        | none => exact hhi.elim
        | some v => simp [sb s v h len _ _ hhi e2 (by omega) c2]
  | some s =>
    cases vlo with
    | none => exact hlo.elim
    | some v =>
      cases hi with
      | none =>
        cases vhi with
        | some _ => exact hhi.elim
        | none => simp [ibnd] at e2; subst e2; simp [sb s v l len _ _ hlo e1 c0 (by omega)]
      | some s' =>
        cases vhi with
        | none => exact hhi.elim
        | some v' => simp [sb s v l h.toNat _ _ hlo e1 c0 (by omega), sb s' v' h len _ _ hhi e2 (by omega) c2]

theorem ba_extract (l : List UInt8) (i j : Nat) : (⟨l.toArray⟩ : ByteArray).extract i j = ⟨((l.take j).drop i).toArray⟩ := by
  apply ByteArray.ext
  rw [ByteArray.data_extract]
  apply Array.toList_inj.1
  simp [List.extract_eq_take_drop, List.drop_take]

/-- A byte. -/
def bAt (s : ByteArray) (i : Nat) : UInt8 := (s.data[i]?).getD 0
/-- The bytes of a piece, spelled out. -/
def cutL (s : ByteArray) : Nat → Nat → List UInt8
  | _, 0 => []
  | i, n + 1 => bAt s i :: cutL s (i + 1) n
theorem cutL_length (s : ByteArray) : ∀ (n i : Nat), (cutL s i n).length = n
  | 0, _ => rfl
  | n + 1, i => by simp [cutL, cutL_length s n]
theorem cutL_get (s : ByteArray) : ∀ (n i k : Nat), k < n → (cutL s i n)[k]? = some (bAt s (i + k))
  | 0, _, _, h => by omega
  | n + 1, i, 0, _ => by simp [cutL]
  | n + 1, i, k + 1, h => by
    simp only [cutL, List.getElem?_cons_succ]
    rw [cutL_get s n (i + 1) k (by omega), show i + 1 + k = i + (k + 1) by omega]
theorem cutL_eq {s : ByteArray} {i j : Nat} (h : i ≤ j) (hj : j ≤ s.size) : (⟨(cutL s i (j - i)).toArray⟩ : ByteArray) = s.extract i j := by
  have hs : s.size = s.data.size := rfl
  apply ByteArray.ext
  rw [ByteArray.data_extract]
  apply Array.toList_inj.1
  apply List.ext_getElem?
  intro k
  by_cases hk : k < j - i
  · simp only []
    rw [cutL_get s _ _ _ hk]
    have : i + k < s.data.size := by omega
    simp [bAt, Array.getElem?_eq_getElem this, List.extract_eq_take_drop, List.getElem?_take_of_lt hk]
  · rw [List.getElem?_eq_none (by simp [cutL_length]; omega), List.getElem?_eq_none (by simp [List.extract_eq_take_drop]; omega)]

/-- A bound that is typed, and told. -/
def hbnd : Option SV → Option Nat
  | none => none
  | some s => bnd 0 (some s)

def opSlice (P : Program) (ty : TypeId) (x : SV) (lo hi mx : Option SV) : OR :=
  match mx with
  | some _ => .bad
  | none =>
    match P.underlying ty, x with
    | some .string, .bts told l =>
      match bnd 0 lo, bnd l.length hi with
      | some i, some j => if i ≤ j ∧ j ≤ l.length then .pure (.bts told ((l.take j).drop i)) .tt else .bad
      | _, _ =>
        match ibnd 0 lo, ibnd (l.length : Int) hi with
        | some i, some j => .pure (.val (.string ((⟨l.toArray⟩ : ByteArray).extract i.toNat j.toNat))) (.pr (0 ≤ i ∧ i ≤ j ∧ j ≤ l.length))
        | _, _ => .bad
    | some .string, .val (.string s) =>
      match bnd 0 lo, hbnd hi with
      | some i, some j => .pure (.bts false (cutL s i (j - i))) (.pr (i ≤ j ∧ j ≤ s.size))
      | _, _ =>
        match ibnd 0 lo, ibnd (s.size : Int) hi with
        | some i, some j => .pure (.val (.string (s.extract i.toNat j.toNat))) (.pr (0 ≤ i ∧ i ≤ j ∧ j ≤ s.size))
        | _, _ => .bad
    | some (.array n elem), .ptr k off =>
      match bnd 0 lo, bnd n hi, tsize P elem with
      | some i, some j, some sz => if i ≤ j ∧ j ≤ n then .pure (.slc k (if n = i then off else off + i * sz) (j - i) (n - i)) .tt else .bad
      | _, _, _ => .bad
    | some (.slice elem), .slc k off len cap =>
      match bnd 0 lo, bnd len hi, tsize P elem with
      | some i, some j, some sz => if i ≤ j ∧ j ≤ cap then .pure (.slc k (if cap = i then off else off + i * sz) (j - i) (cap - i)) .tt else .bad
      | _, _, _ => .bad
    | _, _ => .bad
theorem opSlice_ok {P : Program} {η : Env} {hp : List SO} {ty : TypeId} {x : SV} {vx : Value} {lo hi mx : Option SV} {vlo vhi vmx : Option Value}
    (hx : R η x vx) (hlo : Ro η lo vlo) (hhi : Ro η hi vhi) (hmx : Ro η mx vmx) :
    OrOk η hp (fun w => (Instr.sliceAt ty vx vlo vhi vmx).run P w) (opSlice P ty x lo hi mx) := by
  unfold opSlice
  cases mx with
  | some _ => trivial
  | none =>
    cases vmx with
    | some _ => exact hmx.elim
    | none =>
      simp only []
      split
      · rename_i told l hu
        simp only [R] at hx
        subst hx
        have hsz : (⟨l.toArray⟩ : ByteArray).size = l.length := by simp [ByteArray.size]
        split
        · rename_i i j e1 e2
          split
          · rename_i hc
            refine OrOk.value (v := .string ⟨((l.take j).drop i).toArray⟩) (by simp only [R]) fun w => ?_
            have := run_sliceBounds (P := P) (cap := l.length) hlo hhi e1 e2 hc.1 hc.2 false w
            simp [Instr.sliceAt, Instr.slice, run_underlying hu, hsz, this, ba_extract]
          · trivial
        · split
          · rename_i i j e1 e2
            intro hc B w hr; simp only [Cnd.Is] at hc
            refine ⟨.string ((⟨l.toArray⟩ : ByteArray).extract i.toNat j.toNat), by simp only [R], ?_⟩
            have := run_sliceBounds' (P := P) hlo hhi e1 e2 hc.1 hc.2.1 hc.2.2 false w
            simp [Instr.sliceAt, Instr.slice, run_underlying hu, hsz, this]
          · trivial
      · rename_i s hu
        simp only [R] at hx
        subst hx
        split
        · rename_i i j e1 e2
          intro hc B w hr; simp only [Cnd.Is] at hc
          refine ⟨.string ⟨(cutL s i (j - i)).toArray⟩, by simp only [R], ?_⟩
          have e2' : bnd s.size hi = some j := by
            cases hi with
            | none => simp [hbnd] at e2
            | some q => cases q <;> simp [hbnd, bnd] at e2 ⊢ <;> exact e2
          have := run_sliceBounds (P := P) (cap := s.size) hlo hhi e1 e2' hc.1 hc.2 false w
          simp only []
          rw [cutL_eq hc.1 hc.2]
          simp [Instr.sliceAt, Instr.slice, run_underlying hu, this]
        · split
          · rename_i i j e1 e2
            intro hc B w hr; simp only [Cnd.Is] at hc
            refine ⟨.string (s.extract i.toNat j.toNat), by simp only [R], ?_⟩
            have := run_sliceBounds' (P := P) hlo hhi e1 e2 hc.1 hc.2.1 hc.2.2 false w
            simp [Instr.sliceAt, Instr.slice, run_underlying hu, this]
          · trivial
      · rename_i n elem k off hu
        simp only [R] at hx
        obtain ⟨b, o, he, rfl⟩ := hx
        split
        · rename_i i j sz e1 e2 hsz
          split
          · rename_i hc
            refine OrOk.value (v := .slice (some ⟨b, o + (if n = i then off else off + i * sz), none⟩) (j - i) (n - i)) ⟨b, o, he, rfl⟩ fun w => ?_
            have := run_sliceBounds (P := P) (cap := n) hlo hhi e1 e2 hc.1 hc.2 false w
            simp [Instr.sliceAt, run_underlying hu, Instr.sureAddr, this, run_sizeOf' hsz, add_at]
            split <;> simp [Nat.add_assoc]
          · trivial
        · trivial
      · rename_i elem k off len cap hu
        simp only [R] at hx
        obtain ⟨b, o, he, rfl⟩ := hx
        split
        · rename_i i j sz e1 e2 hsz
          split
          · rename_i hc
            refine OrOk.value (v := .slice (some ⟨b, o + (if cap = i then off else off + i * sz), none⟩) (j - i) (cap - i)) ⟨b, o, he, rfl⟩ fun w => ?_
            have := run_sliceBounds (P := P) (cap := cap) hlo hhi e1 e2 hc.1 hc.2 true w
            simp [Instr.sliceAt, Instr.slice, run_underlying hu, this, run_sizeOf' hsz, add_at]
            split <;> simp [Nat.add_assoc]
          · trivial
        · trivial
      · trivial
end Go.Ex
namespace Go.Ex
open Go.RowKit (Below)

/-! ### a composite literal -/
def svFill (place : Nat → Option (Nat × Nat)) (cells : List SV) : List (Nat × SV) → Option (List SV)
  | [] => some cells
  | (i, s) :: rest =>
    match place i, s.cells with
    | some (off, size), some cs => if cs.length = size ∧ off + size ≤ cells.length then svFill place (setAll cells off cs) rest else none
    | _, _ => none

theorem foldl_set {η : Env} : ∀ (cs : List SV) (us : List Value) (n : Nat) (l : List SV) (vs : Array Value) (off : Nat), Rs η cs us → Rs η l vs.toList →
    Rs η (setAll l (off + n) cs) ((us.zipIdx n).foldl (fun (a : Array Value) (x : Value × Nat) => a.setIfInBounds (off + x.2) x.1) vs).toList
  | [], us, n, l, vs, off, h, hl => by
    simp only [Rs] at h; subst h; simpa [setAll] using hl
  | s :: cs, us, n, l, vs, off, h, hl => by
    obtain ⟨u, us', rfl, hu, hus⟩ := h.cons_inv
    simp only [List.zipIdx_cons, List.foldl_cons, setAll]
    have := foldl_set cs us' (n + 1) (l.set (off + n) s) (vs.setIfInBounds (off + n) u) off hus (by
      rw [Array.toList_setIfInBounds]; exact hl.set hu)
    rwa [show off + (n + 1) = off + n + 1 by omega] at this

theorem svFill_ok {η : Env} {place : Nat → Option (Nat × Nat)} : ∀ (parts : List (Nat × SV)) (vparts : List (Nat × Value)) (cells : List SV) (vs : Array Value) (r : List SV),
    parts.map (·.1) = vparts.map (·.1) → Rs η (parts.map (·.2)) (vparts.map (·.2)) → Rs η cells vs.toList → svFill place cells parts = some r →
    ∃ us, Instr.fill place vs vparts = some us ∧ Rs η r us.toList
  | [], vparts, cells, vs, r, h1, _, hc, h => by
    have : vparts = [] := by simpa using h1.symm
    subst this
    simp [svFill] at h; subst h
    exact ⟨vs, by simp [Instr.fill], hc⟩
  | (i, s) :: parts, [], cells, vs, r, h1, _, hc, h => by simp at h1
  | (i, s) :: parts, (j, v) :: vparts, cells, vs, r, h1, h2, hc, h => by
    simp only [List.map_cons, List.cons.injEq] at h1
    obtain ⟨rfl, h1⟩ := h1
    simp only [List.map_cons] at h2
    obtain ⟨v', r', he, hv, h2⟩ := h2.cons_inv
    obtain ⟨rfl, rfl⟩ := List.cons.inj he
    simp only [svFill] at h
    split at h
    · rename_i off size cs hp hcs
      split at h
      · rename_i hsz
        obtain ⟨hR, _⟩ := SV.cells_R hcs hv
        have hl := hR.length
        have hl2 := hc.length
        rw [Array.length_toList] at hl hl2
        have hset := foldl_set cs v.cells.toList 0 cells vs off hR hc
        obtain ⟨us, hus, hRus⟩ := svFill_ok parts vparts (setAll cells off cs) _ r h1 h2 hset h
        refine ⟨us, ?_, hRus⟩
        rw [← hus]
        simp only [Instr.fill, hp]
        have hcond : (decide (v.cells.size ≠ size) || decide (off + v.cells.size > vs.size)) = false := by
          simp; omega
        simp only [Bool.or_eq_false_iff, decide_eq_false_iff_not] at hcond
        rw [if_neg (by simp; omega)]
        congr 1
        rw [← Array.foldl_toList, Array.toList_zipIdx]
      · simp at h
    · simp at h

def opBuild (P : Program) (ty : TypeId) (parts : List (Nat × SV)) : OR :=
  match P.info? ty, P.underlying ty with
  | some it, some (.array _ e) =>
    match it.zero, P.info? e with
    | some z, some ie => match svFill (fun i => some (i * ie.size, ie.size)) (z.cells.toList.map ofV1) parts with
      | some l => .pure (.agg l) .tt
      | none => .bad
    | _, _ => .bad
  | some it, some (.struct fields) =>
    match it.zero, fields.toList.mapM (fun f => (P.info? f.type).map fun i => (f.offset, i.size)) with
    | some z, some places => match svFill (fun i => places[i]?) (z.cells.toList.map ofV1) parts with
      | some l => .pure (.agg l) .tt
      | none => .bad
    | _, _ => .bad
  | _, _ => .bad
theorem opBuild_ok {P : Program} {η : Env} {hp : List SO} {ty : TypeId} {parts : List (Nat × SV)} {vparts : Array (Nat × Value)}
    (h1 : parts.map (·.1) = vparts.toList.map (·.1)) (h2 : Rs η (parts.map (·.2)) (vparts.toList.map (·.2))) :
    OrOk η hp (fun w => (Instr.build ty vparts).run P w) (opBuild P ty parts) := by
  unfold opBuild
  split
  · rename_i it n e hi hu
    split
    · rename_i z ie hz hie
      split
      · rename_i l hl
        obtain ⟨us, hus, hR⟩ := svFill_ok parts vparts.toList _ z.cells l h1 h2 (ofV1s_R η _) hl
        refine OrOk.value (v := .agg us) ⟨us, rfl, hR⟩ fun w => run_build w ty vparts us ?_
        simp only [Program.built, hi, hu, hz, hie]
        exact hus
      · trivial
    · trivial
  · rename_i it fields hi hu
    split
    · rename_i z places hz hpl
      split
      · rename_i l hl
        obtain ⟨us, hus, hR⟩ := svFill_ok parts vparts.toList _ z.cells l h1 h2 (ofV1s_R η _) hl
        refine OrOk.value (v := .agg us) ⟨us, rfl, hR⟩ fun w => run_build w ty vparts us ?_
        simp only [Program.built, hi, hu, hz, hpl]
        simpa using hus
      · trivial
    · trivial
  · trivial

/-! ### bytes to a string -/
def SV.byte? : SV → Option UInt8
  | .num .u8 z => some (UInt8.ofNat z.toNat)
  | .val (.int .u8 z) => some (UInt8.ofNat z.toNat)
  | _ => none
def svBytes : List SV → Option (List UInt8)
  | [] => some []
  | s :: l => match s.byte?, svBytes l with
    | some b, some r => some (b :: r)
    | _, _ => none
theorem svBytes_ok {η : Env} : ∀ {l : List SV} {bs : List UInt8} {vs : List Value}, svBytes l = some bs → Rs η l vs →
    ∃ ns : List Int, vs = ns.map (Value.int .u8) ∧ bs = ns.map fun n => UInt8.ofNat n.toNat
  | [], bs, vs, h, hvs => by simp [svBytes] at h; simp only [Rs] at hvs; exact ⟨[], by simp [hvs, h]⟩
  | s :: l, bs, vs, h, hvs => by
    obtain ⟨v, r, rfl, hv, hr⟩ := hvs.cons_inv
    simp only [svBytes] at h
    split at h
    · rename_i b r' hb hr'
      simp at h; subst h
      obtain ⟨ns, rfl, rfl⟩ := svBytes_ok hr' hr
      have : ∃ n : Int, v = .int .u8 n ∧ b = UInt8.ofNat n.toNat := by
        unfold SV.byte? at hb
        split at hb
        · simp at hb; simp only [R] at hv; exact ⟨_, hv, hb.symm⟩
        · simp at hb; simp only [R] at hv; exact ⟨_, hv, hb.symm⟩
        · simp at hb
      obtain ⟨n, rfl, rfl⟩ := this
      exact ⟨n :: ns, rfl, rfl⟩
    · simp at h

theorem foldl_push (ns : List Int) : ∀ (s : ByteArray), ns.foldl (fun r n => r.push (UInt8.ofNat n.toNat)) s = ⟨(s.data.toList ++ ns.map fun n => UInt8.ofNat n.toNat).toArray⟩ := by
  induction ns with
  | nil => intro s; simp
  | cons n ns ih =>
    intro s
    simp only [List.foldl_cons, ih, List.map_cons]
    congr 1
    simp [ByteArray.push]

def opBytesToString0 (P : Program) (hp : List SO) (src dst : TypeId) (x : SV) : OR :=
  match (match x with | .slc k off len _ => some (k, off, len) | .sle k off len _ => some (k, off, len) | _ => none), P.underlying src, P.underlying dst with
  | some (k, off, len), some (.slice e), some .string =>
    match P.underlying e, (hp[k]?).bind SO.told with
    | some (.int .u8), some l => if off + len ≤ l.length then
        match svBytes ((l.drop off).take len) with
        | some bs => .pure (.bts (((l.drop off).take len).all SV.lit) bs) .tt
        | none => .bad
      else .bad
    | _, _ => .bad
  | _, _, _ => .bad
theorem opBytesToString0_ok {P : Program} {η : Env} {hp : List SO} {src dst : TypeId} {x : SV} {vx : Value} (hx : R η x vx) :
    OrOk η hp (fun w => (convert src dst vx).run P w) (opBytesToString0 P hp src dst x) := by
  unfold opBytesToString0
  split
  · rename_i k off len e hxx hs hd
    obtain ⟨b, o, cap, he, rfl⟩ : ∃ b o cap, η[k]? = some (.pointer (some ⟨b, o, none⟩)) ∧ vx = .slice (some ⟨b, o + off, none⟩) len cap := by
      split at hxx
      · simp at hxx
        obtain ⟨rfl, rfl, rfl⟩ := hxx
        simp only [R] at hx
        obtain ⟨b, o, h1, h2⟩ := hx
        exact ⟨b, o, _, h1, h2⟩
      · simp at hxx
        obtain ⟨rfl, rfl, rfl⟩ := hxx
        simp only [R] at hx
        obtain ⟨b, o, c, h1, _, _, h2⟩ := hx
        exact ⟨b, o, _, h1, h2⟩
      · simp at hxx
    split
    · rename_i l hue hkb
      obtain ⟨so, hk, hto⟩ := Option.bind_eq_some_iff.1 hkb
      split
      · rename_i hle
        split
        · rename_i bs hbs
          intro _ B w hr
          obtain ⟨vs, hvs, hc⟩ := (hr.blk k _ hk).row hto he
          have hl := hvs.length
          obtain ⟨ns, hns, rfl⟩ := svBytes_ok hbs ((hvs.drop off).take len)
          refine ⟨.string ⟨(ns.map fun n => UInt8.ofNat n.toNat).toArray⟩, by simp only [R], ?_⟩
          have hlen : ((vs.drop off).take len).length = len := by simp; omega
          have hload := run_loadCells_list (P := P) w ⟨b, o + off, none⟩ ((vs.drop off).take len) (fun j v hj => by
            have h1 : j < len := by
              have := (List.getElem?_eq_some_iff.1 hj).1
              omega
            rw [List.getElem?_take_of_lt h1, List.getElem?_drop] at hj
            rw [add_at, Nat.add_assoc]
            exact (hc _ v hj).1)
          rw [hlen, hns] at hload
          simp only []
          rw [run_convert_bytes_string w src dst e _ _ _ hs hue hd, run_bytesToString w _ len cap ns hload, foldl_push]
          rfl
        · trivial
      · trivial
    · trivial
  · trivial

/-- A cell's byte. -/
def cellB : SV → UInt8
  | .val (.int .u8 z) => UInt8.ofNat z.toNat
  | .num .u8 z => UInt8.ofNat z.toNat
  | _ => 0
def isB : SV → Bool
  | .val (.int .u8 _) => true
  | .num .u8 _ => true
  | _ => false
theorem isB_R {η : Env} {s : SV} {v : Value} (h : isB s = true) (hR : R η s v) : ∃ z : Int, v = .int .u8 z ∧ cellB s = UInt8.ofNat z.toNat := by
  unfold isB at h
  split at h
  · rename_i z
    simp only [R] at hR
    exact ⟨z, hR, rfl⟩
  · rename_i z
    simp only [R] at hR
    exact ⟨z, hR, rfl⟩
  · cases h
def opBytesToString (P : Program) (hp : List SO) (src dst : TypeId) (x : SV) : OR :=
  match x with
  | .slo k n _ =>
    match P.underlying src, P.underlying dst with
    | some (.slice e), some .string =>
      match P.underlying e, hp[k]? with
      | some (.int .u8), some (.txt t) => .pure (.val (.string t)) (.pr (n = t.size))
      | some (.int .u8), some (.own _ _ _ _ l) => .pure (.val (.string ⟨(l.map cellB).toArray⟩)) (.pr (n = l.length ∧ l.all isB = true))
      | some (.int .u8), some (.otx _ _ t) => .pure (.val (.string t)) (.pr (n = t.size))
      | _, _ => .bad
    | _, _ => .bad
  | x => opBytesToString0 P hp src dst x
theorem opBytesToString_ok {P : Program} {η : Env} {hp : List SO} {src dst : TypeId} {x : SV} {vx : Value} (hx : R η x vx) :
    OrOk η hp (fun w => (convert src dst vx).run P w) (opBytesToString P hp src dst x) := by
  unfold opBytesToString
  split
  · rename_i k n kc
    split
    · rename_i e hs hd
      split
      · rename_i t hue hk
        intro (hc : n = t.size) B w hr
        subst hc
        simp only [R] at hx
        obtain ⟨b, o, c, he, _, _, rfl⟩ := hx
        obtain ⟨b', o', e1, e2, e3, e4⟩ := (hr.blk k _ hk).1 _ _ rfl
        rw [he] at e1; simp at e1; obtain ⟨rfl, rfl⟩ := e1
        have hload := run_loadCells_list (P := P) w ⟨b, o, none⟩ ((t.data.toList.map fun x => (x.toNat : Int)).map (Value.int .u8)) (fun j v hj => by
          rw [List.map_map, List.getElem?_map] at hj
          obtain ⟨x, hx, rfl⟩ := Option.map_eq_some_iff.1 hj
          have h0 : (textCells t)[j]? = some (byteSV false x) := by
            unfold textCells; rw [List.getElem?_map, hx]; rfl
          obtain ⟨⟨v, hv, hR, _⟩, _⟩ := e4 j _ h0
          have hR' : v = .int .u8 x.toNat := by
            unfold byteSV at hR; simpa only [Bool.false_eq_true, if_false, R] using hR
          rw [add_at, hv, hR']; rfl)
        have hlen : ((t.data.toList.map fun x => (x.toNat : Int)).map (Value.int .u8)).length = t.size := by
          rw [List.length_map, List.length_map, Array.length_toList]; rfl
        rw [hlen] at hload
        refine ⟨.string t, by simp only [R], ?_⟩
        simp only []
        rw [run_convert_bytes_string w src dst e _ _ _ hs hue hd, run_bytesToString w _ t.size c _ hload, foldl_push]
        have : (⟨((#[] : Array UInt8).toList ++ (t.data.toList.map fun x => (x.toNat : Int)).map fun n => UInt8.ofNat n.toNat).toArray⟩ : ByteArray) = t := by
          apply ByteArray.ext
          apply Array.toList_inj.1
          simp [List.map_map, Function.comp_def]
        exact congrArg (fun z => Result.ok (Value.string z) w) this
      · rename_i e1 s1 n1 k1 l hue hk
        intro (hc : n = l.length ∧ l.all isB = true) B w hr
        obtain ⟨rfl, hall⟩ := hc
        simp only [R] at hx
        obtain ⟨b, o, c, he, _, _, rfl⟩ := hx
        obtain ⟨b', o', e1, e2, e3, e4⟩ := (hr.blk k _ hk).1 _ _ rfl
        rw [he] at e1; simp at e1; obtain ⟨rfl, rfl⟩ := e1
        have hz : ∀ (j : Nat) (x : SV), l[j]? = some x → ∃ z : Int, w.cell? ⟨b, o + j, none⟩ = some (.int .u8 z) ∧ cellB x = UInt8.ofNat z.toNat := by
          intro j x hj
          obtain ⟨⟨v, hv, hR, _⟩, _⟩ := e4 j x hj
          have hb : isB x = true := by
            rw [List.all_eq_true] at hall
            exact hall x (List.mem_of_getElem? hj)
          obtain ⟨z, rfl, h2⟩ := isB_R hb hR
          exact ⟨z, hv, h2⟩
        obtain ⟨zs, hzl, hzs⟩ : ∃ zs : List Int, zs.length = l.length ∧ ∀ (j : Nat) (z : Int), zs[j]? = some z → w.cell? ⟨b, o + j, none⟩ = some (.int .u8 z) ∧ (l.map cellB)[j]? = some (UInt8.ofNat z.toNat) := by
          refine ⟨(List.range l.length).map fun j => match w.cell? ⟨b, o + j, none⟩ with | some (.int .u8 z) => z | _ => 0, by simp, fun j z hj => ?_⟩
          rw [List.getElem?_map] at hj
          obtain ⟨j', hj', rfl⟩ := Option.map_eq_some_iff.1 hj
          have hlt : j < l.length := by
            have := (List.getElem?_eq_some_iff.1 hj').1
            simpa using this
          rw [List.getElem?_range hlt] at hj'
          have := Option.some.inj hj'
          subst this
          obtain ⟨z, h1, h2⟩ := hz j _ (List.getElem?_eq_getElem hlt)
          rw [h1, List.getElem?_map, List.getElem?_eq_getElem hlt]
          exact ⟨rfl, by simp [h2]⟩
        have hload := run_loadCells_list (P := P) w ⟨b, o, none⟩ (zs.map (Value.int .u8)) (fun j v hj => by
          rw [List.getElem?_map] at hj
          obtain ⟨z, hz', rfl⟩ := Option.map_eq_some_iff.1 hj
          rw [add_at]; exact (hzs j z hz').1)
        rw [List.length_map, hzl] at hload
        refine ⟨.string ⟨(l.map cellB).toArray⟩, by simp only [R], ?_⟩
        simp only []
        rw [run_convert_bytes_string w src dst e _ _ _ hs hue hd, run_bytesToString w _ l.length c _ hload, foldl_push]
        have : (⟨((#[] : Array UInt8).toList ++ zs.map fun n => UInt8.ofNat n.toNat).toArray⟩ : ByteArray) = ⟨(l.map cellB).toArray⟩ := by
          have e : zs.map (fun n => UInt8.ofNat n.toNat) = l.map cellB := by
            refine List.ext_getElem? fun j => ?_
            rw [List.getElem?_map]
            cases hj : zs[j]? with
            | some z => rw [(hzs j z hj).2]; rfl
            | none =>
              have hl := List.getElem?_eq_none_iff.1 hj
              rw [List.getElem?_eq_none (by simp; omega)]; rfl
          rw [e]; simp
        exact congrArg (fun z => Result.ok (Value.string z) w) this
      · rename_i e1 k1 t hue hk
        intro (hc : n = t.size) B w hr
        subst hc
        simp only [R] at hx
        obtain ⟨b, o, c, he, _, _, rfl⟩ := hx
        obtain ⟨b', o', e1, e2, e3, e4⟩ := (hr.blk k _ hk).1 _ _ rfl
        rw [he] at e1; simp at e1; obtain ⟨rfl, rfl⟩ := e1
        have hload := run_loadCells_list (P := P) w ⟨b, o, none⟩ ((t.data.toList.map fun x => (x.toNat : Int)).map (Value.int .u8)) (fun j v hj => by
          rw [List.map_map, List.getElem?_map] at hj
          obtain ⟨x, hx, rfl⟩ := Option.map_eq_some_iff.1 hj
          have h0 : (textCells t)[j]? = some (byteSV false x) := by
            unfold textCells; rw [List.getElem?_map, hx]; rfl
          obtain ⟨⟨v, hv, hR, _⟩, _⟩ := e4 j _ h0
          have hR' : v = .int .u8 x.toNat := by
            unfold byteSV at hR; simpa only [Bool.false_eq_true, if_false, R] using hR
          rw [add_at, hv, hR']; rfl)
        have hlen : ((t.data.toList.map fun x => (x.toNat : Int)).map (Value.int .u8)).length = t.size := by
          rw [List.length_map, List.length_map, Array.length_toList]; rfl
        rw [hlen] at hload
        refine ⟨.string t, by simp only [R], ?_⟩
        simp only []
        rw [run_convert_bytes_string w src dst e _ _ _ hs hue hd, run_bytesToString w _ t.size c _ hload, foldl_push]
        have : (⟨((#[] : Array UInt8).toList ++ (t.data.toList.map fun x => (x.toNat : Int)).map fun n => UInt8.ofNat n.toNat).toArray⟩ : ByteArray) = t := by
          apply ByteArray.ext
          apply Array.toList_inj.1
          simp [List.map_map, Function.comp_def]
        exact congrArg (fun z => Result.ok (Value.string z) w) this
      · trivial
    · trivial
  · exact opBytesToString0_ok hx

/-! ### a sum of strings -/
def opConcat (x y : SV) : OR :=
  match x, y with
  | .bts c a, .bts d b => if a.length + b.length ≤ 4611686018427387904 then .pure (.bts (c && d) (a ++ b)) .tt else .bad
  | x, y => match x.val?, y.val? with
    | some (.string a), some (.string b) => .pure (.val (.string (a ++ b))) (.pr (a.size + b.size ≤ 9223372036854775807))
    | _, _ => .bad
theorem opConcat_ok {P : Program} {η : Env} {hp : List SO} {ty : TypeId} {x y : SV} {vx vy : Value} (hx : R η x vx) (hy : R η y vy) :
    OrOk η hp (fun w => (binOp .add ty vx vy).run P w) (opConcat x y) := by
  unfold opConcat
  split
  · rename_i c a d b
    simp only [R] at hx hy
    subst hx; subst hy
    split
    · rename_i h
      refine OrOk.value (v := .string ⟨(a ++ b).toArray⟩) (by simp only [R]) fun w => ?_
      rw [binOp_string_add, run_string_add_sum, ByteArray.mk_append_mk]
      simp [ByteArray.size]; omega
    · trivial
  · split
    · rename_i a b h1 h2
      have e1 := SV.val?_R h1 hx
      have e2 := SV.val?_R h2 hy
      subst e1; subst e2
      intro hc B w hr; simp only [Cnd.Is] at hc
      exact ⟨.string (a ++ b), by simp only [R], by simp only []; rw [binOp_string_add, run_string_add_sum _ _ _ hc]⟩
    · trivial

/-! ### == and != -/
/-- Told or untold, as a value. -/
def SV.vals : List SV → Option (List Value)
  | [] => some []
  | s :: l => match s.val?, SV.vals l with
    | some v, some r => some (v :: r)
    | _, _ => none
theorem SV.vals_R {η : Env} : ∀ {l : List SV} {xs vs : List Value}, SV.vals l = some xs → Rs η l vs → vs = xs
  | [], xs, vs, h, hvs => by simp [SV.vals] at h; simp only [Rs] at hvs; rw [hvs, ← h]
  | s :: l, xs, vs, h, hvs => by
    obtain ⟨v, r, rfl, hv, hr⟩ := hvs.cons_inv
    simp only [SV.vals] at h
    split at h
    · rename_i a b ha hb
      simp at h; subst h
      rw [SV.val?_R ha hv, SV.vals_R hb hr]
    · simp at h

/-- Are two values of a type the same? -/
def eqB (P : Program) : Nat → TypeId → Value → Value → Option Bool
  | 0, _, _, _ => none
  | d + 1, t, x, y =>
    match P.underlying t, x, y with
    | some .bool, .bool a, .bool b => some (a == b)
    | some (.int _), .int k a, .int k' b => if k = k' then some (a == b) else none
    | some .string, .string a, .string b => some (a == b)
    | some (.array len e), .agg xs, .agg ys =>
      match tsize P e, tagg P e with
      | some 1, some false => if xs.size = len ∧ ys.size = len then
          (xs.toList.zip ys.toList).foldr (fun (p : Value × Value) (r : Option Bool) => match eqB P d e p.1 p.2, r with | some a, some b => some (a && b) | _, _ => none) (some true)
        else none
      | _, _ => none
    | some (.struct fs), .agg xs, .agg ys =>
      if P.stoodInHeld t then none else
      fs.toList.foldr (fun (f : Field) (r : Option Bool) =>
        if f.name = "_" then r else
        match tagg P f.type with
        | some false => match xs[f.offset]?, ys[f.offset]? with
          | some a, some b => match eqB P d f.type a b, r with | some a, some b => some (a && b) | _, _ => none
          | _, _ => none
        | some true => match tsize P f.type with
          | some n => match eqB P d f.type (.agg (xs.extract f.offset (f.offset + n))) (.agg (ys.extract f.offset (f.offset + n))), r with | some a, some b => some (a && b) | _, _ => none
          | none => none
        | none => none) (some true)
    | _, _, _ => none
end Go.Ex
namespace Go.Ex
open Go.RowKit (Below)

/-- These cells hold bytes. -/
def inBs : List SV → Prop
  | [] => True
  | .val (.int .u8 z) :: l => (0 ≤ z ∧ z < 256) ∧ inBs l
  | .num .u8 z :: l => (0 ≤ z ∧ z < 256) ∧ inBs l
  | _ :: _ => False
theorem inBs_get : ∀ {l : List SV} {i : Nat} {c : SV}, inBs l → l[i]? = some c → ∀ {η : Env} {v : Value}, R η c v → v = .int .u8 (cellB c).toNat
  | [], i, c, _, h, η, v, _ => by simp at h
  | x :: l, i, c, hl, h, η, v, hR => by
    have hx : (∃ z : Int, (0 ≤ z ∧ z < 256) ∧ (x = .val (.int .u8 z) ∨ x = .num .u8 z)) ∧ inBs l := by
      unfold inBs at hl
      split at hl
      · rename_i e; cases e
      · rename_i z l' e
        obtain ⟨rfl, rfl⟩ := List.cons.inj e
        exact ⟨⟨z, hl.1, .inl rfl⟩, hl.2⟩
      · rename_i z l' e
        obtain ⟨rfl, rfl⟩ := List.cons.inj e
        exact ⟨⟨z, hl.1, .inr rfl⟩, hl.2⟩
      · exact hl.elim
    obtain ⟨⟨z, hz, hxz⟩, hr⟩ := hx
    cases i with
    | zero =>
      simp at h
      subst h
      have e : (UInt8.ofNat z.toNat).toNat = z.toNat := by
        rw [UInt8.toNat_ofNat']; omega
      rcases hxz with rfl | rfl
      · simp only [R] at hR
        subst hR
        show Value.int .u8 z = .int .u8 ((UInt8.ofNat z.toNat).toNat : Int)
        rw [e]; congr 1; omega
      · simp only [R] at hR
        subst hR
        show Value.int .u8 z = .int .u8 ((UInt8.ofNat z.toNat).toNat : Int)
        rw [e]; congr 1; omega
    | succ i => exact inBs_get hr (by simpa using h) hR
/-- A row of bytes of one's own, said as a text. -/
theorem HR.own_say {B : Nat} {η : Env} {hp : List SO} {w : World} (h : HR B η hp w) {k : Nat} {e : TypeId} {n kc : Nat} {l : List SV} (hk : hp[k]? = some (.own e 1 n kc l)) (T : ByteArray) (hT : T.size = n)
    (hc : ∀ (i : Nat) (c : SV), l[i]? = some c → ∃ b, T.data.toList[i]? = some b ∧ ∀ (v : Value), R η c v → v = .int .u8 b.toNat) : HR B η (hp.set k (.otx e kc T)) w := by
  have hlt : k < hp.length := (List.getElem?_eq_some_iff.1 hk).1
  have get : ∀ (j : Nat) (o : SO), (hp.set k (.otx e kc T))[j]? = some o → (j = k ∧ o = .otx e kc T) ∨ (j ≠ k ∧ hp[j]? = some o) := by
    intro j o hj
    by_cases e : j = k
    · subst e
      rw [List.getElem?_set_self hlt] at hj
      exact .inl ⟨rfl, (Option.some.inj hj).symm⟩
    · rw [List.getElem?_set_ne (Ne.symm e)] at hj
      exact .inr ⟨e, hj⟩
  have row : ∀ (j : Nat) (o : SO) (w1 : Bool) (l1 : List SV), (hp.set k (.otx e kc T))[j]? = some o → o.row = some (w1, l1) → ∃ o' l2, hp[j]? = some o' ∧ o'.row = some (w1, l2) := by
    intro j o w1 l1 hj hr
    rcases get j o hj with ⟨rfl, rfl⟩ | ⟨_, h'⟩
    · simp only [SO.row, Option.some.injEq, Prod.mk.injEq] at hr
      obtain ⟨rfl, rfl⟩ := hr
      exact ⟨_, _, hk, rfl⟩
    · exact ⟨_, _, h', hr⟩
  obtain ⟨g, c, xs, q1, q2, q3, q4, q5⟩ := (h.blk k _ hk).2
  have hxl : xs.length = n := by have := q3.1; omega
  have hll : l.length = n := by rw [← q4.length]; exact hxl
  have hTl : T.data.toList.length = n := by rw [Array.length_toList]; exact hT
  have hxs : xs = strC T := by
    refine List.ext_getElem? fun i => ?_
    unfold strC
    rw [List.getElem?_map]
    by_cases hi : i < n
    · have hli := List.getElem?_eq_getElem (l := l) (i := i) (by omega)
      obtain ⟨b, hb, hv⟩ := hc i _ hli
      obtain ⟨v, hv1, hv2⟩ := q4.get hli
      rw [hv1, hb, hv v hv2]; rfl
    · rw [List.getElem?_eq_none (by omega), List.getElem?_eq_none (by omega)]; rfl
  refine ⟨by rw [h.len]; simp, fun j o hj => ?_, ?_⟩
  · rcases get j o hj with ⟨rfl, rfl⟩ | ⟨_, h'⟩
    · refine ⟨fun wr' l1 hro => ?_, g, c, q1, q2, ?_⟩
      · simp only [SO.row, Option.some.injEq, Prod.mk.injEq] at hro
        obtain ⟨rfl, rfl⟩ := hro
        obtain ⟨b, p, e1, e2, e3, e4⟩ := (h.blk j _ hk).1 true l rfl
        refine ⟨b, p, e1, e2, e3, fun i s hi => ?_⟩
        unfold textCells at hi
        rw [List.getElem?_map] at hi
        obtain ⟨x, hx, rfl⟩ := Option.map_eq_some_iff.1 hi
        have hlt2 : i < l.length := by
          have := (List.getElem?_eq_some_iff.1 hx).1
          omega
        have h0 := List.getElem?_eq_getElem hlt2
        obtain ⟨⟨v, v1, v2, v3⟩, v4⟩ := e4 i _ h0
        obtain ⟨b', hb', hv'⟩ := hc i _ h0
        rw [hx] at hb'
        obtain rfl := Option.some.inj hb'
        refine ⟨⟨v, v1, ?_, v3⟩, v4⟩
        unfold byteSV
        simp only [Bool.false_eq_true, if_false, R]
        exact hv' v v2
      · rw [← hxs, hT]; exact q3
    · exact h.blk j o h'
  · intro k₁ k₂ s₁ s₂ l₁ wr₂ l₂ b₁ o₁ b₂ o₂ h1 r1 h2 r2 hne e1 e2
    obtain ⟨p1, m1, t1, u1⟩ := row _ _ _ _ h1 r1
    obtain ⟨p2, m2, t2, u2⟩ := row _ _ _ _ h2 r2
    exact h.apart k₁ k₂ p1 p2 m1 wr₂ m2 b₁ o₁ b₂ o₂ t1 u1 t2 u2 hne e1 e2
/-- A row of one's own, by its values. -/
theorem HR.own_says {B : Nat} {η : Env} {hp : List SO} {w : World} (h : HR B η hp w) {k : Nat} {e : TypeId} {sz n kc : Nat} {l : List SV} (hk : hp[k]? = some (.own e sz n kc l)) (L : List Value) (hT : L.length = n * sz)
    (hc : ∀ (i : Nat) (c : SV), l[i]? = some c → ∃ x, L[i]? = some x ∧ ∀ (v : Value), R η c v → v = x) : HR B η (hp.set k (.ows e sz n kc L)) w := by
  have hlt : k < hp.length := (List.getElem?_eq_some_iff.1 hk).1
  have get : ∀ (j : Nat) (o : SO), (hp.set k (.ows e sz n kc L))[j]? = some o → (j = k ∧ o = .ows e sz n kc L) ∨ (j ≠ k ∧ hp[j]? = some o) := by
    intro j o hj
    by_cases e : j = k
    · subst e
      rw [List.getElem?_set_self hlt] at hj
      exact .inl ⟨rfl, (Option.some.inj hj).symm⟩
    · rw [List.getElem?_set_ne (Ne.symm e)] at hj
      exact .inr ⟨e, hj⟩
  have row : ∀ (j : Nat) (o : SO) (w1 : Bool) (l1 : List SV), (hp.set k (.ows e sz n kc L))[j]? = some o → o.row = some (w1, l1) → ∃ o' l2, hp[j]? = some o' ∧ o'.row = some (w1, l2) := by
    intro j o w1 l1 hj hr
    rcases get j o hj with ⟨rfl, rfl⟩ | ⟨_, h'⟩
    · simp only [SO.row, Option.some.injEq, Prod.mk.injEq] at hr
      obtain ⟨rfl, rfl⟩ := hr
      exact ⟨_, _, hk, rfl⟩
    · exact ⟨_, _, h', hr⟩
  obtain ⟨g, c, xs, q1, q2, q3, q4, q5⟩ := (h.blk k _ hk).2
  have hxl : xs.length = n * sz := q3.1
  have hll : l.length = n * sz := by rw [← q4.length]; exact hxl
  have hTl : L.length = n * sz := hT
  have hxs : xs = L := by
    refine List.ext_getElem? fun i => ?_
    by_cases hi : i < n * sz
    · have hli := List.getElem?_eq_getElem (l := l) (i := i) (by omega)
      obtain ⟨b, hb, hv⟩ := hc i _ hli
      obtain ⟨v, hv1, hv2⟩ := q4.get hli
      rw [hv1, hb, hv v hv2]
    · rw [List.getElem?_eq_none (by omega), List.getElem?_eq_none (by omega)]
  refine ⟨by rw [h.len]; simp, fun j o hj => ?_, ?_⟩
  · rcases get j o hj with ⟨rfl, rfl⟩ | ⟨_, h'⟩
    · refine ⟨fun wr' l1 hro => ?_, g, c, q1, q2, ?_⟩
      · simp only [SO.row, Option.some.injEq, Prod.mk.injEq] at hro
        obtain ⟨rfl, rfl⟩ := hro
        obtain ⟨b, p, e1, e2, e3, e4⟩ := (h.blk j _ hk).1 true l rfl
        refine ⟨b, p, e1, e2, e3, fun i s hi => ?_⟩
        rw [List.getElem?_map] at hi
        obtain ⟨x, hx, rfl⟩ := Option.map_eq_some_iff.1 hi
        have hlt2 : i < l.length := by
          have := (List.getElem?_eq_some_iff.1 hx).1
          omega
        have h0 := List.getElem?_eq_getElem hlt2
        obtain ⟨⟨v, v1, v2, v3⟩, v4⟩ := e4 i _ h0
        obtain ⟨b', hb', hv'⟩ := hc i _ h0
        rw [hx] at hb'
        obtain rfl := Option.some.inj hb'
        refine ⟨⟨v, v1, ?_, v3⟩, v4⟩
        simp only [R]
        exact hv' v v2
      · rw [← hxs]; exact q3
    · exact h.blk j o h'
  · intro k₁ k₂ s₁ s₂ l₁ wr₂ l₂ b₁ o₁ b₂ o₂ h1 r1 h2 r2 hne e1 e2
    obtain ⟨p1, m1, t1, u1⟩ := row _ _ _ _ h1 r1
    obtain ⟨p2, m2, t2, u2⟩ := row _ _ _ _ h2 r2
    exact h.apart k₁ k₂ p1 p2 m1 wr₂ m2 b₁ o₁ b₂ o₂ t1 u1 t2 u2 hne e1 e2
/-- Values, told. -/
def valsOf : List SV → Option (List Value)
  | [] => some []
  | s :: r => match s.val?, valsOf r with
    | some v, some l => some (v :: l)
    | _, _ => none
theorem valsOf_get : ∀ {l : List SV} {V : List Value}, valsOf l = some V → V.length = l.length ∧ ∀ (i : Nat) (c : SV), l[i]? = some c → ∃ x, V[i]? = some x ∧ ∀ {η : Env} {v : Value}, R η c v → v = x
  | [], V, h => by simp only [valsOf, Option.some.injEq] at h; subst h; exact ⟨rfl, by simp⟩
  | s :: r, V, h => by
    simp only [valsOf] at h
    split at h
    · rename_i v l hv hl
      simp only [Option.some.injEq] at h; subst h
      obtain ⟨h1, h2⟩ := valsOf_get hl
      refine ⟨by simp [h1], fun i c hi => ?_⟩
      cases i with
      | zero => simp at hi; subst hi; exact ⟨v, rfl, fun hR => SV.val?_R hv hR⟩
      | succ i => simpa using h2 i c (by simpa using hi)
    · simp at h
theorem vals_Rs {η : Env} : ∀ L : List Value, Rs η (L.map SV.val) L
  | [] => Rs.nil
  | x :: L => Rs.cons (by simp only [R]) (vals_Rs L)
/-! ### a string to bytes -/
def opStringToBytes0 (P : Program) (hp : List SO) (src dst : TypeId) (x : SV) : OR :=
  match x, P.underlying src, P.underlying dst with
  | .bts told l, some .string, some (.slice e) =>
    match P.underlying e with
    | some (.int .u8) => if l.length ≤ 1000000000 then .mem (.sle hp.length 0 l.length (hp.length + 1)) (hp ++ [.own e 1 l.length (hp.length + 1) (l.map (byteSV told))] ++ [.dead]) .tt else .bad
    | _ => .bad
  | _, _, _ => .bad

theorem bytesWorld_below (w : World) (e : TypeId) (s : ByteArray) : Below w.heap.size w (Lib.bytesWorld w e s) := by
  refine ⟨?_, ?_, ?_, ?_, fun k hk => Lib.bytesWorld_at_old w e s k hk⟩
  · rfl
  · rfl
  · rfl
  · rw [Lib.bytesWorld_size]; omega

theorem opStringToBytes0_ok {P : Program} {η : Env} {hp : List SO} {src dst : TypeId} {x : SV} {vx : Value} (hx : R η x vx) :
    OrOk η hp (fun w => (convert src dst vx).run P w) (opStringToBytes0 P hp src dst x) := by
  unfold opStringToBytes0
  split
  · rename_i told l e hs hd
    simp only [R] at hx
    subst hx
    split
    · rename_i he
      split
      rotate_left
      · trivial
      rename_i hmax
      intro _ B w hr hB
      have hsz : (⟨l.toArray⟩ : ByteArray).size = l.length := by show l.toArray.size = _; simp
      have hcap : l.length ≤ grownCap w l.length 0 e := by
        unfold grownCap; simp [Question.cut]
      refine ⟨.slice (some ⟨w.heap.size, 0, none⟩) l.length (grownCap w l.length 0 e), Lib.bytesWorld w e ⟨l.toArray⟩, [.pointer (some ⟨w.heap.size, 0, none⟩), .slice none 0 (grownCap w l.length 0 e)], ?_, ?_, ?_, ?_⟩
      · have := Lib.run_convert_string_bytes (P := P) w src dst e ⟨l.toArray⟩ hs hd he
        rw [hsz] at this
        exact this
      · simp only [R]
        exact ⟨w.heap.size, 0, _, by rw [← hr.len]; simp, by rw [← hr.len]; simp, hcap, rfl⟩
      · have hg := hr.grow hB (bytesWorld_below w e ⟨l.toArray⟩) (by rw [Lib.bytesWorld_size]; omega) (l.map (byteSV told)) (fun i s hi => by
          rw [List.getElem?_map] at hi
          obtain ⟨b, hb, rfl⟩ := Option.map_eq_some_iff.1 hi
          have hlt : i < l.length := (List.getElem?_eq_some_iff.1 hb).1
          have hc := Lib.bytesWorld_cell w e ⟨l.toArray⟩ i (by rw [hsz]; exact hlt)
          have hget : (l.toArray.toList.getD i 0) = b := by
            simp [List.getD, hb]
          refine ⟨⟨.int .u8 b.toNat, ?_, ?_, rfl⟩, fun _ => ?_⟩
          · rw [hc]; simp only [] ; rw [hget]
          · unfold byteSV; split <;> simp only [R]
          · have hn := Lib.bytesWorld_at_new w e ⟨l.toArray⟩
            simp only [World.frozen?, hn]
            have : ¬ (Lib.bytesCells w e ⟨l.toArray⟩).size ≤ i := by
              simp [Lib.bytesCells]; omega
            simp [this])
        have hp1 := hg.pad (μ := [.slice none 0 (grownCap w l.length 0 e)])
        have hcm : grownCap w l.length 0 e ≤ maxLen := grownCap_le_maxLen w l.length 0 e (by simp only [maxLen]; omega)
        have hbs : (Lib.bytesCells w e ⟨l.toArray⟩).size = grownCap w l.length 0 e := by
          simp only [Lib.bytesCells, Array.size_append, Array.size_map, Array.size_replicate, hsz]
          show l.toArray.size + _ = _
          simp; omega
        have hown : ownsZ (Lib.bytesWorld w e ⟨l.toArray⟩) B e 1 (.slice (some ⟨w.heap.size, 0, none⟩) l.length (grownCap w l.length 0 e)) l.length (l.map fun b => Value.int .u8 b.toNat) := by
          refine ⟨by simp, .inr ⟨w.heap.size, _, _, rfl, hB, ⟨_, Lib.bytesWorld_at_new w e ⟨l.toArray⟩, fun i hi q => ?_⟩, hcap, hcm, by rw [hbs]; simp, ?_⟩⟩
          · have := q.1; simp only [] at this; omega
          · simp [Lib.bytesCells, List.take_left']
        have hp2 := hp1.turn (k := hp.length) (so := .cells true (l.map (byteSV told))) (so' := .own e 1 l.length (hp.length + 1) (l.map (byteSV told))) (by simp) rfl
          ⟨w.heap.size, _, _, by rw [← hr.len]; simp, by rw [← hr.len]; simp, hown, ?_, ?_⟩
        · simpa [List.set_append] using hp2
        · have key : ∀ (ζ : Env) (l : List UInt8), Rs ζ (l.map (byteSV told)) (l.map fun b => Value.int .u8 b.toNat) := by
            intro ζ l
            induction l with
            | nil => exact Rs.nil
            | cons b l ih => exact Rs.cons (by unfold byteSV; split <;> simp only [R]) ih
          exact key _ l
        · intro x hx
          obtain ⟨b, _, rfl⟩ := List.mem_map.1 hx
          rfl
      · exact (bytesWorld_below w e _).mono hB
    · trivial
  · trivial

def opStringToBytes (P : Program) (hp : List SO) (src dst : TypeId) (x : SV) : OR :=
  match x with
  | .val (.string s) =>
    match P.underlying src, P.underlying dst with
    | some .string, some (.slice e) =>
      match P.underlying e with
      | some (.int .u8) => .mem (.slo hp.length s.size (hp.length + 1)) (hp ++ [.otx e (hp.length + 1) s] ++ [.dead]) (.pr (s.size ≤ 1000000000))
      | _ => .bad
    | _, _ => .bad
  | x => opStringToBytes0 P hp src dst x
theorem opStringToBytes_ok {P : Program} {η : Env} {hp : List SO} {src dst : TypeId} {x : SV} {vx : Value} (hx : R η x vx) :
    OrOk η hp (fun w => (convert src dst vx).run P w) (opStringToBytes P hp src dst x) := by
  unfold opStringToBytes
  split
  · rename_i s
    simp only [R] at hx
    subst hx
    split
    · rename_i e hs hd
      split
      · rename_i he
        intro (hc : s.size ≤ 1000000000)
        have hl : s.data.toList.length ≤ 1000000000 := by rw [Array.length_toList]; exact hc
        have key := opStringToBytes0_ok (P := P) (η := η) (hp := hp) (src := src) (dst := dst) (x := .bts false s.data.toList) (vx := .string s) (by simp only [R])
        unfold opStringToBytes0 at key
        simp only [hs, hd, he, hl, if_true] at key
        intro B w hr hB
        obtain ⟨v, w', μ, h1, h2, h3, h4⟩ := key trivial B w hr hB
        have e1 : s.data.toList.length = s.size := by rw [Array.length_toList]; rfl
        rw [e1] at h2 h3
        have h5 := HR.own_say (k := hp.length) (e := e) (n := s.size) (kc := hp.length + 1) (l := s.data.toList.map (byteSV false)) h3 (by simp) s rfl (fun i c hc => by
          rw [List.getElem?_map] at hc
          obtain ⟨x, hx, rfl⟩ := Option.map_eq_some_iff.1 hc
          exact ⟨x, hx, fun v hv => by unfold byteSV at hv; simpa only [Bool.false_eq_true, if_false, R] using hv⟩)
        refine ⟨v, w', μ, h1, ?_, by simpa [List.set_append] using h5, h4⟩
        obtain ⟨b, o, c, q1, q2, q3, q4⟩ := h2
        exact ⟨b, o, c, q1, q2, q3, q4⟩
      · trivial
    · trivial
  · exact opStringToBytes0_ok hx

/-! ### a slice, laid -/
def opBuildSlice (P : Program) (hp : List SO) (ty : TypeId) (len : Nat) (parts : List (Nat × SV)) : OR :=
  match P.underlying ty with
  | some (.slice e) =>
    match P.info? e with
    | some ie =>
      match ie.zero with
      | some z =>
        if len * ie.size ≤ 2 ^ 24 then
          match svFill (fun i => some (i * ie.size, ie.size)) (((Array.range (len * ie.size)).map (z.cells[· % z.cells.size]!)).toList.map ofV1) parts with
          | some l => if l.all SV.one then .mem (.slc hp.length 0 len len) (hp ++ [.cells true l]) .tt else .bad
          | none => .bad
        else .bad
      | none => .bad
    | none => .bad
  | _ => .bad

theorem Rs.ones {η : Env} : ∀ {l : List SV} {vs : List Value}, l.all SV.one = true → Rs η l vs → ∀ v ∈ vs, v.oneCell' = true
  | [], vs, _, h => by simp only [Rs] at h; subst h; simp
  | s :: l, vs, ha, h => by
    obtain ⟨v, r, rfl, hv, hr⟩ := h.cons_inv
    simp only [List.all_cons, Bool.and_eq_true] at ha
    intro x hx
    rcases List.mem_cons.1 hx with rfl | hx
    · exact SV.one_R ha.1 hv
    · exact Rs.ones ha.2 hr x hx

theorem opBuildSlice_ok {P : Program} {η : Env} {hp : List SO} {ty : TypeId} {len : Nat} {parts : List (Nat × SV)} {vparts : Array (Nat × Value)}
    (h1 : parts.map (·.1) = vparts.toList.map (·.1)) (h2 : Rs η (parts.map (·.2)) (vparts.toList.map (·.2))) :
    OrOk η hp (fun w => (Instr.buildSlice ty len vparts).run P w) (opBuildSlice P hp ty len parts) := by
  unfold opBuildSlice
  split
  · rename_i e hu
    split
    · rename_i ie hi
      split
      · rename_i z hz
        split
        · rename_i hle
          split
          · rename_i l hl
            split
            · rename_i hone
              intro _ B w hr hB
              obtain ⟨us, hus, hR⟩ := svFill_ok parts vparts.toList _ ((Array.range (len * ie.size)).map (z.cells[· % z.cells.size]!)) l h1 h2 (ofV1s_R η _) hl
              have hz' : (zeroValue e).run P w = .ok z w := by simp [zeroValue, typeInfo, hi, hz]
              have hsz : (sizeOf e).run P w = .ok ie.size w := by simp [sizeOf, typeInfo, hi]
              refine ⟨.slice (some ⟨w.heap.size, 0, none⟩) len len, w.alloc (.cells us e), [.pointer (some ⟨w.heap.size, 0, none⟩)], ?_, ?_, ?_, ?_⟩
              · have hng : ¬ len * ie.size > 2 ^ 24 := Nat.not_lt.2 hle
                by_cases h0 : len * ie.size = 0
                · rw [h0] at hus
                  simp [Array.range_zero'] at hus
                  simp [Instr.buildSlice, run_underlying hu, hsz, h0, hus, newRow, Array.range_zero']
                · simp [Instr.buildSlice, run_underlying hu, hsz, hng, h0, hz', hus, newRow]
              · simp only [R]
                exact ⟨w.heap.size, 0, by rw [← hr.len]; simp, by simp⟩
              · have := hr.alloc hB l us.toList e hR (Rs.ones hone hR)
                simpa using this
              · exact (Below.refl _ _).alloc hB _
            · trivial
          · trivial
        · trivial
      · trivial
    · trivial
  · trivial

/-! ### append -/
def newsOf (hp : List SO) (size : Nat) : SV → Option (Nat × List SV)
  | .slc k off m _ => match (hp[k]?).bind SO.told with
    | some l => if off + m * size ≤ l.length then some (m, (l.drop off).take (m * size)) else none
    | none => none
  | .sle k off m _ => match (hp[k]?).bind SO.told with
    | some l => if off + m * size ≤ l.length then some (m, (l.drop off).take (m * size)) else none
    | none => none
  | _ => none
theorem newsOf_ok {hp : List SO} {size m : Nat} {y : SV} {nl : List SV} (h : newsOf hp size y = some (m, nl)) {B : Nat} {η : Env} {w : World} (hr : HR B η hp w) {vy : Value} (hy : R η y vy) :
    ∃ a c news, vy = .slice (some a) m c ∧ news.length = m * size ∧ Rs η nl news ∧ (∀ j u, news[j]? = some u → w.cell? (a.add j) = some u) ∧ ∀ u ∈ news, u.oneCell' = true := by
  have gen : ∀ (k off : Nat) (b o c : Nat) (l : List SV), (hp[k]?).bind SO.told = some l → off + m * size ≤ l.length → η[k]? = some (.pointer (some ⟨b, o, none⟩)) → nl = (l.drop off).take (m * size) → vy = .slice (some ⟨b, o + off, none⟩) m c →
      ∃ a c news, vy = .slice (some a) m c ∧ news.length = m * size ∧ Rs η nl news ∧ (∀ j u, news[j]? = some u → w.cell? (a.add j) = some u) ∧ ∀ u ∈ news, u.oneCell' = true := by
    intro k off b o c l hkb hle he hnl hv
    obtain ⟨so, hk, hto⟩ := Option.bind_eq_some_iff.1 hkb
    obtain ⟨vs, hvs, hc⟩ := (hr.blk k _ hk).row hto he
    have hlen := hvs.length
    have at' : ∀ j u, ((vs.drop off).take (m * size))[j]? = some u → w.cell? ⟨b, o + off + j, none⟩ = some u ∧ u.oneCell' = true := by
      intro j u hj
      have h1 : j < m * size := by
        have := (List.getElem?_eq_some_iff.1 hj).1
        simp at this; omega
      rw [List.getElem?_take_of_lt h1, List.getElem?_drop] at hj
      have := hc _ _ hj
      rwa [← Nat.add_assoc] at this
    refine ⟨⟨b, o + off, none⟩, c, (vs.drop off).take (m * size), hv, ?_, by rw [hnl]; exact (hvs.drop off).take _, fun j u hj => ?_, fun u hu => ?_⟩
    · rw [List.length_take, List.length_drop]; omega
    · rw [add_at]; exact (at' j u hj).1
    · obtain ⟨j, hj⟩ := List.mem_iff_getElem?.1 hu
      exact (at' j u hj).2
  unfold newsOf at h
  split at h
  · rename_i k off m' cap
    split at h
    · rename_i l hkb
      split at h
      · rename_i hle
        simp only [Option.some.injEq, Prod.mk.injEq] at h
        obtain ⟨rfl, rfl⟩ := h
        obtain ⟨b, o, he, hv⟩ := hy
        exact gen k off b o cap l hkb hle he rfl hv
      · simp at h
    · simp at h
  · rename_i k off m' kc
    split at h
    · rename_i l hkb
      split at h
      · rename_i hle
        simp only [Option.some.injEq, Prod.mk.injEq] at h
        obtain ⟨rfl, rfl⟩ := h
        obtain ⟨b, o, c, he, _, _, hv⟩ := hy
        exact gen k off b o c l hkb hle he rfl hv
      · simp at h
    · simp at h
  · simp at h

theorem HR.appended {B : Nat} {η : Env} {hp : List SO} {w w' : World} (h : HR B η hp w) (hB : B ≤ w.heap.size) {row : Option Nat} (hg : w.grownBy w' row)
    (hrow : ∀ g', row = some g' → B ≤ g' ∧ ∀ (k : Nat) (o : SO) (wr : Bool) (l : List SV) (b p : Nat), hp[k]? = some o → o.row = some (wr, l) → η[k]? = some (.pointer (some ⟨b, p, none⟩)) → b ≠ g')
    (hcl : ∀ g', row = some g' → ∃ cs e f, w.heap[g']? = some (.cells cs e f))
    {e : TypeId} {size n g c : Nat} {xs : List Value} (hown : ownsZ w' B e size (.slice (some ⟨g, 0, none⟩) n c) n xs) (hgg : row = some g ∨ g = w.heap.size) {l : List SV} (hl : Rs η l xs) (h1 : ∀ x ∈ xs, x.oneCell' = true) :
    HR B (η ++ [.pointer (some ⟨g, 0, none⟩), .slice none 0 c]) (hp ++ [.own e size n (hp.length + 1) l] ++ [.dead]) w' ∧ Below B w w' := by
  have hbel : Below B w w' := ⟨hg.os, hg.tape, hg.output, hg.size, fun k hk => hg.block k (Nat.lt_of_lt_of_le hk hB) (fun e => by
    have := (hrow k e.symm).1; omega)⟩
  have same : ∀ (k : Nat) (o : SO) (wr : Bool) (m : List SV) (b p : Nat), hp[k]? = some o → o.row = some (wr, m) → η[k]? = some (.pointer (some ⟨b, p, none⟩)) → b < w.heap.size → w'.heap[b]? = w.heap[b]? := by
    intro k o wr m b p hk hr he hb
    refine hg.block b hb fun e => ?_
    exact (hrow b e.symm).2 k o wr m b p hk hr he rfl
  have hmap : ∀ (r : Nat) (ob : Obj), w.heap[r]? = some ob → isC ob = false → w'.heap[r]? = w.heap[r]? := by
    intro r ob hr hob
    refine hg.block r (Array.getElem?_eq_some_iff.1 hr).1 fun q => ?_
    obtain ⟨cs, e', f, hc⟩ := hcl r q.symm
    rw [hr] at hc
    cases hc
    simp [isC] at hob
  have oldB : ∀ (k : Nat) (o : SO), hp[k]? = some o → BR B η w' k o := by
    intro k o hk
    have hb := h.blk k o hk
    refine ⟨fun wr m hr => ?_, ?_⟩
    · obtain ⟨b, p, e1, e2, e3, e4⟩ := hb.1 wr m hr
      have hs := same k o wr m b p hk hr e1 e2
      refine ⟨b, p, e1, Nat.lt_of_lt_of_le e2 hg.size, e3, fun j s hj => ?_⟩
      obtain ⟨⟨v, q1, q2, q3⟩, q4⟩ := e4 j s hj
      exact ⟨⟨v, by rw [World.cell?_of_block (w := w) hs]; exact q1, q2, q3⟩, fun hw => by rw [World.frozen?_of_block (w := w) hs]; exact q4 hw⟩
    · cases hro : o.row with
      | none => simpa using hb.2.keepN (μ := []) hro hmap
      | some pr =>
        have := hb.2.keep (μ := []) (w' := w') (hm := hmap) fun g' hg' hlt => same k o pr.1 pr.2 g' 0 hk hro hg' hlt
        simpa using this
  have hlt : g < w'.heap.size := (hown.lt g rfl).2
  have hBg : B ≤ g := (hown.lt g rfl).1
  have get : ∀ {k : Nat} {o : SO}, (hp ++ [SO.own e size n (hp.length + 1) l] ++ [SO.dead])[k]? = some o → (k < hp.length ∧ hp[k]? = some o) ∨ (k = hp.length ∧ o = .own e size n (hp.length + 1) l) ∨ o = .dead := by
    intro k o hk
    by_cases c1 : k < hp.length
    · rw [List.append_assoc, List.getElem?_append_left c1] at hk
      exact .inl ⟨c1, hk⟩
    · by_cases c2 : k = hp.length
      · subst c2
        simp at hk
        exact .inr (.inl ⟨rfl, hk.symm⟩)
      · have hlen := (List.getElem?_eq_some_iff.1 hk).1
        simp at hlen
        have c3 : k = hp.length + 1 := by omega
        subst c3
        simp at hk
        exact .inr (.inr hk.symm)
  have eg : (η ++ [Value.pointer (some ⟨g, 0, none⟩), .slice none 0 c])[hp.length]? = some (.pointer (some ⟨g, 0, none⟩)) := by rw [← h.len]; simp
  have ec : (η ++ [Value.pointer (some ⟨g, 0, none⟩), .slice none 0 c])[hp.length + 1]? = some (.slice none 0 c) := by rw [← h.len]; simp
  refine ⟨⟨by simp [h.len], fun k o hk => ?_, ?_⟩, hbel⟩
  · rcases get hk with ⟨_, hk⟩ | ⟨rfl, rfl⟩ | rfl
    · exact (oldB k o hk).ext
    · refine ⟨fun wr m hr => ?_, ⟨g, c, xs, eg, ec, hown, hl.ext, h1⟩⟩
      simp only [SO.row, Option.some.injEq, Prod.mk.injEq] at hr
      obtain ⟨rfl, rfl⟩ := hr
      refine ⟨g, 0, eg, hlt, fun _ => hBg, fun j s hj => ?_⟩
      obtain ⟨v, hv, hR⟩ := hl.get hj
      have hc := hown.cells (g := g) rfl j v hv
      rw [add_at] at hc
      refine ⟨⟨v, hc, hR.ext, h1 v (List.mem_of_getElem? hv)⟩, fun _ => ?_⟩
      have := hown.free (List.getElem?_eq_some_iff.1 hv).1
      simpa using this
    · exact ⟨fun wr m hr => by simp [SO.row] at hr, trivial⟩
  · intro k₁ k₂ s₁ s₂ l₁ wr₂ l₂ b₁ o₁ b₂ o₂ hk1 r1 hk2 r2 hne e1 e2
    have old : ∀ {k : Nat} {o : SO} {wr : Bool} {m : List SV} {b p : Nat}, k < hp.length → hp[k]? = some o → o.row = some (wr, m) → (η ++ [Value.pointer (some ⟨g, 0, none⟩), .slice none 0 c])[k]? = some (.pointer (some ⟨b, p, none⟩)) → η[k]? = some (.pointer (some ⟨b, p, none⟩)) ∧ b ≠ g := by
      intro k o wr m b p hlt hk hr he
      rw [List.getElem?_append_left (by rw [h.len]; exact hlt)] at he
      refine ⟨he, ?_⟩
      rcases hgg with hgg | hgg
      · exact (hrow g hgg).2 k o wr m b p hk hr he
      · obtain ⟨b', p', q1, q2, _⟩ := (h.blk k o hk).1 wr m hr
        rw [he] at q1
        simp at q1
        omega
    rcases get hk1 with ⟨c1, g1⟩ | ⟨x1, y1⟩ | y1 <;> rcases get hk2 with ⟨c2, g2⟩ | ⟨x2, y2⟩ | y2
    · exact h.apart k₁ k₂ s₁ s₂ l₁ wr₂ l₂ b₁ o₁ b₂ o₂ g1 r1 g2 r2 hne (old c1 g1 r1 e1).1 (old c2 g2 r2 e2).1
    · have a1 := (old c1 g1 r1 e1).2
      rw [x2, eg] at e2
      simp at e2
      omega
    · rw [y2] at r2; simp [SO.row] at r2
    · have a2 := (old c2 g2 r2 e2).2
      rw [x1, eg] at e1
      simp at e1
      omega
    · exact absurd (x1.trans x2.symm) hne
    · rw [y2] at r2; simp [SO.row] at r2
    · rw [y1] at r1; simp [SO.row] at r1
    · rw [y1] at r1; simp [SO.row] at r1
    · rw [y1] at r1; simp [SO.row] at r1

/-- Onto a row that is full: what is new lies in a new block. -/
theorem append_full {P : Program} (w : World) (base : Nat) (t ty e : TypeId) (i : TypeInfo) (z : Value) (ht : P.underlying t = some (.slice e)) (hi : P.info? e = some i) (hz : i.zero = some z)
    (hzs : z.cells.size = i.size) (b : Addr) (n : Nat) (xs : List Value) (hlo : xs.length = n * i.size) (holds : ∀ j v, xs[j]? = some v → w.cell? (b.add j) = some v)
    (a : Addr) (m c : Nat) (news : List Value) (hl : news.length = m * i.size) (hnews : ∀ j u, news[j]? = some u → w.cell? (a.add j) = some u)
    (hm : 0 < m) (h63 : n + m ≤ 1000000000) (hbytes : (n + m) * i.bytes ≤ 1000000000) (hbase : base ≤ w.heap.size) :
    ∃ cap w', (Builtin.append_ #[t, t] ty #[.slice (some b) n n, .slice (some a) m c]).run P w = .ok (.slice (some ⟨w.heap.size, 0, none⟩) (n + m) cap) w' ∧
      w'.ownsRow base e i.size (.slice (some ⟨w.heap.size, 0, none⟩) (n + m) cap) (n + m) (xs ++ news) ∧ w.grownBy w' none := by
  have hmax : n + m ≤ maxLen := by simp only [maxLen]; omega
  have hr := run_append_grow (P := P) w t ty e i z ht hi hz b n n xs hlo holds a m c news hl hnews (by omega) (by omega) (growslice_fits (by omega) (by omega))
  have hge := grownCap_ge w (n + m) n e
  have hcm : grownCap w (n + m) n e ≤ maxLen := grownCap_le_maxLen w (n + m) n e hmax
  have hlen : (xs ++ news).length = (n + m) * i.size := by rw [List.length_append, hlo, hl, Nat.add_mul]
  refine ⟨_, _, hr, ⟨hlen, .inr ⟨w.heap.size, _, _, rfl, hbase, heap_alloc_new w.drew _, hge, hcm, ?_, ?_⟩⟩, ⟨rfl, rfl, rfl, by simp, fun k hk _ => heap_alloc_old w.drew _ k hk⟩⟩
  · simp only [Array.size_append, List.size_toArray, size_zeroCells, hzs, hlo, hl, ← Nat.add_mul]
    congr 1
    omega
  · simp only [Array.toList_append, List.append_assoc]
    rw [← List.append_assoc, ← hlen]
    exact List.take_left

def opAppend (P : Program) (hp : List SO) (t : TypeId) (x y : SV) : OR :=
  match P.underlying t with
  | some (.slice e) =>
    match P.info? e with
    | some i =>
      match i.zero, newsOf hp i.size y with
      | some z, some (m, nl) =>
        if 0 < m ∧ z.cells.size = i.size ∧ 0 < i.size then
          match x with
          | .val (.slice none 0 0) => if m ≤ 1000000000 ∧ m * i.bytes ≤ 1000000000 then .mem (.sle hp.length 0 m (hp.length + 1)) (hp ++ [.own e i.size m (hp.length + 1) nl] ++ [.dead]) .tt else .bad
          | .sle k 0 n kc =>
            match hp[k]? with
            | some (.own e' s' n' kc' l) =>
              if e' = e ∧ s' = i.size ∧ n' = n ∧ kc' = kc ∧ n + m ≤ 1000000000 ∧ (n + m) * i.bytes ≤ 1000000000 then
                .mem (.sle hp.length 0 (n + m) (hp.length + 1)) (hp.set k .dead ++ [.own e i.size (n + m) (hp.length + 1) (l ++ nl)] ++ [.dead]) .tt
              else .bad
            | _ => .bad
          | .slo k n kc =>
            match hp[k]? with
            | some (.own e' s' n' kc' l) =>
              if e' = e ∧ s' = i.size ∧ kc' = kc then
                .mem (.slo hp.length (n + m) (hp.length + 1)) (hp.set k .dead ++ [.own e i.size (n + m) (hp.length + 1) (l ++ nl)] ++ [.dead]) (.pr (n' = n ∧ n + m ≤ 1000000000 ∧ (n + m) * i.bytes ≤ 1000000000))
              else .bad
            | some (.otx e' kc' t) =>
              if e' = e ∧ i.size = 1 ∧ kc' = kc then
                .mem (.slo hp.length (n + m) (hp.length + 1)) (hp.set k .dead ++ [.otx e (hp.length + 1) (t ++ ⟨(nl.map cellB).toArray⟩)] ++ [.dead]) (.pr ((t.size = n ∧ n + m ≤ 1000000000 ∧ (n + m) * i.bytes ≤ 1000000000) ∧ inBs nl))
              else .bad
            | some (.ows e' s' n' kc' L) =>
              match valsOf nl with
              | some V =>
                if e' = e ∧ s' = i.size ∧ kc' = kc then
                  .mem (.slo hp.length (n + m) (hp.length + 1)) (hp.set k .dead ++ [.ows e i.size (n + m) (hp.length + 1) (L ++ V)] ++ [.dead]) (.pr (n' = n ∧ n + m ≤ 1000000000 ∧ (n + m) * i.bytes ≤ 1000000000))
                else .bad
              | none => .bad
            | _ => .bad
          | .slc k off n cap =>
            match newsOf hp i.size (.slc k off n cap) with
            | some (n', ol) =>
              if n' = n ∧ cap = n ∧ n + m ≤ 1000000000 ∧ (n + m) * i.bytes ≤ 1000000000 then
                .mem (.sle hp.length 0 (n + m) (hp.length + 1)) (hp ++ [.own e i.size (n + m) (hp.length + 1) (ol ++ nl)] ++ [.dead]) .tt
              else .bad
            | none => .bad
          | _ => .bad
        else .bad
      | _, _ => .bad
    | none => .bad
  | _ => .bad
theorem ownsRow_nil' (w : World) (B : Nat) (e : TypeId) (size : Nat) : w.ownsRow B e size (.slice none 0 0) 0 [] := World.ownsRow_nil w B e size
theorem opAppend_ok {P : Program} {η : Env} {hp : List SO} {t ty : TypeId} {x y : SV} {vx vy : Value} (hx : R η x vx) (hy : R η y vy) :
    OrOk η hp (fun w => (Builtin.append_ #[t, t] ty #[vx, vy]).run P w) (opAppend P hp t x y) := by
  unfold opAppend
  split
  · rename_i e ht
    split
    · rename_i i hi
      split
      · rename_i z m nl hz hn
        split
        · rename_i hcc
          obtain ⟨hm, hzs, hsz⟩ := hcc
          split
          · split
            · rename_i hb
              simp only [R] at hx
              subst hx
              intro _ B w hr hB
              obtain ⟨a, c, news, rfl, hl, hRn, hcn, h1⟩ := newsOf_ok hn hr hy
              obtain ⟨g, cap, w', hrun, hown, hgr, hgg⟩ := append_stepZ (P := P) w B t ty e i z ht hi hz hzs hsz (.slice none 0 0) 0 [] (ownsZ.of (ownsRow_nil' w B e i.size)) a m c news hl hcn h1 hm (by omega) (by simpa using hb.2) hB
              simp only [Nat.zero_add, List.nil_append] at hrun hown
              have hgw : g = w.heap.size := by
                rcases hgg with q | q
                · simp [Value.ownBlock] at q
                · exact q
              obtain ⟨hr', hbel⟩ := hr.appended hB hgr (fun g' q => by simp [Value.ownBlock] at q) (fun g' q => by simp [Value.ownBlock] at q) hown (.inr hgw) hRn h1
              refine ⟨_, w', [.pointer (some ⟨g, 0, none⟩), .slice none 0 cap], hrun, ?_, hr', hbel⟩
              have hcap : m ≤ cap := by
                rcases hown.2 with ⟨q, _⟩ | ⟨g', cap', cur, q, _, _, q4, _⟩
                · cases q
                · injection q with _ _ q
                  omega
              simp only [R]
              exact ⟨g, 0, cap, by rw [← hr.len]; simp, by rw [← hr.len]; simp, hcap, rfl⟩
            · trivial
          · rename_i k n kc
            split
            · rename_i e' s' n' kc' l hk
              split
              · rename_i hb
                obtain ⟨rfl, rfl, rfl, rfl, hb1, hb2⟩ := hb
                obtain ⟨b0, o0, c0, he0, hc0, hle0, rfl⟩ := hx
                intro _ B w hr hB
                obtain ⟨a, c, news, rfl, hl, hRn, hcn, h1⟩ := newsOf_ok hn hr hy
                obtain ⟨g0, c1, xs, f1, f2, f3, f4, f5⟩ := (hr.blk k _ hk).2
                rw [he0] at f1
                simp at f1
                obtain ⟨rfl, rfl⟩ := f1
                rw [hc0] at f2
                simp at f2
                subst f2
                obtain ⟨g, cap, w', hrun, hown, hgr, hgg⟩ := append_stepZ (P := P) w B t ty e' i z ht hi hz hzs hsz (.slice (some ⟨b0, 0, none⟩) n' c0) n' xs f3 a m c news hl hcn h1 hm hb1 hb2 hB
                have hkl : k < hp.length := (List.getElem?_eq_some_iff.1 hk).1
                have hrow : ∀ g', (Value.slice (some (⟨b0, 0, none⟩ : Addr)) n' c0).ownBlock = some g' → B ≤ g' ∧ ∀ (k' : Nat) (o : SO) (wr : Bool) (l' : List SV) (b p : Nat), (hp.set k .dead)[k']? = some o → o.row = some (wr, l') → η[k']? = some (.pointer (some ⟨b, p, none⟩)) → b ≠ g' := by
                  intro g' q
                  simp [Value.ownBlock] at q
                  subst q
                  refine ⟨(f3.lt b0 rfl).1, fun k' o wr l' b p hk' hro he' => ?_⟩
                  by_cases hkk : k = k'
                  · subst hkk
                    rw [List.getElem?_set_self hkl] at hk'
                    simp at hk'; subst hk'; simp [SO.row] at hro
                  · rw [List.getElem?_set_ne hkk] at hk'
                    exact fun e => hr.apart k k' _ o l wr l' b0 0 b p hk rfl hk' hro hkk he0 he' e.symm
                obtain ⟨hr', hbel⟩ := (hr.drop k).appended hB hgr hrow (fun g' q => by
                  simp [Value.ownBlock] at q
                  subst q
                  rcases f3.2 with ⟨q1, _⟩ | ⟨g2, cap2, cur2, q1, _, ⟨fz2, q3, _⟩, _⟩
                  · cases q1
                  · injection q1 with q1 _ _
                    injection q1 with q1
                    injection q1 with q1
                    subst q1
                    exact ⟨_, _, _, q3⟩) hown hgg (f4.append hRn) (fun u hu => by
                  rcases List.mem_append.1 hu with hu | hu
                  · exact f5 u hu
                  · exact h1 u hu)
                rw [List.length_set] at hr'
                refine ⟨_, w', [.pointer (some ⟨g, 0, none⟩), .slice none 0 cap], by simpa using hrun, ?_, hr', hbel⟩
                have hcap : n' + m ≤ cap := by
                  rcases hown.2 with ⟨q, _⟩ | ⟨g', cap', cur, q, _, _, q4, _⟩
                  · cases q
                  · injection q with _ _ q
                    omega
                simp only [R]
                exact ⟨g, 0, cap, by rw [← hr.len]; simp, by rw [← hr.len]; simp, hcap, rfl⟩
              · trivial
            · trivial
          · rename_i k n kc
            split
            · rename_i e' s' n' kc' l hk
              split
              · rename_i hb
                obtain ⟨rfl, rfl, rfl⟩ := hb
                obtain ⟨b0, o0, c0, he0, hc0, hle0, rfl⟩ := hx
                intro (hpr : n' = n ∧ n + m ≤ 1000000000 ∧ (n + m) * i.bytes ≤ 1000000000) B w hr hB
                obtain ⟨rfl, hb1, hb2⟩ := hpr
                obtain ⟨a, c, news, rfl, hl, hRn, hcn, h1⟩ := newsOf_ok hn hr hy
                obtain ⟨g0, c1, xs, f1, f2, f3, f4, f5⟩ := (hr.blk k _ hk).2
                rw [he0] at f1
                simp at f1
                obtain ⟨rfl, rfl⟩ := f1
                rw [hc0] at f2
                simp at f2
                subst f2
                obtain ⟨g, cap, w', hrun, hown, hgr, hgg⟩ := append_stepZ (P := P) w B t ty e' i z ht hi hz hzs hsz (.slice (some ⟨b0, 0, none⟩) n' c0) n' xs f3 a m c news hl hcn h1 hm hb1 hb2 hB
                have hkl : k < hp.length := (List.getElem?_eq_some_iff.1 hk).1
                have hrow : ∀ g', (Value.slice (some (⟨b0, 0, none⟩ : Addr)) n' c0).ownBlock = some g' → B ≤ g' ∧ ∀ (k' : Nat) (o : SO) (wr : Bool) (l' : List SV) (b p : Nat), (hp.set k .dead)[k']? = some o → o.row = some (wr, l') → η[k']? = some (.pointer (some ⟨b, p, none⟩)) → b ≠ g' := by
                  intro g' q
                  simp [Value.ownBlock] at q
                  subst q
                  refine ⟨(f3.lt b0 rfl).1, fun k' o wr l' b p hk' hro he' => ?_⟩
                  by_cases hkk : k = k'
                  · subst hkk
                    rw [List.getElem?_set_self hkl] at hk'
                    simp at hk'; subst hk'; simp [SO.row] at hro
                  · rw [List.getElem?_set_ne hkk] at hk'
                    exact fun e => hr.apart k k' _ o l wr l' b0 0 b p hk rfl hk' hro hkk he0 he' e.symm
                obtain ⟨hr', hbel⟩ := (hr.drop k).appended hB hgr hrow (fun g' q => by
                  simp [Value.ownBlock] at q
                  subst q
                  rcases f3.2 with ⟨q1, _⟩ | ⟨g2, cap2, cur2, q1, _, ⟨fz2, q3, _⟩, _⟩
                  · cases q1
                  · injection q1 with q1 _ _
                    injection q1 with q1
                    injection q1 with q1
                    subst q1
                    exact ⟨_, _, _, q3⟩) hown hgg (f4.append hRn) (fun u hu => by
                  rcases List.mem_append.1 hu with hu | hu
                  · exact f5 u hu
                  · exact h1 u hu)
                rw [List.length_set] at hr'
                refine ⟨_, w', [.pointer (some ⟨g, 0, none⟩), .slice none 0 cap], by simpa using hrun, ?_, hr', hbel⟩
                have hcap : n' + m ≤ cap := by
                  rcases hown.2 with ⟨q, _⟩ | ⟨g', cap', cur, q, _, _, q4, _⟩
                  · cases q
                  · injection q with _ _ q
                    omega
                simp only [R]
                exact ⟨g, 0, cap, by rw [← hr.len]; simp, by rw [← hr.len]; simp, hcap, rfl⟩
              · trivial
            · rename_i e' kc' t0 hk
              split
              · rename_i hb
                obtain ⟨rfl, hs1, rfl⟩ := hb
                obtain ⟨b0, o0, c0, he0, hc0, hle0, rfl⟩ := hx
                intro (hpr : (t0.size = n ∧ n + m ≤ 1000000000 ∧ (n + m) * i.bytes ≤ 1000000000) ∧ inBs nl) B w hr hB
                obtain ⟨⟨rfl, hb1, hb2⟩, hin⟩ := hpr
                obtain ⟨a, c, news, rfl, hl, hRn, hcn, h1⟩ := newsOf_ok hn hr hy
                obtain ⟨g0, c1, f1, f2, f3⟩ := (hr.blk k _ hk).2
                have f4 : Rs η (textCells t0) (strC t0) := by
                  unfold textCells strC
                  generalize t0.data.toList = l0
                  induction l0 with
                  | nil => exact Rs.nil
                  | cons b l0 ih => exact Rs.cons (by unfold byteSV; simp only [Bool.false_eq_true, if_false, R]) ih
                have f5 : ∀ x ∈ strC t0, x.oneCell' = true := fun x hx => by
                  obtain ⟨b, _, rfl⟩ := List.mem_map.1 hx; rfl
                rw [← hs1] at f3
                rw [he0] at f1
                simp at f1
                obtain ⟨rfl, rfl⟩ := f1
                rw [hc0] at f2
                simp at f2
                subst f2
                obtain ⟨g, cap, w', hrun, hown, hgr, hgg⟩ := append_stepZ (P := P) w B t ty e' i z ht hi hz hzs hsz (.slice (some ⟨b0, 0, none⟩) t0.size c0) t0.size (strC t0) f3 a m c news hl hcn h1 hm hb1 hb2 hB
                have hkl : k < hp.length := (List.getElem?_eq_some_iff.1 hk).1
                have hrow : ∀ g', (Value.slice (some (⟨b0, 0, none⟩ : Addr)) t0.size c0).ownBlock = some g' → B ≤ g' ∧ ∀ (k' : Nat) (o : SO) (wr : Bool) (l' : List SV) (b p : Nat), (hp.set k .dead)[k']? = some o → o.row = some (wr, l') → η[k']? = some (.pointer (some ⟨b, p, none⟩)) → b ≠ g' := by
                  intro g' q
                  simp [Value.ownBlock] at q
                  subst q
                  refine ⟨(f3.lt b0 rfl).1, fun k' o wr l' b p hk' hro he' => ?_⟩
                  by_cases hkk : k = k'
                  · subst hkk
                    rw [List.getElem?_set_self hkl] at hk'
                    simp at hk'; subst hk'; simp [SO.row] at hro
                  · rw [List.getElem?_set_ne hkk] at hk'
                    exact fun e => hr.apart k k' _ o (textCells t0) wr l' b0 0 b p hk rfl hk' hro hkk he0 he' e.symm
                obtain ⟨hr', hbel⟩ := (hr.drop k).appended hB hgr hrow (fun g' q => by
                  simp [Value.ownBlock] at q
                  subst q
                  rcases f3.2 with ⟨q1, _⟩ | ⟨g2, cap2, cur2, q1, _, ⟨fz2, q3, _⟩, _⟩
                  · cases q1
                  · injection q1 with q1 _ _
                    injection q1 with q1
                    injection q1 with q1
                    subst q1
                    exact ⟨_, _, _, q3⟩) hown hgg (f4.append hRn) (fun u hu => by
                  rcases List.mem_append.1 hu with hu | hu
                  · exact f5 u hu
                  · exact h1 u hu)
                rw [List.length_set] at hr'
                have hnl : nl.length = m := by
                  have := hRn.length
                  rw [← this, hl, hs1]; omega
                rw [hs1] at hr'
                have hr2 := HR.own_say (k := hp.length) (e := e') (n := t0.size + m) (kc := hp.length + 1) (l := textCells t0 ++ nl) hr' (by rw [List.append_assoc, List.getElem?_append_right (by simp)]; simp) (t0 ++ ⟨(nl.map cellB).toArray⟩) (by
                  rw [ByteArray.size_append]
                  show _ + (nl.map cellB).toArray.size = _
                  rw [List.size_toArray, List.length_map, hnl]) (fun i c hc => by
                  rw [ByteArray.data_append, Array.toList_append]
                  show ∃ b, (t0.data.toList ++ nl.map cellB)[i]? = some b ∧ _
                  have htl : (textCells t0).length = t0.data.toList.length := by unfold textCells; rw [List.length_map]
                  by_cases hi : i < (textCells t0).length
                  · rw [List.getElem?_append_left hi] at hc
                    rw [List.getElem?_append_left (by omega)]
                    unfold textCells at hc
                    rw [List.getElem?_map] at hc
                    obtain ⟨x, hx, rfl⟩ := Option.map_eq_some_iff.1 hc
                    exact ⟨x, hx, fun v hv => by unfold byteSV at hv; simpa only [Bool.false_eq_true, if_false, R] using hv⟩
                  · rw [List.getElem?_append_right (by omega)] at hc
                    rw [List.getElem?_append_right (by omega), List.getElem?_map, ← htl, hc]
                    exact ⟨_, rfl, fun v hv => inBs_get hin hc hv⟩)
                have hr3 : HR B (η ++ [.pointer (some ⟨g, 0, none⟩), .slice none 0 cap]) (hp.set k .dead ++ [.otx e' (hp.length + 1) (t0 ++ ⟨(nl.map cellB).toArray⟩)] ++ [.dead]) w' := by
                  simpa [List.set_append] using hr2
                refine ⟨_, w', [.pointer (some ⟨g, 0, none⟩), .slice none 0 cap], by simpa using hrun, ?_, hr3, hbel⟩
                have hcap : t0.size + m ≤ cap := by
                  rcases hown.2 with ⟨q, _⟩ | ⟨g', cap', cur, q, _, _, q4, _⟩
                  · cases q
                  · injection q with _ _ q
                    omega
                simp only [R]
                exact ⟨g, 0, cap, by rw [← hr.len]; simp, by rw [← hr.len]; simp, hcap, rfl⟩
              · trivial
            · rename_i e' s' n' kc' L hk
              split
              rotate_left
              · trivial
              rename_i V hV
              split
              · rename_i hb
                obtain ⟨rfl, hs1, rfl⟩ := hb
                obtain ⟨b0, o0, c0, he0, hc0, hle0, rfl⟩ := hx
                intro (hpr : n' = n ∧ n + m ≤ 1000000000 ∧ (n + m) * i.bytes ≤ 1000000000) B w hr hB
                obtain ⟨rfl, hb1, hb2⟩ := hpr
                obtain ⟨a, c, news, rfl, hl, hRn, hcn, h1⟩ := newsOf_ok hn hr hy
                obtain ⟨g0, c1, f1, f2, f3⟩ := (hr.blk k _ hk).2
                have f4 : Rs η (L.map SV.val) L := vals_Rs L
                have f5 : ∀ x ∈ L, x.oneCell' = true := fun x hx => by
                  obtain ⟨j, hj⟩ := List.getElem?_of_mem hx
                  obtain ⟨b, p, _, _, _, e4⟩ := (hr.blk k _ hk).1 _ _ rfl
                  obtain ⟨⟨u, _, u2, u3⟩, _⟩ := e4 j (.val x) (by rw [List.getElem?_map, hj]; rfl)
                  simp only [R] at u2
                  rw [← u2]; exact u3
                rw [hs1] at f3
                rw [he0] at f1
                simp at f1
                obtain ⟨rfl, rfl⟩ := f1
                rw [hc0] at f2
                simp at f2
                subst f2
                obtain ⟨g, cap, w', hrun, hown, hgr, hgg⟩ := append_stepZ (P := P) w B t ty e' i z ht hi hz hzs hsz (.slice (some ⟨b0, 0, none⟩) n' c0) n' L f3 a m c news hl hcn h1 hm hb1 hb2 hB
                have hkl : k < hp.length := (List.getElem?_eq_some_iff.1 hk).1
                have hrow : ∀ g', (Value.slice (some (⟨b0, 0, none⟩ : Addr)) n' c0).ownBlock = some g' → B ≤ g' ∧ ∀ (k' : Nat) (o : SO) (wr : Bool) (l' : List SV) (b p : Nat), (hp.set k .dead)[k']? = some o → o.row = some (wr, l') → η[k']? = some (.pointer (some ⟨b, p, none⟩)) → b ≠ g' := by
                  intro g' q
                  simp [Value.ownBlock] at q
                  subst q
                  refine ⟨(f3.lt b0 rfl).1, fun k' o wr l' b p hk' hro he' => ?_⟩
                  by_cases hkk : k = k'
                  · subst hkk
                    rw [List.getElem?_set_self hkl] at hk'
                    simp at hk'; subst hk'; simp [SO.row] at hro
                  · rw [List.getElem?_set_ne hkk] at hk'
                    exact fun e => hr.apart k k' _ o (L.map SV.val) wr l' b0 0 b p hk rfl hk' hro hkk he0 he' e.symm
                obtain ⟨hr', hbel⟩ := (hr.drop k).appended hB hgr hrow (fun g' q => by
                  simp [Value.ownBlock] at q
                  subst q
                  rcases f3.2 with ⟨q1, _⟩ | ⟨g2, cap2, cur2, q1, _, ⟨fz2, q3, _⟩, _⟩
                  · cases q1
                  · injection q1 with q1 _ _
                    injection q1 with q1
                    injection q1 with q1
                    subst q1
                    exact ⟨_, _, _, q3⟩) hown hgg (f4.append hRn) (fun u hu => by
                  rcases List.mem_append.1 hu with hu | hu
                  · exact f5 u hu
                  · exact h1 u hu)
                rw [List.length_set] at hr'
                have hnl : nl.length = m * i.size := by
                  have := hRn.length
                  rw [← this]; exact hl
                have hLl : L.length = n' * i.size := f3.1
                obtain ⟨hv1, hv2⟩ := valsOf_get hV
                have hr2 := HR.own_says (k := hp.length) (e := e') (sz := i.size) (n := n' + m) (kc := hp.length + 1) (l := L.map SV.val ++ nl) hr' (by rw [List.append_assoc, List.getElem?_append_right (by simp)]; simp) (L ++ V) (by rw [List.length_append, hv1, hnl, hLl, Nat.add_mul]) (fun i c hc => by
                  by_cases hi : i < (L.map SV.val).length
                  · rw [List.getElem?_append_left hi] at hc
                    rw [List.getElem?_map] at hc
                    obtain ⟨x, hx, rfl⟩ := Option.map_eq_some_iff.1 hc
                    rw [List.length_map] at hi
                    exact ⟨x, by rw [List.getElem?_append_left hi]; exact hx, fun v hv => by simpa only [R] using hv⟩
                  · rw [List.getElem?_append_right (by omega)] at hc
                    rw [List.length_map] at hc hi
                    obtain ⟨x, hx, hR⟩ := hv2 _ c hc
                    exact ⟨x, by rw [List.getElem?_append_right (by omega)]; exact hx, fun v hv => hR hv⟩)
                have hr3 : HR B (η ++ [.pointer (some ⟨g, 0, none⟩), .slice none 0 cap]) (hp.set k .dead ++ [.ows e' i.size (n' + m) (hp.length + 1) (L ++ V)] ++ [.dead]) w' := by
                  simpa [List.set_append] using hr2
                refine ⟨_, w', [.pointer (some ⟨g, 0, none⟩), .slice none 0 cap], by simpa using hrun, ?_, hr3, hbel⟩
                have hcap : n' + m ≤ cap := by
                  rcases hown.2 with ⟨q, _⟩ | ⟨g', cap', cur, q, _, _, q4, _⟩
                  · cases q
                  · injection q with _ _ q
                    omega
                simp only [R]
                exact ⟨g, 0, cap, by rw [← hr.len]; simp, by rw [← hr.len]; simp, hcap, rfl⟩
              · trivial
            · trivial
          · rename_i k off n cap
            split
            · rename_i n' ol hol
              split
              · rename_i hb
                obtain ⟨rfl, rfl, hb1, hb2⟩ := hb
                intro _ B w hr hB
                obtain ⟨a, c, news, rfl, hl, hRn, hcn, h1⟩ := newsOf_ok hn hr hy
                obtain ⟨b, c0, xs, hxe, hlo, hRo, hco, h1o⟩ := newsOf_ok hol hr hx
                have hc0 : c0 = cap := by
                  simp only [R] at hx
                  obtain ⟨b1, o1, _, q⟩ := hx
                  rw [hxe] at q
                  injection q with _ _ q
                subst hc0
                subst hxe
                obtain ⟨cap', w', hrun, hown, hgr⟩ := append_full (P := P) w B t ty e i z ht hi hz hzs b c0 xs hlo hco a m c news hl hcn hm hb1 hb2 hB
                obtain ⟨hr', hbel⟩ := hr.appended hB hgr (fun g' q => by simp at q) (fun g' q => by simp at q) (ownsZ.of hown) (.inr rfl) (hRo.append hRn) (fun u hu => by
                  rcases List.mem_append.1 hu with hu | hu
                  · exact h1o u hu
                  · exact h1 u hu)
                refine ⟨_, w', [.pointer (some ⟨w.heap.size, 0, none⟩), .slice none 0 cap'], hrun, ?_, hr', hbel⟩
                have hcap : c0 + m ≤ cap' := by
                  rcases hown.2 with ⟨q, _⟩ | ⟨g', cap2, cur, q, _, _, q4, _⟩
                  · cases q
                  · injection q with _ _ q
                    omega
                simp only [R]
                exact ⟨w.heap.size, 0, cap', by rw [← hr.len]; simp, by rw [← hr.len]; simp, hcap, rfl⟩
              · trivial
            · trivial
          · trivial
        · trivial
      · trivial
    · trivial
  · trivial

/-! ### make -/
/-- One cell to an element, and how much it may hold is not told: a row of one's own. -/
def opMakeSliceU (P : Program) (hp : List SO) (ty : TypeId) (n n' : Int) : OR :=
  match P.underlying ty with
  | some (.slice e) =>
    match P.info? e with
    | some i =>
      match i.zero with
      | some z =>
        match z.cells.toList with
        | [v] =>
          if i.size = 1 ∧ 0 ≤ n ∧ n ≤ 1000000 ∧ v.oneCell' = true then
            .mem (.sle hp.length 0 n.toNat (hp.length + 1)) (hp ++ [.own e 1 n.toNat (hp.length + 1) (List.replicate n.toNat (ofV1 v))] ++ [.dead]) (.pr (n ≤ n' ∧ (i.bytes : Int) * n' ≤ 281474976710656 ∧ n' ≤ 1000000000))
          else .bad
        | _ => .bad
      | none => .bad
    | none => .bad
  | _ => .bad
theorem opMakeSliceU_ok {P : Program} {η : Env} {hp : List SO} {ty : TypeId} {k k' : IntKind} {n n' : Int} :
    OrOk η hp (fun w => (Instr.makeSlice ty (.int k n) (.int k' n')).run P w) (opMakeSliceU P hp ty n n') := by
  unfold opMakeSliceU
  split
  · rename_i e ht
    split
    · rename_i i hi
      split
      · rename_i z hz
        split
        · rename_i v hv
          split
          · rename_i hc
            obtain ⟨hs, h0, h1, hone⟩ := hc
            intro (hp' : n ≤ n' ∧ (i.bytes : Int) * n' ≤ 281474976710656 ∧ n' ≤ 1000000000) B w hr hB
            obtain ⟨hnn, hb, hcap⟩ := hp'
            have hrun := run_make (P := P) w ty e i z ht hi hz k k' n n' h0 hnn hb (by omega)
            rw [hs, Nat.mul_one] at hrun
            have hzc : z.cells = #[v] := Array.toList_inj.1 (by rw [hv])
            have hcells : ∀ m, (madeCells z.cells m).toList = List.replicate m v := by
              intro m
              rw [hzc]
              refine List.ext_getElem (by simp [madeCells]) fun j h1 h2 => ?_
              simp [madeCells, Nat.mod_one]
            have hsz : (madeCells z.cells n'.toNat).size = n'.toNat := size_madeCells _ _
            have hown : ownsZ (w.alloc (.cells (madeCells z.cells n'.toNat) e)) B e 1 (.slice (some ⟨w.heap.size, 0, none⟩) n.toNat n'.toNat) n.toNat (List.replicate n.toNat v) := by
              refine ⟨by simp, .inr ⟨w.heap.size, _, _, rfl, hB, ⟨(0, 0), heap_alloc_new w _, fun j _ q => by omega⟩, by omega, by simp only [maxLen]; omega, by rw [hsz]; omega, ?_⟩⟩
              rw [hcells, Nat.mul_one, List.take_replicate]
              congr 1
              omega
            have hR : Rs η (List.replicate n.toNat (ofV1 v)) (List.replicate n.toNat v) := Rs.replicate _ (ofV1_R η v)
            obtain ⟨hr', hbel⟩ := hr.appended hB (World.grownBy_alloc w _ none) (fun g' q => by cases q) (fun g' q => by cases q) hown (.inr rfl) hR (fun x hx => by rw [(List.mem_replicate.1 hx).2]; exact hone)
            refine ⟨_, _, [.pointer (some ⟨w.heap.size, 0, none⟩), .slice none 0 n'.toNat], hrun, ?_, hr', hbel⟩
            simp only [R]
            exact ⟨w.heap.size, 0, n'.toNat, by rw [← hr.len]; simp, by rw [← hr.len]; simp, by omega, by simp⟩
          · trivial
        · trivial
      · trivial
    · trivial
  · trivial
/-- Bytes, as many as is not told: an untold text of zeros. -/
def zeroT (n : Nat) : ByteArray := ⟨Array.replicate n 0⟩
def opMakeSliceN (P : Program) (hp : List SO) (ty : TypeId) (n n' : Int) : OR :=
  match P.underlying ty with
  | some (.slice e) =>
    match P.info? e with
    | some i =>
      match i.zero with
      | some z =>
        match z.cells.toList with
        | [.int .u8 v] =>
          if i.size = 1 ∧ v = 0 then
            .mem (.slo hp.length n.toNat (hp.length + 1)) (hp ++ [.otx e (hp.length + 1) (zeroT n.toNat)] ++ [.dead]) (.pr (0 ≤ n ∧ n ≤ n' ∧ (i.bytes : Int) * n' ≤ 281474976710656 ∧ n' ≤ 1000000000))
          else .bad
        | _ => .bad
      | none => .bad
    | none => .bad
  | _ => .bad
theorem opMakeSliceN_ok {P : Program} {η : Env} {hp : List SO} {ty : TypeId} {k k' : IntKind} {n n' : Int} :
    OrOk η hp (fun w => (Instr.makeSlice ty (.int k n) (.int k' n')).run P w) (opMakeSliceN P hp ty n n') := by
  unfold opMakeSliceN
  split
  · rename_i e ht
    split
    · rename_i i hi
      split
      · rename_i z hz
        split
        · rename_i v0 hv
          split
          · rename_i hc
            obtain ⟨hs, rfl⟩ := hc
            intro (hp' : 0 ≤ n ∧ n ≤ n' ∧ (i.bytes : Int) * n' ≤ 281474976710656 ∧ n' ≤ 1000000000) B w hr hB
            obtain ⟨h0, hnn, hb, hcap⟩ := hp'
            have hrun := run_make (P := P) w ty e i z ht hi hz k k' n n' h0 hnn hb (by omega)
            rw [hs, Nat.mul_one] at hrun
            have hzc : z.cells = #[Value.int .u8 0] := Array.toList_inj.1 (by rw [hv])
            have hcells : ∀ m, (madeCells z.cells m).toList = List.replicate m (Value.int .u8 0) := by
              intro m
              rw [hzc]
              refine List.ext_getElem (by simp [madeCells]) fun j h1 h2 => ?_
              simp [madeCells, Nat.mod_one]
            have hsz : (madeCells z.cells n'.toNat).size = n'.toNat := size_madeCells _ _
            have hown : ownsZ (w.alloc (.cells (madeCells z.cells n'.toNat) e)) B e 1 (.slice (some ⟨w.heap.size, 0, none⟩) n.toNat n'.toNat) n.toNat (List.replicate n.toNat (Value.int .u8 0)) := by
              refine ⟨by simp, .inr ⟨w.heap.size, _, _, rfl, hB, ⟨(0, 0), heap_alloc_new w _, fun j _ q => by omega⟩, by omega, by simp only [maxLen]; omega, by rw [hsz]; omega, ?_⟩⟩
              rw [hcells, Nat.mul_one, List.take_replicate]
              congr 1
              omega
            have hR : Rs η (List.replicate n.toNat (SV.num .u8 0)) (List.replicate n.toNat (Value.int .u8 0)) := Rs.replicate _ (by simp only [R])
            obtain ⟨hr', hbel⟩ := hr.appended hB (World.grownBy_alloc w _ none) (fun g' q => by cases q) (fun g' q => by cases q) hown (.inr rfl) hR (fun x hx => by rw [(List.mem_replicate.1 hx).2]; rfl)
            have hr2 := HR.own_say (k := hp.length) (e := e) (n := n.toNat) (kc := hp.length + 1) (l := List.replicate n.toNat (SV.num .u8 0)) hr' (by rw [List.append_assoc, List.getElem?_append_right (by simp)]; simp) (zeroT n.toNat) (by
              show (Array.replicate n.toNat 0).size = _
              simp) (fun j c hj => by
              have hj1 := (List.getElem?_eq_some_iff.1 hj).1
              rw [List.length_replicate] at hj1
              have hc := List.eq_of_mem_replicate (List.mem_of_getElem? hj)
              subst hc
              refine ⟨0, ?_, fun v hv => by simp only [R] at hv; rw [hv]; rfl⟩
              show (Array.replicate n.toNat (0 : UInt8)).toList[j]? = _
              rw [Array.toList_replicate, List.getElem?_replicate, if_pos hj1])
            have hr3 : HR B (η ++ [.pointer (some ⟨w.heap.size, 0, none⟩), .slice none 0 n'.toNat]) (hp ++ [.otx e (hp.length + 1) (zeroT n.toNat)] ++ [.dead]) (w.alloc (.cells (madeCells z.cells n'.toNat) e)) := by
              simpa [List.set_append] using hr2
            refine ⟨_, _, [.pointer (some ⟨w.heap.size, 0, none⟩), .slice none 0 n'.toNat], hrun, ?_, hr3, hbel⟩
            simp only [R]
            exact ⟨w.heap.size, 0, n'.toNat, by rw [← hr.len]; simp, by rw [← hr.len]; simp, by omega, by simp⟩
          · trivial
        · trivial
      · trivial
    · trivial
  · trivial
def opMakeSlice (P : Program) (hp : List SO) (ty : TypeId) (ln cp : SV) : OR :=
  match ln, cp with
  | .num _ n, .num _ n' =>
    match P.underlying ty with
    | some (.slice e) =>
      match P.info? e with
      | some i =>
        match i.zero with
        | some z =>
          if n ≤ n' ∧ 0 ≤ n ∧ n' ≤ 1000000 ∧ (i.bytes : Int) * n' ≤ 1000000000 then
            if ((madeCells z.cells (n'.toNat * i.size)).toList.map ofV1).all SV.one then
              .mem (.slc hp.length 0 n.toNat n'.toNat) (hp ++ [.cells true ((madeCells z.cells (n'.toNat * i.size)).toList.map ofV1)]) .tt
            else .bad
          else .bad
        | none => .bad
      | none => .bad
    | _ => .bad
  | .num _ n, .val (.int _ n') => opMakeSliceU P hp ty n n'
  | .val (.int _ n), .val (.int _ n') => opMakeSliceN P hp ty n n'
  | _, _ => .bad
theorem opMakeSlice_ok {P : Program} {η : Env} {hp : List SO} {ty : TypeId} {x y : SV} {vx vy : Value} (hx : R η x vx) (hy : R η y vy) :
    OrOk η hp (fun w => (Instr.makeSlice ty vx vy).run P w) (opMakeSlice P hp ty x y) := by
  unfold opMakeSlice
  split
  · rename_i k n k' n'
    simp only [R] at hx hy
    subst hx; subst hy
    split
    · rename_i e ht
      split
      · rename_i i hi
        split
        · rename_i z hz
          split
          · rename_i hc
            obtain ⟨hnn, h0, h1, h2⟩ := hc
            split
            · rename_i hone
              intro _ B w hr hB
              have hrun := run_make (P := P) w ty e i z ht hi hz k k' n n' h0 hnn (by omega) (by omega)
              have hR := ofV1s_R η (madeCells z.cells (n'.toNat * i.size)).toList
              refine ⟨_, _, [.pointer (some ⟨w.heap.size, 0, none⟩)], hrun, ?_, ?_, (Below.refl _ _).alloc hB _⟩
              · simp only [R]
                exact ⟨w.heap.size, 0, by rw [← hr.len]; simp, by simp⟩
              · have := hr.alloc hB _ (madeCells z.cells (n'.toNat * i.size)).toList e hR (Rs.ones hone hR)
                simpa using this
            · trivial
          · trivial
        · trivial
      · trivial
    · trivial
  · rename_i k n k' n'
    simp only [R] at hx hy
    subst hx; subst hy
    exact opMakeSliceU_ok
  · rename_i k n k' n'
    simp only [R] at hx hy
    subst hx; subst hy
    exact opMakeSliceN_ok
  · trivial

/-! ### a slice of a text's bytes, its length told -/
/-- Fewer cells told. -/
theorem HR.narrow {B : Nat} {η : Env} {hp : List SO} {w : World} (h : HR B η hp w) {k : Nat} {so : SO} {l l' : List SV} (hk : hp[k]? = some so) (hrow : so.row = some (true, l))
    (hl : ∀ (i : Nat) (s : SV), l'[i]? = some s → l[i]? = some s) : HR B η (hp.set k (.cells true l')) w := by
  have hkl : k < hp.length := (List.getElem?_eq_some_iff.1 hk).1
  have row : ∀ {k' : Nat} {o' : SO} {wr : Bool} {m : List SV}, (hp.set k (.cells true l'))[k']? = some o' → o'.row = some (wr, m) → ∃ o'' m', hp[k']? = some o'' ∧ o''.row = some (wr, m') ∧ ∀ (i : Nat) (s : SV), m[i]? = some s → m'[i]? = some s := by
    intro k' o' wr m hk' hr
    by_cases hkk : k = k'
    · subst hkk
      rw [List.getElem?_set_self hkl] at hk'
      simp at hk'; subst hk'
      simp only [SO.row, Option.some.injEq, Prod.mk.injEq] at hr
      obtain ⟨rfl, rfl⟩ := hr
      exact ⟨so, l, hk, hrow, hl⟩
    · rw [List.getElem?_set_ne hkk] at hk'
      exact ⟨o', m, hk', hr, fun _ _ q => q⟩
  refine ⟨by simp [h.len], fun k' o' hk' => ⟨fun wr m hr => ?_, ?_⟩, ?_⟩
  · obtain ⟨o'', m', h1, h2, h3⟩ := row hk' hr
    obtain ⟨b, o, e1, e2, e3, e4⟩ := (h.blk k' o'' h1).1 wr m' h2
    exact ⟨b, o, e1, e2, e3, fun i s hi => e4 i s (h3 i s hi)⟩
  · by_cases hkk : k = k'
    · subst hkk
      rw [List.getElem?_set_self hkl] at hk'
      simp at hk'; subst hk'
      trivial
    · rw [List.getElem?_set_ne hkk] at hk'
      exact (h.blk k' o' hk').2
  · intro k₁ k₂ s₁ s₂ l₁ wr₂ l₂ b₁ o₁ b₂ o₂ h1 r1 h2 r2 hne e1 e2
    obtain ⟨q1, m1, g1, t1, _⟩ := row h1 r1
    obtain ⟨q2, m2, g2, t2, _⟩ := row h2 r2
    exact h.apart k₁ k₂ q1 q2 m1 wr₂ m2 b₁ o₁ b₂ o₂ g1 t1 g2 t2 hne e1 e2
theorem spell_cells {t : ByteArray} {j : Nat} (hj : j ≤ t.size) : ∀ (i : Nat) (s : SV), ((cutL t 0 j).map (byteSV false))[i]? = some s → (textCells t)[i]? = some s := by
  intro i s hi
  rw [List.getElem?_map] at hi
  obtain ⟨b, hb, rfl⟩ := Option.map_eq_some_iff.1 hi
  have hlt : i < j := by
    have := (List.getElem?_eq_some_iff.1 hb).1
    rwa [cutL_length] at this
  rw [cutL_get t j 0 i hlt, Nat.zero_add] at hb
  have hs : i < t.data.size := by
    have : t.size = t.data.size := rfl
    omega
  have e : bAt t i = t.data[i] := by simp [bAt, Array.getElem?_eq_getElem hs]
  unfold textCells
  rw [List.getElem?_map]
  have e2 : t.data.toList[i]? = some t.data[i] := by
    rw [Array.getElem?_toList]; exact Array.getElem?_eq_getElem hs
  rw [e2, ← Option.some.inj hb, e]; rfl
/-- A window of an untold slice, its bounds untold. -/
def opSliceW (P : Program) (hp : List SO) (ty : TypeId) (k n : Nat) (lo hi : Option SV) : OR :=
  match P.underlying ty, lo, hi with
  | some (.slice e), some (.val (.int _ i)), some (.val (.int _ j)) =>
    match tsize P e with
    | some sz => .mem (.sle k (i.toNat * sz) (j.toNat - i.toNat) hp.length) (hp ++ [.dead]) (.pr (0 ≤ i ∧ i < j ∧ j ≤ n))
    | none => .bad
  | _, _, _ => .bad
theorem opSliceW_ok {P : Program} {η : Env} {hp : List SO} {ty : TypeId} {k n kc : Nat} {vx : Value} {lo hi : Option SV} {vlo vhi : Option Value}
    (hx : R η (.slo k n kc) vx) (hlo : Ro η lo vlo) (hhi : Ro η hi vhi) :
    OrOk η hp (fun w => (Instr.sliceAt ty vx vlo vhi none).run P w) (opSliceW P hp ty k n lo hi) := by
  unfold opSliceW
  split
  · rename_i e ka i kb j hu
    split
    · rename_i sz hsz
      intro (hc : 0 ≤ i ∧ i < j ∧ j ≤ n) B w hr hB
      obtain ⟨h0, hij, hj⟩ := hc
      obtain ⟨b, o, c, he, hcc, hnc, rfl⟩ := hx
      have hlo' : Ro η (some (.num ka i)) vlo := by
        cases vlo with
        | none => exact hlo.elim
        | some v => simp only [Ro, R] at hlo ⊢; exact hlo
      have hhi' : Ro η (some (.num kb j)) vhi := by
        cases vhi with
        | none => exact hhi.elim
        | some v => simp only [Ro, R] at hhi ⊢; exact hhi
      have hb := run_sliceBounds (P := P) (len := n) (cap := c) (l := i.toNat) (h := j.toNat) hlo' hhi' (by simp [bnd, h0]) (by simp only [bnd]; rw [if_pos (by omega)]) (by omega) (by omega) true w
      refine ⟨.slice (some ⟨b, o + i.toNat * sz, none⟩) (j.toNat - i.toNat) (c - i.toNat), w, [.slice none 0 (c - i.toNat)], ?_, ?_, hr.pad, Below.refl _ _⟩
      · have hne : ¬ c = i.toNat := by omega
        simp [Instr.sliceAt, Instr.slice, run_underlying hu, hb, run_sizeOf' hsz, add_at, hne]
      · simp only [R]
        exact ⟨b, o, c - i.toNat, get_ext he, by rw [← hr.len]; simp, by omega, rfl⟩
    · trivial
  · trivial
def opSliceO (P : Program) (hp : List SO) (ty : TypeId) (x : SV) (lo hi mx : Option SV) : OR :=
  match x, mx with
  | .slo k n kc, none =>
    match P.underlying ty, hp[k]?, bnd 0 lo, hi with
    | some (.slice e), some (.txt t), some 0, some (.num _ z) =>
      if 0 ≤ z ∧ (tsize P e).isSome then .mem (.sle k 0 z.toNat kc) (hp.set k (.cells true ((cutL t 0 z.toNat).map (byteSV false)))) (.pr (z.toNat ≤ n ∧ z.toNat ≤ t.size)) else .bad
    | _, _, _, _ => opSliceW P hp ty k n lo hi
  | .sle k off len kc, none =>
    match P.underlying ty, bnd 0 lo, bnd len hi with
    | some (.slice e), some i, some j =>
      match tsize P e with
      | some sz => if i = 0 ∧ j ≤ len ∧ 0 < j then .pure (.sle k off j kc) .tt else if i < j ∧ j ≤ len then .mem (.sle k (off + i * sz) (j - i) hp.length) (hp ++ [.dead]) .tt else .bad
      | none => .bad
    | _, _, _ => .bad
  | x, mx => opSlice P ty x lo hi mx
theorem opSliceO_ok {P : Program} {η : Env} {hp : List SO} {ty : TypeId} {x : SV} {vx : Value} {lo hi mx : Option SV} {vlo vhi vmx : Option Value}
    (hx : R η x vx) (hlo : Ro η lo vlo) (hhi : Ro η hi vhi) (hmx : Ro η mx vmx) :
    OrOk η hp (fun w => (Instr.sliceAt ty vx vlo vhi vmx).run P w) (opSliceO P hp ty x lo hi mx) := by
  unfold opSliceO
  split
  · rename_i k n kc
    have hmx' : vmx = none := by
      cases vmx with
      | none => rfl
      | some _ => exact hmx.elim
    subst hmx'
    split
    · rename_i e t kk z hu hk hlo0
      split
      · rename_i hzz
        obtain ⟨hz, hss⟩ := hzz
        obtain ⟨sz, hs⟩ := Option.isSome_iff_exists.1 hss
        intro (hc : z.toNat ≤ n ∧ z.toNat ≤ t.size) B w hr hB
        obtain ⟨b, o, c, he, hcc, hnc, rfl⟩ := hx
        have hb := run_sliceBounds (P := P) (len := n) (cap := c) (l := 0) (h := z.toNat) hlo hhi hlo0 (by simp [bnd, hz]) (Nat.zero_le _) (by omega) true w
        refine ⟨.slice (some ⟨b, o, none⟩) z.toNat c, w, [], ?_, ?_, ?_, Below.refl _ _⟩
        · simp [Instr.sliceAt, Instr.slice, run_underlying hu, hb, run_sizeOf' hs, add_at]
        · simp only [R, List.append_nil]
          exact ⟨b, o, c, he, hcc, by omega, rfl⟩
        · simpa using hr.narrow hk rfl (spell_cells hc.2)
      · trivial
    · exact opSliceW_ok hx hlo hhi
  · rename_i k off len kc
    have hmx' : vmx = none := by
      cases vmx with
      | none => rfl
      | some _ => exact hmx.elim
    subst hmx'
    split
    · rename_i e i j hu e1 e2
      split
      · rename_i sz hsz
        split
        · rename_i hc
          obtain ⟨rfl, hj, hj0⟩ := hc
          obtain ⟨b, o, c, he, hcc, hnc, rfl⟩ := hx
          refine OrOk.value (v := .slice (some ⟨b, o + off, none⟩) j c) ⟨b, o, c, he, hcc, by omega, rfl⟩ fun w => ?_
          have hb := run_sliceBounds (P := P) (len := len) (cap := c) hlo hhi e1 e2 (Nat.zero_le _) (by omega) true w
          simp [Instr.sliceAt, Instr.slice, run_underlying hu, hb, run_sizeOf' hsz, add_at]
        · split
          · rename_i hc
            obtain ⟨hij, hj⟩ := hc
            obtain ⟨b, o, c, he, hcc, hnc, rfl⟩ := hx
            intro _ B w hr hB
            have hb := run_sliceBounds (P := P) (len := len) (cap := c) hlo hhi e1 e2 (Nat.le_of_lt hij) (by omega) true w
            refine ⟨.slice (some ⟨b, o + (off + i * sz), none⟩) (j - i) (c - i), w, [.slice none 0 (c - i)], ?_, ?_, hr.pad, Below.refl _ _⟩
            · have hne : ¬ c = i := by omega
              simp [Instr.sliceAt, Instr.slice, run_underlying hu, hb, run_sizeOf' hsz, add_at, hne, Nat.add_assoc]
            · simp only [R]
              exact ⟨b, o, c - i, get_ext he, by rw [← hr.len]; simp, by omega, rfl⟩
          · trivial
      · trivial
    · trivial
  · exact opSlice_ok hx hlo hhi hmx

/-! ### an empty slice, laid: a row that may grow -/
def opBuildSliceO (P : Program) (hp : List SO) (ty : TypeId) (len : Nat) (parts : List (Nat × SV)) : OR :=
  match len, parts with
  | 0, [] =>
    match P.underlying ty with
    | some (.slice e) =>
      match P.info? e with
      | some ie => match ie.zero with
        | some _ => .mem (.sle hp.length 0 0 (hp.length + 1)) (hp ++ [.own e ie.size 0 (hp.length + 1) []] ++ [.dead]) .tt
        | none => .bad
      | none => .bad
    | _ => .bad
  | len, parts => opBuildSlice P hp ty len parts
theorem opBuildSliceO_ok {P : Program} {η : Env} {hp : List SO} {ty : TypeId} {len : Nat} {parts : List (Nat × SV)} {vparts : Array (Nat × Value)}
    (h1 : parts.map (·.1) = vparts.toList.map (·.1)) (h2 : Rs η (parts.map (·.2)) (vparts.toList.map (·.2))) :
    OrOk η hp (fun w => (Instr.buildSlice ty len vparts).run P w) (opBuildSliceO P hp ty len parts) := by
  unfold opBuildSliceO
  split
  · have hv : vparts = #[] := by
      apply Array.toList_inj.1
      simpa using h1.symm
    subst hv
    split
    · rename_i e hu
      split
      · rename_i ie hi
        split
        · rename_i z hz
          intro _ B w hr hB
          have hsz : (sizeOf e).run P w = .ok ie.size w := by simp [sizeOf, typeInfo, hi]
          have hrun : (Instr.buildSlice ty 0 #[]).run P w = .ok (.slice (some ⟨w.heap.size, 0, none⟩) 0 0) (w.alloc (.cells #[] e)) := by
            simp [Instr.buildSlice, run_underlying hu, hsz, newRow, Array.range_zero', Instr.fill]
          have ha := hr.alloc hB [] [] e Rs.nil (by simp)
          have hp1 := ha.pad (μ := [.slice none 0 0])
          have hown : (w.alloc (.cells #[] e)).ownsRow B e ie.size (.slice (some ⟨w.heap.size, 0, none⟩) 0 0) 0 [] := World.ownsRow_made w #[] 0 hB (by simp [maxLen]) (by simp)
          have hp2 := hp1.turn (k := hp.length) (so := .cells true []) (so' := .own e ie.size 0 (hp.length + 1) []) (by simp) rfl
            ⟨w.heap.size, 0, [], by rw [← hr.len]; simp, by rw [← hr.len]; simp, ownsZ.of hown, Rs.nil, by simp⟩
          refine ⟨_, _, [.pointer (some ⟨w.heap.size, 0, none⟩), .slice none 0 0], hrun, ?_, ?_, (Below.refl _ _).alloc hB _⟩
          · simp only [R]
            exact ⟨w.heap.size, 0, 0, by rw [← hr.len]; simp, by rw [← hr.len]; simp, Nat.le_refl _, rfl⟩
          · simpa [List.set_append] using hp2
        · trivial
      · trivial
    · trivial
  · exact opBuildSlice_ok h1 h2

/-! ### maps, their keys numbers -/
/-- A map's keys' kind, and its values' type. -/
def mapKind (P : Program) (ty : TypeId) : Option (IntKind × TypeId × TypeId) :=
  match P.underlying ty with
  | some (.map key elem) => match P.underlying key with
    | some (.int kk) => some (kk, key, elem)
    | _ => none
  | _ => none
theorem mapKind_ok {P : Program} {ty key elem : TypeId} {kk : IntKind} (h : mapKind P ty = some (kk, key, elem)) : P.underlying ty = some (.map key elem) ∧ P.underlying key = some (.int kk) := by
  unfold mapKind at h
  split at h
  · rename_i k e hu
    split at h
    · rename_i q hk
      simp only [Option.some.injEq, Prod.mk.injEq] at h
      obtain ⟨rfl, rfl, rfl⟩ := h
      exact ⟨hu, hk⟩
    · simp at h
  · simp at h
def killM (i : Nat) : Nat → List SO → List SO
  | _, [] => []
  | n, .mp k es :: r => (if n = i then .mp k es else .dead) :: killM i (n + 1) r
  | n, o :: r => o :: killM i (n + 1) r
theorem killM_get {i : Nat} : ∀ (hp : List SO) (n k : Nat) (o : SO), (killM i n hp)[k]? = some o → hp[k]? = some o ∨ o = .dead
  | [], n, k, o, h => by simp [killM] at h
  | .mp kk es :: r, n, 0, o, h => by
    simp only [killM, List.getElem?_cons_zero, Option.some.injEq] at h
    split at h
    · subst h; exact .inl rfl
    · exact .inr h.symm
  | .mp kk es :: r, n, k + 1, o, h => by
    simp only [killM, List.getElem?_cons_succ] at h ⊢
    exact killM_get r (n + 1) k o h
  | .cells _ _ :: r, n, 0, o, h | .dead :: r, n, 0, o, h | .txt _ :: r, n, 0, o, h | .own .. :: r, n, 0, o, h | .otx .. :: r, n, 0, o, h | .ows .. :: r, n, 0, o, h | .glob .. :: r, n, 0, o, h | .fx _ :: r, n, 0, o, h | .fns _ :: r, n, 0, o, h => by
    simp only [killM, List.getElem?_cons_zero, Option.some.injEq] at h
    subst h; exact .inl rfl
  | .cells _ _ :: r, n, k + 1, o, h | .dead :: r, n, k + 1, o, h | .txt _ :: r, n, k + 1, o, h | .own .. :: r, n, k + 1, o, h | .otx .. :: r, n, k + 1, o, h | .ows .. :: r, n, k + 1, o, h | .glob .. :: r, n, k + 1, o, h | .fx _ :: r, n, k + 1, o, h | .fns _ :: r, n, k + 1, o, h => by
    simp only [killM, List.getElem?_cons_succ] at h ⊢
    exact killM_get r (n + 1) k o h
theorem killM_mp {i : Nat} : ∀ (hp : List SO) (n k : Nat) (kk : IntKind) (es : List (Int × SV)), (killM i n hp)[k]? = some (.mp kk es) → n + k = i
  | [], n, k, kk, es, h => by simp [killM] at h
  | .mp k' e' :: r, n, 0, kk, es, h => by
    simp only [killM, List.getElem?_cons_zero, Option.some.injEq] at h
    split at h
    · rename_i q; simpa using q
    · simp at h
  | .mp k' e' :: r, n, k + 1, kk, es, h => by
    simp only [killM, List.getElem?_cons_succ] at h
    have := killM_mp r (n + 1) k kk es h
    omega
  | .cells _ _ :: r, n, 0, kk, es, h | .dead :: r, n, 0, kk, es, h | .txt _ :: r, n, 0, kk, es, h | .own .. :: r, n, 0, kk, es, h | .otx .. :: r, n, 0, kk, es, h | .ows .. :: r, n, 0, kk, es, h | .glob .. :: r, n, 0, kk, es, h | .fx _ :: r, n, 0, kk, es, h | .fns _ :: r, n, 0, kk, es, h => by
    simp [killM] at h
  | .cells _ _ :: r, n, k + 1, kk, es, h | .dead :: r, n, k + 1, kk, es, h | .txt _ :: r, n, k + 1, kk, es, h | .own .. :: r, n, k + 1, kk, es, h | .otx .. :: r, n, k + 1, kk, es, h | .ows .. :: r, n, k + 1, kk, es, h | .glob .. :: r, n, k + 1, kk, es, h | .fx _ :: r, n, k + 1, kk, es, h | .fns _ :: r, n, k + 1, kk, es, h => by
    simp only [killM, List.getElem?_cons_succ] at h
    have := killM_mp r (n + 1) k kk es h
    omega
theorem killM_length {i : Nat} : ∀ (hp : List SO) (n : Nat), (killM i n hp).length = hp.length
  | [], n => rfl
  | .mp _ _ :: r, n | .cells _ _ :: r, n | .dead :: r, n | .txt _ :: r, n | .own .. :: r, n | .otx .. :: r, n | .ows .. :: r, n | .glob .. :: r, n | .fx _ :: r, n | .fns _ :: r, n => by simp [killM, killM_length r (n + 1)]
def opMakeMap (P : Program) (hp : List SO) (ty : TypeId) (r : Option SV) : OR :=
  match r, mapKind P ty with
  | none, some (kk, _, _) => .mem (.hdl hp.length) (hp ++ [.mp kk []]) .tt
  | some (.num _ _), some (kk, _, _) => .mem (.hdl hp.length) (hp ++ [.mp kk []]) .tt
  | _, _ => .bad
theorem HR.newMap {B : Nat} {η : Env} {hp : List SO} {w : World} (hr : HR B η hp w) (hB : B ≤ w.heap.size) (kk : IntKind) :
    HR B (η ++ [.map (some w.heap.size)]) (hp ++ [.mp kk []]) (w.alloc (.map #[] 0)) := by
  have hb : Below w.heap.size w (w.alloc (.map #[] 0)) := (Below.refl _ _).alloc (Nat.le_refl _) _
  have h1 := (hr.below hb).pad (μ := [Value.map (some w.heap.size)])
  have h2 := h1.turn (k := hp.length) (so := .dead) (so' := .mp kk []) (by simp) rfl
    ⟨w.heap.size, #[], 0, by rw [← hr.len]; simp, hB, heap_alloc_new w _, rfl, Rs.nil⟩
  simpa [List.set_append] using h2
theorem opMakeMap_ok {P : Program} {η : Env} {hp : List SO} {ty : TypeId} {r : Option SV} {vr : Option Value} (hx : Ro η r vr) :
    OrOk η hp (fun w => (Instr.makeMap ty vr).run P w) (opMakeMap P hp ty r) := by
  unfold opMakeMap
  split
  · rename_i kk key elem hk
    have hv : vr = none := by cases vr with | none => rfl | some _ => exact hx.elim
    subst hv
    intro _ B w hr hB
    refine ⟨.map (some w.heap.size), w.alloc (.map #[] 0), [.map (some w.heap.size)], by simp [Instr.makeMap], ?_, hr.newMap hB kk, (Below.refl _ _).alloc hB _⟩
    simp only [R]; rw [← hr.len]; simp
  · rename_i q z kk key elem hk
    cases vr with
    | none => exact hx.elim
    | some v =>
      simp only [Ro, R] at hx
      subst hx
      intro _ B w hr hB
      refine ⟨.map (some w.heap.size), w.alloc (.map #[] 0), [.map (some w.heap.size)], by simp [Instr.makeMap, run_underlying (mapKind_ok hk).1, asInt, asIntOf], ?_, hr.newMap hB kk, (Below.refl _ _).alloc hB _⟩
      simp only [R]; rw [← hr.len]; simp
  · trivial

def findE (a : Int) : List (Int × SV) → Option SV
  | [] => none
  | (b, s) :: r => if a = b then some s else findE a r
theorem findNow_int {η : Env} {kk : IntKind} {a : Int} : ∀ (arr : List MapEntry) (es : List (Int × SV)) (i : Nat), arr.map (·.key) = es.map (fun e => Value.int kk e.1) → Rs η (es.map (·.2)) (arr.map (·.val)) →
    (∀ s, findE a es = some s → ∃ j v, Instr.findNow (.int kk) (.int kk a) arr i = some (some (j, v)) ∧ R η s v) ∧ (findE a es = none → Instr.findNow (.int kk) (.int kk a) arr i = some none)
  | [], [], i, _, _ => ⟨fun s h => by simp [findE] at h, fun _ => rfl⟩
  | [], _ :: _, i, h, _ => by simp at h
  | _ :: _, [], i, h, _ => by simp at h
  | m :: arr, (b, s) :: es, i, h, hR => by
    simp only [List.map_cons, List.cons.injEq] at h
    obtain ⟨v, r, he, hv, hr⟩ := hR.cons_inv
    simp only [List.map_cons, List.cons.injEq] at he
    obtain ⟨rfl, rfl⟩ := he
    have hm : Instr.sameNow (.int kk) (.int kk a) m.key = some (a == b) := by rw [h.1]; simp [Instr.sameNow]
    obtain ⟨g1, g2⟩ := findNow_int arr es (i + 1) h.2 hr
    by_cases e : a = b
    · subst e
      refine ⟨fun s' hs => ?_, fun hs => by simp [findE] at hs⟩
      simp only [findE, if_true, Option.some.injEq] at hs
      subst hs
      exact ⟨i, m.val, by simp [Instr.findNow, hm], hv⟩
    · have e' : (a == b) = false := beq_eq_false_iff_ne.2 e
      rw [e'] at hm
      refine ⟨fun s' hs => ?_, fun hs => ?_⟩
      · simp only [findE, if_neg e] at hs
        obtain ⟨j, u, q1, q2⟩ := g1 s' hs
        exact ⟨j, u, by simp [Instr.findNow, hm, q1], q2⟩
      · simp only [findE, if_neg e] at hs
        simp [Instr.findNow, hm, g2 hs]
theorem run_checkKey_int {P : Program} {key : TypeId} {kk : IntKind} (h : P.underlying key = some (.int kk)) (b : Bool) (v : Value) (w : World) : (Instr.checkKey b 10000 key v).run P w = .ok () w := by
  unfold Instr.checkKey
  simp only [Sem.run_bind, run_underlying h, Result.andThen_ok]
  cases v <;> rfl
def opMapUpdate (P : Program) (hp : List SO) (ty : TypeId) (x k v : SV) : OR :=
  match x, k, mapKind P ty with
  | .hdl i, .num kz z, some (kk, _, _) =>
    match hp[i]? with
    | some (.mp kk' es) => if kz = kk ∧ kk' = kk ∧ (findE z es).isNone then .mem (.val undef) ((killM i 0 hp).set i (.mp kk (es ++ [(z, v)]))) .tt else .bad
    | _ => .bad
  | _, _, _ => .bad
theorem opMapUpdate_ok {P : Program} {η : Env} {hp : List SO} {ty : TypeId} {x k v : SV} {vx vk vv : Value} (hx : R η x vx) (hk : R η k vk) (hv : R η v vv) :
    OrOk η hp (fun w => ((Instr.mapUpdate ty vx vk vv).run P w).andThen fun _ w' => .ok undef w') (opMapUpdate P hp ty x k v) := by
  unfold opMapUpdate
  split
  · rename_i i kz z kk key elem hm
    obtain ⟨hu, huk⟩ := mapKind_ok hm
    split
    · rename_i kk' es hi
      split
      · rename_i hc
        obtain ⟨rfl, rfl, hn⟩ := hc
        simp only [R] at hx hk
        subst hk
        intro _ B w hr hB
        have hil : i < hp.length := (List.getElem?_eq_some_iff.1 hi).1
        obtain ⟨r, arr, clock, q1, q2, q3, q4, q5⟩ := (hr.blk i _ hi).2
        rw [hx] at q1
        simp only [Option.some.injEq] at q1
        subst q1
        have hfn := (findNow_int (a := z) arr.toList es 0 q4 q5).2 (Option.isNone_iff_eq_none.1 hn)
        have hrl : r < w.heap.size := (Array.getElem?_eq_some_iff.1 q3).1
        refine ⟨undef, { w with heap := w.heap.setIfInBounds r (.map (arr.push { key := .int kk' z, val := vv, born := clock }) (clock + 1)) }, [], ?_, by simp only [R], ?_, ?_⟩
        · simp [Instr.mapUpdate, run_underlying hu, run_getObj_map w r arr clock q3, run_checkKey_int huk, Instr.findKey, run_underlying huk, hfn, MapKept.run_setObj_map _ q3]
        · have same : ∀ b, b ≠ r → (w.heap.setIfInBounds r (.map (arr.push { key := .int kk' z, val := vv, born := clock }) (clock + 1)))[b]? = w.heap[b]? := by
            intro b hb
            rw [Array.getElem?_setIfInBounds, if_neg (fun e => hb e.symm)]
          rw [List.append_nil]
          have back : ∀ {j : Nat} {o : SO}, ((killM i 0 hp).set i (.mp kk' (es ++ [(z, v)])))[j]? = some o → (j = i ∧ o = .mp kk' (es ++ [(z, v)])) ∨ o = .dead ∨ (j ≠ i ∧ hp[j]? = some o ∧ ∀ q e, o ≠ .mp q e) := by
            intro j o hj
            by_cases hij : i = j
            · subst hij
              rw [List.getElem?_set_self (by rw [killM_length]; exact hil)] at hj
              simp at hj
              exact .inl ⟨rfl, hj.symm⟩
            · rw [List.getElem?_set_ne hij] at hj
              rcases killM_get hp 0 j o hj with h1 | h1
              · refine .inr (.inr ⟨fun e => hij e.symm, h1, fun q e he => ?_⟩)
                subst he
                have := killM_mp hp 0 j q e hj
                omega
              · exact .inr (.inl h1)
          have cellsNe : ∀ {j : Nat} {o : SO} {wr : Bool} {l : List SV} {b p : Nat}, hp[j]? = some o → o.row = some (wr, l) → η[j]? = some (.pointer (some ⟨b, p, none⟩)) → (∃ (n : Nat) (s : SV), l[n]? = some s) → b ≠ r := by
            intro j o wr l b p hj hro he ⟨n, s, hs⟩ e
            subst e
            obtain ⟨b', p', e1, _, _, e4⟩ := (hr.blk j o hj).1 wr l hro
            rw [he] at e1
            simp at e1
            obtain ⟨rfl, rfl⟩ := e1
            obtain ⟨⟨u, hu', _⟩, _⟩ := e4 n s hs
            simp [World.cell?, q3] at hu'
          refine ⟨by rw [List.length_set, killM_length]; exact hr.len, fun j o hj => ?_, ?_⟩
          · rcases back hj with ⟨rfl, rfl⟩ | rfl | ⟨hne, hj', hnm⟩
            · refine ⟨fun wr l hro => by simp [SO.row] at hro, r, arr.push { key := .int kk' z, val := vv, born := clock }, clock + 1, hx, q2, by simp [hrl], ?_, ?_⟩
              · simp [q4]
              · simpa using q5.append (Rs.cons hv Rs.nil)
            · exact ⟨fun wr l hro => by simp [SO.row] at hro, trivial⟩
            · have hb := hr.blk j o hj'
              refine ⟨fun wr l hro => ?_, ?_⟩
              · obtain ⟨b, p, e1, e2, e3, e4⟩ := hb.1 wr l hro
                refine ⟨b, p, e1, by simpa using e2, e3, fun n s hs => ?_⟩
                have hbr := cellsNe hj' hro e1 ⟨n, s, hs⟩
                obtain ⟨⟨u, u1, u2, u3⟩, u4⟩ := e4 n s hs
                have hsame := same b hbr
                exact ⟨⟨u, by rw [World.cell?_of_block (w := w) hsame]; exact u1, u2, u3⟩, fun hw => by rw [World.frozen?_of_block (w := w) hsame]; exact u4 hw⟩
              · cases o with
                | otx e kc t =>
                  obtain ⟨g, c, g1, g2, g3⟩ := hb.2
                  refine ⟨g, c, g1, g2, ownsZ_heap g3 (same g fun e => ?_)⟩
                  subst e
                  rcases g3.2 with ⟨t1, _⟩ | ⟨g', cap', cur', t1, _, ⟨fz3, t3, _⟩, _⟩
                  · cases t1
                  · injection t1 with t1 _ _
                    injection t1 with t1
                    injection t1 with t1
                    subst t1
                    rw [q3] at t3
                    cases t3
                | ows e sz nn kc L =>
                  obtain ⟨g, c, g1, g2, g3⟩ := hb.2
                  refine ⟨g, c, g1, g2, ownsZ_heap g3 (same g fun e => ?_)⟩
                  subst e
                  rcases g3.2 with ⟨t1, _⟩ | ⟨g', cap', cur', t1, _, ⟨fz3, t3, _⟩, _⟩
                  · cases t1
                  · injection t1 with t1 _ _
                    injection t1 with t1
                    injection t1 with t1
                    subst t1
                    rw [q3] at t3
                    cases t3
                | own e s n kc l =>
                  obtain ⟨g, c, xs, g1, g2, g3, g4, g5⟩ := hb.2
                  refine ⟨g, c, xs, g1, g2, ownsZ_heap g3 (same g fun e => ?_), g4, g5⟩
                  subst e
                  rcases g3.2 with ⟨t1, _⟩ | ⟨g', cap', cur', t1, _, ⟨fz3, t3, _⟩, _⟩
                  · cases t1
                  · injection t1 with t1 _ _
                    injection t1 with t1
                    injection t1 with t1
                    subst t1
                    rw [q3] at t3
                    cases t3
                | mp q e => exact absurd rfl (hnm q e)
                | glob g l => exact hb.2
                | fx d =>
                  cases d with
                  | lop rdy ts ps as bd =>
                    obtain ⟨r', fn, vts, D, g1, g2, g3, g4⟩ := hb.2
                    refine ⟨r', fn, vts, D, g1, g2, ?_, g4⟩
                    rw [same r' (fun e => by subst e; rw [q3] at g3; cases g3)]; exact g3
                  | dfb =>
                    obtain ⟨r', g1, g2, g3⟩ := hb.2
                    refine ⟨r', g1, g2, ?_⟩
                    rw [same r' (fun e => by subst e; rw [q3] at g3; cases g3)]; exact g3
                | _ => trivial
          · intro k₁ k₂ s₁ s₂ l₁ wr₂ l₂ b₁ o₁ b₂ o₂ h1 r1 h2 r2 hne e1 e2
            rcases back h1 with ⟨_, rfl⟩ | rfl | ⟨_, h1', _⟩
            · simp [SO.row] at r1
            · simp [SO.row] at r1
            rcases back h2 with ⟨_, rfl⟩ | rfl | ⟨_, h2', _⟩
            · simp [SO.row] at r2
            · simp [SO.row] at r2
            exact hr.apart k₁ k₂ s₁ s₂ l₁ wr₂ l₂ b₁ o₁ b₂ o₂ h1' r1 h2' r2 hne e1 e2
        · refine ⟨rfl, rfl, rfl, by simp, fun b hb => ?_⟩
          show (w.heap.setIfInBounds r _)[b]? = w.heap[b]?
          rw [Array.getElem?_setIfInBounds, if_neg (by omega)]
      · trivial
    · trivial
  · trivial

def neAll (a : Int) : List (Int × SV) → Prop
  | [] => True
  | (b, _) :: l => a ≠ b ∧ neAll a l
theorem neAll_find {a : Int} : ∀ {es : List (Int × SV)}, neAll a es → findE a es = none
  | [], _ => rfl
  | (b, s) :: l, h => by simp only [findE, if_neg h.1]; exact neAll_find h.2
def lookRes (ok : Bool) (s : SV) (b : Bool) : SV := match ok with
  | true => .tup [s, .bol b]
  | false => s
def opLookup (P : Program) (hp : List SO) (ty : TypeId) (x k : SV) (ok : Bool) : OR :=
  match x, mapKind P ty with
  | .hdl i, some (kk, _, elem) =>
    match hp[i]?, (P.info? elem).bind (·.zero) with
    | some (.mp kk' es), some z =>
      if kk' = kk then
        match k with
        | .num kz a => if kz = kk then
            match findE a es with
            | some s => .pure (lookRes ok s true) .tt
            | none => .pure (lookRes ok (ofV z) false) .tt
          else .bad
        | .val (.int kz a) => if kz = kk then .pure (lookRes ok (ofV z) false) (.pr (neAll a es)) else .bad
        | _ => .bad
      else .bad
    | _, _ => .bad
  | _, _ => .bad
theorem opLookup_ok {P : Program} {η : Env} {hp : List SO} {ty : TypeId} {x k : SV} {vx vk : Value} {ok : Bool} (hx : R η x vx) (hk : R η k vk) :
    OrOk η hp (fun w => (Instr.lookup ty vx vk ok).run P w) (opLookup P hp ty x k ok) := by
  unfold opLookup
  split
  · rename_i i kk key elem hm
    obtain ⟨hu, huk⟩ := mapKind_ok hm
    split
    · rename_i kk' es z hi hz
      split
      · rename_i e
        subst e
        simp only [R] at hx
        have key' : ∀ (a : Int) (B : Nat) (w : World), HR B η hp w → (∀ s, findE a es = some s → ∃ v, R η (lookRes ok s true) v ∧ (Instr.lookup ty vx (.int kk' a) ok).run P w = .ok v w) ∧
            (findE a es = none → ∃ v, R η (lookRes ok (ofV z) false) v ∧ (Instr.lookup ty vx (.int kk' a) ok).run P w = .ok v w) := by
          intro a B w hr
          obtain ⟨r, arr, clock, q1, q2, q3, q4, q5⟩ := (hr.blk i _ hi).2
          rw [hx] at q1
          simp only [Option.some.injEq] at q1
          subst q1
          obtain ⟨g1, g2⟩ := findNow_int (a := a) arr.toList es 0 q4 q5
          refine ⟨fun s hs => ?_, fun hs => ?_⟩
          · obtain ⟨j, v, f1, f2⟩ := g1 s hs
            cases ok
            · exact ⟨v, f2, by simp [Instr.lookup, run_underlying hu, run_getObj_map w r arr clock q3, run_checkKey_int huk, Instr.findKey, run_underlying huk, f1]⟩
            · exact ⟨.tuple #[v, .bool true], ⟨_, rfl, Rs.cons f2 (Rs.cons (by simp only [R]) Rs.nil)⟩, by simp [Instr.lookup, run_underlying hu, run_getObj_map w r arr clock q3, run_checkKey_int huk, Instr.findKey, run_underlying huk, f1]⟩
          · have f1 := g2 hs
            have hzv : (zeroValue elem).run P w = .ok z w := by
              cases hi' : P.info? elem with
              | none => simp [hi'] at hz
              | some i' => simp [hi'] at hz; simp [zeroValue, typeInfo, hi', hz]
            cases ok
            · exact ⟨z, ofV_R η z, by simp [Instr.lookup, run_underlying hu, run_getObj_map w r arr clock q3, run_checkKey_int huk, Instr.findKey, run_underlying huk, f1, hzv]⟩
            · exact ⟨.tuple #[z, .bool false], ⟨_, rfl, Rs.cons (ofV_R η z) (Rs.cons (by simp only [R]) Rs.nil)⟩, by simp [Instr.lookup, run_underlying hu, run_getObj_map w r arr clock q3, run_checkKey_int huk, Instr.findKey, run_underlying huk, f1, hzv]⟩
        split
        · rename_i kz a
          split
          · rename_i e
            subst e
            simp only [R] at hk
            subst hk
            split
            · rename_i s hs
              intro _ B w hr
              exact (key' a B w hr).1 s hs
            · rename_i hs
              intro _ B w hr
              exact (key' a B w hr).2 hs
          · trivial
        · rename_i kz a
          split
          · rename_i e
            subst e
            simp only [R] at hk
            subst hk
            intro (hc : neAll a es) B w hr
            exact (key' a B w hr).2 (neAll_find hc)
          · trivial
        · trivial
      · trivial
    · trivial
  · trivial

/-! ### copy, of cells onto cells -/
def opCopy (P : Program) (hp : List SO) (t : TypeId) (x y : SV) : OR :=
  match P.underlying t, x, newsOf hp 1 y with
  | some (.slice e), .slc k off n _, some (m, nl) =>
    match hp[k]?, tsize P e with
    | some (.cells true l), some 1 => if off + Nat.min m n ≤ l.length then .mem (.num .i64 (Nat.min m n : Nat)) (hp.set k (.cells true (setAll l off (nl.take (Nat.min m n))))) .tt else .bad
    | _, _ => .bad
  | _, _, _ => .bad
theorem opCopy_ok {P : Program} {η : Env} {hp : List SO} {t t' ty : TypeId} {x y : SV} {vx vy : Value} (hx : R η x vx) (hy : R η y vy) :
    OrOk η hp (fun w => (Builtin.copy_ #[t, t'] ty #[vx, vy]).run P w) (opCopy P hp t x y) := by
  unfold opCopy
  split
  · rename_i e k off n cp m nl hu hn
    simp only [R] at hx
    obtain ⟨b, o, he, rfl⟩ := hx
    split
    · rename_i l hk hsz
      split
      · rename_i hle
        intro _ B w hr hB
        obtain ⟨a, c, news, rfl, hlen, hnews, hcell, hone⟩ := newsOf_ok hn hr hy
        rw [Nat.mul_one] at hlen
        have hmin : Nat.min m n ≤ m := Nat.min_le_left m n
        have hl2 : (nl.take (Nat.min m n)).length = Nat.min m n := by
          have := hnews.length
          rw [List.length_take]
          omega
        have hl3 : (news.take (Nat.min m n)).length = Nat.min m n := by rw [List.length_take]; omega
        obtain ⟨w', hw', hr', hb'⟩ := storeCells_ok (P := P) he (nl.take (Nat.min m n)) (news.take (Nat.min m n)) hp l off 0 w hr hk (hnews.take _) (fun u hu => hone u (List.mem_of_mem_take hu)) (by omega)
        refine ⟨.int .i64 (Nat.min m n : Nat), w', [], ?_, by simp only [R], by simpa using hr', hb'⟩
        have hload := run_loadCells_list (P := P) w a (news.take (Nat.min m n)) (fun j v hj => by
          have h1 : j < Nat.min m n := by
            have := (List.getElem?_eq_some_iff.1 hj).1
            omega
          rw [List.getElem?_take_of_lt h1] at hj
          exact hcell j v hj)
        rw [hl3] at hload
        simp [Builtin.copy_, run_underlying hu, Builtin.lenOf, Builtin.firstCells, run_sizeOf' hsz, hload, hw', goInt]
      · trivial
    · trivial
  · trivial
/-! ### a told text, copied into cells, and appended where there is room -/
theorem bts_cells {η : Env} (told : Bool) : ∀ l : List UInt8, Rs η (l.map (byteSV told)) (l.map fun b => Value.int .u8 b.toNat)
  | [] => Rs.nil
  | b :: l => Rs.cons (by unfold byteSV; split <;> simp only [R]) (bts_cells told l)
theorem run_firstCells_bts {P : Program} {w : World} (n : Nat) (l : List UInt8) : (Builtin.firstCells 1 n (.string ⟨l.toArray⟩)).run P w = .ok ((l.take n).map fun b => Value.int .u8 b.toNat).toArray w := by
  have e : ((⟨l.toArray⟩ : ByteArray).extract 0 n).data = (l.take n).toArray := by
    rw [ByteArray.data_extract]
    simp
  simp only [Builtin.firstCells, e]
  simp
def opCopyS (P : Program) (hp : List SO) (t : TypeId) (x y : SV) : OR :=
  match P.underlying t, x, y with
  | some (.slice e), .slc k off n _, .bts told bl =>
    match hp[k]?, tsize P e with
    | some (.cells true l), some 1 => if off + Nat.min bl.length n ≤ l.length then .mem (.num .i64 (Nat.min bl.length n : Nat)) (hp.set k (.cells true (setAll l off ((bl.take (Nat.min bl.length n)).map (byteSV told))))) .tt else .bad
    | _, _ => .bad
  | _, _, _ => .bad
theorem opCopyS_ok {P : Program} {η : Env} {hp : List SO} {t t' ty : TypeId} {x y : SV} {vx vy : Value} (hx : R η x vx) (hy : R η y vy) :
    OrOk η hp (fun w => (Builtin.copy_ #[t, t'] ty #[vx, vy]).run P w) (opCopyS P hp t x y) := by
  unfold opCopyS
  split
  · rename_i e k off n cp told bl hu
    simp only [R] at hx hy
    obtain ⟨b, o, he, rfl⟩ := hx
    subst hy
    split
    · rename_i l hk hsz
      split
      · rename_i hle
        intro _ B w hr hB
        have hsl : (⟨bl.toArray⟩ : ByteArray).size = bl.length := by show bl.toArray.size = _; simp
        have hl : ((bl.take (Nat.min bl.length n)).map (byteSV told)).length = Nat.min bl.length n := by
          rw [List.length_map, List.length_take]; exact Nat.min_eq_left (Nat.min_le_left _ _)
        obtain ⟨w', hw', hr', hb'⟩ := storeCells_ok (P := P) he _ _ hp l off 0 w hr hk (bts_cells told (bl.take (Nat.min bl.length n))) (fun u hu => by
          obtain ⟨b, _, rfl⟩ := List.mem_map.1 hu; rfl) (by rw [hl]; omega)
        refine ⟨.int .i64 (Nat.min bl.length n : Nat), w', [], ?_, by simp only [R], by simpa using hr', hb'⟩
        have hf := run_firstCells_bts (P := P) (w := w) (Nat.min bl.length n) bl
        rw [List.map_take] at hw' hf
        simp [Builtin.copy_, run_underlying hu, Builtin.lenOf, hsl, run_sizeOf' hsz, hf, hw', goInt]
      · trivial
    · trivial
  · trivial
def opAppendS (P : Program) (hp : List SO) (t t' : TypeId) (x y : SV) : OR :=
  match P.underlying t, P.underlying t', x, y with
  | some (.slice e), some .string, .slc k off n cap, .bts told bl =>
    match P.info? e with
    | some i =>
      match hp[k]? with
      | some (.cells true l) => if i.size = 1 ∧ n + bl.length ≤ cap ∧ off + n + bl.length ≤ l.length then .mem (.slc k off (n + bl.length) cap) (hp.set k (.cells true (setAll l (off + n) (bl.map (byteSV told))))) .tt else .bad
      | _ => .bad
    | none => .bad
  | _, _, _, _ => .bad
theorem opAppendS_ok {P : Program} {η : Env} {hp : List SO} {t t' ty : TypeId} {x y : SV} {vx vy : Value} (hx : R η x vx) (hy : R η y vy) :
    OrOk η hp (fun w => (Builtin.append_ #[t, t'] ty #[vx, vy]).run P w) (opAppendS P hp t t' x y) := by
  unfold opAppendS
  split
  · rename_i e k off n cap told bl hu hu'
    simp only [R] at hx hy
    obtain ⟨b, o, he, rfl⟩ := hx
    subst hy
    split
    · rename_i i hi
      split
      · rename_i l hk
        split
        · rename_i hc
          obtain ⟨hs1, hroom, hle⟩ := hc
          intro _ B w hr hB
          have hsl : (⟨bl.toArray⟩ : ByteArray).size = bl.length := by show bl.toArray.size = _; simp
          obtain ⟨w', hw', hr', hb'⟩ := storeCells_ok (P := P) he _ _ hp l (off + n) 0 w hr hk (bts_cells told bl) (fun u hu => by
            obtain ⟨b, _, rfl⟩ := List.mem_map.1 hu; rfl) (by rw [List.length_map]; omega)
          refine ⟨.slice (some ⟨b, o + off, none⟩) (n + bl.length) cap, w', [], ?_, ?_, by simpa using hr', hb'⟩
          · have hf := run_firstCells_bts (P := P) (w := w) bl.length bl
            rw [List.take_length] at hf
            rw [← Nat.add_assoc] at hw'
            simp [Builtin.append_, run_underlying hu, run_underlying hu', sizeOf, typeInfo, hi, hs1, Builtin.lenOf, hsl, hroom, hf, add_at, hw']
          · simp only [R, List.append_nil]
            exact ⟨b, o, he, rfl⟩
        · trivial
      · trivial
    · trivial
  · trivial
/-! ### a text, appended onto a row of one's own -/
theorem append_stepS {P : Program} (w : World) (base : Nat) (t u ty e : TypeId) (i : TypeInfo) (z : Value) (ht : P.underlying t = some (.slice e)) (hu : P.underlying u = some .string) (hi : P.info? e = some i) (hz : i.zero = some z)
    (hzs : z.cells.size = 1) (hsz : i.size = 1) (g n cap : Nat) (xs : List Value) (hown : ownsZ w base e 1 (.slice (some ⟨g, 0, none⟩) n cap) n xs)
    (s : ByteArray) (h63 : n + s.size ≤ 1000000000) (hbytes : (n + s.size) * i.bytes ≤ 1000000000) (hbase : base ≤ w.heap.size) :
    ∃ g' cap' w', (Builtin.append_ #[t, u] ty #[.slice (some ⟨g, 0, none⟩) n cap, .string s]).run P w = .ok (.slice (some ⟨g', 0, none⟩) (n + s.size) cap') w' ∧
      ownsZ w' base e 1 (.slice (some ⟨g', 0, none⟩) (n + s.size) cap') (n + s.size) (xs ++ Lib.strCells s) ∧ w.grownBy w' (some g) ∧ (some g = some g' ∨ g' = w.heap.size) := by
  have hl : (Lib.strCells s).length = s.size := Lib.strCells_length s
  have hlen : (xs ++ Lib.strCells s).length = (n + s.size) * 1 := by rw [List.length_append, hown.1, hl]; omega
  have whole := hown
  rcases hown.2 with ⟨q, _⟩ | ⟨g', cap', cur, q, hbg, ⟨fz, hgg, hfree⟩, hnc, hcm, hcs, htake⟩
  · cases q
  · injection q with q1 q2 q3
    injection q1 with q1
    injection q1 with q1
    subst q1; subst q3
    by_cases hroom : n + s.size ≤ cap
    · have hfit : n + (Lib.strCells s).length ≤ cur.size := by rw [hl, hcs]; omega
      have hf := Lib.run_firstCells_string (P := P) w 1 s
      have hst := run_storeCells_cells (P := P) g n (Lib.strCells s) 0 w (fun j hj => by
        simp only [World.cell?, hgg]
        simp
        omega) (fun j hj => by
        have := hfree (n + j) (by omega)
        simp only [World.frozen?, hgg]
        simp
        omega) (Lib.strCells_oneCell s)
      simp only [Nat.add_zero] at hst
      obtain ⟨cur', p1, p2, p3⟩ := setCells_row g e fz (Lib.strCells s) n w cur hgg hfit
      obtain ⟨s1, s2, s3, s4⟩ := setCells_same g (Lib.strCells s) n w
      refine ⟨g, cap, w.setCells g n (Lib.strCells s), ?_, ⟨hlen, .inr ⟨g, cap, cur', rfl, hbg, ⟨fz, p1, by rw [p2]; exact hfree⟩, hroom, hcm, by rw [p2]; exact hcs, ?_⟩⟩, ⟨s1, s2, s3, by rw [s4]; exact Nat.le_refl _, fun k hk hne => setCells_other g (Lib.strCells s) _ w k (fun e => hne (by rw [e]))⟩, .inl rfl⟩
      · simp [Builtin.append_, run_underlying ht, run_underlying hu, sizeOf, typeInfo, hi, hsz, Builtin.lenOf, hroom, hf, Addr.add_lit, hst]
      · rw [Nat.mul_one] at htake ⊢
        rw [← hl, p3, htake]
    · have holds : ∀ j u, xs[j]? = some u → w.cell? ((⟨g, 0, none⟩ : Addr).add j) = some u := whole.cells (g := g) rfl
      have hr' := Lib.run_append_grow_string (P := P) w t u ty e i z ht hu hi hz ⟨g, 0, none⟩ n cap xs (by rw [hsz]; exact hown.1) holds s (by omega) (by omega) (growslice_fits (by omega) (by omega))
      have hge := grownCap_ge w (n + s.size) cap e
      have hcm' : grownCap w (n + s.size) cap e ≤ maxLen := grownCap_le_maxLen w (n + s.size) cap e (by simp only [maxLen]; omega)
      refine ⟨_, _, _, hr', ownsZ.of ⟨hlen, .inr ⟨w.heap.size, _, _, rfl, hbase, heap_alloc_new w.drew _, hge, hcm', ?_, ?_⟩⟩, ⟨rfl, rfl, rfl, by simp, fun k hk _ => heap_alloc_old w.drew _ k hk⟩, .inr rfl⟩
      · have := hown.1
        simp only [Array.size_append, List.size_toArray, size_zeroCells, hzs, hl]
        omega
      · simp only [Array.toList_append, List.append_assoc]
        rw [← List.append_assoc, ← hlen]
        exact List.take_left
theorem text_cells {η : Env} (s : ByteArray) : Rs η (textCells s) (Lib.strCells s) := bts_cells false s.data.toList
def opAppendT (P : Program) (hp : List SO) (t t' : TypeId) (x y : SV) : OR :=
  match P.underlying t, P.underlying t', x, y.val? with
  | some (.slice e), some .string, .sle k 0 n kc, some (.string s) =>
    match P.info? e with
    | some i =>
      match i.zero, hp[k]? with
      | some z, some (.own e' s' n' kc' l) =>
        if e' = e ∧ s' = 1 ∧ n' = n ∧ kc' = kc ∧ i.size = 1 ∧ z.cells.size = 1 then
          .mem (.slo hp.length (n + s.size) (hp.length + 1)) (hp.set k .dead ++ [.otx e (hp.length + 1) (⟨(l.map cellB).toArray⟩ ++ s)] ++ [.dead]) (.pr ((n + s.size ≤ 1000000000 ∧ (n + s.size) * i.bytes ≤ 1000000000) ∧ inBs l))
        else .bad
      | _, _ => .bad
    | none => .bad
  | _, _, _, _ => .bad
theorem opAppendT_ok {P : Program} {η : Env} {hp : List SO} {t t' ty : TypeId} {x y : SV} {vx vy : Value} (hx : R η x vx) (hy : R η y vy) :
    OrOk η hp (fun w => (Builtin.append_ #[t, t'] ty #[vx, vy]).run P w) (opAppendT P hp t t' x y) := by
  unfold opAppendT
  split
  · rename_i e k n kc s ht hu hys
    have hvy := SV.val?_R hys hy
    subst hvy
    split
    · rename_i i hi
      split
      · rename_i z e' s' n' kc' l hz hk
        split
        · rename_i hc
          obtain ⟨rfl, rfl, rfl, rfl, hsz, hzs⟩ := hc
          obtain ⟨b0, o0, c0, he0, hc0, hle0, rfl⟩ := hx
          intro (hpr0 : (n' + s.size ≤ 1000000000 ∧ (n' + s.size) * i.bytes ≤ 1000000000) ∧ inBs l) B w hr hB
          obtain ⟨hpr, hin⟩ := hpr0
          obtain ⟨g0, c1, xs, f1, f2, f3, f4, f5⟩ := (hr.blk k _ hk).2
          rw [he0] at f1
          simp at f1
          obtain ⟨rfl, rfl⟩ := f1
          rw [hc0] at f2
          simp at f2
          subst f2
          obtain ⟨g, cap, w', hrun, hown, hgr, hgg⟩ := append_stepS (P := P) w B t t' ty e' i z ht hu hi hz hzs hsz b0 n' c0 xs f3 s hpr.1 hpr.2 hB
          have hkl : k < hp.length := (List.getElem?_eq_some_iff.1 hk).1
          have hrow : ∀ g', some b0 = some g' → B ≤ g' ∧ ∀ (k' : Nat) (o : SO) (wr : Bool) (l' : List SV) (b p : Nat), (hp.set k .dead)[k']? = some o → o.row = some (wr, l') → η[k']? = some (.pointer (some ⟨b, p, none⟩)) → b ≠ g' := by
            intro g' q
            simp at q
            subst q
            refine ⟨(f3.lt b0 rfl).1, fun k' o wr l' b p hk' hro he' => ?_⟩
            by_cases hkk : k = k'
            · subst hkk
              rw [List.getElem?_set_self hkl] at hk'
              simp at hk'; subst hk'; simp [SO.row] at hro
            · rw [List.getElem?_set_ne hkk] at hk'
              exact fun e => hr.apart k k' _ o l wr l' b0 0 b p hk rfl hk' hro hkk he0 he' e.symm
          obtain ⟨hr', hbel⟩ := (hr.drop k).appended hB hgr hrow (fun g' q => by
            simp at q
            subst q
            rcases f3.2 with ⟨q1, _⟩ | ⟨g2, cap2, cur2, q1, _, ⟨fz2, q3, _⟩, _⟩
            · cases q1
            · injection q1 with q1 _ _
              injection q1 with q1
              injection q1 with q1
              subst q1
              exact ⟨_, _, _, q3⟩) hown hgg (f4.append (text_cells s)) (fun u hu => by
            rcases List.mem_append.1 hu with hu | hu
            · exact f5 u hu
            · exact Lib.strCells_oneCell s u hu)
          rw [List.length_set] at hr'
          have hll : l.length = n' := by rw [← f4.length]; have := f3.1; omega
          have hr2 := HR.own_say (k := hp.length) (e := e') (n := n' + s.size) (kc := hp.length + 1) (l := l ++ textCells s) hr' (by rw [List.append_assoc, List.getElem?_append_right (by simp)]; simp) (⟨(l.map cellB).toArray⟩ ++ s) (by
            rw [ByteArray.size_append]
            show (l.map cellB).toArray.size + _ = _
            rw [List.size_toArray, List.length_map, hll]) (fun i c hc => by
            rw [ByteArray.data_append, Array.toList_append]
            show ∃ b, ((l.map cellB) ++ s.data.toList)[i]? = some b ∧ _
            by_cases hi : i < l.length
            · rw [List.getElem?_append_left hi] at hc
              rw [List.getElem?_append_left (by rw [List.length_map]; exact hi), List.getElem?_map, hc]
              exact ⟨_, rfl, fun v hv => inBs_get hin hc hv⟩
            · rw [List.getElem?_append_right (by omega)] at hc
              rw [List.getElem?_append_right (by rw [List.length_map]; omega), List.length_map]
              unfold textCells at hc
              rw [List.getElem?_map] at hc
              obtain ⟨x, hx, rfl⟩ := Option.map_eq_some_iff.1 hc
              exact ⟨x, hx, fun v hv => by unfold byteSV at hv; simpa only [Bool.false_eq_true, if_false, R] using hv⟩)
          have hr3 : HR B (η ++ [.pointer (some ⟨g, 0, none⟩), .slice none 0 cap]) (hp.set k .dead ++ [.otx e' (hp.length + 1) (⟨(l.map cellB).toArray⟩ ++ s)] ++ [.dead]) w' := by
            simpa [List.set_append] using hr2
          refine ⟨_, w', [.pointer (some ⟨g, 0, none⟩), .slice none 0 cap], by simpa using hrun, ?_, hr3, hbel⟩
          have hcap : n' + s.size ≤ cap := by
            rcases hown.2 with ⟨q, _⟩ | ⟨g', cap', cur, q, _, _, q4, _⟩
            · cases q
            · injection q with _ _ q
              omega
          simp only [R]
          exact ⟨g, 0, cap, by rw [← hr.len]; simp, by rw [← hr.len]; simp, hcap, rfl⟩
        · trivial
      · trivial
    · trivial
  · trivial
def opCopyT (P : Program) (hp : List SO) (t : TypeId) (x y : SV) : OR :=
  match P.underlying t, x, y with
  | some (.slice e), .sle k off n _, .bts told bl =>
    match hp[k]?, tsize P e with
    | some (.own e0 s0 n0 kc0 l), some 1 => if off + Nat.min bl.length n ≤ l.length then .mem (.num .i64 (Nat.min bl.length n : Nat)) (hp.set k (.own e0 s0 n0 kc0 (setAll l off ((bl.take (Nat.min bl.length n)).map (byteSV told))))) .tt else .bad
    | _, _ => .bad
  | _, _, _ => .bad
theorem opCopyT_ok {P : Program} {η : Env} {hp : List SO} {t t' ty : TypeId} {x y : SV} {vx vy : Value} (hx : R η x vx) (hy : R η y vy) :
    OrOk η hp (fun w => (Builtin.copy_ #[t, t'] ty #[vx, vy]).run P w) (opCopyT P hp t x y) := by
  unfold opCopyT
  split
  · rename_i e k off n kc told bl hu
    simp only [R] at hx hy
    obtain ⟨b, o, c, he, _, _, rfl⟩ := hx
    subst hy
    split
    · rename_i e0 s0 n0 kc0 l hk hsz
      split
      · rename_i hle
        intro _ B w hr hB
        have hsl : (⟨bl.toArray⟩ : ByteArray).size = bl.length := by show bl.toArray.size = _; simp
        have hl : ((bl.take (Nat.min bl.length n)).map (byteSV told)).length = Nat.min bl.length n := by
          rw [List.length_map, List.length_take]; exact Nat.min_eq_left (Nat.min_le_left _ _)
        have hkl : k < hp.length := (List.getElem?_eq_some_iff.1 hk).1
        have hr2 := hr.turn (so' := .cells true l) hk rfl trivial
        obtain ⟨w', hw', hr', hb', hsh⟩ := storeCells_okS (P := P) he _ _ (hp.set k (.cells true l)) l off 0 w hr2 (by rw [List.getElem?_set_self hkl]) (bts_cells told (bl.take (Nat.min bl.length n))) (fun u hu => by
          obtain ⟨b, _, rfl⟩ := List.mem_map.1 hu; rfl) (by rw [hl]; omega)
        rw [List.set_set] at hr'
        have hr'' := hr.own_back hk (setAll_length l (off + 0) _) hr' hsh
        refine ⟨.int .i64 (Nat.min bl.length n : Nat), w', [], ?_, by simp only [R], by simpa using hr'', hb'⟩
        have hf := run_firstCells_bts (P := P) (w := w) (Nat.min bl.length n) bl
        rw [List.map_take] at hw' hf
        simp [Builtin.copy_, run_underlying hu, Builtin.lenOf, hsl, run_sizeOf' hsz, hf, hw', goInt]
      · trivial
    · trivial
  · trivial
/-- Cells, said otherwise. -/
theorem hr_cells {B : Nat} {η : Env} {hp : List SO} {w : World} (h : HR B η hp w) {k : Nat} {wr : Bool} {l l' : List SV} (hk : hp[k]? = some (.cells wr l)) (hl : l'.length = l.length) (hR : ∀ (i : Nat) (s s' : SV), l[i]? = some s → l'[i]? = some s' → ∀ (v : Value), R η s v → R η s' v) :
    HR B η (hp.set k (.cells wr l')) w := by
  have hlt : k < hp.length := (List.getElem?_eq_some_iff.1 hk).1
  have get : ∀ (j : Nat) (o : SO), (hp.set k (.cells wr l'))[j]? = some o → (j = k ∧ o = .cells wr l') ∨ (j ≠ k ∧ hp[j]? = some o) := by
    intro j o h
    by_cases e : j = k
    · subst e
      rw [List.getElem?_set_self hlt] at h
      exact .inl ⟨rfl, (Option.some.inj h).symm⟩
    · rw [List.getElem?_set_ne (Ne.symm e)] at h
      exact .inr ⟨e, h⟩
  have row : ∀ (j : Nat) (o : SO) (w1 : Bool) (l1 : List SV), (hp.set k (.cells wr l'))[j]? = some o → o.row = some (w1, l1) → ∃ o' l2, hp[j]? = some o' ∧ o'.row = some (w1, l2) := by
    intro j o w1 l1 h hr
    rcases get j o h with ⟨rfl, rfl⟩ | ⟨_, h'⟩
    · simp only [SO.row, Option.some.injEq, Prod.mk.injEq] at hr
      obtain ⟨rfl, rfl⟩ := hr
      exact ⟨_, _, hk, rfl⟩
    · exact ⟨_, _, h', hr⟩
  refine ⟨by rw [h.len]; simp, fun j o hj => ?_, ?_⟩
  · rcases get j o hj with ⟨rfl, rfl⟩ | ⟨_, h'⟩
    · refine ⟨fun wr' l1 hro => ?_, trivial⟩
      simp only [SO.row, Option.some.injEq, Prod.mk.injEq] at hro
      obtain ⟨rfl, rfl⟩ := hro
      obtain ⟨b, p, e1, e2, e3, e4⟩ := (h.blk j _ hk).1 wr l rfl
      refine ⟨b, p, e1, e2, e3, fun i s hi => ?_⟩
      have hlt2 : i < l.length := by rw [← hl]; exact (List.getElem?_eq_some_iff.1 hi).1
      have h0 := List.getElem?_eq_getElem hlt2
      obtain ⟨⟨v, v1, v2, v3⟩, v4⟩ := e4 i _ h0
      exact ⟨⟨v, v1, hR i _ _ h0 hi _ v2, v3⟩, v4⟩
    · exact h.blk j o h'
  · intro k₁ k₂ s₁ s₂ l₁ wr₂ l₂ b₁ o₁ b₂ o₂ h1 r1 h2 r2 hne e1 e2
    obtain ⟨p1, m1, q1, t1⟩ := row _ _ _ _ h1 r1
    obtain ⟨p2, m2, q2, t2⟩ := row _ _ _ _ h2 r2
    exact h.apart k₁ k₂ p1 p2 m1 wr₂ m2 b₁ o₁ b₂ o₂ q1 t1 q2 t2 hne e1 e2
theorem setAll_get : ∀ (r l : List SV) (off : Nat), off + r.length ≤ l.length → ∀ i, (setAll l off r)[i]? = if off ≤ i ∧ i < off + r.length then r[i - off]? else l[i]?
  | [], l, off, _, i => by simp only [setAll, List.length_nil, Nat.add_zero]; rw [if_neg (by omega)]
  | s :: r, l, off, h, i => by
    simp only [List.length_cons] at h
    simp only [setAll, List.length_cons]
    rw [setAll_get r (l.set off s) (off + 1) (by rw [List.length_set]; omega) i]
    by_cases h1 : off + 1 ≤ i ∧ i < off + 1 + r.length
    · rw [if_pos h1, if_pos (by omega), show i - off = (i - (off + 1)) + 1 by omega, List.getElem?_cons_succ]
    · rw [if_neg h1]
      by_cases h2 : i = off
      · subst h2
        rw [if_pos (by omega), List.getElem?_set_self (by omega), Nat.sub_self]; rfl
      · rw [if_neg (by omega), List.getElem?_set_ne (by omega)]
/-! ### an untold text, copied into zeros -/
def zeroU8 : SV → Bool
  | .num .u8 z => z == 0
  | _ => false
theorem zeroU8_R {η : Env} {s : SV} {v : Value} (h : zeroU8 s = true) (hR : R η s v) : v = .int .u8 0 := by
  unfold zeroU8 at h
  split at h
  · simp only [beq_iff_eq] at h
    subst h
    simpa only [R] using hR
  · cases h
def byteCells (s : ByteArray) (n : Nat) : List SV := (List.range n).map fun i : Nat => .val (.int .u8 (byteAt s (i : Int)))
def opCopyV (P : Program) (hp : List SO) (t : TypeId) (x y : SV) : OR :=
  match P.underlying t, x, y.val? with
  | some (.slice e), .sle k off n _, some (.string s) =>
    match hp[k]?, tsize P e with
    | some (.own e0 s0 n0 kc0 l), some 1 => if off = 0 ∧ n ≤ l.length ∧ (l.take n).all zeroU8 = true then .mem (.val (.int .i64 (s.size : Int))) (hp.set k (.own e0 s0 n0 kc0 (byteCells s n ++ l.drop n))) (.pr (s.size ≤ n)) else .bad
    | _, _ => .bad
  | some (.slice e), .slc k off n _, some (.string s) =>
    match hp[k]?, tsize P e with
    | some (.cells true l), some 1 => if off = 0 ∧ n ≤ l.length ∧ (l.take n).all zeroU8 = true then .mem (.val (.int .i64 (s.size : Int))) (hp.set k (.cells true (byteCells s n ++ l.drop n))) (.pr (s.size ≤ n)) else .bad
    | _, _ => .bad
  | _, _, _ => .bad
theorem copied_say {s : ByteArray} {l : List SV} {n : Nat} (hn : n ≤ l.length) (hz : (l.take n).all zeroU8 = true) (hs : s.size ≤ n) {η : Env} : ∀ (i : Nat) (a a' : SV), (setAll l 0 (textCells s))[i]? = some a → (byteCells s n ++ l.drop n)[i]? = some a' → ∀ (v : Value), R η a v → R η a' v := by
  intro i a a' h1 h2 v hR
  rw [setAll_get _ _ _ (by rw [textCells_length]; omega)] at h1
  have hbl : (byteCells s n).length = n := by simp [byteCells]
  by_cases hin : i < n
  · rw [List.getElem?_append_left (by omega)] at h2
    unfold byteCells at h2
    rw [List.getElem?_map] at h2
    obtain ⟨j, hj, rfl⟩ := Option.map_eq_some_iff.1 h2
    have hj' := List.getElem?_eq_some_iff.1 hj
    obtain ⟨hlt, he⟩ := hj'
    rw [List.getElem_range] at he
    subst he
    by_cases hi : i < s.size
    · rw [if_pos (by rw [textCells_length]; omega), Nat.sub_zero] at h1
      have := textCells_get s (i : Int) (by simpa using hi)
      simp only [Int.toNat_natCast] at this
      rw [this] at h1
      rw [← Option.some.inj h1] at hR
      exact hR
    · rw [if_neg (by rw [textCells_length]; omega)] at h1
      have hza := List.all_eq_true.1 hz a (List.mem_of_getElem? (i := i) (by rw [List.getElem?_take_of_lt hin]; exact h1))
      have := zeroU8_R hza hR
      subst this
      simp only [R]
      have : byteAt s (i : Int) = 0 := by unfold byteAt; rw [dif_neg (by simpa using hi)]
      rw [this]
  · rw [if_neg (by rw [textCells_length]; omega)] at h1
    rw [List.getElem?_append_right (by omega), hbl, List.getElem?_drop, show n + (i - n) = i by omega, h1] at h2
    rw [← Option.some.inj h2]
    exact hR
theorem opCopyV_ok {P : Program} {η : Env} {hp : List SO} {t t' ty : TypeId} {x y : SV} {vx vy : Value} (hx : R η x vx) (hy : R η y vy) :
    OrOk η hp (fun w => (Builtin.copy_ #[t, t'] ty #[vx, vy]).run P w) (opCopyV P hp t x y) := by
  unfold opCopyV
  split
  · rename_i e k off n kc s hu hys
    have hvy := SV.val?_R hys hy
    subst hvy
    simp only [R] at hx
    obtain ⟨b, o, c, he, _, _, rfl⟩ := hx
    split
    · rename_i e0 s0 n0 kc0 l hk hsz
      split
      · rename_i hc
        obtain ⟨rfl, hn, hz⟩ := hc
        intro (hpr : s.size ≤ n) B w hr hB
        have hkl : k < hp.length := (List.getElem?_eq_some_iff.1 hk).1
        have hr2 := hr.turn (so' := .cells true l) hk rfl trivial
        obtain ⟨w', hw', hr', hb', hsh⟩ := storeCells_okS (P := P) he _ _ (hp.set k (.cells true l)) l 0 0 w hr2 (by rw [List.getElem?_set_self hkl]) (text_cells s) (Lib.strCells_oneCell s) (by rw [textCells_length]; omega)
        rw [List.set_set, Nat.add_zero] at hr'
        have hr3 := hr_cells (l' := byteCells s n ++ l.drop n) hr' (List.getElem?_set_self hkl) (by rw [setAll_length]; simp [byteCells]; omega) (copied_say hn hz hpr)
        rw [List.set_set] at hr3
        have hr'' := hr.own_back hk (by simp [byteCells]; omega) hr3 hsh
        refine ⟨.int .i64 (s.size : Int), w', [], ?_, by simp only [R], by simpa using hr'', hb'⟩
        have hf := Lib.run_firstCells_string (P := P) w 1 s
        have hmin : min s.size n = s.size := Nat.min_eq_left hpr
        rw [Nat.add_zero] at hw'
        simp [Builtin.copy_, run_underlying hu, Builtin.lenOf, run_sizeOf' hsz, hmin, hf, hw', goInt]
      · trivial
    · trivial
  · rename_i e k off n cp s hu hys
    have hvy := SV.val?_R hys hy
    subst hvy
    simp only [R] at hx
    obtain ⟨b, o, he, rfl⟩ := hx
    split
    · rename_i l hk hsz
      split
      · rename_i hc
        obtain ⟨rfl, hn, hz⟩ := hc
        intro (hpr : s.size ≤ n) B w hr hB
        have hkl : k < hp.length := (List.getElem?_eq_some_iff.1 hk).1
        obtain ⟨w', hw', hr', hb'⟩ := storeCells_ok (P := P) he _ _ hp l 0 0 w hr hk (text_cells s) (Lib.strCells_oneCell s) (by rw [textCells_length]; omega)
        rw [Nat.add_zero] at hr'
        have hr3 := hr_cells (l' := byteCells s n ++ l.drop n) hr' (List.getElem?_set_self hkl) (by rw [setAll_length]; simp [byteCells]; omega) (copied_say hn hz hpr)
        rw [List.set_set] at hr3
        refine ⟨.int .i64 (s.size : Int), w', [], ?_, by simp only [R], by simpa using hr3, hb'⟩
        have hf := Lib.run_firstCells_string (P := P) w 1 s
        have hmin : min s.size n = s.size := Nat.min_eq_left hpr
        rw [Nat.add_zero] at hw'
        simp [Builtin.copy_, run_underlying hu, Builtin.lenOf, run_sizeOf' hsz, hmin, hf, hw', goInt]
      · trivial
    · trivial
  · trivial
def opCopyX (P : Program) (hp : List SO) (t : TypeId) (x y : SV) : OR :=
  match y with
  | .bts told l => match x with
    | .sle a b c d => opCopyT P hp t (.sle a b c d) (.bts told l)
    | x => opCopyS P hp t x (.bts told l)
  | y => opCopyV P hp t x y
theorem opCopyX_ok {P : Program} {η : Env} {hp : List SO} {t t' ty : TypeId} {x y : SV} {vx vy : Value} (hx : R η x vx) (hy : R η y vy) :
    OrOk η hp (fun w => (Builtin.copy_ #[t, t'] ty #[vx, vy]).run P w) (opCopyX P hp t x y) := by
  unfold opCopyX
  split
  · split
    · exact opCopyT_ok hx hy
    · exact opCopyS_ok hx hy
  · exact opCopyV_ok hx hy
def opAppendX (P : Program) (hp : List SO) (t t' : TypeId) (x y : SV) : OR :=
  match x with
  | .sle a b c d => opAppendT P hp t t' (.sle a b c d) y
  | x => opAppendS P hp t t' x y
theorem opAppendX_ok {P : Program} {η : Env} {hp : List SO} {t t' ty : TypeId} {x y : SV} {vx vy : Value} (hx : R η x vx) (hy : R η y vy) :
    OrOk η hp (fun w => (Builtin.append_ #[t, t'] ty #[vx, vy]).run P w) (opAppendX P hp t t' x y) := by
  unfold opAppendX
  split
  · exact opAppendT_ok hx hy
  · exact opAppendS_ok hx hy
end Go.Ex
