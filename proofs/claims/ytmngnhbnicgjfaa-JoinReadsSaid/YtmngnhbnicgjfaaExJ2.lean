/-
  A reckoner of programs and its soundness, part ExJ2: what it reckons is what 'Calls' says. No condition. By an AI agent.
-/
import Derived.Test.YtmngnhbnicgjfaaExJ1
import Derived.OrdersHeld
namespace Go.Ex
open Go.RowKit (Below)

/-! ### a region that draws its order, with operations that act: every order of these -/
def isUndef : Value → Bool
  | .tuple ⟨[]⟩ => true
  | _ => false
theorem isUndef_eq {v : Value} (h : isUndef v = true) : v = .tuple #[] := by
  unfold isUndef at h
  split at h
  · rfl
  · simp at h
mutual
/-- Are they the same? -/
def sameC : SV → SV → Cnd
  | .num k z, .num k' z' => if k = k' ∧ z = z' then .tt else .pr False
  | .bol b, .bol b' => if b = b' then .tt else .pr False
  | .bts true l, .bts true l' => if l = l' then .tt else .pr False
  | .ptr k o, .ptr k' o' => if k = k' ∧ o = o' then .tt else .pr False
  | .slc k o l c, .slc k' o' l' c' => if k = k' ∧ o = o' ∧ l = l' ∧ c = c' then .tt else .pr False
  | .val v, .val u => if isUndef v && isUndef u then .tt else .eq (.val v) (.val u)
  | .agg l, .agg l' => sameCs l l'
  | .tup l, .tup l' => sameCs l l'
  | .fnc g a b, .fnc g' a' b' => if g = g' then (sameCs a a').and (sameCs b b') else .pr False
  | a, b => .eq a b
def sameCs : List SV → List SV → Cnd
  | [], [] => .tt
  | s :: l, s' :: l' => (sameC s s').and (sameCs l l')
  | _, _ => .pr False
end
mutual
theorem sameC_ok : ∀ (s s' : SV), (sameC s s').Is → s = s' := by
  intro s s' h
  unfold sameC at h
  split at h
  · split at h
    · rename_i e; rw [e.1, e.2]
    · exact h.elim
  · split at h
    · rename_i e; rw [e]
    · exact h.elim
  · split at h
    · rename_i e; rw [e]
    · exact h.elim
  · split at h
    · rename_i e; rw [e.1, e.2]
    · exact h.elim
  · split at h
    · rename_i e; rw [e.1, e.2.1, e.2.2.1, e.2.2.2]
    · exact h.elim
  · split at h
    · rename_i e
      rw [Bool.and_eq_true] at e
      rw [isUndef_eq e.1, isUndef_eq e.2]
    · exact h
  · rw [sameCs_ok _ _ h]
  · rw [sameCs_ok _ _ h]
  · split at h
    · rename_i e
      rw [e, sameCs_ok _ _ h.l, sameCs_ok _ _ h.r]
    · exact h.elim
  · exact h
theorem sameCs_ok : ∀ (l l' : List SV), (sameCs l l').Is → l = l'
  | [], [], _ => rfl
  | s :: l, s' :: l', h => by
    simp only [sameCs] at h
    rw [sameC_ok s s' h.l, sameCs_ok l l' h.r]
  | [], _ :: _, h => by simp [sameCs, Cnd.Is] at h
  | _ :: _, [], h => by simp [sameCs, Cnd.Is] at h
end
def sameO : SO → SO → Cnd
  | .dead, .dead => .tt
  | .cells a l, .cells a' l' => if a = a' then sameCs l l' else .pr False
  | _, _ => .pr False
theorem sameO_ok {s s' : SO} (h : (sameO s s').Is) : s = s' := by
  unfold sameO at h
  split at h
  · rfl
  · split at h
    · rename_i e; rw [e, sameCs_ok _ _ h]
    · exact h.elim
  · exact h.elim
def sameOs : List SO → List SO → Cnd
  | [], [] => .tt
  | s :: l, s' :: l' => (sameO s s').and (sameOs l l')
  | _, _ => .pr False
theorem sameOs_ok : ∀ {l l' : List SO}, (sameOs l l').Is → l = l'
  | [], [], _ => rfl
  | s :: l, s' :: l', h => by
    simp only [sameOs] at h
    rw [sameO_ok h.l, sameOs_ok h.r]
  | [], _ :: _, h => by simp [sameOs, Cnd.Is] at h
  | _ :: _, [], h => by simp [sameOs, Cnd.Is] at h

/-- What is kept throughout is there. -/
def keepsC : List SO → List SO → Cnd
  | [], _ => .tt
  | .dead :: r, _ :: r' => keepsC r r'
  | s :: r, s' :: r' => (sameO s' s).and (keepsC r r')
  | _ :: _, [] => .pr False
theorem keepsC_spec : ∀ {hs hp : List SO}, (keepsC hs hp).Is → ∀ (k : Nat) (wr : Bool) (l : List SV), hs[k]? = some (.cells wr l) → hp[k]? = some (.cells wr l)
  | [], _, _, _, _, _, h => by simp at h
  | s :: r, [], h, k, wr, l, hk => by cases s <;> exact h.elim
  | .dead :: r, s' :: r', h, 0, wr, l, hk => by simp at hk
  | .dead :: r, s' :: r', h, k + 1, wr, l, hk => by
    simp at hk ⊢
    exact keepsC_spec (hs := r) h k wr l hk
  | .cells a b :: r, s' :: r', h, 0, wr, l, hk => by
    simp at hk ⊢
    have h1 := sameO_ok (Cnd.Is.l h)
    rw [h1]; simpa using hk
  | .cells a b :: r, s' :: r', h, k + 1, wr, l, hk => by
    simp at hk ⊢
    exact keepsC_spec (hs := r) (Cnd.Is.r h) k wr l hk

theorem HR.keep {B : Nat} {η μ : Env} {hs hp : List SO} {w w' : World} (h : HR B η hs w) (h' : HR B (η ++ μ) hp w') (hk : (keepsC hs hp).Is) : HR B η hs w' := by
  have sp := keepsC_spec hk
  refine ⟨h.len, fun k o hko => ?_, h.apart⟩
  have hlt := (List.getElem?_eq_some_iff.1 hko).1
  cases o with
  | dead => trivial
  | cells wr l =>
    have h1 := h.blk k _ hko
    have h2 := h'.blk k _ (sp k wr l hko)
    obtain ⟨b, o, e1, e2, e3, e4⟩ := h1
    obtain ⟨b', o', f1, f2, f3, f4⟩ := h2
    rw [List.getElem?_append_left (by rw [h.len]; exact hlt), e1] at f1
    simp at f1
    obtain ⟨rfl, rfl⟩ := f1
    refine ⟨b, o, e1, f2, f3, fun i s hi => ?_⟩
    obtain ⟨⟨v, g1, g2, g3⟩, _⟩ := e4 i s hi
    obtain ⟨⟨v', g1', g2', g3'⟩, g4'⟩ := f4 i s hi
    have : v' = v := R.fun g2' g2.ext
    subst this
    exact ⟨⟨v', g1', g2, g3'⟩, g4'⟩

def padTo (hs : List SO) (n : Nat) : List SO := hs ++ List.replicate (n - hs.length) .dead

/-- The first of those that may come up that only reads what is kept, and whose place nobody touches. -/
def takeR (P : Program) (ops : Array Oper) (listed : Array Bool) (hs : List SO) (tm : List SV) (hp : List SO) (ans : List Bool) : List Nat → Option (Nat × List SV × List Bool × Cnd)
  | [] => none
  | i :: rs =>
    match ops[i]? with
    | none => none
    | some o =>
      match (if Region.free .any ops listed i then step1 P noCall ops true o tm (padTo hs hp.length) ans else .bad) with
      | .ok (tm', _) ans' c => some (i, tm', ans', c)
      | _ => takeR P ops listed hs tm hp ans rs

def goStep (P : Program) (callf : CallF) (ops : Array Oper) (hs : List SO) (rec : Array Bool → List SV → List SO → List Bool → Rr (List SV × List SO)) (listed : Array Bool) (tm : List SV) (hp : List SO) (ans : List Bool) (i : Nat) : Rr (List SV × List SO) :=
  match ops[i]? with
  | none => .bad
  | some o =>
    match step1 P callf ops false o tm hp ans with
    | .ok (tm', hp') ans' c =>
      match rec (listed.setIfInBounds i true) tm' hp' ans' with
      | .ok x ans'' c' => .ok x ans'' (c.and ((keepsC hs hp').and c'))
      | .ask b => .ask b
      | .bad => .bad
    | .ask b => .ask b
    | .bad => .bad

/-- Two ways that come to the same. -/
def meet (x y : Rr (List SV × List SO)) : Rr (List SV × List SO) :=
  match x, y with
  | .ok x a c, .ok y a' c' => if a == a' then .ok x a (c.and (((sameCs y.1 x.1).and (sameOs y.2 x.2)).and c')) else .bad
  | .ask b, _ => .ask b
  | _, .ask b => .ask b
  | _, _ => .bad

def anyR (P : Program) (callf : CallF) (ops : Array Oper) (hs : List SO) : Nat → Array Bool → List SV → List SO → List Bool → Rr (List SV × List SO)
  | 0, listed, tm, hp, ans => if (Region.ready .any ops listed).isEmpty then canonR hs.length tm hp ans else .bad
  | fuel + 1, listed, tm, hp, ans =>
    match takeR P ops listed hs tm hp ans (Region.ready .any ops listed) with
    | some (i, tm', ans', c) =>
      match anyR P callf ops hs fuel (listed.setIfInBounds i true) tm' hp ans' with
      | .ok x ans'' c' => .ok x ans'' (c.and c')
      | .ask b => .ask b
      | .bad => .bad
    | none =>
      match Region.ready .any ops listed with
      | [] => canonR hs.length tm hp ans
      | i :: rs => rs.foldr (fun j acc => meet acc (goStep P callf ops hs (anyR P callf ops hs fuel) listed tm hp ans j)) (goStep P callf ops hs (anyR P callf ops hs fuel) listed tm hp ans i)

theorem takeR_mem {P : Program} {ops : Array Oper} {listed : Array Bool} {hs : List SO} {tm : List SV} {hp : List SO} {ans : List Bool} : ∀ {rs : List Nat} {i : Nat} {tm' : List SV} {ans' : List Bool} {c : Cnd},
    takeR P ops listed hs tm hp ans rs = some (i, tm', ans', c) → i ∈ rs ∧ ∃ o hp', ops[i]? = some o ∧ Region.free .any ops listed i = true ∧ step1 P noCall ops true o tm (padTo hs hp.length) ans = .ok (tm', hp') ans' c
  | [], _, _, _, _, h => by simp [takeR] at h
  | j :: rs, i, tm', ans', c, h => by
    simp only [takeR] at h
    split at h
    · simp at h
    · rename_i o ho
      split at h
      · rename_i tm1 hp1 ans1 c1 h1
        have e : (j, tm1, ans1, c1) = (i, tm', ans', c) := Option.some.inj h
        injection e with e1 e2
        injection e2 with e2 e3
        injection e3 with e3 e4
        subst e1; subst e2; subst e3; subst e4
        split at h1
        · rename_i hf
          exact ⟨by simp, o, hp1, ho, hf, h1⟩
        · simp at h1
      · obtain ⟨h1, h2⟩ := takeR_mem h
        exact ⟨by simp [h1], h2⟩

/-- What a read yields in every world of which this is told. -/
theorem step1_yields {P : Program} {ops : Array Oper} {o : Oper} {tm tm' : List SV} {hp hp' : List SO} {ans ans' : List Bool} {c : Cnd}
    (h : step1 P noCall ops true o tm hp ans = .ok (tm', hp') ans' c) (hc : c) {B : Nat} {η : Env} {a : Act} (hvs : Rs η tm a.tmps.toList) (hne : ∃ w, HR B η hp w) :
    ∃ v, YieldsIf P ops (HR B η hp) o v a ∧ Rs η tm' (a.put o.dst v).tmps.toList := by
  simp only [step1, okS_eq, okM_eq] at h
  split at h
  · simp at h
  · simp at h
  · rename_i tm1 ans1 c1 h1
    split at h
    · simp at h
    · rename_i hg
      obtain ⟨pe, rfl, rfl⟩ := ok_inj h
      obtain ⟨rfl, rfl⟩ := Prod.mk.inj pe
      have e1 := settle_ok h1 hc hvs
      exact ⟨undef, .inr ⟨gd_ok hg e1, rfl⟩, putS_ok o.dst e1 (by simp only [R])⟩
    · rename_i hg
      split at h
      · simp at h
      · simp at h
      · rename_i tm2 ans2 c2 h2
        split at h
        · rename_i s cc hs
          obtain ⟨pe, rfl, rfl⟩ := ok_inj h
          obtain ⟨rfl, rfl⟩ := Prod.mk.inj pe
          obtain ⟨k1, k2, k3⟩ := hc.three
          have e1 := settle_ok h1 k1 hvs
          have e2 := settle_ok h2 k2 e1
          have f1 := sop_ok (P := P) e2 (hp := hp) o
          rw [hs] at f1
          obtain ⟨wn, hn⟩ := hne
          obtain ⟨v, hR, _⟩ := f1 k3 B wn hn
          refine ⟨v, .inl ⟨gd_ok hg e1, fun w hw => ?_⟩, putS_ok o.dst e2 hR⟩
          obtain ⟨v', hR', hv'⟩ := f1 k3 B w hw
          have : v' = v := R.fun hR' hR
          subst this
          exact hv'
        · simp at h
        · simp [noCall] at h
        · simp at h

theorem YieldsIf.mono {P : Program} {ops : Array Oper} {S S' : World → Prop} {o : Oper} {v : Value} {a : Act} (h : YieldsIf P ops S o v a) (hS : ∀ w, S' w → S w) : YieldsIf P ops S' o v a :=
  h.imp (fun ⟨h1, h2⟩ => ⟨h1, fun w hw => h2 w (hS w hw)⟩) id

theorem fold_go {go : Nat → Rr (List SV × List SO)} : ∀ (rs : List Nat) {r₀ : Rr (List SV × List SO)} {x : List SV × List SO} {a : List Bool} {c : Cnd},
    rs.foldr (fun j acc => meet acc (go j)) r₀ = .ok x a c → c → (∃ a' c', r₀ = .ok x a' c' ∧ c') ∧ ∀ j ∈ rs, ∃ a' c', go j = .ok x a' c' ∧ c'
  | [], r₀, x, a, c, h, hc => ⟨⟨a, c, h, hc⟩, by simp⟩
  | j :: rs, r₀, x, a, c, h, hc => by
    simp only [List.foldr_cons] at h
    generalize hacc : rs.foldr (fun j acc => meet acc (go j)) r₀ = acc at h
    generalize hgo : go j = gj at h
    unfold meet at h
    split at h
    · rename_i x1 a1 c1 y a' c'
      split at h
      · obtain ⟨rfl, _, rfl⟩ := ok_inj h
        obtain ⟨h1, h2, h3⟩ := hc.three
        obtain ⟨g1, g3⟩ := fold_go rs hacc h1
        refine ⟨g1, fun j' hj' => ?_⟩
        rcases List.mem_cons.1 hj' with rfl | hj'
        · exact ⟨a', c', by rw [hgo, show y = x1 from Prod.ext (sameCs_ok _ _ h2.l) (sameOs_ok h2.r)], h3⟩
        · exact g3 j' hj'
      · simp at h
    · simp at h
    · simp at h
    · simp at h

theorem anyR_ok {P : Program} {callf : CallF} (hcf : CallOk P callf) {ops : Array Oper} (hsel : Region.noSelect ops = true) {hs : List SO} {B : Nat} {w₀ : World} {η : Env} {Q : Exit → Act → World → Prop}
    (hQp : ∀ c a w, ¬ Q (.panic c) a w) : ∀ (fuel : Nat) (listed : Array Bool) {tm tm' : List SV} {hp hp' : List SO} {ans ans' : List Bool} {c : Cnd},
    anyR P callf ops hs fuel listed tm hp ans = .ok (tm', hp') ans' c → c → ∀ {μ : Env} {a : Act} {w : World}, Sim B w₀ (η ++ μ) tm hp a w → HR B η hs w →
    (∀ μ' a' w', Sim B w₀ (η ++ μ') tm' hp' a' w' → Q .normal a' w') → wpAnyH P .any ops Q (HR B η hs) fuel listed a w
  | 0, listed, tm, tm', hp, hp', ans, ans', c, h, hc, μ, a, w, hs', hS, hQ => by
    simp only [anyR, canonR_eq] at h
    split at h
    · rename_i he
      obtain ⟨pe, _, _⟩ := ok_inj h
      obtain ⟨μ', h'⟩ := canon_sim hs' hS.len
      rw [pe] at h'
      exact ⟨List.isEmpty_iff.1 he, hQ μ' a w h'⟩
    · simp at h
  | fuel + 1, listed, tm, tm', hp, hp', ans, ans', c, h, hc, μ, a, w, hs', hS, hQ => by
    simp only [anyR, canonR_eq] at h
    split at h
    · rename_i i tm1 ans1 c1 htk
      split at h
      · rename_i x ans2 c2 h2
        obtain ⟨rfl, rfl, rfl⟩ := ok_inj h
        obtain ⟨hi, o, hp1, ho, hf, h1⟩ := takeR_mem htk
        have hlen : μ.length = hp.length - hs.length := by
          have e1 := hs'.hr.len
          have e2 := hS.len
          simp at e1; omega
        have hpad : ∀ w', HR B η hs w' → HR B (η ++ μ) (padTo hs hp.length) w' := by
          intro w' hw'
          unfold padTo
          rw [← hlen]
          exact hw'.pad
        obtain ⟨v, hy, hv⟩ := step1_yields h1 hc.l hs'.tm ⟨w, hpad w hS⟩
        refine wpAnyH_take ho hsel hf (by simpa using hi) (fun c a w hq => absurd hq (hQp _ _ _)) (YieldsIf.mono hy hpad) hS ?_
        exact anyR_ok hcf hsel hQp fuel _ h2 hc.r ⟨hv, by rw [put_defers]; exact hs'.df, hs'.hr, hs'.below, hs'.hB⟩ hS hQ
      · simp at h
      · simp at h
    · have one : ∀ (i : Nat) (ans1 : List Bool) (c1 : Cnd), goStep P callf ops hs (anyR P callf ops hs fuel) listed tm hp ans i = .ok (tm', hp') ans1 c1 → c1 →
          wpOp P ops Q i (fun a' w' => HR B η hs w' ∧ wpAnyH P .any ops Q (HR B η hs) fuel (listed.setIfInBounds i true) a' w') a w := by
        intro i ans1 c1 hg hc1
        unfold goStep at hg
        split at hg
        · simp at hg
        · rename_i o ho
          split at hg
          · rename_i tm1 hp1 ans2 c2 h1
            split at hg
            · rename_i x ans3 c3 h2
              obtain ⟨rfl, rfl, rfl⟩ := ok_inj hg
              obtain ⟨k1, k2, k3⟩ := hc1.three
              have st := step1_ok hcf h1 k1 hs'.tm hs'.hr hs'.size (Q := Q) (K := fun a' w' => HR B η hs w' ∧ wpAnyH P .any ops Q (HR B η hs) fuel (listed.setIfInBounds i true) a' w')
                (fun μ' v w' e1 e2 e3 => by
                  have hS' : HR B η hs w' := hS.keep (by rw [List.append_assoc] at e2; exact e2) k2
                  refine ⟨hS', ?_⟩
                  rw [List.append_assoc] at e1 e2
                  exact anyR_ok hcf hsel hQp fuel _ h2 k3 ⟨e1, by rw [put_defers]; exact hs'.df, e2, hs'.below.trans e3, hs'.hB⟩ hS' hQ)
              unfold wpOp
              simp only [ho]
              split
              · rename_i hw; rw [if_pos hw] at st; exact .inl st
              · rename_i hw; rw [if_neg hw] at st; exact st
            · simp at hg
            · simp at hg
          · simp at hg
          · simp at hg
      split at h
      · rename_i hrd
        obtain ⟨pe, _, _⟩ := ok_inj h
        obtain ⟨μ', h'⟩ := canon_sim hs' hS.len
        rw [pe] at h'
        exact ⟨fun _ => hQ μ' a w h', fun i hi => by rw [hrd] at hi; simp at hi⟩
      · rename_i i rs hrd
        obtain ⟨⟨a0, c0, e0, hc0⟩, hall⟩ := fold_go rs h hc
        refine ⟨fun h0 => by rw [hrd] at h0; simp at h0, fun j hj => ?_⟩
        rw [hrd] at hj
        rcases List.mem_cons.1 hj with rfl | hj
        · exact one j a0 c0 e0 hc0
        · obtain ⟨a', c', hj1, hj2⟩ := hall j hj
          exact one j a' c' hj1 hj2

/-! ### what is written to in a region -/
def blockPtrs (hp : List SO) (k : Nat) : List Nat :=
  match hp[k]? with
  | some (SO.cells _ l) => ptrsOfs l
  | _ => []
def reachOf (hp : List SO) : Nat → List Nat → List Nat
  | 0, ks => ks
  | n + 1, ks => reachOf hp n (ks ++ ks.flatMap (blockPtrs hp))

def markDead (wr : List Nat) : Nat → List SO → List SO
  | _, [] => []
  | k, o :: r => (if wr.contains k then .dead else o) :: markDead wr (k + 1) r
/-- What an operation may write to. -/
def wrOf (tm : List SV) (hp : List SO) (o : Oper) : List Nat :=
  match o.op with
  | .store _ x _ => ptrsOf (ev tm x)
  | .call c => match c.callee with
    | .builtin .len | .builtin .min | .builtin .max | .builtin .cap => []
    | _ => reachOf hp 3 (ptrsOfs (o.op.operands.toList.map (ev tm)))
  | _ => []

theorem HR.dead {B : Nat} {η : Env} {hp : List SO} {w : World} (h : HR B η hp w) (wr : List Nat) : HR B η (markDead wr 0 hp) w := by
  have len : ∀ (n : Nat) (l : List SO), (markDead wr n l).length = l.length := by
    intro n l
    induction l generalizing n with
    | nil => rfl
    | cons o r ih => simp [markDead, ih]
  have get : ∀ (l : List SO) (n k : Nat) (wb : Bool) (m : List SV), (markDead wr n l)[k]? = some (.cells wb m) → l[k]? = some (.cells wb m) := by
    intro l
    induction l with
    | nil => intro n k wb m hk; simp [markDead] at hk
    | cons o r ih =>
      intro n k wb m hk
      cases k with
      | zero =>
        simp only [markDead] at hk
        split at hk
        · simp at hk
        · simpa using hk
      | succ k =>
        simp only [markDead, List.getElem?_cons_succ] at hk ⊢
        exact ih _ _ _ _ hk
  refine ⟨by rw [h.len, len], fun k o hk => ?_, ?_⟩
  · cases o with
    | dead => trivial
    | cells wb m => exact h.blk k _ (get hp 0 k wb m hk)
  · intro k₁ k₂ l₁ wr₂ l₂ b₁ o₁ b₂ o₂ h1 h2 hne e1 e2
    exact h.apart k₁ k₂ l₁ wr₂ l₂ b₁ o₁ b₂ o₂ (get hp 0 _ _ _ h1) (get hp 0 _ _ _ h2) hne e1 e2

/-! ### any region -/
def acts : Op → Bool
  | .store .. | .alloc _ | .box .. | .mapUpdate .. | .insert .. | .makeMap .. | .makeSlice .. | .buildSlice .. => true
  | .call c => match c.callee with
    | .builtin .len | .builtin .min | .builtin .max | .builtin .cap => false
    | _ => true
  | _ => false

def tailR (P : Program) (callf : CallF) (ops : Array Oper) (tm : List SV) (hp : List SO) (ans : List Bool) : Rr (List SV × List SO) :=
  let n := ops.toList.findIdx fun o => acts o.op
  if Region.lexTailB .any ops n then
    match opsR P noCall ops true (ops.toList.take n) tm hp ans with
    | .ok (tm', hp') ans' c =>
      match opsR P callf ops false (ops.toList.drop n) tm' hp' ans' with
      | .ok x ans'' c' => .ok x ans'' (c.and c')
      | .ask b => .ask b
      | .bad => .bad
    | .ask b => .ask b
    | .bad => .bad
  else .bad

def ordersR (P : Program) (callf : CallF) (ops : Array Oper) (tm : List SV) (hp : List SO) (ans : List Bool) : Rr (List SV × List SO) :=
  if Region.noSelect ops then
    match opsR P callf ops false ops.toList tm hp ans with
    | .ok (tmF, _) _ _ => anyR P callf ops (markDead (ops.toList.flatMap (wrOf tmF hp)) 0 hp) ops.size (Array.replicate ops.size false) tm hp ans
    | .ask b => .ask b
    | .bad => .bad
  else .bad

def drawR (P : Program) (callf : CallF) (ops : Array Oper) (tm : List SV) (hp : List SO) (ans : List Bool) : Rr (List SV × List SO) :=
  match (if Region.lexB .any ops then opsR P callf ops true ops.toList tm hp ans else .bad) with
  | .bad => match tailR P callf ops tm hp ans with
    | .bad => ordersR P callf ops tm hp ans
    | r => r
  | r => r

def regionR (P : Program) (callf : CallF) (ops : Array Oper) (draw : Bool) (tm : List SV) (hp : List SO) (ans : List Bool) : Rr (List SV × List SO) :=
  if draw then
    if P.follows .mixedOrders then drawR P callf ops tm hp ans else .bad
  else opsR P callf ops false ops.toList tm hp ans

theorem regionR_ok {P : Program} {callf : CallF} (hcf : CallOk P callf) {id : Nat} {ops : Array Oper} {draw : Bool} {tm tm' : List SV} {hp hp' : List SO} {ans ans' : List Bool} {c : Cnd}
    (h : regionR P callf ops draw tm hp ans = .ok (tm', hp') ans' c) (hc : c) {B : Nat} {w₀ : World} {η : Env} {a : Act} {w : World} (hs : Sim B w₀ η tm hp a w) {Q : Exit → Act → World → Prop}
    (hQ : ∀ μ a' w', Sim B w₀ (η ++ μ) tm' hp' a' w' → Q .normal a' w') : (Code.region id ops draw).wp P Q a w := by
  unfold regionR at h
  split at h
  · rename_i hd
    subst hd
    split at h
    · rename_i hm
      have quiet : (if Region.lexB .any ops then opsR P callf ops true ops.toList tm hp ans else .bad) = .ok (tm', hp') ans' c → (Code.region id ops true).wp P Q a w := by
        intro h
        split at h
        · rename_i hB
          have hh := opsR_hp _ h
          subst hh
          have hC : Cls B w₀ η hp' { w with drawn := w.drawn + 1 } := ⟨hs.hr.drew, hs.below.drew⟩
          refine wp_region_quiet hm hB hC ?_
          refine opsR_quiet hcf hs.hB ⟨_, hC⟩ _ h hc hs.tm hs.df fun a' h1 h2 w' hw' => ?_
          exact hQ [] a' w' (by simpa using (⟨h1, h2, hw'.1, hw'.2, hs.hB⟩ : Sim B w₀ η tm' hp' a' w'))
        · simp at h
      have tail : tailR P callf ops tm hp ans = .ok (tm', hp') ans' c → (Code.region id ops true).wp P Q a w := by
        intro h
        unfold tailR at h
        simp only [] at h
        split at h
        · rename_i hT
          split at h
          · rename_i tm1 hp1 ans1 c1 h1
            split at h
            · rename_i x ans2 c2 h2
              obtain ⟨rfl, rfl, rfl⟩ := ok_inj h
              have hh := opsR_hp _ h1
              subst hh
              have e : ops = ops.toList.toArray := by simp
              rw [e]
              refine wp_region_still_tail (ops.toList.findIdx fun o => acts o.op) hm (by simpa using hT) ?_
              simp only [Array.toArray_toList]
              refine opsR_still (B := B) (η := η) hs.hr.drew _ h1 hc.l hs.tm hs.df fun a' g1 g2 => ?_
              exact opsR_ok hcf _ h2 hc.r (⟨g1, g2, hs.hr.drew, hs.below.drew, hs.hB⟩ : Sim B w₀ η tm1 hp1 a' w.drew) hQ
            · simp at h
            · simp at h
          · simp at h
          · simp at h
        · simp at h
      have orders : ordersR P callf ops tm hp ans = .ok (tm', hp') ans' c → (Code.region id ops true).wp P Q a w := by
        intro h
        unfold ordersR at h
        split at h
        · rename_i hsel
          split at h
          · refine Code.wp_mono (Q := fun e a w => e = .normal ∧ Q .normal a w) (fun e a w hq => by obtain ⟨rfl, hq⟩ := hq; exact hq) ?_
            refine wp_region_any hm (wpAny_of_held _ _ _ _ (anyR_ok (μ := []) (η := η) (B := B) (w₀ := w₀) hcf hsel (fun c a w hq => by cases hq.1) _ _ h hc ?_ (hs.hr.drew.dead _) ?_))
            · exact ⟨by simpa using hs.tm, hs.df, by simpa using hs.hr.drew, hs.below.drew, hs.hB⟩
            · exact fun μ' a' w' hs' => ⟨rfl, hQ μ' a' w' hs'⟩
          · simp at h
          · simp at h
        · simp at h
      unfold drawR at h
      split at h
      · split at h
        · exact orders h
        · exact tail h
      · exact quiet h
    · simp at h
  · rename_i hd
    have hd' : draw = false := by simpa using hd
    subst hd'
    exact wp_region_list (opsR_ok hcf _ h hc hs hQ)
end Go.Ex
