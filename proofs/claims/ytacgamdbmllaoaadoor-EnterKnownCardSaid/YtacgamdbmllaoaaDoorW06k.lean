/-
  Walks of functions, reckoned through, and what they give (part W06k). No condition beyond what each says. By an AI agent.
-/
import Derived.Test.YtacgamdbmllaoaaDoorW06h
namespace Go.Proofs.YtacgamdbmllaoaaDoor
open Go.Ex
open Go.RowKit (Below)
set_option linter.unusedVariables false
set_option maxRecDepth 1000000
/-! ### a hash, wherever it lies: Write and Digest as contracts -/
structure Sh where
  F : List Int → ByteArray → List Int × ByteArray
  D : List Int → ByteArray → Int → List Int
  S : ByteArray → List Int
/-- The words, what is left, and how much was written. -/
def hshOf : List SV → Option (List Int × ByteArray × Int)
  | [a, b, c, d, e, f, g, h, r, n] =>
    if wAll [a, b, c, d, e, f, g, h] then
      match r.val?, n.val? with
      | some (.string s), some (.int .u64 m) => some (unw [a, b, c, d, e, f, g, h], s, m)
      | _, _ => none
    else none
  | _ => none
def cW8 (p : List Int × ByteArray) (m : Int) : List SV :=
  [u (p.1.getD 0 0), u (p.1.getD 1 0), u (p.1.getD 2 0), u (p.1.getD 3 0), u (p.1.getD 4 0), u (p.1.getD 5 0), u (p.1.getD 6 0), u (p.1.getD 7 0), .val (.string p.2), .val (.int .u64 m)]
theorem cW8_eq {p : List Int × ByteArray} (h : p.1.length = 8) (m : Int) : cW8 p m = cW p.1 p.2 m := by
  obtain ⟨l, s⟩ := p
  match l, h with
  | [a, b, c, d, e, f, g, h], _ => rfl
theorem wAll_mem : ∀ {l : List SV} {i : Nat} {s s' : SV}, wAll l = true → l[i]? = some s → ((unw l).map u)[i]? = some s' → s.free = true ∧ ∀ (η : Env) (v : Value), R η s v → R η s' v
  | [], i, s, s', _, h, _ => by simp at h
  | x :: l, i, s, s', hw, h, h' => by
    have hx : ∃ z, (x = .val (.int .u32 z) ∨ x = .num .u32 z) ∧ unw (x :: l) = z :: unw l ∧ wAll l = true := by
      unfold wAll at hw
      split at hw
      · rename_i e; cases e
      · rename_i e; obtain ⟨rfl, rfl⟩ := List.cons.inj e; exact ⟨_, .inl rfl, rfl, hw⟩
      · rename_i e; obtain ⟨rfl, rfl⟩ := List.cons.inj e; exact ⟨_, .inr rfl, rfl, hw⟩
      · cases hw
    obtain ⟨z, hz, hu, hr⟩ := hx
    rw [hu] at h'
    cases i with
    | zero =>
      simp at h h'
      subst h; subst h'
      rcases hz with rfl | rfl
      · exact ⟨rfl, fun η v h => h⟩
      · exact ⟨rfl, fun η v h => by simpa only [R, u] using h⟩
    | succ i => exact wAll_mem hr (by simpa using h) (by simpa using h')
theorem val_free {s : SV} {v : Value} (h : s.val? = some v) : s.free = true := by
  cases s <;> simp [SV.val?] at h <;> rfl
theorem hsh_cells {l : List SV} {ini : List Int} {s : ByteArray} {m : Int} (h : hshOf l = some (ini, s, m)) :
    ini.length = 8 ∧ (cW ini s m).length = l.length ∧ frees l = true ∧ ∀ (i : Nat) (a a' : SV), l[i]? = some a → (cW ini s m)[i]? = some a' → ∀ (η : Env) (v : Value), R η a v → R η a' v := by
  unfold hshOf at h
  split at h
  · rename_i a b c d e f g k r n
    split at h
    · rename_i hw
      split at h
      · rename_i s' m' hr hn
        simp only [Option.some.injEq, Prod.mk.injEq] at h
        obtain ⟨rfl, rfl, rfl⟩ := h
        have hl : (unw [a, b, c, d, e, f, g, k]).length = 8 := rfl
        refine ⟨hl, ?_, ?_, ?_⟩
        · simp [cW, hl]
        · have q := fun (i : Nat) (x x' : SV) hx hx' => (wAll_mem (i := i) (s := x) (s' := x') hw hx hx').1
          have q0 := q 0 a _ rfl rfl
          have q1 := q 1 b _ rfl rfl
          have q2 := q 2 c _ rfl rfl
          have q3 := q 3 d _ rfl rfl
          have q4 := q 4 e _ rfl rfl
          have q5 := q 5 f _ rfl rfl
          have q6 := q 6 g _ rfl rfl
          have q7 := q 7 k _ rfl rfl
          simp only [frees, q0, q1, q2, q3, q4, q5, q6, q7, val_free hr, val_free hn, Bool.and_true]
        · intro i x x' hx hx' η v hv
          by_cases hi : i < 8
          · refine (wAll_mem (i := i) (s := x) (s' := x') hw ?_ ?_).2 η v hv
            · rw [← hx]
              match i, hi with
              | 0, _ | 1, _ | 2, _ | 3, _ | 4, _ | 5, _ | 6, _ | 7, _ => rfl
            · rw [← hx']
              unfold cW
              rw [List.getElem?_append_left (by simp [hl]; omega)]
          · match i, hi with
            | 8, _ =>
              simp at hx; subst hx
              have : x' = .val (.string s') := by
                unfold cW at hx'
                rw [List.getElem?_append_right (by simp [hl])] at hx'
                simp [hl] at hx'
                exact hx'.symm
              subst this
              have := SV.val?_R hr hv
              simp only [R]; exact this
            | 9, _ =>
              simp at hx; subst hx
              have : x' = .val (.int .u64 m') := by
                unfold cW at hx'
                rw [List.getElem?_append_right (by simp [hl])] at hx'
                simp [hl] at hx'
                exact hx'.symm
              subst this
              have := SV.val?_R hn hv
              simp only [R]; exact this
            | i + 10, _ => simp at hx
      · simp at h
    · simp at h
  · simp at h
def P14 (ini : List Int) (s t : ByteArray) (g : Nat) (gl : List SV) : Prop := s.size + t.size ≤ 9223372036854775807 ∧ g = 0 ∧ gl = glL
noncomputable def ct14 (q : Sh) (args : List SV) (hp : List SO) : Option (SV × Option (List SO) × Cnd) :=
  match args with
  | [.ptr k 0, tv] =>
    match hp with
    | .glob g gl :: _ =>
      match hp[k]? with
      | some (.cells true l) =>
        match hshOf l, tv.val? with
        | some (ini, s, m), some (.string t) => some (.tup [], some (hp.set k (.cells true (cW8 (q.F ini (s ++ t)) (w64 m t)))), .pr (P14 ini s t g gl))
        | _, _ => none
      | _ => none
    | _ => none
  | _ => none
def qF (z : Z) (q : Sh) : Prop := (∀ ini s, q.F ini s = finW z ini s) ∧ (∀ ini s m, q.D ini s m = dgW z ini s.data.toList m)
theorem ct14_ok {q : Sh} (hq : qF zL q) {args : List SV} {hp : List SO} {s : SV} {ho : Option (List SO)} {c : Cnd} (h : ct14 q args hp = some (s, ho, c)) (hc : c.Is) {B : Nat} {η : Env} {w : World} {vs : List Value} (hr : HR B η hp w) (hB : B ≤ w.heap.size) (hargs : Rs η args vs) :
    Calls Tryd.prog 59 vs.toArray w (fun e w' => ∃ v μ, e = .returned v ∧ R (η ++ μ) s v ∧ HR B (η ++ μ) (ho.getD hp) w' ∧ Below B w w') := by
  unfold ct14 at h
  split at h
  · rename_i k tv
    split at h
    · rename_i g gl r
      split at h
      · rename_i l hk
        split at h
        · rename_i ini s0 m t hh ht
          simp only [Option.some.injEq, Prod.mk.injEq] at h
          obtain ⟨rfl, rfl, rfl⟩ := h
          obtain ⟨h1, rfl, rfl⟩ := hc
          obtain ⟨c1, c2, c3, c4⟩ := hsh_cells hh
          have hr2 := hr_cells hr hk c2 (fun i a a' ha ha' v hv => c4 i a a' ha ha' η v hv)
          have hlt : k < (SO.glob 0 glL :: r).length := (List.getElem?_eq_some_iff.1 hk).1
          have hk2 : ((SO.glob 0 glL :: r).set k (.cells true (cW ini s0 m)))[k]? = some (.cells true (cW ini s0 m)) := List.getElem?_set_self hlt
          have hne : k ≠ 0 := by
            rintro rfl
            simp at hk
          have h0 : ((SO.glob 0 glL :: r).set k (.cells true (cW ini s0 m)))[0]? = some globS := by
            rw [List.getElem?_set_ne hne]; rfl
          have hargs' : Rs η [.ptr k 0, .val (.string t)] vs := by
            obtain ⟨a, x, rfl, g1, g2⟩ := hargs.cons_inv
            obtain ⟨b, y, rfl, g3, g4⟩ := g2.cons_inv
            simp only [Rs] at g4; subst g4
            exact Rs.cons g1 (Rs.cons (by simp only [R]; exact SV.val?_R ht g3) Rs.nil)
          refine (call14_any ini c1 s0 m t h1 hr2 hB h0 hk2 hargs').mono fun e w' hq' => ?_
          obtain ⟨v, rfl, hv, hr3, hb⟩ := hq'
          refine ⟨v, [], rfl, by simpa using hv.ext (η := []) (μ := η), ?_, hb⟩
          rw [List.set_set] at hr3
          rw [hq.1]
          rw [cW8_eq (finW_len zL _ _ c1)]
          simpa using hr3
        · simp at h
      · simp at h
    · simp at h
  · simp at h
/-- The package's variable and a block, read only. -/
theorem HR.two {B : Nat} {η : Env} {hp : List SO} {w : World} (h : HR B η hp w) {k0 k g : Nat} {wr : Bool} {gl l : List SV} (h0 : hp[k0]? = some (.glob g gl)) (hk : hp[k]? = some (.cells wr l)) (hgf : frees gl = true) (hf : frees l = true) :
    ∃ v0 v1, η[k]? = some v1 ∧ ∀ B', HR B' [v0, v1] [.glob g gl, .cells false l] w := by
  have l0 : k0 < η.length := by rw [h.len]; exact (List.getElem?_eq_some_iff.1 h0).1
  have l1 : k < η.length := by rw [h.len]; exact (List.getElem?_eq_some_iff.1 hk).1
  have e0 := List.getElem?_eq_getElem l0
  have e1 := List.getElem?_eq_getElem l1
  refine ⟨η[k0], η[k], e1, fun B' => ⟨rfl, fun j o hj => ?_, ?_⟩⟩
  · match j, hj with
    | 0, hj =>
      simp at hj; subst hj
      have hb := BR.glob_at (k' := 0) (η' := [η[k0], η[k]]) hgf (fun x hx => by rw [e0] at hx; simpa using hx) (h.blk k0 _ h0)
      exact ⟨fun wr' l' hro => by
        obtain ⟨b, p, q1, q2, q3, q4⟩ := hb.1 wr' l' hro
        simp only [SO.row, Option.some.injEq, Prod.mk.injEq] at hro
        obtain ⟨rfl, rfl⟩ := hro
        exact ⟨b, p, q1, q2, (fun e => by cases e), q4⟩, hb.2⟩
    | 1, hj =>
      simp at hj; subst hj
      have hb := BR.cells_at (k' := 1) (η' := [η[k0], η[k]]) hf (fun x hx => by rw [e1] at hx; simpa using hx) (h.blk k _ hk)
      exact ⟨fun wr' l' hro => by
        obtain ⟨b, p, q1, q2, q3, q4⟩ := hb.1 wr l rfl
        simp only [SO.row, Option.some.injEq, Prod.mk.injEq] at hro
        obtain ⟨rfl, rfl⟩ := hro
        exact ⟨b, p, q1, q2, (fun e => by cases e), fun i s hi => ⟨(q4 i s hi).1, fun e => by cases e⟩⟩, trivial⟩
    | j + 2, hj => simp at hj
  · intro k₁ k₂ s₁ s₂ l₁ wr₂ l₂ b₁ o₁ b₂ o₂ h1 r1 h2 r2 hne q1 q2
    match k₁, h1 with
    | 0, h1 => simp at h1; subst h1; simp [SO.row] at r1
    | 1, h1 => simp at h1; subst h1; simp [SO.row] at r1
    | j + 2, h1 => simp at h1
def P13 (s : ByteArray) (g : Nat) (gl : List SV) : Prop := s.size < 64 ∧ g = 0 ∧ gl = glL
noncomputable def digG (q : Sh) (args : List SV) (hp : List SO) : Option (SV × Cnd) :=
  match args with
  | [.ptr k 0] =>
    match hp with
    | .glob g gl :: _ =>
      match hp[k]? with
      | some (.cells _ l) =>
        match hshOf l with
        | some (ini, s, m) => some (dgS (q.D ini s m), .pr (P13 s g gl))
        | _ => none
      | _ => none
    | _ => none
  | _ => none
end Go.Proofs.YtacgamdbmllaoaaDoor
