/-
  Walks of functions, reckoned through, and what they give (part W06J). No condition beyond what each says. By an AI agent.
-/
import Derived.Test.YtgefcokanfbpbaaDoorW06i0
import Derived.Test.YtgefcokanfbpbaaDoorW06i1
import Derived.Test.YtgefcokanfbpbaaDoorW06i2
import Derived.Test.YtgefcokanfbpbaaDoorW06i3
import Derived.Test.YtgefcokanfbpbaaDoorW06i4
import Derived.Test.YtgefcokanfbpbaaDoorW06i5
import Derived.Test.YtgefcokanfbpbaaDoorW06i6
import Derived.Test.YtgefcokanfbpbaaDoorW06i7
import Derived.Test.YtgefcokanfbpbaaDoorW06D
import Derived.Test.YtgefcokanfbpbaaDoorW06C
namespace Go.Proofs.YtgefcokanfbpbaaDoor
open Go.Ex
open Go.RowKit (Below)
set_option linter.unusedVariables false
set_option maxRecDepth 1000000
theorem dig_all (z : Z) (ini : List Int) (hi : ini.length = 8) (m : Int) (l : List UInt8) : ∀ r : Nat, l.length = r → r < 56 → digR z ini l m
  | 0, h, _ => digl_0 z ini hi m l h
  | 1, h, _ => digl_1 z ini hi m l h
  | 2, h, _ => digl_2 z ini hi m l h
  | 3, h, _ => digl_3 z ini hi m l h
  | 4, h, _ => digl_4 z ini hi m l h
  | 5, h, _ => digl_5 z ini hi m l h
  | 6, h, _ => digl_6 z ini hi m l h
  | 7, h, _ => digl_7 z ini hi m l h
  | 8, h, _ => digl_8 z ini hi m l h
  | 9, h, _ => digl_9 z ini hi m l h
  | 10, h, _ => digl_10 z ini hi m l h
  | 11, h, _ => digl_11 z ini hi m l h
  | 12, h, _ => digl_12 z ini hi m l h
  | 13, h, _ => digl_13 z ini hi m l h
  | 14, h, _ => digl_14 z ini hi m l h
  | 15, h, _ => digl_15 z ini hi m l h
  | 16, h, _ => digl_16 z ini hi m l h
  | 17, h, _ => digl_17 z ini hi m l h
  | 18, h, _ => digl_18 z ini hi m l h
  | 19, h, _ => digl_19 z ini hi m l h
  | 20, h, _ => digl_20 z ini hi m l h
  | 21, h, _ => digl_21 z ini hi m l h
  | 22, h, _ => digl_22 z ini hi m l h
  | 23, h, _ => digl_23 z ini hi m l h
  | 24, h, _ => digl_24 z ini hi m l h
  | 25, h, _ => digl_25 z ini hi m l h
  | 26, h, _ => digl_26 z ini hi m l h
  | 27, h, _ => digl_27 z ini hi m l h
  | 28, h, _ => digl_28 z ini hi m l h
  | 29, h, _ => digl_29 z ini hi m l h
  | 30, h, _ => digl_30 z ini hi m l h
  | 31, h, _ => digl_31 z ini hi m l h
  | 32, h, _ => digl_32 z ini hi m l h
  | 33, h, _ => digl_33 z ini hi m l h
  | 34, h, _ => digl_34 z ini hi m l h
  | 35, h, _ => digl_35 z ini hi m l h
  | 36, h, _ => digl_36 z ini hi m l h
  | 37, h, _ => digl_37 z ini hi m l h
  | 38, h, _ => digl_38 z ini hi m l h
  | 39, h, _ => digl_39 z ini hi m l h
  | 40, h, _ => digl_40 z ini hi m l h
  | 41, h, _ => digl_41 z ini hi m l h
  | 42, h, _ => digl_42 z ini hi m l h
  | 43, h, _ => digl_43 z ini hi m l h
  | 44, h, _ => digl_44 z ini hi m l h
  | 45, h, _ => digl_45 z ini hi m l h
  | 46, h, _ => digl_46 z ini hi m l h
  | 47, h, _ => digl_47 z ini hi m l h
  | 48, h, _ => digl_48 z ini hi m l h
  | 49, h, _ => digl_49 z ini hi m l h
  | 50, h, _ => digl_50 z ini hi m l h
  | 51, h, _ => digl_51 z ini hi m l h
  | 52, h, _ => digl_52 z ini hi m l h
  | 53, h, _ => digl_53 z ini hi m l h
  | 54, h, _ => digl_54 z ini hi m l h
  | 55, h, _ => digl_55 z ini hi m l h
  | r + 56, _, h => absurd h (by omega)
theorem dig_all2 (z : Z) (ini : List Int) (hi : ini.length = 8) (m : Int) (l : List UInt8) (h : l.length < 64) (h2 : 56 ≤ l.length) : digR2 z ini l m := by
  by_cases g : l.length = 56 ∨ l.length = 57 ∨ l.length = 58 ∨ l.length = 59 ∨ l.length = 60 ∨ l.length = 61 ∨ l.length = 62 ∨ l.length = 63
  · rcases g with g | g | g | g | g | g | g | g
    · exact digl_56 z ini hi m l g
    · exact digl_57 z ini hi m l g
    · exact digl_58 z ini hi m l g
    · exact digl_59 z ini hi m l g
    · exact digl_60 z ini hi m l g
    · exact digl_61 z ini hi m l g
    · exact digl_62 z ini hi m l g
    · exact digl_63 z ini hi m l g
  · omega
/-! ### a hash, wherever it lies: Write and Digest as contracts -/
structure Sh where
  F : List Int → ByteArray → List Int × ByteArray
  D : List Int → ByteArray → Int → List Int
  S : ByteArray → List Int
/-- The words, what is left, and how much was written. -/
def hshOf : List SV → Option (List Int × ByteArray × Int)
  | [a, b, c, d, e, f, g, h, r, n] =>
    if wAll [a, b, c, d, e, f, g, h] then
      match r.val?, n.val? with
      | some (.string s), some (.int .u64 m) => some (unw [a, b, c, d, e, f, g, h], s, m)
      | _, _ => none
    else none
  | _ => none
def cW8 (p : List Int × ByteArray) (m : Int) : List SV :=
  [u (p.1.getD 0 0), u (p.1.getD 1 0), u (p.1.getD 2 0), u (p.1.getD 3 0), u (p.1.getD 4 0), u (p.1.getD 5 0), u (p.1.getD 6 0), u (p.1.getD 7 0), .val (.string p.2), .val (.int .u64 m)]
theorem cW8_eq {p : List Int × ByteArray} (h : p.1.length = 8) (m : Int) : cW8 p m = cW p.1 p.2 m := by
  obtain ⟨l, s⟩ := p
  match l, h with
  | [a, b, c, d, e, f, g, h], _ => rfl
theorem wAll_mem : ∀ {l : List SV} {i : Nat} {s s' : SV}, wAll l = true → l[i]? = some s → ((unw l).map u)[i]? = some s' → s.free = true ∧ ∀ (η : Env) (v : Value), R η s v → R η s' v
  | [], i, s, s', _, h, _ => by simp at h
  | x :: l, i, s, s', hw, h, h' => by
    have hx : ∃ z, (x = .val (.int .u32 z) ∨ x = .num .u32 z) ∧ unw (x :: l) = z :: unw l ∧ wAll l = true := by
      unfold wAll at hw
      split at hw
      · rename_i e; cases e
      · rename_i e; obtain ⟨rfl, rfl⟩ := List.cons.inj e; exact ⟨_, .inl rfl, rfl, hw⟩
      · rename_i e; obtain ⟨rfl, rfl⟩ := List.cons.inj e; exact ⟨_, .inr rfl, rfl, hw⟩
      · cases hw
    obtain ⟨z, hz, hu, hr⟩ := hx
    rw [hu] at h'
    cases i with
    | zero =>
      simp at h h'
      subst h; subst h'
      rcases hz with rfl | rfl
      · exact ⟨rfl, fun η v h => h⟩
      · exact ⟨rfl, fun η v h => by simpa only [R, u] using h⟩
    | succ i => exact wAll_mem hr (by simpa using h) (by simpa using h')
theorem val_free {s : SV} {v : Value} (h : s.val? = some v) : s.free = true := by
  cases s <;> simp [SV.val?] at h <;> rfl
theorem hsh_cells {l : List SV} {ini : List Int} {s : ByteArray} {m : Int} (h : hshOf l = some (ini, s, m)) :
    ini.length = 8 ∧ (cW ini s m).length = l.length ∧ frees l = true ∧ ∀ (i : Nat) (a a' : SV), l[i]? = some a → (cW ini s m)[i]? = some a' → ∀ (η : Env) (v : Value), R η a v → R η a' v := by
  unfold hshOf at h
  split at h
  · rename_i a b c d e f g k r n
    split at h
    · rename_i hw
      split at h
      · rename_i s' m' hr hn
        simp only [Option.some.injEq, Prod.mk.injEq] at h
        obtain ⟨rfl, rfl, rfl⟩ := h
        have hl : (unw [a, b, c, d, e, f, g, k]).length = 8 := rfl
        refine ⟨hl, ?_, ?_, ?_⟩
        · simp [cW, hl]
        · have q := fun (i : Nat) (x x' : SV) hx hx' => (wAll_mem (i := i) (s := x) (s' := x') hw hx hx').1
          have q0 := q 0 a _ rfl rfl
          have q1 := q 1 b _ rfl rfl
          have q2 := q 2 c _ rfl rfl
          have q3 := q 3 d _ rfl rfl
          have q4 := q 4 e _ rfl rfl
          have q5 := q 5 f _ rfl rfl
          have q6 := q 6 g _ rfl rfl
          have q7 := q 7 k _ rfl rfl
          simp only [frees, q0, q1, q2, q3, q4, q5, q6, q7, val_free hr, val_free hn, Bool.and_true]
        · intro i x x' hx hx' η v hv
          by_cases hi : i < 8
          · refine (wAll_mem (i := i) (s := x) (s' := x') hw ?_ ?_).2 η v hv
            · rw [← hx]
              match i, hi with
              | 0, _ | 1, _ | 2, _ | 3, _ | 4, _ | 5, _ | 6, _ | 7, _ => rfl
            · rw [← hx']
              unfold cW
              rw [List.getElem?_append_left (by simp [hl]; omega)]
          · match i, hi with
            | 8, _ =>
              simp at hx; subst hx
              have : x' = .val (.string s') := by
                unfold cW at hx'
                rw [List.getElem?_append_right (by simp [hl])] at hx'
                simp [hl] at hx'
                exact hx'.symm
              subst this
              have := SV.val?_R hr hv
              simp only [R]; exact this
            | 9, _ =>
              simp at hx; subst hx
              have : x' = .val (.int .u64 m') := by
                unfold cW at hx'
                rw [List.getElem?_append_right (by simp [hl])] at hx'
                simp [hl] at hx'
                exact hx'.symm
              subst this
              have := SV.val?_R hn hv
              simp only [R]; exact this
            | i + 10, _ => simp at hx
      · simp at h
    · simp at h
  · simp at h
def P14 (ini : List Int) (s t : ByteArray) (g : Nat) (gl : List SV) : Prop := s.size + t.size ≤ 9223372036854775807 ∧ g = 0 ∧ gl = glL
noncomputable def ct14 (q : Sh) (args : List SV) (hp : List SO) : Option (SV × Option (List SO) × Cnd) :=
  match args with
  | [.ptr k 0, tv] =>
    match hp with
    | .glob g gl :: _ =>
      match hp[k]? with
      | some (.cells true l) =>
        match hshOf l, tv.val? with
        | some (ini, s, m), some (.string t) => some (.tup [], some (hp.set k (.cells true (cW8 (q.F ini (s ++ t)) (w64 m t)))), .pr (P14 ini s t g gl))
        | _, _ => none
      | _ => none
    | _ => none
  | _ => none
def qF (z : Z) (q : Sh) : Prop := (∀ ini s, q.F ini s = finW z ini s) ∧ (∀ ini s m, q.D ini s m = dgW z ini s.data.toList m)
theorem ct14_ok {q : Sh} (hq : qF zL q) {args : List SV} {hp : List SO} {s : SV} {ho : Option (List SO)} {c : Cnd} (h : ct14 q args hp = some (s, ho, c)) (hc : c.Is) {B : Nat} {η : Env} {w : World} {vs : List Value} (hr : HR B η hp w) (hB : B ≤ w.heap.size) (hargs : Rs η args vs) :
    Calls Tryd.prog 14 vs.toArray w (fun e w' => ∃ v μ, e = .returned v ∧ R (η ++ μ) s v ∧ HR B (η ++ μ) (ho.getD hp) w' ∧ Below B w w') := by
  unfold ct14 at h
  split at h
  · rename_i k tv
    split at h
    · rename_i g gl r
      split at h
      · rename_i l hk
        split at h
        · rename_i ini s0 m t hh ht
          simp only [Option.some.injEq, Prod.mk.injEq] at h
          obtain ⟨rfl, rfl, rfl⟩ := h
          obtain ⟨h1, rfl, rfl⟩ := hc
          obtain ⟨c1, c2, c3, c4⟩ := hsh_cells hh
          have hr2 := hr_cells hr hk c2 (fun i a a' ha ha' v hv => c4 i a a' ha ha' η v hv)
          have hlt : k < (SO.glob 0 glL :: r).length := (List.getElem?_eq_some_iff.1 hk).1
          have hk2 : ((SO.glob 0 glL :: r).set k (.cells true (cW ini s0 m)))[k]? = some (.cells true (cW ini s0 m)) := List.getElem?_set_self hlt
          have hne : k ≠ 0 := by
            rintro rfl
            simp at hk
          have h0 : ((SO.glob 0 glL :: r).set k (.cells true (cW ini s0 m)))[0]? = some globS := by
            rw [List.getElem?_set_ne hne]; rfl
          have hargs' : Rs η [.ptr k 0, .val (.string t)] vs := by
            obtain ⟨a, x, rfl, g1, g2⟩ := hargs.cons_inv
            obtain ⟨b, y, rfl, g3, g4⟩ := g2.cons_inv
            simp only [Rs] at g4; subst g4
            exact Rs.cons g1 (Rs.cons (by simp only [R]; exact SV.val?_R ht g3) Rs.nil)
          refine (call14_any ini c1 s0 m t h1 hr2 hB h0 hk2 hargs').mono fun e w' hq' => ?_
          obtain ⟨v, rfl, hv, hr3, hb⟩ := hq'
          refine ⟨v, [], rfl, by simpa using hv.ext (η := []) (μ := η), ?_, hb⟩
          rw [List.set_set] at hr3
          rw [hq.1]
          rw [cW8_eq (finW_len zL _ _ c1)]
          simpa using hr3
        · simp at h
      · simp at h
    · simp at h
  · simp at h
/-- The package's variable and a block, read only. -/
theorem HR.two {B : Nat} {η : Env} {hp : List SO} {w : World} (h : HR B η hp w) {k0 k g : Nat} {wr : Bool} {gl l : List SV} (h0 : hp[k0]? = some (.glob g gl)) (hk : hp[k]? = some (.cells wr l)) (hgf : frees gl = true) (hf : frees l = true) :
    ∃ v0 v1, η[k]? = some v1 ∧ ∀ B', HR B' [v0, v1] [.glob g gl, .cells false l] w := by
  have l0 : k0 < η.length := by rw [h.len]; exact (List.getElem?_eq_some_iff.1 h0).1
  have l1 : k < η.length := by rw [h.len]; exact (List.getElem?_eq_some_iff.1 hk).1
  have e0 := List.getElem?_eq_getElem l0
  have e1 := List.getElem?_eq_getElem l1
  refine ⟨η[k0], η[k], e1, fun B' => ⟨rfl, fun j o hj => ?_, ?_⟩⟩
  · match j, hj with
    | 0, hj =>
      simp at hj; subst hj
      have hb := BR.glob_at (k' := 0) (η' := [η[k0], η[k]]) hgf (fun x hx => by rw [e0] at hx; simpa using hx) (h.blk k0 _ h0)
      exact ⟨fun wr' l' hro => by
        obtain ⟨b, p, q1, q2, q3, q4⟩ := hb.1 wr' l' hro
        simp only [SO.row, Option.some.injEq, Prod.mk.injEq] at hro
        obtain ⟨rfl, rfl⟩ := hro
        exact ⟨b, p, q1, q2, (fun e => by cases e), q4⟩, hb.2⟩
    | 1, hj =>
      simp at hj; subst hj
      have hb := BR.cells_at (k' := 1) (η' := [η[k0], η[k]]) hf (fun x hx => by rw [e1] at hx; simpa using hx) (h.blk k _ hk)
      exact ⟨fun wr' l' hro => by
        obtain ⟨b, p, q1, q2, q3, q4⟩ := hb.1 wr l rfl
        simp only [SO.row, Option.some.injEq, Prod.mk.injEq] at hro
        obtain ⟨rfl, rfl⟩ := hro
        exact ⟨b, p, q1, q2, (fun e => by cases e), fun i s hi => ⟨(q4 i s hi).1, fun e => by cases e⟩⟩, trivial⟩
    | j + 2, hj => simp at hj
  · intro k₁ k₂ s₁ s₂ l₁ wr₂ l₂ b₁ o₁ b₂ o₂ h1 r1 h2 r2 hne q1 q2
    match k₁, h1 with
    | 0, h1 => simp at h1; subst h1; simp [SO.row] at r1
    | 1, h1 => simp at h1; subst h1; simp [SO.row] at r1
    | j + 2, h1 => simp at h1
def P13 (s : ByteArray) (g : Nat) (gl : List SV) : Prop := s.size < 64 ∧ g = 0 ∧ gl = glL
noncomputable def digG (q : Sh) (args : List SV) (hp : List SO) : Option (SV × Cnd) :=
  match args with
  | [.ptr k 0] =>
    match hp with
    | .glob g gl :: _ =>
      match hp[k]? with
      | some (.cells _ l) =>
        match hshOf l with
        | some (ini, s, m) => some (dgS (q.D ini s m), .pr (P13 s g gl))
        | _ => none
      | _ => none
    | _ => none
  | _ => none
theorem padB_len (l : List UInt8) (m : Int) (h : l.length < 64) : (padB l m).length = if l.length < 56 then 64 else 128 := by
  unfold padB
  simp only [List.length_append, List.length_map, List.length_cons, List.length_replicate, List.length_nil]
  split <;> omega
theorem blkL_size (l : List UInt8) (m : Int) (i : Nat) (h : l.length < 64) (hi : i = 0 ∨ (i = 1 ∧ ¬ l.length < 56)) : (blkL l m i).size = 64 := by
  show ((((padB l m).drop (64 * i)).take 64)).toArray.size = 64
  rw [List.size_toArray, List.length_take, List.length_drop, padB_len l m h]
  split <;> omega
theorem LD_all (z : Z) (ini : List Int) (hi : ini.length = 8) (l : List UInt8) (h : l.length < 64) (m : Int) : AllP (LD z ini l m) := by
  have p0 : P23 (ini.map u) (blkL l m 0) 0 glL := ⟨blkL_size l m 0 h (.inl rfl), by simp [hi], wAll_u ini, rfl, rfl⟩
  unfold LD
  split
  · exact ⟨p0, trivial⟩
  · rename_i hn
    have p1 : P23 ((tkF z ini (blkL l m 0)).map u) (blkL l m 1) 0 glL := ⟨blkL_size l m 1 h (.inr ⟨rfl, hn⟩), by simp [tkF_len], wAll_u _, rfl, rfl⟩
    exact ⟨p0, p1, p1, trivial⟩
theorem frees_vals {α : Type} (f : α → Value) : ∀ l : List α, frees (l.map fun i => .val (f i)) = true
  | [] => rfl
  | x :: l => by simp only [List.map_cons, frees, Bool.and_eq_true]; exact ⟨rfl, frees_vals f l⟩
theorem dgS_free (w : List Int) : (dgS w).free = true := by
  unfold dgS; simp only [SV.free]; exact frees_vals _ _
theorem dig_call (ini : List Int) (hi : ini.length = 8) (s : ByteArray) (hs : s.size < 64) (m : Int) {η : Env} {w : World} {vs : List Value} (hr : HR w.heap.size η (hD ini s.data.toList m) w) (hargs : Rs η [.ptr 1 0] vs) :
    Calls Tryd.prog 13 vs.toArray w (fun e w' => ∃ v, e = .returned v ∧ R [] (dgS (dgW zL ini s.data.toList m)) v ∧ Below w.heap.size w w') := by
  have hl : s.data.toList.length < 64 := by rw [Array.length_toList]; exact hs
  by_cases h56 : s.data.toList.length < 56
  · have hd := dig_all zL ini hi m s.data.toList _ rfl h56
    unfold digR at hd
    exact callsL (X := X3 zL) rfl X3_ct (X3_lp zL) 90 hd (LD_all zL ini hi _ hl m) (dgS_free _) hr hargs
  · have hd := dig_all2 zL ini hi m s.data.toList hl (by omega)
    unfold digR2 at hd
    have hL := LD_all zL ini hi _ hl m
    unfold LD at hL
    rw [if_neg h56] at hL
    exact callsL (X := X3 zL) rfl X3_ct (X3_lp zL) 90 hd ⟨hL.1, hL.2.1, trivial⟩ (dgS_free _) hr hargs
theorem digG_ok {q : Sh} (hq : qF zL q) {args : List SV} {hp : List SO} {s : SV} {c : Cnd} (h : digG q args hp = some (s, c)) (hc : c.Is) {B : Nat} {η : Env} {w : World} {vs : List Value} (hr : HR B η hp w) (hargs : Rs η args vs) :
    Calls Tryd.prog 13 vs.toArray w (fun e w' => ∃ v, e = .returned v ∧ R [] s v ∧ Below w.heap.size w w') := by
  unfold digG at h
  split at h
  · rename_i k
    split at h
    · rename_i g gl r
      split at h
      · rename_i wr l hk
        split at h
        · rename_i ini s0 m hh
          simp only [Option.some.injEq, Prod.mk.injEq] at h
          obtain ⟨rfl, rfl⟩ := h
          obtain ⟨h1, rfl, rfl⟩ := hc
          obtain ⟨c1, c2, c3, c4⟩ := hsh_cells hh
          obtain ⟨v0, v1, e1, h2⟩ := HR.two hr (k0 := 0) rfl hk (by decide) c3
          have h3 := h2 w.heap.size
          have c5 : (ini.map u ++ [SV.bts false s0.data.toList, SV.val (.int .u64 m)]).length = l.length := by rw [← c2]; simp [cW]
          have h4 := hr_cells (k := 1) (wr := false) h3 rfl c5 (fun i a a' ha ha' v hv => by
            have hlt : i < (cW ini s0 m).length := by rw [c2]; exact (List.getElem?_eq_some_iff.1 ha).1
            have := c4 i a _ ha (List.getElem?_eq_getElem hlt) _ v hv
            by_cases hi : i = 8
            · subst hi
              have e1 : (cW ini s0 m)[8]'hlt = .val (.string s0) := by
                simp [cW, c1]
              have e2 : a' = .bts false s0.data.toList := by
                rw [List.getElem?_append_right (by simp [c1])] at ha'
                simp [c1] at ha'
                exact ha'.symm
              rw [e1] at this
              subst e2
              simp only [R] at this ⊢
              rw [this]
            · have e2 : (cW ini s0 m)[i]? = some a' := by
                rw [← ha']
                unfold cW
                by_cases hi2 : i < 8
                · rw [List.getElem?_append_left (by simp [c1]; omega), List.getElem?_append_left (by simp [c1]; omega)]
                · rw [List.getElem?_append_right (by simp [c1]; omega), List.getElem?_append_right (by simp [c1]; omega)]
                  have : i - (ini.map u).length = (i - 9) + 1 := by simp [c1]; omega
                  rw [this]; rfl
              rw [List.getElem?_eq_getElem hlt] at e2
              rw [← Option.some.inj e2]
              exact this)
          rw [hq.2]
          refine dig_call ini c1 s0 h1 m (η := [v0, v1]) h4 ?_
          obtain ⟨a, x, rfl, g1, g2⟩ := hargs.cons_inv
          simp only [Rs] at g2; subst g2
          obtain ⟨b', o', x1, x2⟩ := g1
          rw [e1] at x1
          simp only [Option.some.injEq] at x1
          subst x1
          exact Rs.cons ⟨b', o', rfl, x2⟩ Rs.nil
        · simp at h
      · simp at h
    · simp at h
  · simp at h
theorem digG_free {q : Sh} {args : List SV} {hp : List SO} {s : SV} {c : Cnd} (h : digG q args hp = some (s, c)) : s.free = true := by
  unfold digG at h
  split at h
  · split at h
    · split at h
      · split at h
        · simp only [Option.some.injEq, Prod.mk.injEq] at h
          rw [← h.1]; exact dgS_free _
        · simp at h
      · simp at h
    · simp at h
  · simp at h
/-! ### contracts that change a hash, beside others -/
noncomputable def rawX (q : Sh) (g : Raw) : Cx :=
  ⟨Tryd.prog, fun f args hp => match g f args hp with
    | some (s, c) => if s.free then some (s, none, c) else none
    | none => if f = 14 then ct14 q args hp else if f = 13 then (match digG q args hp with | some (s, c) => some (s, none, c) | none => none) else none, fun _ _ _ _ => none⟩
theorem rawX_lp (q : Sh) (g : Raw) : LpOk (rawX q g) := fun _ _ _ _ _ _ _ h => by simp [rawX] at h
theorem rawX_ct {q : Sh} (hq : qF zL q) {g : Raw} (hg : g.Ok) : CtOk (rawX q g) := by
  intro f args hp s ho c h hc B η w vs hr hB hargs
  have ro : ∀ {s : SV} {f : FuncId}, s.free = true → Calls Tryd.prog f vs.toArray w (fun e w' => ∃ v, e = .returned v ∧ R [] s v ∧ Below w.heap.size w w') →
      Calls Tryd.prog f vs.toArray w (fun e w' => ∃ v μ, e = .returned v ∧ R (η ++ μ) s v ∧ HR B (η ++ μ) ((none : Option (List SO)).getD hp) w' ∧ Below B w w') := fun hs hq => hq.mono fun e w' hq => by
    obtain ⟨v, rfl, hR, hb⟩ := hq
    exact ⟨v, [], rfl, R.free _ _ hs hR, by simpa using hr.below hb, hb.mono hB⟩
  simp only [rawX] at h
  split at h
  · rename_i s1 c1 h1
    split at h
    · rename_i hs
      simp only [Option.some.injEq, Prod.mk.injEq] at h
      obtain ⟨rfl, rfl, rfl⟩ := h
      exact ro hs (hg f args hp _ _ h1 hc B η w vs hr hargs)
    · simp at h
  · split at h
    · rename_i hf; subst hf
      exact ct14_ok hq h hc hr hB hargs
    · split at h
      · rename_i hf; subst hf
        split at h
        · rename_i s1 c1 h1
          simp only [Option.some.injEq, Prod.mk.injEq] at h
          obtain ⟨rfl, rfl, rfl⟩ := h
          exact ro (digG_free h1) (digG_ok hq h1 hc hr hargs)
        · simp at h
      · simp at h
/-! ### Sum -/
def iv : List Int := [1779033703, 3144134277, 1013904242, 2773480762, 1359893119, 2600822924, 528734635, 1541459225]
def oct (p : List Int × ByteArray) : List Int := [p.1.getD 0 0, p.1.getD 1 0, p.1.getD 2 0, p.1.getD 3 0, p.1.getD 4 0, p.1.getD 5 0, p.1.getD 6 0, p.1.getD 7 0]
theorem oct_eq {p : List Int × ByteArray} (h : p.1.length = 8) : oct p = p.1 := by
  obtain ⟨l, s⟩ := p
  match l, h with
  | [a, b, c, d, e, f, g, h], _ => rfl
def emp : ByteArray := ⟨([] : List UInt8).toArray⟩
theorem emp_app (t : ByteArray) : emp ++ t = t := by
  apply ByteArray.ext
  show (emp ++ t).data = t.data
  rw [ByteArray.data_append]
  show #[] ++ t.data = t.data
  simp
noncomputable def LSum (q : Sh) (t : ByteArray) : List Prop := [P14 iv emp t 0 glL, P13 (q.F iv (emp ++ t)).2 0 glL]
theorem finW_rest (z : Z) (ini : List Int) (s : ByteArray) : (finW z ini s).2.size < 64 := by
  rw [finW]
  split
  · exact finW_rest z _ _
  · show s.size < 64
    omega
termination_by s.size
decreasing_by rw [rstS_size]; omega
theorem sum_gives (q : Sh) (t : ByteArray) : givesV (topR (rawX q noG) (run (rawX q noG) 60) 9 [.val (.string t)] [globS] []) (dgS (q.D (oct (q.F iv (emp ++ t))) (q.F iv (emp ++ t)).2 (w64 0 t))) (LSum q t) := by
  unfold givesV; kernel_rfl
/-- What Sum gives. -/
noncomputable def shL : Sh := ⟨finW zL, fun ini s m => dgW zL ini s.data.toList m, fun t => dgW zL (finW zL iv t).1 (finW zL iv t).2.data.toList (w64 0 t)⟩
theorem shL_F : qF zL shL := ⟨fun _ _ => rfl, fun _ _ _ => rfl⟩
theorem call9 (t : ByteArray) (ht : t.size ≤ 9223372036854775807) {B : Nat} {η : Env} {hp : List SO} {k : Nat} {w : World} {vs : List Value} (hr : HR B η hp w) (hk : hp[k]? = some globS) (hargs : Rs [] [.val (.string t)] vs) :
    Calls Tryd.prog 9 vs.toArray w (fun e w' => ∃ v, e = .returned v ∧ R [] (dgS (shL.S t)) v ∧ Below w.heap.size w w') := by
  obtain ⟨v, hv⟩ := HR.glob hr hk (by decide)
  have h := callsV (X := rawX shL noG) rfl (rawX_ct shL_F noG_ok) (rawX_lp _ _) 60 (sum_gives shL t) ⟨⟨by rw [show emp.size = 0 from rfl]; omega, rfl, rfl⟩, ⟨finW_rest zL _ _, rfl, rfl⟩, trivial⟩ (dgS_free _) (hv _) (Rs.free _ _ rfl hargs)
  have e1 : oct (shL.F iv (emp ++ t)) = (finW zL iv t).1 := by rw [emp_app]; exact oct_eq (finW_len zL _ _ rfl)
  rw [e1, emp_app] at h
  exact h
def P9 (t : ByteArray) (g : Nat) (gl : List SV) : Prop := t.size ≤ 9223372036854775807 ∧ g = 0 ∧ gl = glL
def sumG (q : Sh) : Raw := fun f args hp =>
  if f = 9 then
    match args with
    | [tv] =>
      match hp with
      | .glob g gl :: _ =>
        match tv.val? with
        | some (.string t) => some (dgS (q.S t), .pr (P9 t g gl))
        | _ => none
      | _ => none
    | _ => none
  else none
theorem sumG_ok : Raw.Ok (sumG shL) := by
  intro f args hp s c h hc B η w vs hr hargs
  unfold sumG at h
  split at h
  · rename_i hf; subst hf
    split at h
    · rename_i tv
      split at h
      · rename_i g gl r
        split at h
        · rename_i t ht
          simp only [Option.some.injEq, Prod.mk.injEq] at h
          obtain ⟨rfl, rfl⟩ := h
          obtain ⟨h1, rfl, rfl⟩ := hc
          refine call9 t h1 hr (k := 0) rfl ?_
          obtain ⟨a, x, rfl, g1, g2⟩ := hargs.cons_inv
          simp only [Rs] at g2; subst g2
          exact Rs.cons (by simp only [R]; exact SV.val?_R ht g1) Rs.nil
        · simp at h
      · simp at h
    · simp at h
  · simp at h
end Go.Proofs.YtgefcokanfbpbaaDoor
