/-
  pieces, walked through whole, and HashPieces: a text in pieces, written to a hash, has the digest that it has at once. No condition beyond what each says. By an AI agent.
-/
import Derived.Test.YtgefcokanfbpbaaDoorW06S
import Derived.Test.YtgefcokanfbpbaaDoorW07a
namespace Go.Proofs.YtgefcokanfbpbaaDoor
open Go.Ex
open Go.RowKit (Below)
set_option linter.unusedVariables false
set_option maxRecDepth 1000000
def outX (n0 : Nat) (keep fg : List Nat) (r : Rr Fin) (e : XE) (T : St) (L : List Prop) (d : Nat → Value) : Option (XE × Bool × St × List Prop × List SV) × Option (XE × Bool × St × List Prop × List SV) :=
  match r with
  | .ok f [] c => (some (f.e, cutB n0 keep fg f.st, cutV keep fg f.st d, c.props [], c.lefts []), some (e, true, T, L, c.rights []))
  | _ => (none, some (e, true, T, L, []))
def givesX (n0 : Nat) (keep fg : List Nat) (r : Rr Fin) (e : XE) (T : St) (L : List Prop) (d : Nat → Value) : Prop := (outX n0 keep fg r e T L d).1 = (outX n0 keep fg r e T L d).2
theorem wpE_X {P : Program} {X : Cx} (hX : X.P = P) (hct : CtOk X) (hlp : LpOk X) {n n0 : Nat} {keep fg : List Nat} {c : Code} {s : St} {ans : List Bool} {e : XE} {T : (Nat → Value) → St} {L : List Prop} (h : ∀ d, givesX n0 keep fg (run X n c s.tm s.hp ans) e (T d) L d) (hL : AllP L) :
    WpE P c n0 s (fun r => r.e = e ∧ WeakF n0 r.st T) := by
  subst hX
  generalize hq : run X n c s.tm s.hp ans = r at h
  unfold givesX outX at h
  split at h
  · rename_i f c'
    simp only [Option.some.injEq, Prod.mk.injEq] at h
    have h0 := h (fun _ => undef)
    have hc := (Cnd.is_of c' [] [] [] (by rw [h0.2.2.2.1]; exact hL) h0.2.2.2.2 rfl).1
    refine WpE.of_wp (run_ok hct hlp n c _ _ _ _ _ _ hq hc) ⟨h0.1, ?_⟩
    have e : T = cutV keep fg f.st := funext fun d => ((h d).2.2.1).symm
    rw [e]
    exact fun {_ _ _ _ _ _ _} hl hs => WeakF.cut h0.2.1 hl hs
  · have := h (fun _ => undef); simp at this
theorem unblk {n0 id : Nat} {r : Fin} {T : (Nat → Value) → St} (h : r.e = .exit id ∧ WeakF n0 r.st T) : (r.unblock id).e = .normal ∧ WeakF n0 (r.unblock id).st T := by
  obtain ⟨h1, h2⟩ := h
  unfold Fin.unblock
  rw [h1]
  simp only [if_true]
  exact ⟨trivial, fun {_ _ _ _ _ _ _} hn hs => h2 hn hs⟩
theorem wpE_runA {P : Program} {X : Cx} (hX : X.P = P) (hct : CtOk X) (hlp : LpOk X) {n n0 : Nat} {c : Code} {s : St} {ans : List Bool} {e : XE} {L : List Prop} (h : goodR (run X n c s.tm s.hp ans) e L) (hL : AllP L) :
    WpE P c n0 s (fun r => r.e = e ∧ r = finOf (run X n c s.tm s.hp ans)) := by
  subst hX
  unfold goodR at h
  generalize hq : run X n c s.tm s.hp ans = r at h
  unfold outG at h
  split at h
  · rename_i f c'
    simp only [Option.some.injEq, Prod.mk.injEq] at h
    obtain ⟨h1, h2, h3⟩ := h
    have hc := (Cnd.is_of c' [] [] [] (by rw [h2]; exact hL) h3 rfl).1
    exact WpE.of_wp (run_ok hct hlp n c _ _ _ _ _ _ hq hc) ⟨h1, rfl⟩
  · simp at h
/-! ### pieces (16): its states -/
def slB (q : Bool) (nb : Nat) : SV := match q with | true => .slo 0 nb 1 | false => .val (.slice none 0 0)
noncomputable def XP : Cx := rawP noG
theorem XP_ct : CtOk XP := rawP_ct noG_ok
theorem XP_lp : LpOk XP := rawP_lp _
noncomputable def cPa : Code := cL (code 16)
noncomputable def cPb : Code := cL (cR (code 16))
noncomputable def cPc : Code := cL (cL (cR (cR (code 16))))
noncomputable def cPL : Code := cLp (cB (cR (cL (cR (cR (code 16))))))
noncomputable def idP : Nat := bId (cR (cL (cR (cR (code 16)))))
noncomputable def cPr : Code := cR (cR (cR (code 16)))
theorem code16 : code 16 = .seq cPa (.seq cPb (.seq (.seq cPc (.block idP (.loop cPL))) cPr)) := by kernel_rfl
def argP (q : Bool) (t : ByteArray) (nb : Nat) : List SV := [.val (.string t), slB q nb]
noncomputable def sP (q : Bool) (t : ByteArray) (nb : Nat) (L : List Value) : St := ⟨argP q t nb ++ List.replicate 44 (.val undef), [.fns L, .dead]⟩
noncomputable def nxP (c : Code) (s : St) : St := (finOf (run XP 80 c s.tm s.hp [])).st
noncomputable def sPb (q : Bool) (t : ByteArray) (nb : Nat) (L : List Value) : St := nxP cPa (sP q t nb L)
noncomputable def sPc (q : Bool) (t : ByteArray) (nb : Nat) (L : List Value) : St := nxP cPb (sPb q t nb L)
def tmP (q : Bool) (t : ByteArray) (nb : Nat) (o iv : SV) (d : Nat → Value) : List SV := [.val (.string t), slB q nb, .val (d 2), .val (d 3), .val (d 4), o, iv] ++ (List.range' 7 39).map (fun j => .val (d j))
def stP0 (q : Bool) (t : ByteArray) (nb : Nat) (L : List Value) (d : Nat → Value) : St := ⟨tmP q t nb (.val (.slice none 0 0)) (.num .i64 0) d, [.fns L, .dead]⟩
def stP1 (q : Bool) (x t : ByteArray) (nb : Nat) (L : List Value) (d : Nat → Value) : St := ⟨tmP q t nb (.sle 2 0 1 3) (.num .i64 1) d, [.fns L, .dead, .own 9 1 1 3 [.val (.string x)], .dead]⟩
def stP (q : Bool) (t : ByteArray) (nb : Nat) (L : List Value) (m : Nat) (Lo : List Value) (i : Int) (d : Nat → Value) : St := ⟨tmP q t nb (.slo 2 m 3) (.val (.int .i64 i)) d, [.fns L, .dead, .ows 9 3 Lo, .dead]⟩
def fgP : List Nat := [2, 3, 4] ++ List.range' 7 39
def nZ (b : Bool) (t : ByteArray) (nb : Nat) (L : List Value) (i : Int) : Int :=
  match b with
  | true => if IntKind.i64.wrap (1 + IntKind.i64.wrap ((intOf (cellAt L (i.tmod (nb : Int)).toNat)).tmod 100)) < (t.size : Int) then IntKind.i64.wrap (1 + IntKind.i64.wrap ((intOf (cellAt L (i.tmod (nb : Int)).toNat)).tmod 100)) else (t.size : Int)
  | false => (t.size : Int)
def pcT (t : ByteArray) (n : Int) : ByteArray := t.extract (Int.toNat 0) n.toNat
def rsT (t : ByteArray) (n : Int) : ByteArray := t.extract n.toNat ((t.size : Int)).toNat
def neT (t : ByteArray) (b : Bool) : Prop := (!(t.toList == (⟨#[]⟩ : ByteArray).toList)) = b
def LN (b : Bool) (nb : Nat) (L : List Value) (i : Int) : List Prop := match b with
  | true => [decide ((nb : Int) > 0) = true, (nb : Int) ≠ 0, 0 ≤ i.tmod (nb : Int) ∧ i.tmod (nb : Int) < (nb : Int), loadP L (i.tmod (nb : Int)).toNat [.int .u8]]
  | false => [decide ((nb : Int) > 0) = false]
def LSl (t : ByteArray) (n : Int) : List Prop := [(0 : Int) ≤ 0 ∧ 0 ≤ n ∧ n ≤ (t.size : Int), 0 ≤ n ∧ n ≤ (t.size : Int) ∧ (t.size : Int) ≤ (t.size : Int)]
theorem pa_q (q : Bool) (t : ByteArray) (nb : Nat) (L : List Value) : goodR (run XP 80 cPa (sP q t nb L).tm (sP q t nb L).hp []) .normal [] := by cases q <;> (unfold goodR; kernel_rfl)
theorem pb_q (q : Bool) (t : ByteArray) (nb : Nat) (L : List Value) : goodR (run XP 80 cPb (sPb q t nb L).tm (sPb q t nb L).hp []) .normal [] := by cases q <;> (unfold goodR; kernel_rfl)
theorem pc_q (q : Bool) (t : ByteArray) (nb : Nat) (L : List Value) (d : Nat → Value) : givesX 2 [0, 1] fgP (run XP 80 cPc (sPc q t nb L).tm (sPc q t nb L).hp []) .normal (stP0 q t nb L d) [] d := by cases q <;> (unfold givesX; kernel_rfl)
-- the first round
theorem p0_b (b : Bool) (t : ByteArray) (nb : Nat) (L : List Value) (d d' : Nat → Value) : givesX 2 [0, 1, 3, 4] fgP (run XP 80 cPL (stP0 true t nb L d).tm (stP0 true t nb L d).hp [true, b]) .normal (stP1 true (pcT t (nZ b t nb L 0)) (rsT t (nZ b t nb L 0)) nb L d') ([neT t true] ++ LN b nb L 0 ++ LSl t (nZ b t nb L 0)) d' := by cases b <;> (unfold givesX; kernel_rfl)
theorem p0_n (t : ByteArray) (nb : Nat) (L : List Value) (d d' : Nat → Value) : givesX 2 [0, 1, 3, 4] fgP (run XP 80 cPL (stP0 false t nb L d).tm (stP0 false t nb L d).hp [true]) .normal (stP1 false (pcT t (nZ false t nb L 0)) (rsT t (nZ false t nb L 0)) nb L d') ([neT t true] ++ LSl t (nZ false t nb L 0)) d' := by unfold givesX; kernel_rfl
theorem p0_x (q : Bool) (t : ByteArray) (nb : Nat) (L : List Value) (d d' : Nat → Value) : givesX 2 [0, 1] fgP (run XP 80 cPL (stP0 q t nb L d).tm (stP0 q t nb L d).hp [false]) (.exit idP) (stP0 q t nb L d') [neT t false] d' := by cases q <;> (unfold givesX; kernel_rfl)
-- a round
def LI (t : ByteArray) (i : Int) : List Prop := [neT t true, decide (i < 400) = true]
def LA (m : Nat) (Lo : List Value) : Prop := Lo.length = m ∧ m + 1 ≤ 1000000000 ∧ (m + 1) * 16 ≤ 1000000000
theorem p1_b (b : Bool) (t : ByteArray) (nb : Nat) (L : List Value) (m : Nat) (Lo : List Value) (i : Int) (d d' : Nat → Value) : givesX 2 [0, 1, 5, 6] fgP (run XP 80 cPL (stP true t nb L m Lo i d).tm (stP true t nb L m Lo i d).hp [true, true, b]) .normal (stP true (rsT t (nZ b t nb L i)) nb L (m + 1) (Lo ++ [.string (pcT t (nZ b t nb L i))]) (IntKind.i64.wrap (i + 1)) d') (LI t i ++ LN b nb L i ++ [(0 : Int) ≤ 0 ∧ 0 ≤ nZ b t nb L i ∧ nZ b t nb L i ≤ (t.size : Int), LA m Lo, 0 ≤ nZ b t nb L i ∧ nZ b t nb L i ≤ (t.size : Int) ∧ (t.size : Int) ≤ (t.size : Int)]) d' := by cases b <;> (unfold givesX; kernel_rfl)
theorem p1_n (t : ByteArray) (nb : Nat) (L : List Value) (m : Nat) (Lo : List Value) (i : Int) (d d' : Nat → Value) : givesX 2 [0, 1, 5, 6] fgP (run XP 80 cPL (stP false t nb L m Lo i d).tm (stP false t nb L m Lo i d).hp [true, true]) .normal (stP false (rsT t (nZ false t nb L i)) nb L (m + 1) (Lo ++ [.string (pcT t (nZ false t nb L i))]) (IntKind.i64.wrap (i + 1)) d') (LI t i ++ [(0 : Int) ≤ 0 ∧ 0 ≤ nZ false t nb L i ∧ nZ false t nb L i ≤ (t.size : Int), LA m Lo, 0 ≤ nZ false t nb L i ∧ nZ false t nb L i ≤ (t.size : Int) ∧ (t.size : Int) ≤ (t.size : Int)]) d' := by unfold givesX; kernel_rfl
theorem p1_x (q : Bool) (t : ByteArray) (nb : Nat) (L : List Value) (m : Nat) (Lo : List Value) (i : Int) (d d' : Nat → Value) : givesX 2 [0, 1, 2, 3] fgP (run XP 80 cPL (stP q t nb L m Lo i d).tm (stP q t nb L m Lo i d).hp [false]) (.exit idP) (stP q t nb L m Lo i d') [neT t false] d' := by cases q <;> (unfold givesX; kernel_rfl)
theorem p1_y (q : Bool) (t : ByteArray) (nb : Nat) (L : List Value) (m : Nat) (Lo : List Value) (i : Int) (d d' : Nat → Value) : givesX 2 [0, 1, 2, 3] fgP (run XP 80 cPL (stP q t nb L m Lo i d).tm (stP q t nb L m Lo i d).hp [true, false]) (.exit idP) (stP q t nb L m Lo i d') [neT t true, decide (i < 400) = false] d' := by cases q <;> (unfold givesX; kernel_rfl)
-- the end
theorem pr_0 (q : Bool) (t : ByteArray) (nb : Nat) (L : List Value) (d : Nat → Value) : goodR (run XP 80 cPr (stP0 q t nb L d).tm (stP0 q t nb L d).hp []) .ret [] := by cases q <;> (unfold goodR; kernel_rfl)
theorem pr_1 (q : Bool) (t : ByteArray) (nb : Nat) (L : List Value) (m : Nat) (Lo : List Value) (i : Int) (d : Nat → Value) : goodR (run XP 80 cPr (stP q t nb L m Lo i d).tm (stP q t nb L m Lo i d).hp []) .ret [LA m Lo] := by cases q <;> (unfold goodR; kernel_rfl)
noncomputable def fP0 (q : Bool) (t : ByteArray) (nb : Nat) (L : List Value) (d : Nat → Value) : Fin := finOf (run XP 80 cPr (stP0 q t nb L d).tm (stP0 q t nb L d).hp [])
noncomputable def fP1 (q : Bool) (t : ByteArray) (nb : Nat) (L : List Value) (m : Nat) (Lo : List Value) (i : Int) (d : Nat → Value) : Fin := finOf (run XP 80 cPr (stP q t nb L m Lo i d).tm (stP q t nb L m Lo i d).hp [])
theorem pe_0 (q : Bool) (t : ByteArray) (nb : Nat) (L : List Value) (d : Nat → Value) : resultsS Tryd.prog (fnN 16) (fP0 q t nb L d).tm (fP0 q t nb L d).hp = some (.sle 3 0 1 4) ∧ (fP0 q t nb L d).hp[3]? = some (.own 9 1 1 4 [.val (.string t)]) := by cases q <;> exact ⟨by kernel_rfl, by kernel_rfl⟩
theorem pe_1 (q : Bool) (t : ByteArray) (nb : Nat) (L : List Value) (m : Nat) (Lo : List Value) (i : Int) (d : Nat → Value) : resultsS Tryd.prog (fnN 16) (fP1 q t nb L m Lo i d).tm (fP1 q t nb L m Lo i d).hp = some (.slo 5 (m + 1) 6) ∧ (fP1 q t nb L m Lo i d).hp[5]? = some (.ows 9 6 (Lo ++ [.string t])) := by cases q <;> exact ⟨by kernel_rfl, by kernel_rfl⟩
theorem fn16_at : Tryd.prog.funcs[16]? = some (fnN 16) := by kernel_rfl
theorem fn16_body : (fnN 16).body = some (code 16) := by kernel_rfl
theorem fn16_tm (q : Bool) (t : ByteArray) (nb : Nat) : (argP q t nb ++ List.replicate ((fnN 16).ntmps - (argP q t nb).length) (.val undef) : List SV) = argP q t nb ++ List.replicate 44 (.val undef) := by cases q <;> kernel_rfl
/-! ### pieces, whole -/
def RowB (L : List Value) (nb : Nat) : Prop := ∀ i : Nat, i < nb → loadP L i [.int .u8] ∧ 0 ≤ intOf (cellAt L i) ∧ intOf (cellAt L i) < 256
def nP (q : Bool) (t : ByteArray) (nb : Nat) (L : List Value) (i : Int) : Int := nZ (q && decide ((nb : Int) > 0)) t nb L i
theorem neT_of (t : ByteArray) : neT t (decide (t.size ≠ 0)) := by
  unfold neT
  rw [ByteArray.toList_eq, ByteArray.toList_eq]
  cases t with
  | mk d =>
    cases d with
    | mk l =>
      cases l with
      | nil => rfl
      | cons a l =>
        rw [Bool.eq_iff_iff]
        simp [ByteArray.size]
theorem neT_t {t : ByteArray} (h : 0 < t.size) : neT t true := by
  have := neT_of t
  rwa [show decide (t.size ≠ 0) = true from decide_eq_true (by omega)] at this
theorem neT_f {t : ByteArray} (h : t.size = 0) : neT t false := by
  have := neT_of t
  rwa [show decide (t.size ≠ 0) = false from decide_eq_false (by omega)] at this
theorem nP_ok (q : Bool) (t : ByteArray) (nb : Nat) (L : List Value) (hrow : q = true → RowB L nb) (ht : 0 < t.size) (i : Int) (h0 : 0 ≤ i) : 1 ≤ nP q t nb L i ∧ nP q t nb L i ≤ (t.size : Int) := by
  unfold nP
  by_cases h : (q && decide ((nb : Int) > 0)) = true
  · rw [h]
    simp only [Bool.and_eq_true, decide_eq_true_eq] at h
    have hm : i.tmod (nb : Int) = i % (nb : Int) := Int.tmod_eq_emod_of_nonneg h0
    have h1 := Int.emod_nonneg i (show (nb : Int) ≠ 0 by omega)
    have h2 := Int.emod_lt_of_pos i (show 0 < (nb : Int) by omega)
    obtain ⟨_, g0, g1⟩ := hrow h.1 (i.tmod (nb : Int)).toNat (by rw [hm]; omega)
    simp only [nZ]
    generalize intOf (cellAt L (i.tmod (nb : Int)).toNat) = z at g0 g1
    rw [Int.tmod_eq_emod_of_nonneg g0]
    have e : IntKind.i64.wrap (1 + IntKind.i64.wrap (z % 100)) = 1 + z % 100 := by rw [wi64, wi64]; omega
    rw [e]
    split <;> omega
  · rw [Bool.not_eq_true] at h
    rw [h]
    exact ⟨by show (1 : Int) ≤ (t.size : Int); omega, Int.le_refl _⟩
noncomputable def pcsF (q : Bool) (nb : Nat) (L : List Value) : Nat → Int → ByteArray → List ByteArray
  | 0, _, t => [t]
  | f + 1, i, t => if t.size = 0 then [t] else pcT t (nP q t nb L i) :: pcsF q nb L f (i + 1) (rsT t (nP q t nb L i))
theorem stP1_weak (q : Bool) (x t : ByteArray) (nb : Nat) (L : List Value) (d : Nat → Value) : Weak 2 (stP1 q x t nb L d) (stP q t nb L 1 [.string x] 1 d) := by
  intro ds B w₀ η μ a w hn hs
  have hs' : Sim ds B w₀ (η ++ μ) (stP1 q x t nb L d).tm (stP q t nb L 1 [.string x] 1 d).hp a w :=
    ⟨hs.tm, hs.df, HR.own_says hs.hr (k := 2) (e := 9) (n := 1) (kc := 3) (l := [.val (.string x)]) rfl [.string x] rfl (fun i c hc => by
      match i, hc with
      | 0, hc =>
        simp only [List.getElem?_cons_zero, Option.some.injEq] at hc; subst hc
        exact ⟨_, rfl, fun v hv => by simpa only [R] using hv⟩
      | i + 1, hc => simp at hc), hs.below, hs.hB⟩
  refine Weak.tm (n0 := 2) (s := ⟨(stP1 q x t nb L d).tm, (stP q t nb L 1 [.string x] 1 d).hp⟩) (t := stP q t nb L 1 [.string x] 1 d) rfl rfl (fun i a b ha hb => ?_) hn hs'
  match i, ha, hb with
  | 0, ha, hb => simp [stP1, stP, tmP] at ha hb; subst ha; subst hb; exact fun η v hv => hv
  | 1, ha, hb => simp [stP1, stP, tmP] at ha hb; subst ha; subst hb; exact fun η v hv => hv
  | 2, ha, hb => simp [stP1, stP, tmP] at ha hb; subst ha; subst hb; exact fun η v hv => hv
  | 3, ha, hb => simp [stP1, stP, tmP] at ha hb; subst ha; subst hb; exact fun η v hv => hv
  | 4, ha, hb => simp [stP1, stP, tmP] at ha hb; subst ha; subst hb; exact fun η v hv => hv
  | 5, ha, hb =>
    simp [stP1, stP, tmP] at ha hb; subst ha; subst hb
    exact fun η v hv => by simpa only [R, Nat.add_zero] using hv
  | 6, ha, hb =>
    simp [stP1, stP, tmP] at ha hb; subst ha; subst hb
    exact fun η v hv => by simp only [R] at hv ⊢; exact hv
  | i + 7, ha, hb =>
    have e : (stP1 q x t nb L d).tm[i + 7]? = (stP q t nb L 1 [.string x] 1 d).tm[i + 7]? := by
      simp [stP1, stP, tmP]
    have ha' : (stP1 q x t nb L d).tm[i + 7]? = some a := ha
    rw [e, hb] at ha'
    have := Option.some.inj ha'
    subst this
    exact fun η v hv => hv
theorem WeakF.to {n0 : Nat} {s : St} {T U : (Nat → Value) → St} (h : WeakF n0 s T) (k : ∀ d, Weak n0 (T d) (U d)) : WeakF n0 s U := by
  intro ds B w₀ η μ a w hn hs
  obtain ⟨d, μ', hs'⟩ := h hn hs
  obtain ⟨μ'', hs''⟩ := k d hn hs'
  exact ⟨d, μ'', hs''⟩
section
variable (q : Bool) (nb : Nat) (L : List Value)
theorem LN_ok (hrow : q = true → RowB L nb) (hq : q = true) (i : Int) (h0 : 0 ≤ i) : AllP (LN (decide ((nb : Int) > 0)) nb L i) := by
  by_cases h : (nb : Int) > 0
  · rw [decide_eq_true h]
    have hm : i.tmod (nb : Int) = i % (nb : Int) := Int.tmod_eq_emod_of_nonneg h0
    have h1 := Int.emod_nonneg i (show (nb : Int) ≠ 0 by omega)
    have h2 := Int.emod_lt_of_pos i (show 0 < (nb : Int) by omega)
    obtain ⟨g, _⟩ := hrow hq (i.tmod (nb : Int)).toNat (by rw [hm]; omega)
    exact ⟨decide_eq_true h, by omega, by rw [hm]; omega, g, trivial⟩
  · rw [decide_eq_false h]
    exact ⟨decide_eq_false h, trivial⟩
theorem AllP.app : ∀ {a b : List Prop}, AllP a → AllP b → AllP (a ++ b)
  | [], b, _, h => h
  | p :: a, b, h, k => ⟨h.1, AllP.app h.2 k⟩
theorem roundP0 (hrow : q = true → RowB L nb) (t : ByteArray) (ht : 0 < t.size) (d : Nat → Value) :
    WpE Tryd.prog cPL 2 (stP0 q t nb L d) (fun r => r.e = .normal ∧ WeakF 2 r.st (fun d' => stP q (rsT t (nP q t nb L 0)) nb L 1 [.string (pcT t (nP q t nb L 0))] 1 d')) := by
  obtain ⟨n1, n2⟩ := nP_ok q t nb L hrow ht 0 (Int.le_refl _)
  have hS : AllP (LSl t (nP q t nb L 0)) := ⟨by omega, by omega, trivial⟩
  cases q with
  | true =>
    have e : nZ (decide ((nb : Int) > 0)) t nb L 0 = nP true t nb L 0 := by simp [nP]
    have g := fun d' => p0_b (decide ((nb : Int) > 0)) t nb L d d'
    rw [e] at g
    exact (wpE_X (X := XP) rfl XP_ct XP_lp (T := fun d' => stP1 true (pcT t (nP true t nb L 0)) (rsT t (nP true t nb L 0)) nb L d') g (AllP.app (AllP.app (show AllP [neT t true] from ⟨neT_t ht, trivial⟩) (LN_ok true nb L hrow rfl 0 (Int.le_refl _))) hS)).mono fun r hr => ⟨hr.1, WeakF.to hr.2 fun d => stP1_weak _ _ _ _ _ d⟩
  | false =>
    have e : nZ false t nb L 0 = nP false t nb L 0 := by simp [nP]
    have g := fun d' => p0_n t nb L d d'
    rw [e] at g
    exact (wpE_X (X := XP) rfl XP_ct XP_lp (T := fun d' => stP1 false (pcT t (nP false t nb L 0)) (rsT t (nP false t nb L 0)) nb L d') g (AllP.app (show AllP [neT t true] from ⟨neT_t ht, trivial⟩) hS)).mono fun r hr => ⟨hr.1, WeakF.to hr.2 fun d => stP1_weak _ _ _ _ _ d⟩
theorem roundP (hrow : q = true → RowB L nb) (t : ByteArray) (ht : 0 < t.size) (Lo : List Value) (hl : Lo.length < 400) (d : Nat → Value) :
    WpE Tryd.prog cPL 2 (stP q t nb L Lo.length Lo (Lo.length : Int) d) (fun r => r.e = .normal ∧ WeakF 2 r.st (fun d' => stP q (rsT t (nP q t nb L Lo.length)) nb L (Lo.length + 1) (Lo ++ [.string (pcT t (nP q t nb L Lo.length))]) ((Lo.length + 1 : Nat) : Int) d')) := by
  obtain ⟨n1, n2⟩ := nP_ok q t nb L hrow ht Lo.length (by omega)
  have ew : IntKind.i64.wrap ((Lo.length : Int) + 1) = ((Lo.length + 1 : Nat) : Int) := by rw [wi64]; omega
  have hI : AllP (LI t (Lo.length : Int)) := ⟨neT_t ht, decide_eq_true (by omega), trivial⟩
  cases q with
  | true =>
    have e : nZ (decide ((nb : Int) > 0)) t nb L Lo.length = nP true t nb L Lo.length := by simp [nP]
    have g := fun d' => p1_b (decide ((nb : Int) > 0)) t nb L Lo.length Lo Lo.length d d'
    rw [e, ew] at g
    refine wpE_X (X := XP) rfl XP_ct XP_lp (T := fun d' => stP true (rsT t (nP true t nb L Lo.length)) nb L (Lo.length + 1) (Lo ++ [.string (pcT t (nP true t nb L Lo.length))]) ((Lo.length + 1 : Nat) : Int) d') g ?_
    exact AllP.app (AllP.app hI (LN_ok true nb L hrow rfl _ (by omega))) ⟨by omega, ⟨rfl, by omega, by omega⟩, by omega, trivial⟩
  | false =>
    have e : nZ false t nb L Lo.length = nP false t nb L Lo.length := by simp [nP]
    have g := fun d' => p1_n t nb L Lo.length Lo Lo.length d d'
    rw [e, ew] at g
    refine wpE_X (X := XP) rfl XP_ct XP_lp (T := fun d' => stP false (rsT t (nP false t nb L Lo.length)) nb L (Lo.length + 1) (Lo ++ [.string (pcT t (nP false t nb L Lo.length))]) ((Lo.length + 1 : Nat) : Int) d') g ?_
    exact AllP.app hI ⟨by omega, ⟨rfl, by omega, by omega⟩, by omega, trivial⟩
def strs (l : List ByteArray) : List Value := l.map .string
/-- The end of the loop. -/
def EndP (t0 : ByteArray) (s : St) : Prop :=
  (strs (pcsF q nb L 400 0 t0) = [.string t0] ∧ WeakF 2 s (fun d => stP0 q t0 nb L d)) ∨
  ∃ (t : ByteArray) (Lo : List Value), Lo.length ≤ 400 ∧ strs (pcsF q nb L 400 0 t0) = Lo ++ [.string t] ∧ WeakF 2 s (fun d => stP q t nb L Lo.length Lo (Lo.length : Int) d)
structure GP (t0 : ByteArray) where
  t : ByteArray
  Lo : List Value
  len : Lo.length ≤ 400
  pos : 0 < Lo.length
  all : strs (pcsF q nb L 400 0 t0) = Lo ++ strs (pcsF q nb L (400 - Lo.length) (Lo.length : Int) t)
noncomputable def stG (t0 : ByteArray) : Option (GP q nb L t0) → (Nat → Value) → St
  | none, d => stP0 q t0 nb L d
  | some g, d => stP q g.t nb L g.Lo.length g.Lo (g.Lo.length : Int) d
def msG (t0 : ByteArray) : Option (GP q nb L t0) → Nat
  | none => 401
  | some g => 400 - g.Lo.length
theorem loopP (hrow : q = true → RowB L nb) (t0 : ByteArray) (d : Nat → Value) :
    WpE Tryd.prog (.loop cPL) 2 (stP0 q t0 nb L d) (fun r => r.e = .exit idP ∧ EndP q nb L t0 r.st) := by
  have go := WpE.loopF (P := Tryd.prog) (c := cPL) (n0 := 2) (γ := Option (GP q nb L t0) × (Nat → Value)) (S := fun g => stG q nb L t0 g.1 g.2) (m := fun g => msG q nb L t0 g.1) (F := fun r => r.e = .exit idP ∧ EndP q nb L t0 r.st) (fun g => ?_) (none, d)
  · exact go
  obtain ⟨g, d⟩ := g
  cases g with
  | none =>
    show WpE Tryd.prog cPL 2 (stP0 q t0 nb L d) _
    by_cases h : 0 < t0.size
    · refine (roundP0 q nb L hrow t0 h d).mono fun r hr => .inl ⟨hr.1, _, hr.2, fun d' => ⟨(some ⟨rsT t0 (nP q t0 nb L 0), [.string (pcT t0 (nP q t0 nb L 0))], by simp, by simp, ?_⟩, d'), ?_, rfl⟩⟩
      · show strs (pcsF q nb L (399 + 1) 0 t0) = _
        rw [pcsF, if_neg (by omega)]
        rfl
      · show 400 - 1 < 401
        omega
    · have h0 : t0.size = 0 := by omega
      refine (wpE_X (X := XP) rfl XP_ct XP_lp (T := fun d' => stP0 q t0 nb L d') (fun d' => p0_x q t0 nb L d d') ⟨neT_f h0, trivial⟩).mono fun r hr => .inr ⟨by rw [hr.1]; exact (fun e => by cases e), hr.1, .inl ⟨?_, hr.2⟩⟩
      show strs (pcsF q nb L (399 + 1) 0 t0) = _
      rw [pcsF, if_pos h0]; rfl
  | some g =>
    obtain ⟨t, Lo, hl, hp, ha⟩ := g
    show WpE Tryd.prog cPL 2 (stP q t nb L Lo.length Lo (Lo.length : Int) d) _
    by_cases h : 0 < t.size
    · by_cases h4 : Lo.length < 400
      · refine (roundP q nb L hrow t h Lo h4 d).mono fun r hr => .inl ⟨hr.1, _, hr.2, fun d' => ⟨(some ⟨rsT t (nP q t nb L Lo.length), Lo ++ [.string (pcT t (nP q t nb L Lo.length))], by simp; omega, by simp, ?_⟩, d'), ?_, ?_⟩⟩
        · rw [ha]
          obtain ⟨f, hf⟩ : ∃ f, 400 - Lo.length = f + 1 := ⟨399 - Lo.length, by omega⟩
          rw [hf, pcsF, if_neg (by omega), List.length_append, List.length_singleton, show 400 - (Lo.length + 1) = f by omega, show ((Lo.length + 1 : Nat) : Int) = (Lo.length : Int) + 1 by omega]
          simp [strs]
        · show 400 - (Lo ++ [_]).length < 400 - Lo.length
          rw [List.length_append, List.length_singleton]; omega
        · have key : ∀ (m : Nat) (x : ByteArray) (Lx : List Value), m = Lx.length → stP q x nb L m Lx (m : Int) d' = stP q x nb L Lx.length Lx (Lx.length : Int) d' := by
            rintro m x Lx rfl; rfl
          exact key _ _ _ (by rw [List.length_append, List.length_singleton])
      · have h5 : Lo.length = 400 := by omega
        refine (wpE_X (X := XP) rfl XP_ct XP_lp (T := fun d' => stP q t nb L Lo.length Lo (Lo.length : Int) d') (fun d' => p1_y q t nb L Lo.length Lo Lo.length d d') ⟨neT_t h, decide_eq_false (by omega), trivial⟩).mono fun r hr => .inr ⟨by rw [hr.1]; exact (fun e => by cases e), hr.1, .inr ⟨t, Lo, hl, ?_, hr.2⟩⟩
        rw [ha, h5]; rfl
    · have h0 : t.size = 0 := by omega
      refine (wpE_X (X := XP) rfl XP_ct XP_lp (T := fun d' => stP q t nb L Lo.length Lo (Lo.length : Int) d') (fun d' => p1_x q t nb L Lo.length Lo Lo.length d d') ⟨neT_f h0, trivial⟩).mono fun r hr => .inr ⟨by rw [hr.1]; exact (fun e => by cases e), hr.1, .inr ⟨t, Lo, hl, ?_, hr.2⟩⟩
      rw [ha]
      cases 400 - Lo.length with
      | zero => rfl
      | succ f => rw [pcsF, if_pos h0]; rfl
theorem bodyP (hrow : q = true → RowB L nb) (t0 : ByteArray) : WpE Tryd.prog (code 16) 2 (sP q t0 nb L) (fun f => f.e = .ret ∧
    ((strs (pcsF q nb L 400 0 t0) = [.string t0] ∧ ∃ d, f = fP0 q t0 nb L d) ∨ ∃ (t : ByteArray) (Lo : List Value) (d : Nat → Value), strs (pcsF q nb L 400 0 t0) = Lo ++ [.string t] ∧ f = fP1 q t nb L Lo.length Lo (Lo.length : Int) d)) := by
  rw [code16]
  refine WpE.seq (wpE_run (X := XP) rfl XP_ct XP_lp (s := sP q t0 nb L) (pa_q q t0 nb L) trivial) (fun r hr hn => ?_) (fun r hr hne => absurd hr.1 hne)
  have e := hr.2; subst e
  refine WpE.seq (wpE_run (X := XP) rfl XP_ct XP_lp (s := sPb q t0 nb L) (pb_q q t0 nb L) trivial) (fun r hr hn => ?_) (fun r hr hne => absurd hr.1 hne)
  have e := hr.2; subst e
  refine WpE.seq (F := fun f => f.e = .normal ∧ EndP q nb L t0 f.st) (WpE.seq (wpE_X (X := XP) rfl XP_ct XP_lp (s := sPc q t0 nb L) (T := fun d => stP0 q t0 nb L d) (pc_q q t0 nb L) trivial) (fun r hr hn => ?_) (fun r hr hne => absurd hr.1 hne)) (fun r hr hn => ?_) (fun r hr hne => absurd hr.1 hne)
  · refine wpE_weakF hr.2 fun d => WpE.block (loopP q nb L hrow t0 d) fun f hf => ?_
    obtain ⟨h1, h2⟩ := hf
    unfold Fin.unblock
    rw [h1]
    simp only [if_true]
    exact ⟨trivial, h2⟩
  · rcases hr.2 with ⟨h1, h2⟩ | ⟨t, Lo, hl, h1, h2⟩
    · exact wpE_weakF h2 fun d => (wpE_run (X := XP) rfl XP_ct XP_lp (s := stP0 q t0 nb L d) (pr_0 q t0 nb L d) trivial).mono fun f hf => ⟨hf.1, .inl ⟨h1, d, hf.2⟩⟩
    · exact wpE_weakF h2 fun d => (wpE_run (X := XP) rfl XP_ct XP_lp (s := stP q t nb L Lo.length Lo (Lo.length : Int) d) (pr_1 q t nb L Lo.length Lo (Lo.length : Int) d) ⟨⟨rfl, by omega, by omega⟩, trivial⟩).mono fun f hf => ⟨hf.1, .inr ⟨t, Lo, d, h1, hf.2⟩⟩
theorem call16 (hrow : q = true → RowB L nb) (t0 : ByteArray) {η : Env} {w : World} {vs : List Value} (hr : HR w.heap.size η [.fns L, .dead] w) (hargs : Rs η (argP q t0 nb) vs) :
    Calls Tryd.prog 16 vs.toArray w (fun e w' => ∃ v μ k kc hc, e = .returned v ∧ R (η ++ μ) (.slo k (strs (pcsF q nb L 400 0 t0)).length kc) v ∧ HR w.heap.size (η ++ μ) hc w' ∧ hc[k]? = some (.ows 9 kc (strs (pcsF q nb L 400 0 t0))) ∧ Below w.heap.size w w') := by
  have hb0 := bodyP q nb L hrow t0
  unfold sP at hb0
  rw [← fn16_tm] at hb0
  let P0 : SV → List SO → Prop := fun s' hp' => (strs (pcsF q nb L 400 0 t0) = [.string t0] ∧ s' = .sle 3 0 1 4 ∧ hp'[3]? = some (.own 9 1 1 4 [.val (.string t0)])) ∨ (s' = .slo 5 (strs (pcsF q nb L 400 0 t0)).length 6 ∧ hp'[5]? = some (.ows 9 6 (strs (pcsF q nb L 400 0 t0))))
  have hF : ∀ f : Fin, (f.e = .ret ∧ ((strs (pcsF q nb L 400 0 t0) = [.string t0] ∧ ∃ d, f = fP0 q t0 nb L d) ∨ ∃ (t : ByteArray) (Lo : List Value) (d : Nat → Value), strs (pcsF q nb L 400 0 t0) = Lo ++ [.string t] ∧ f = fP1 q t nb L Lo.length Lo (Lo.length : Int) d)) →
      (f.e = .normal ∨ f.e = .ret) ∧ ∃ s, resultsS Tryd.prog (fnN 16) f.tm f.hp = some s ∧ P0 s f.hp := by
    intro f hf
    rcases hf.2 with ⟨h1, d, rfl⟩ | ⟨t, Lo, d, h1, rfl⟩
    · exact ⟨.inr hf.1, _, (pe_0 q t0 nb L d).1, .inl ⟨h1, rfl, (pe_0 q t0 nb L d).2⟩⟩
    · refine ⟨.inr hf.1, _, (pe_1 q t nb L Lo.length Lo (Lo.length : Int) d).1, .inr ⟨?_, ?_⟩⟩
      · rw [h1, List.length_append, List.length_singleton]
      · rw [h1]; exact (pe_1 q t nb L Lo.length Lo (Lo.length : Int) d).2
  refine (calls_of_wpE fn16_at fn16_body (args := argP q t0 nb) (hp := [.fns L, .dead]) (G := P0) hb0 hF hr (Nat.le_refl _) hargs).mono fun e w' hq => ?_
  obtain ⟨v, μ, s', hp', e1, e2, e3, e4, e5⟩ := hq
  rcases e5 with ⟨h1, rfl, h3⟩ | ⟨rfl, h3⟩
  · refine ⟨v, μ, 3, 4, _, e1, ?_, HR.own_says e3 h3 [.string t0] rfl (fun i c hc => ?_), ?_, e4⟩
    · rw [h1]
      simpa only [R, Nat.add_zero, List.length_singleton] using e2
    · match i, hc with
      | 0, hc =>
        simp only [List.getElem?_cons_zero, Option.some.injEq] at hc; subst hc
        exact ⟨_, rfl, fun v hv => by simpa only [R] using hv⟩
      | i + 1, hc => simp at hc
    · rw [h1, List.getElem?_set_self (List.getElem?_eq_some_iff.1 h3).1]
  · exact ⟨v, μ, 5, 6, _, e1, e2, e3, h3, e4⟩
end
/-- A callee's row of its own, as a new frozen block. -/
theorem HR.growS {B Bc : Nat} {η ε : Env} {hp hc : List SO} {w w' : World} (h : HR B η hp w) (hBc : Bc = w.heap.size) (hb : Below w.heap.size w w') (h' : HR Bc ε hc w') {k kc : Nat} {e : TypeId} {V : List Value} (hk : hc[k]? = some (.ows e kc V)) :
    ∃ b c, ε[k]? = some (.pointer (some ⟨b, 0, none⟩)) ∧ ε[kc]? = some (.slice none 0 c) ∧ HR B (η ++ [.pointer (some ⟨b, 0, none⟩), .slice none 0 c]) (hp ++ [.fns V, .dead]) w' := by
  subst hBc
  have hbr := h'.blk k _ hk
  obtain ⟨g, c, o1, o2, o3⟩ := hbr.2
  obtain ⟨b, o, e1, e2, e3, e4⟩ := hbr.1 true (V.map .val) rfl
  have hgo : b = g ∧ o = 0 := by
    rw [o1] at e1
    simp only [Option.some.injEq, Value.pointer.injEq, Addr.mk.injEq, and_true] at e1
    exact ⟨e1.1.symm, e1.2.symm⟩
  obtain ⟨rfl, rfl⟩ := hgo
  have hB' : w.heap.size ≤ b := e3 rfl
  refine ⟨b, c, o1, o2, ?_⟩
  have split : ∀ {j : Nat} {x : SO}, (hp ++ [SO.fns V, SO.dead])[j]? = some x → (j < hp.length ∧ hp[j]? = some x) ∨ (j = hp.length ∧ x = .fns V) ∨ (j = hp.length + 1 ∧ x = .dead) := by
    intro j x hj
    by_cases hlt : j < hp.length
    · rw [List.getElem?_append_left hlt] at hj; exact .inl ⟨hlt, hj⟩
    · rw [List.getElem?_append_right (by omega)] at hj
      match hq : j - hp.length, hj with
      | 0, hj => simp at hj; exact .inr (.inl ⟨by omega, hj.symm⟩)
      | 1, hj => simp at hj; exact .inr (.inr ⟨by omega, hj.symm⟩)
      | i + 2, hj => simp at hj
  refine ⟨by simp [h.len], fun j x hj => ?_, ?_⟩
  · rcases split hj with ⟨_, hj⟩ | ⟨rfl, rfl⟩ | ⟨rfl, rfl⟩
    · exact ((h.blk j x hj).below hb).ext
    · refine ⟨fun wr m hrow => ?_, trivial⟩
      simp only [SO.row, Option.some.injEq, Prod.mk.injEq] at hrow
      obtain ⟨rfl, rfl⟩ := hrow
      refine ⟨b, 0, by rw [← h.len]; simp, e2, (fun e => by cases e), fun i s hi => ?_⟩
      obtain ⟨⟨v, v1, v2, v3⟩, v4⟩ := e4 i s hi
      rw [List.getElem?_map] at hi
      obtain ⟨y, _, rfl⟩ := Option.map_eq_some_iff.1 hi
      exact ⟨⟨v, v1, by simp only [R] at v2 ⊢; exact v2, v3⟩, fun e => by cases e⟩
    · exact ⟨fun wr m hrow => by simp [SO.row] at hrow, trivial⟩
  · intro k₁ k₂ s₁ s₂ l₁ wr₂ l₂ b₁ o₁ b₂ o₂ h1 r1 h2 r2 hne q1 q2
    rcases split h1 with ⟨p1, h1⟩ | ⟨rfl, rfl⟩ | ⟨rfl, rfl⟩
    · have g1 : η[k₁]? = some (Value.pointer (some ⟨b₁, o₁, none⟩)) := by
        rw [List.getElem?_append_left (by rw [h.len]; exact p1)] at q1; exact q1
      rcases split h2 with ⟨p2, h2⟩ | ⟨rfl, rfl⟩ | ⟨rfl, rfl⟩
      · have g2 : η[k₂]? = some (Value.pointer (some ⟨b₂, o₂, none⟩)) := by
          rw [List.getElem?_append_left (by rw [h.len]; exact p2)] at q2; exact q2
        exact h.apart k₁ k₂ s₁ s₂ l₁ wr₂ l₂ b₁ o₁ b₂ o₂ h1 r1 h2 r2 hne g1 g2
      · have hb2 : b₂ = b := by
          rw [← h.len] at q2
          simp at q2
          exact q2.1.symm
        obtain ⟨x, y, z1, z2, _, _⟩ := (h.blk k₁ s₁ h1).1 true l₁ r1
        rw [g1] at z1
        simp only [Option.some.injEq, Value.pointer.injEq, Addr.mk.injEq, and_true] at z1
        omega
      · simp [SO.row] at r2
    · simp [SO.row] at r1
    · simp [SO.row] at r1
abbrev PCF := Bool → Nat → List Value → ByteArray → List Value
noncomputable def pcL : PCF := fun q nb L t => strs (pcsF q nb L 400 0 t)
def pcG (PC : PCF) (args : List SV) (hp : List SO) : Option (SV × Option (List SO) × Cnd) :=
  match args, hp with
  | [x, y], _ :: .fns L :: _ =>
    match x.val? with
    | some (.string t) =>
      match y with
      | .slo 1 nb 3 => some (.slo hp.length (PC true nb L t).length (hp.length + 1), some (hp ++ [.fns (PC true nb L t), .dead]), .pr (PC = pcL ∧ RowB L nb))
      | .val (.slice none 0 0) => some (.slo hp.length (PC false 0 L t).length (hp.length + 1), some (hp ++ [.fns (PC false 0 L t), .dead]), .pr (PC = pcL))
      | _ => none
    | _ => none
  | _, _ => none
theorem HR.fns1 {B : Nat} {η : Env} {hp : List SO} {w : World} (h : HR B η hp w) {k : Nat} {L : List Value} (hk : hp[k]? = some (.fns L)) (x : Value) :
    ∃ p, η[k]? = some p ∧ HR w.heap.size [p, x] [.fns L, .dead] w := by
  obtain ⟨b, o, e1, e2, e3, e4⟩ := (h.blk k _ hk).1 false (L.map .val) rfl
  refine ⟨_, e1, rfl, fun j y hj => ?_, ?_⟩
  · match j, hj with
    | 0, hj =>
      simp only [List.getElem?_cons_zero, Option.some.injEq] at hj; subst hj
      refine ⟨fun wr m hrow => ?_, trivial⟩
      simp only [SO.row, Option.some.injEq, Prod.mk.injEq] at hrow
      obtain ⟨rfl, rfl⟩ := hrow
      refine ⟨b, o, rfl, e2, (fun e => by cases e), fun i s hi => ?_⟩
      obtain ⟨⟨v, v1, v2, v3⟩, v4⟩ := e4 i s hi
      rw [List.getElem?_map] at hi
      obtain ⟨y, _, rfl⟩ := Option.map_eq_some_iff.1 hi
      exact ⟨⟨v, v1, by simp only [R] at v2 ⊢; exact v2, v3⟩, fun e => by cases e⟩
    | 1, hj =>
      simp only [List.getElem?_cons_succ, List.getElem?_cons_zero, Option.some.injEq] at hj; subst hj
      exact ⟨fun wr m hrow => by simp [SO.row] at hrow, trivial⟩
    | j + 2, hj => simp at hj
  · intro k₁ k₂ s₁ s₂ l₁ wr₂ l₂ b₁ o₁ b₂ o₂ h1 r1 h2 r2 hne q1 q2
    match k₁, h1 with
    | 0, h1 => simp at h1; subst h1; simp [SO.row] at r1
    | 1, h1 => simp at h1; subst h1; simp [SO.row] at r1
    | j + 2, h1 => simp at h1
noncomputable def gH (q : Sh) : Raw := worksG.or (sumG q)
noncomputable def XHP (q : Sh) (PC : PCF) : Cx :=
  ⟨Tryd.prog, fun f args hp => if f = 16 then pcG PC args hp else (rawX q (gH q)).ct f args hp, fun _ _ _ _ => none⟩
theorem XHP_lp (q : Sh) (PC : PCF) : LpOk (XHP q PC) := fun _ _ _ _ _ _ _ h => by simp [XHP] at h
theorem XHP_ct (PC : PCF) : CtOk (XHP shL PC) := by
  intro f args hp s ho c h hc B η w vs hr hB hargs
  have h' : (if f = 16 then pcG PC args hp else (rawX shL (gH shL)).ct f args hp) = some (s, ho, c) := h
  split at h'
  · rename_i hf; subst hf
    have fin : ∀ (q : Bool) (nb : Nat) (L : List Value) (t : ByteArray) (η' : Env), (q = true → RowB L nb) → PC = pcL → HR w.heap.size η' [.fns L, .dead] w → Rs η' (argP q t nb) vs →
        Calls Tryd.prog 16 vs.toArray w (fun e w' => ∃ v μ, e = .returned v ∧ R (η ++ μ) (.slo hp.length (PC q nb L t).length (hp.length + 1)) v ∧ HR B (η ++ μ) (hp ++ [.fns (PC q nb L t), .dead]) w' ∧ Below B w w') := by
      intro q nb L t η' hrow hPC hr' ha
      subst hPC
      refine (call16 q nb L hrow t hr' ha).mono fun e w' hq => ?_
      obtain ⟨v, μ, k, kc, hcc, rfl, hR, hr2, hk, hb⟩ := hq
      obtain ⟨b, c, p1, p2, hr3⟩ := HR.growS hr rfl hb hr2 hk
      refine ⟨v, _, rfl, ?_, hr3, hb.mono hB⟩
      obtain ⟨b', o', c', y1, y2, y3, y4⟩ := hR
      rw [p1] at y1; rw [p2] at y2
      simp only [Option.some.injEq, Value.pointer.injEq, Addr.mk.injEq, and_true, Value.slice.injEq, true_and] at y1 y2
      obtain ⟨rfl, rfl⟩ := y1
      subst y2
      exact ⟨b, 0, c, by rw [← hr.len]; simp, by rw [← hr.len]; simp, y3, y4⟩
    unfold pcG at h'
    split at h'
    · rename_i x y g L r
      split at h'
      · rename_i t ht
        obtain ⟨v0, r0, rfl, g0, k0⟩ := hargs.cons_inv
        obtain ⟨v1, r1, rfl, g1, k1⟩ := k0.cons_inv
        simp only [Rs] at k1; subst k1
        have e0 : v0 = .string t := SV.val?_R ht g0
        subst e0
        split at h'
        · rename_i nb
          simp only [Option.some.injEq, Prod.mk.injEq] at h'
          obtain ⟨rfl, rfl, rfl⟩ := h'
          obtain ⟨b, o, c, x1, x2, x3, rfl⟩ := g1
          obtain ⟨p, p1, hr'⟩ := HR.fns1 hr (k := 1) rfl (.slice none 0 c)
          rw [x1] at p1
          obtain rfl := Option.some.inj p1
          exact fin true nb L t _ (fun _ => hc.2) hc.1 hr' (Rs.cons (by simp only [R]) (Rs.cons ⟨b, o, c, rfl, rfl, x3, rfl⟩ Rs.nil))
        · simp only [Option.some.injEq, Prod.mk.injEq] at h'
          obtain ⟨rfl, rfl, rfl⟩ := h'
          simp only [R] at g1; subst g1
          obtain ⟨p, p1, hr'⟩ := HR.fns1 hr (k := 1) rfl undef
          exact fin false 0 L t _ (fun h => by cases h) hc hr' (Rs.cons (by simp only [R]) (Rs.cons (by simp only [slB, R]) Rs.nil))
        · simp at h'
      · simp at h'
    · simp at h'
  · exact rawX_ct shL_F (Raw.or_ok worksG_ok sumG_ok) f args hp s ho c h' hc B η w vs hr hB hargs
/-! ### HashPieces -/
def slH (b : Bool) (nb : Nat) : SV := match b with | true => .slo 1 nb 3 | false => .val (.slice none 0 0)
def argH (b : Bool) (t : ByteArray) (nb : Nat) : List SV := [.val (.string t), slH b nb]
noncomputable def hpH (L : List Value) : List SO := [globS, .fns L, .cells false [], .dead]
noncomputable def sH (b : Bool) (t : ByteArray) (nb : Nat) (L : List Value) : St := ⟨argH b t nb ++ List.replicate 74 (.val undef), hpH L⟩
noncomputable def nxH (q : Sh) (PC : PCF) (c : Code) (s : St) : St := (finOf (run (XHP q PC) 80 c s.tm s.hp [])).st
noncomputable def wcA : Code := cL (code 6)
noncomputable def wcB : Code := cL (cR (code 6))
noncomputable def wcC : Code := cL (cR (cR (code 6)))
noncomputable def wcD : Code := cL (cR (cR (cR (code 6))))
noncomputable def wcE : Code := cL (cR (cR (cR (cR (code 6)))))
noncomputable def wcF : Code := cL (cR (cR (cR (cR (cR (code 6))))))
noncomputable def wcG : Code := cL (cL (cR (cR (cR (cR (cR (cR (code 6))))))))
noncomputable def idH : Nat := bId (cR (cL (cR (cR (cR (cR (cR (cR (code 6)))))))))
noncomputable def wcL : Code := cLp (cB (cR (cL (cR (cR (cR (cR (cR (cR (code 6))))))))))
noncomputable def wcR : Code := cR (cR (cR (cR (cR (cR (cR (code 6)))))))
theorem code6 : code 6 = .seq wcA (.seq wcB (.seq wcC (.seq wcD (.seq wcE (.seq wcF (.seq (.seq wcG (.block idH (.loop wcL))) wcR)))))) := by kernel_rfl
noncomputable def w6b (q : Sh) (PC : PCF) (b : Bool) (t : ByteArray) (nb : Nat) (L : List Value) : St := nxH q PC wcA (sH b t nb L)
noncomputable def w6c (q : Sh) (PC : PCF) (b : Bool) (t : ByteArray) (nb : Nat) (L : List Value) : St := nxH q PC wcB (w6b q PC b t nb L)
noncomputable def w6d (q : Sh) (PC : PCF) (b : Bool) (t : ByteArray) (nb : Nat) (L : List Value) : St := nxH q PC wcC (w6c q PC b t nb L)
noncomputable def w6e (q : Sh) (PC : PCF) (b : Bool) (t : ByteArray) (nb : Nat) (L : List Value) : St := nxH q PC wcD (w6d q PC b t nb L)
noncomputable def w6f (q : Sh) (PC : PCF) (b : Bool) (t : ByteArray) (nb : Nat) (L : List Value) : St := nxH q PC wcE (w6e q PC b t nb L)
noncomputable def w6g (q : Sh) (PC : PCF) (b : Bool) (t : ByteArray) (nb : Nat) (L : List Value) : St := nxH q PC wcF (w6f q PC b t nb L)
def nbq (b : Bool) (nb : Nat) : Nat := match b with | true => nb | false => 0
def tmH (b : Bool) (T : ByteArray) (nb n : Nat) (a i : SV) (d : Nat → Value) : List SV := [.val (.string T), slH b nb, .val (d 2), .val (d 3), .val (d 4), .ptr 4 0, .slo 5 n 6, a, i] ++ (List.range' 9 67).map (fun j => .val (d j))
noncomputable def hpV (L V : List Value) (c : List SV) : List SO := [.glob 0 glL, .fns L, .cells false [], .dead, .cells true c, .fns V, .dead]
noncomputable def iv0 : List SV := iv.map (fun z => .num .u32 z) ++ [.bts true [], .num .u64 0]
noncomputable def stH0 (b : Bool) (T : ByteArray) (nb : Nat) (L : List Value) (n : Nat) (V : List Value) (d : Nat → Value) : St := ⟨tmH b T nb n (.num .i64 0) (.num .i64 0) d, hpV L V iv0⟩
noncomputable def stH1 (b : Bool) (T : ByteArray) (nb : Nat) (L : List Value) (n : Nat) (V : List Value) (p : List Int × ByteArray) (m a : Int) (d : Nat → Value) : St := ⟨tmH b T nb n (.val (.int .i64 a)) (.num .i64 1) d, hpV L V (cW8 p m)⟩
noncomputable def stH (b : Bool) (T : ByteArray) (nb : Nat) (L : List Value) (n : Nat) (V : List Value) (p : List Int × ByteArray) (m a i : Int) (d : Nat → Value) : St := ⟨tmH b T nb n (.val (.int .i64 a)) (.val (.int .i64 i)) d, hpV L V (cW8 p m)⟩
def kpH : List Nat := [0, 1, 2, 3, 4, 5, 6]
def fgH : List Nat := [2, 3, 4] ++ List.range' 9 67
def LE (b : Bool) (PC : PCF) (L : List Value) (nb : Nat) : List Prop := match b with | true => [PC = pcL ∧ RowB L nb] | false => [PC = pcL]
noncomputable def VP (PC : PCF) (b : Bool) (t : ByteArray) (nb : Nat) (L : List Value) : List Value := PC b (nbq b nb) L (cutK 400 t)
def x0V (V : List Value) : ByteArray := strOf (cellAt V 0)
def xV (V : List Value) (i : Int) : ByteArray := strOf (cellAt V (i * ((1 : Nat) : Int)).toNat)
noncomputable def pw1 (q : Sh) (p : List Int × ByteArray) (x : ByteArray) : List Int × ByteArray := q.F (oct p) (p.2 ++ x)
noncomputable def pw2 (q : Sh) (p : List Int × ByteArray) (x : ByteArray) : List Int × ByteArray := pw1 q (pw1 q p x) emp
noncomputable def mw2 (m : Int) (x : ByteArray) : Int := w64 (w64 m x) emp
noncomputable def LWr (q : Sh) (p : List Int × ByteArray) (x : ByteArray) : List Prop := [P14 (oct p) p.2 x 0 glL, P14 (oct (pw1 q p x)) (pw1 q p x).2 emp 0 glL]
noncomputable def L0 (q : Sh) (n : Nat) (V : List Value) : List Prop := [decide ((0 : Int) < (n : Int)) = true, (0 : Int) < (n : Int), loadP V 0 [.str]] ++ LWr q (iv, emp) (x0V V) ++ [(0 : Int) < (n : Int), loadP V 0 [.str]]
noncomputable def L1 (q : Sh) (n : Nat) (V : List Value) (p : List Int × ByteArray) (i : Int) : List Prop := [decide (i < (n : Int)) = true, 0 ≤ i ∧ i < (n : Int), loadP V (i * ((1 : Nat) : Int)).toNat [.str]] ++ LWr q p (xV V i) ++ [0 ≤ i ∧ i < (n : Int), loadP V (i * ((1 : Nat) : Int)).toNat [.str]]
def aT (T : ByteArray) (a : Int) : ByteArray := T.extract (Int.toNat 0) a.toNat
noncomputable def L2 (q : Sh) (T : ByteArray) (p : List Int × ByteArray) (m a : Int) : List Prop := [(0 : Int) ≤ 0 ∧ 0 ≤ a ∧ a ≤ (T.size : Int), P13 p.2 0 glL, P9 (aT T a) 0 glL, (!eqDg (q.D (oct p) p.2 m) (q.S (aT T a))) = false]
theorem wq_a (q : Sh) (PC : PCF) (b : Bool) (t : ByteArray) (nb : Nat) (L : List Value) : goodR (run (XHP q PC) 80 wcA (sH b t nb L).tm (sH b t nb L).hp []) .normal [] := by cases b <;> (unfold goodR; kernel_rfl)
theorem wq_b (q : Sh) (PC : PCF) (b : Bool) (t : ByteArray) (nb : Nat) (L : List Value) : goodR (run (XHP q PC) 80 wcB (w6b q PC b t nb L).tm (w6b q PC b t nb L).hp []) .normal [] := by cases b <;> (unfold goodR; kernel_rfl)
theorem wq_c (q : Sh) (PC : PCF) (b : Bool) (t : ByteArray) (nb : Nat) (L : List Value) : goodR (run (XHP q PC) 80 wcC (w6c q PC b t nb L).tm (w6c q PC b t nb L).hp []) .normal [Pg 0 glL] := by cases b <;> (unfold goodR; kernel_rfl)
theorem wq_d (q : Sh) (PC : PCF) (b : Bool) (t : ByteArray) (nb : Nat) (L : List Value) : goodR (run (XHP q PC) 80 wcD (w6d q PC b t nb L).tm (w6d q PC b t nb L).hp []) .normal [cutP 400 t] := by cases b <;> (unfold goodR; kernel_rfl)
theorem wq_e (q : Sh) (PC : PCF) (b : Bool) (t : ByteArray) (nb : Nat) (L : List Value) : goodR (run (XHP q PC) 80 wcE (w6e q PC b t nb L).tm (w6e q PC b t nb L).hp []) .normal (LE b PC L nb) := by cases b <;> (unfold goodR; kernel_rfl)
theorem wq_f (q : Sh) (PC : PCF) (b : Bool) (t : ByteArray) (nb : Nat) (L : List Value) : goodR (run (XHP q PC) 80 wcF (w6f q PC b t nb L).tm (w6f q PC b t nb L).hp []) .normal [] := by cases b <;> (unfold goodR; kernel_rfl)
theorem wq_g (q : Sh) (PC : PCF) (b : Bool) (t : ByteArray) (nb : Nat) (L : List Value) (d : Nat → Value) : givesX 4 kpH fgH (run (XHP q PC) 80 wcG (w6g q PC b t nb L).tm (w6g q PC b t nb L).hp []) .normal (stH0 b (cutK 400 t) nb L (VP PC b t nb L).length (VP PC b t nb L) d) [] d := by cases b <;> (unfold givesX; kernel_rfl)
section
variable (q : Sh) (PC : PCF) (b : Bool) (T : ByteArray) (nb n : Nat) (L V : List Value) (p : List Int × ByteArray) (m a i : Int) (d d' : Nat → Value)
theorem wr_0 : givesX 4 kpH fgH (run (XHP q PC) 80 wcL (stH0 b T nb L n V d).tm (stH0 b T nb L n V d).hp [true]) .normal (stH1 b T nb L n V (pw2 q (iv, emp) (x0V V)) (mw2 (Int.ofNat 0) (x0V V)) (IntKind.i64.wrap (0 + ((x0V V).size : Int))) d') (L0 q n V) d' := by cases b <;> (unfold givesX; kernel_rfl)
theorem wr_1 : givesX 4 kpH fgH (run (XHP q PC) 80 wcL (stH b T nb L n V p m a i d).tm (stH b T nb L n V p m a i d).hp [true, false]) .normal (stH b T nb L n V (pw2 q p (xV V i)) (mw2 m (xV V i)) (IntKind.i64.wrap (a + ((xV V i).size : Int))) (IntKind.i64.wrap (i + 1)) d') (L1 q n V p i ++ [(i.tmod 3 == 1) = false]) d' := by cases b <;> (unfold givesX; kernel_rfl)
theorem wr_2 : givesX 4 kpH fgH (run (XHP q PC) 80 wcL (stH b T nb L n V p m a i d).tm (stH b T nb L n V p m a i d).hp [true, true, false]) .normal (stH b T nb L n V (pw2 q p (xV V i)) (mw2 m (xV V i)) (IntKind.i64.wrap (a + ((xV V i).size : Int))) (IntKind.i64.wrap (i + 1)) d') (L1 q n V p i ++ [(i.tmod 3 == 1) = true] ++ L2 q T (pw2 q p (xV V i)) (mw2 m (xV V i)) (IntKind.i64.wrap (a + ((xV V i).size : Int)))) d' := by cases b <;> (unfold givesX; kernel_rfl)
theorem wr_x : givesX 4 kpH fgH (run (XHP q PC) 80 wcL (stH b T nb L n V p m a i d).tm (stH b T nb L n V p m a i d).hp [false]) (.exit idH) (stH b T nb L n V p m a i d') [decide (i < (n : Int)) = false] d' := by cases b <;> (unfold givesX; kernel_rfl)
theorem wr_r : goodR (run (XHP q PC) 80 wcR (stH b T nb L n V p m a i d).tm (stH b T nb L n V p m a i d).hp [true, true]) .ret [(a == (T.size : Int)) = true, P13 p.2 0 glL, P9 T 0 glL, eqDg (q.D (oct p) p.2 m) (q.S T) = true] := by unfold goodR; kernel_rfl
noncomputable def fH : Fin := finOf (run (XHP q PC) 80 wcR (stH b T nb L n V p m a i d).tm (stH b T nb L n V p m a i d).hp [true, true])
theorem wr_e : resultsS Tryd.prog (fnN 6) (fH q PC b T nb n L V p m a i d).tm (fH q PC b T nb n L V p m a i d).hp = some (.val (.bool (m == IntKind.u64.wrap (T.size : Int)))) := by kernel_rfl
end
theorem fn6_at : Tryd.prog.funcs[6]? = some (fnN 6) := by kernel_rfl
theorem fn6_body : (fnN 6).body = some (code 6) := by kernel_rfl
theorem fn6_tm (b : Bool) (t : ByteArray) (nb : Nat) : (argH b t nb ++ List.replicate ((fnN 6).ntmps - (argH b t nb).length) (.val undef) : List SV) = argH b t nb ++ List.replicate 74 (.val undef) := by cases b <;> kernel_rfl
/-! ### HashPieces: the law -/
noncomputable def catB : List ByteArray → ByteArray
  | [] => emp
  | x :: l => x ++ catB l
theorem catB_app : ∀ a b : List ByteArray, catB (a ++ b) = catB a ++ catB b
  | [], b => (emp_app _).symm
  | x :: a, b => by
    show x ++ catB (a ++ b) = (x ++ catB a) ++ catB b
    rw [catB_app a b, ByteArray.append_assoc]
theorem app_emp (t : ByteArray) : t ++ emp = t := by
  apply ByteArray.ext
  rw [ByteArray.data_append]
  show t.data ++ #[] = t.data
  simp
theorem catB_one (x : ByteArray) : catB [x] = x := app_emp x
theorem pcs_split (t : ByteArray) (n : Int) (h0 : 0 ≤ n) (h1 : n ≤ (t.size : Int)) : pcT t n ++ rsT t n = t := by
  apply ByteArray.ext
  rw [ByteArray.data_append]
  unfold pcT rsT
  rw [ByteArray.data_extract, ByteArray.data_extract]
  have e : (Int.toNat 0) = 0 := rfl
  rw [e, Int.toNat_natCast, Array.extract_append_extract]
  have : t.size = t.data.size := rfl
  rw [Nat.min_eq_left (by omega), Nat.max_eq_right (by omega), this]
  simp
theorem pcsF_cat (q : Bool) (nb : Nat) (L : List Value) (hrow : q = true → RowB L nb) : ∀ (f : Nat) (i : Int) (t : ByteArray), 0 ≤ i → catB (pcsF q nb L f i t) = t
  | 0, i, t, _ => catB_one t
  | f + 1, i, t, h => by
    rw [pcsF]
    split
    · exact catB_one t
    · rename_i hz
      obtain ⟨n1, n2⟩ := nP_ok q t nb L hrow (by omega) i h
      show pcT t _ ++ catB (pcsF q nb L f (i + 1) (rsT t _)) = t
      rw [pcsF_cat q nb L hrow f (i + 1) _ (by omega)]
      exact pcs_split t _ (by omega) n2
theorem pcsF_len (q : Bool) (nb : Nat) (L : List Value) : ∀ (f : Nat) (i : Int) (t : ByteArray), (pcsF q nb L f i t).length ≤ f + 1 ∧ 0 < (pcsF q nb L f i t).length
  | 0, i, t => ⟨Nat.le_refl _, by show 0 < 1; omega⟩
  | f + 1, i, t => by
    rw [pcsF]
    split
    · exact ⟨by show 1 ≤ _; omega, by show 0 < 1; omega⟩
    · have := pcsF_len q nb L f (i + 1) (rsT t (nP q t nb L i))
      simp only [List.length_cons]
      omega
theorem hs_emp : hs shL emp = (iv, emp) := by
  show finW zL iv emp = (iv, emp)
  rw [finW, dif_neg (by decide)]
theorem pw1_hs (a x : ByteArray) : pw1 shL (hs shL a) x = hs shL (a ++ x) := hs_write a x
theorem pw2_hs (a x : ByteArray) : pw2 shL (hs shL a) x = hs shL (a ++ x) := by
  unfold pw2
  rw [pw1_hs, pw1_hs, app_emp]
theorem mw2_sz (a x : ByteArray) (h : a.size + x.size ≤ 100000) : mw2 (a.size : Int) x = ((a ++ x).size : Int) := by
  have e0 : emp.size = 0 := rfl
  unfold mw2
  rw [w64_eq _ _ (by omega), w64_eq _ _ (by omega), ByteArray.size_append, e0, Nat.add_zero]
theorem LWr_ok (a x : ByteArray) (h : x.size ≤ 100000) : AllP (LWr shL (hs shL a) x) := by
  have e0 : emp.size = 0 := rfl
  have h1 := hs_rest a
  have h2 := hs_rest (a ++ x)
  unfold LWr
  rw [pw1_hs]
  exact ⟨⟨by omega, rfl, rfl⟩, ⟨by omega, rfl, rfl⟩, trivial⟩
theorem stH1_weak (b : Bool) (T : ByteArray) (nb n : Nat) (L V : List Value) (p : List Int × ByteArray) (m a : Int) (d : Nat → Value) : Weak 4 (stH1 b T nb L n V p m a d) (stH b T nb L n V p m a 1 d) := by
  intro ds B w₀ η μ x w' hn hs
  refine Weak.tm (n0 := 4) (s := stH1 b T nb L n V p m a d) (t := stH b T nb L n V p m a 1 d) rfl rfl (fun i u v hu hv => ?_) hn hs
  by_cases h : i = 8
  · subst h
    simp [stH1, tmH] at hu
    simp [stH, tmH] at hv
    subst hu; subst hv
    exact fun η v hv => by simp only [R] at hv ⊢; exact hv
  · have : u = v := by
      have e : (stH b T nb L n V p m a 1 d).tm = (stH1 b T nb L n V p m a d).tm.set 8 (.val (.int .i64 1)) := by
        unfold stH stH1 tmH; rfl
      rw [e, List.getElem?_set_ne (fun h' => h h'.symm), hu] at hv
      exact Option.some.inj hv
    subst this
    exact fun η v hv => hv
theorem cell_at (l1 l2 : List ByteArray) (x : ByteArray) : cellAt (strs (l1 ++ x :: l2)) l1.length = .string x := by
  unfold cellAt strs
  rw [List.getD_eq_getElem?_getD, List.getElem?_map, List.getElem?_append_right (by omega), Nat.sub_self]
  rfl
theorem load_at (l1 l2 : List ByteArray) (x : ByteArray) : loadP (strs (l1 ++ x :: l2)) l1.length [.str] := by
  refine ⟨by simp [strs], ?_, trivial⟩
  rw [cell_at]; rfl
section
variable (b : Bool) (T : ByteArray) (nb : Nat) (L : List Value) (l : List ByteArray)
noncomputable def stK (l1 : List ByteArray) (d : Nat → Value) : St := stH b T nb L (strs l).length (strs l) (hs shL (catB l1)) ((catB l1).size : Int) ((catB l1).size : Int) (l1.length : Int) d
theorem roundH (hT : catB l = T) (hz : T.size ≤ 400) (hn : l.length ≤ 401) (l1 l2 : List ByteArray) (x : ByteArray) (hl : l = l1 ++ x :: l2) (d : Nat → Value) :
    WpE Tryd.prog wcL 4 (stK b T nb L l l1 d) (fun r => r.e = .normal ∧ WeakF 4 r.st (fun d' => stK b T nb L l (l1 ++ [x]) d')) := by
  have e1 : ((l1.length : Int) * ((1 : Nat) : Int)).toNat = l1.length := by omega
  have ex : xV (strs l) (l1.length : Int) = x := by
    unfold xV; rw [e1, hl, cell_at]; rfl
  have ld : loadP (strs l) ((l1.length : Int) * ((1 : Nat) : Int)).toNat [.str] := by rw [e1, hl]; exact load_at l1 l2 x
  have eT : T = catB l1 ++ (x ++ catB l2) := by rw [← hT, hl, catB_app]; rfl
  have sT : T.size = (catB l1).size + (x.size + (catB l2).size) := by rw [eT, ByteArray.size_append, ByteArray.size_append]
  have ec : catB (l1 ++ [x]) = catB l1 ++ x := by rw [catB_app, catB_one]
  have es : (catB l1 ++ x).size = (catB l1).size + x.size := ByteArray.size_append
  have sl : (strs l).length = l1.length + (l2.length + 1) := by rw [hl]; simp [strs]
  have hlt : (l1.length : Int) < ((strs l).length : Int) := by omega
  have ll : l1.length ≤ 401 := by have := congrArg List.length hl; simp at this; omega
  have ew : IntKind.i64.wrap (((catB l1).size : Int) + (x.size : Int)) = ((catB l1 ++ x).size : Int) := by rw [wi64, es]; omega
  have ei : IntKind.i64.wrap ((l1.length : Int) + 1) = ((l1 ++ [x]).length : Int) := by rw [wi64, List.length_append, List.length_singleton]; omega
  have A1 : AllP (L1 shL (strs l).length (strs l) (hs shL (catB l1)) (l1.length : Int)) := by
    unfold L1
    rw [ex]
    exact AllP.app (AllP.app ⟨decide_eq_true hlt, ⟨by omega, hlt⟩, ld, trivial⟩ (LWr_ok _ _ (by omega))) ⟨⟨by omega, hlt⟩, ld, trivial⟩
  have em := mw2_sz (catB l1) x (by omega)
  by_cases h3 : ((l1.length : Int).tmod 3 == 1) = true
  · have g := fun d' => wr_2 shL pcL b T nb (strs l).length L (strs l) (hs shL (catB l1)) ((catB l1).size : Int) ((catB l1).size : Int) (l1.length : Int) d d'
    rw [ex, pw2_hs, em, ew, ei, ← ec] at g
    refine wpE_X (X := XHP shL pcL) rfl (XHP_ct _) (XHP_lp _ _) (T := fun d' => stK b T nb L l (l1 ++ [x]) d') g (AllP.app (AllP.app A1 ⟨h3, trivial⟩) ?_)
    have hr := hs_rest (catB (l1 ++ [x]))
    have ea : aT T ((catB (l1 ++ [x])).size : Int) = catB (l1 ++ [x]) := by
      rw [ec, eT, ← ByteArray.append_assoc]
      unfold aT
      rw [Int.toNat_natCast]
      exact ByteArray.extract_append_eq_left rfl
    rw [← ec] at es
    unfold L2
    rw [ea]
    exact ⟨by omega, ⟨hr, rfl, rfl⟩, ⟨by omega, rfl, rfl⟩, by rw [hs_dig _ (by omega), eqDg_self]; rfl, trivial⟩
  · have g := fun d' => wr_1 shL pcL b T nb (strs l).length L (strs l) (hs shL (catB l1)) ((catB l1).size : Int) ((catB l1).size : Int) (l1.length : Int) d d'
    rw [ex, pw2_hs, em, ew, ei, ← ec] at g
    exact wpE_X (X := XHP shL pcL) rfl (XHP_ct _) (XHP_lp _ _) (T := fun d' => stK b T nb L l (l1 ++ [x]) d') g (AllP.app A1 ⟨by simpa using h3, trivial⟩)
theorem roundH0 (hT : catB l = T) (hz : T.size ≤ 400) (l2 : List ByteArray) (x : ByteArray) (hl : l = x :: l2) (d : Nat → Value) :
    WpE Tryd.prog wcL 4 (stH0 b T nb L (strs l).length (strs l) d) (fun r => r.e = .normal ∧ WeakF 4 r.st (fun d' => stK b T nb L l [x] d')) := by
  have ex : x0V (strs l) = x := by rw [hl]; rfl
  have ld : loadP (strs l) 0 [.str] := by rw [hl]; exact load_at [] l2 x
  have sT : T.size = x.size + (catB l2).size := by rw [← hT, hl]; show (x ++ catB l2).size = _; rw [ByteArray.size_append]
  have sl : (strs l).length = l2.length + 1 := by rw [hl]; simp [strs]
  have hlt : (0 : Int) < ((strs l).length : Int) := by omega
  have ew : IntKind.i64.wrap (0 + (x.size : Int)) = ((catB [x]).size : Int) := by rw [wi64, catB_one]; omega
  have em : mw2 (Int.ofNat 0) x = ((catB [x]).size : Int) := by
    have := mw2_sz emp x (by rw [show emp.size = 0 from rfl]; omega)
    rw [catB_one]
    rw [emp_app] at this
    exact this
  have ep : pw2 shL (iv, emp) x = hs shL (catB [x]) := by rw [← hs_emp, pw2_hs, emp_app, catB_one]
  have g := fun d' => wr_0 shL pcL b T nb (strs l).length L (strs l) d d'
  rw [ex, ep, em, ew] at g
  refine (wpE_X (X := XHP shL pcL) rfl (XHP_ct _) (XHP_lp _ _) (T := fun d' => stH1 b T nb L (strs l).length (strs l) (hs shL (catB [x])) ((catB [x]).size : Int) ((catB [x]).size : Int) d') g ?_).mono fun r hr => ⟨hr.1, WeakF.to hr.2 fun d => stH1_weak _ _ _ _ _ _ _ _ _ d⟩
  unfold L0
  rw [ex, ← hs_emp]
  exact AllP.app (AllP.app ⟨decide_eq_true hlt, hlt, ld, trivial⟩ (LWr_ok _ _ (by omega))) ⟨hlt, ld, trivial⟩
structure GH where
  l1 : List ByteArray
  l2 : List ByteArray
  all : l = l1 ++ l2
noncomputable def stG6 : Option (GH l) → (Nat → Value) → St
  | none, d => stH0 b T nb L (strs l).length (strs l) d
  | some g, d => stK b T nb L l g.l1 d
def msG6 : Option (GH l) → Nat
  | none => l.length + 1
  | some g => g.l2.length
theorem loopH (hT : catB l = T) (hz : T.size ≤ 400) (hn : l.length ≤ 401) (hp : 0 < l.length) (d : Nat → Value) :
    WpE Tryd.prog (.loop wcL) 4 (stH0 b T nb L (strs l).length (strs l) d) (fun r => r.e = .exit idH ∧ WeakF 4 r.st (fun d' => stK b T nb L l l d')) := by
  have go := WpE.loopF (P := Tryd.prog) (c := wcL) (n0 := 4) (γ := Option (GH l) × (Nat → Value)) (S := fun g => stG6 b T nb L l g.1 g.2) (m := fun g => msG6 l g.1) (F := fun r => r.e = .exit idH ∧ WeakF 4 r.st (fun d' => stK b T nb L l l d')) (fun g => ?_) (none, d)
  · exact go
  obtain ⟨g, d⟩ := g
  cases g with
  | none =>
    show WpE Tryd.prog wcL 4 (stH0 b T nb L (strs l).length (strs l) d) _
    obtain ⟨x, l2, hl⟩ : ∃ x l2, l = x :: l2 := by
      cases l with
      | nil => simp at hp
      | cons x l2 => exact ⟨x, l2, rfl⟩
    refine (roundH0 b T nb L l hT hz l2 x hl d).mono fun r hr => .inl ⟨hr.1, _, hr.2, fun d' => ⟨(some ⟨[x], l2, hl⟩, d'), ?_, rfl⟩⟩
    show l2.length < l.length + 1
    rw [hl, List.length_cons]; omega
  | some g =>
    obtain ⟨l1, l2, ha⟩ := g
    show WpE Tryd.prog wcL 4 (stK b T nb L l l1 d) _
    cases l2 with
    | cons x l2 =>
      refine (roundH b T nb L l hT hz hn l1 l2 x ha d).mono fun r hr => .inl ⟨hr.1, _, hr.2, fun d' => ⟨(some ⟨l1 ++ [x], l2, by rw [ha]; simp⟩, d'), ?_, rfl⟩⟩
      show l2.length < (x :: l2).length
      rw [List.length_cons]; omega
    | nil =>
      rw [List.append_nil] at ha
      subst ha
      have hs' : (strs l).length = l.length := by simp [strs]
      exact (wpE_X (X := XHP shL pcL) rfl (XHP_ct _) (XHP_lp _ _) (T := fun d' => stK b T nb L l l d') (fun d' => wr_x shL pcL b T nb (strs l).length L (strs l) (hs shL (catB l)) ((catB l).size : Int) ((catB l).size : Int) (l.length : Int) d d') ⟨decide_eq_false (by omega), trivial⟩).mono fun r hr => .inr ⟨by rw [hr.1]; exact (fun e => by cases e), hr⟩
end
theorem wpE_to6 {X : Cx} (hX : X.P = Tryd.prog) (hct : CtOk X) (hlp : LpOk X) {c : Code} {s t : St} {L : List Prop} (h : goodR (run X 80 c s.tm s.hp []) .normal L) (hL : AllP L) (ht : t = (finOf (run X 80 c s.tm s.hp [])).st) : WpE Tryd.prog c 4 s (fun r => r.e = .normal ∧ r.st = t) :=
  (wpE_run hX hct hlp h hL).mono fun r hr => ⟨hr.1, by rw [hr.2, ht]⟩
theorem seq_to6 {x y : Code} {s t : St} {G : Fin → Prop} (h : WpE Tryd.prog x 4 s (fun r => r.e = .normal ∧ r.st = t)) (k : WpE Tryd.prog y 4 t G) : WpE Tryd.prog (.seq x y) 4 s G :=
  WpE.seq h (fun r hr _ => by rw [hr.2]; exact k) (fun r hr hne => absurd hr.1 hne)
noncomputable def lsH (b : Bool) (t : ByteArray) (nb : Nat) (L : List Value) : List ByteArray := pcsF b (nbq b nb) L 400 0 (cutK 400 t)
theorem body6 (b : Bool) (t : ByteArray) (nb : Nat) (L : List Value) (hrow : b = true → RowB L nb) : WpE Tryd.prog (code 6) 4 (sH b t nb L) (fun f => f.e = .ret ∧ ∃ d, f = fH shL pcL b (cutK 400 t) nb (strs (lsH b t nb L)).length L (strs (lsH b t nb L)) (hs shL (cutK 400 t)) ((cutK 400 t).size : Int) ((cutK 400 t).size : Int) ((lsH b t nb L).length : Int) d) := by
  have hrow' : b = true → RowB L (nbq b nb) := fun h => by subst h; exact hrow rfl
  have hT : catB (lsH b t nb L) = cutK 400 t := pcsF_cat b (nbq b nb) L hrow' 400 0 _ (Int.le_refl _)
  have hl := pcsF_len b (nbq b nb) L 400 0 (cutK 400 t)
  have hz := (cutK_size 400 (by omega) t).1
  have hLE : AllP (LE b pcL L nb) := by
    cases b with
    | true => exact ⟨⟨rfl, hrow rfl⟩, trivial⟩
    | false => exact ⟨rfl, trivial⟩
  have c := XHP_ct pcL
  have p := XHP_lp shL pcL
  rw [code6]
  refine seq_to6 (t := w6b shL pcL b t nb L) (wpE_to6 (X := XHP shL pcL) rfl c p (s := sH b t nb L) (wq_a shL pcL b t nb L) trivial rfl) ?_
  refine seq_to6 (t := w6c shL pcL b t nb L) (wpE_to6 (X := XHP shL pcL) rfl c p (s := w6b shL pcL b t nb L) (wq_b shL pcL b t nb L) trivial rfl) ?_
  refine seq_to6 (t := w6d shL pcL b t nb L) (wpE_to6 (X := XHP shL pcL) rfl c p (s := w6c shL pcL b t nb L) (wq_c shL pcL b t nb L) ⟨⟨rfl, rfl⟩, trivial⟩ rfl) ?_
  refine seq_to6 (t := w6e shL pcL b t nb L) (wpE_to6 (X := XHP shL pcL) rfl c p (s := w6d shL pcL b t nb L) (wq_d shL pcL b t nb L) ⟨cutP_ok 400 (by omega) t, trivial⟩ rfl) ?_
  refine seq_to6 (t := w6f shL pcL b t nb L) (wpE_to6 (X := XHP shL pcL) rfl c p (s := w6e shL pcL b t nb L) (wq_e shL pcL b t nb L) hLE rfl) ?_
  refine seq_to6 (t := w6g shL pcL b t nb L) (wpE_to6 (X := XHP shL pcL) rfl c p (s := w6f shL pcL b t nb L) (wq_f shL pcL b t nb L) trivial rfl) ?_
  refine WpE.seq (F := fun f => f.e = .normal ∧ WeakF 4 f.st (fun d => stK b (cutK 400 t) nb L (lsH b t nb L) (lsH b t nb L) d)) (WpE.seq (wpE_X (X := XHP shL pcL) rfl c p (s := w6g shL pcL b t nb L) (T := fun d => stH0 b (cutK 400 t) nb L (VP pcL b t nb L).length (VP pcL b t nb L) d) (wq_g shL pcL b t nb L) trivial) (fun r hr hn => ?_) (fun r hr hne => absurd hr.1 hne)) (fun r hr hn => ?_) (fun r hr hne => absurd hr.1 hne)
  · exact wpE_weakF hr.2 fun d => WpE.block (loopH b (cutK 400 t) nb L (lsH b t nb L) hT (by omega) hl.1 hl.2 d) fun f hf => unblk hf
  · refine wpE_weakF hr.2 fun d => ?_
    unfold stK
    rw [hT]
    exact (wpE_runA (X := XHP shL pcL) rfl c p (wr_r shL pcL b (cutK 400 t) nb (strs (lsH b t nb L)).length L (strs (lsH b t nb L)) (hs shL (cutK 400 t)) ((cutK 400 t).size : Int) ((cutK 400 t).size : Int) ((lsH b t nb L).length : Int) d)
      ⟨by simp, ⟨hs_rest _, rfl, rfl⟩, ⟨by omega, rfl, rfl⟩, by rw [hs_dig _ (by omega)]; exact eqDg_self _, trivial⟩).mono fun f hf => ⟨hf.1, d, hf.2⟩
theorem call6 (b : Bool) (t : ByteArray) (nb : Nat) (L : List Value) (hrow : b = true → RowB L nb) {η : Env} {W : World} {vs : List Value} (hr : HR W.heap.size η (hpH L) W) (hargs : Rs η (argH b t nb) vs) :
    Calls Tryd.prog 6 vs.toArray W (fun e w' => ∃ v, e = .returned v ∧ v = .bool true ∧ Below W.heap.size W w') := by
  have hb0 := body6 b t nb L hrow
  unfold sH at hb0
  rw [← fn6_tm] at hb0
  have hz := (cutK_size 400 (by omega) t).1
  have em : (((cutK 400 t).size : Int) == IntKind.u64.wrap ((cutK 400 t).size : Int)) = true := by
    rw [wu64]; simp only [beq_iff_eq]; omega
  have hF : ∀ f : Fin, (f.e = .ret ∧ ∃ d, f = fH shL pcL b (cutK 400 t) nb (strs (lsH b t nb L)).length L (strs (lsH b t nb L)) (hs shL (cutK 400 t)) ((cutK 400 t).size : Int) ((cutK 400 t).size : Int) ((lsH b t nb L).length : Int) d) →
      (f.e = .normal ∨ f.e = .ret) ∧ ∃ s, resultsS Tryd.prog (fnN 6) f.tm f.hp = some s ∧ s = .val (.bool true) := by
    rintro f ⟨hf, d, rfl⟩
    exact ⟨.inr hf, _, wr_e shL pcL b (cutK 400 t) nb (strs (lsH b t nb L)).length L (strs (lsH b t nb L)) (hs shL (cutK 400 t)) ((cutK 400 t).size : Int) ((cutK 400 t).size : Int) ((lsH b t nb L).length : Int) d, by rw [em]⟩
  refine (calls_of_wpE fn6_at fn6_body (args := argH b t nb) (hp := hpH L) (G := fun s _ => s = .val (.bool true)) hb0 hF hr (Nat.le_refl _) hargs).mono fun e w' hq => ?_
  obtain ⟨v, μ, s', hp', e1, e2, e3, e4, rfl⟩ := hq
  simp only [R] at e2
  exact ⟨v, e1, e2, e4⟩
end Go.Proofs.YtgefcokanfbpbaaDoor
