/-
  HashEdges, walked through whole: each digest is asked against all ahead of it. No condition beyond what each says. By an AI agent.
-/
import Derived.Test.YtgefcokanfbpbaaDoorW06S
import Derived.Test.YtgefcokanfbpbaaDoorW07a
import Derived.Test.YtgefcokanfbpbaaDoorK06D
namespace Go.Proofs.YtgefcokanfbpbaaDoor
open Go.Ex
open Go.RowKit (Below)
set_option linter.unusedVariables false
set_option linter.unusedSimpArgs false
set_option maxRecDepth 1000000
def outX (n0 : Nat) (keep fg : List Nat) (r : Rr Fin) (e : XE) (T : St) (L : List Prop) (d : Nat → Value) : Option (XE × Bool × St × List Prop × List SV) × Option (XE × Bool × St × List Prop × List SV) :=
  match r with
  | .ok f [] c => (some (f.e, cutB n0 keep fg f.st, cutV keep fg f.st d, c.props [], c.lefts []), some (e, true, T, L, c.rights []))
  | _ => (none, some (e, true, T, L, []))
def givesX (n0 : Nat) (keep fg : List Nat) (r : Rr Fin) (e : XE) (T : St) (L : List Prop) (d : Nat → Value) : Prop := (outX n0 keep fg r e T L d).1 = (outX n0 keep fg r e T L d).2
theorem wpE_X {P : Program} {X : Cx} (hX : X.P = P) (hct : CtOk X) (hlp : LpOk X) {n n0 : Nat} {keep fg : List Nat} {c : Code} {s : St} {ans : List Bool} {e : XE} {T : (Nat → Value) → St} {L : List Prop} (h : ∀ d, givesX n0 keep fg (run X n c s.tm s.hp ans) e (T d) L d) (hL : AllP L) :
    WpE P c n0 s (fun r => r.e = e ∧ WeakF n0 r.st T) := by
  subst hX
  generalize hq : run X n c s.tm s.hp ans = r at h
  unfold givesX outX at h
  split at h
  · rename_i f c'
    simp only [Option.some.injEq, Prod.mk.injEq] at h
    have h0 := h (fun _ => undef)
    have hc := (Cnd.is_of c' [] [] [] (by rw [h0.2.2.2.1]; exact hL) h0.2.2.2.2 rfl).1
    refine WpE.of_wp (run_ok hct hlp n c _ _ _ _ _ _ hq hc) ⟨h0.1, ?_⟩
    have e : T = cutV keep fg f.st := funext fun d => ((h d).2.2.1).symm
    rw [e]
    exact fun {_ _ _ _ _ _ _} hl hs => WeakF.cut h0.2.1 hl hs
  · have := h (fun _ => undef); simp at this
theorem unblk {n0 id : Nat} {r : Fin} {T : (Nat → Value) → St} (h : r.e = .exit id ∧ WeakF n0 r.st T) : (r.unblock id).e = .normal ∧ WeakF n0 (r.unblock id).st T := by
  obtain ⟨h1, h2⟩ := h
  unfold Fin.unblock
  rw [h1]
  simp only [if_true]
  exact ⟨trivial, fun {_ _ _ _ _ _ _} hn hs => h2 hn hs⟩
theorem wpE_runA {P : Program} {X : Cx} (hX : X.P = P) (hct : CtOk X) (hlp : LpOk X) {n n0 : Nat} {c : Code} {s : St} {ans : List Bool} {e : XE} {L : List Prop} (h : goodR (run X n c s.tm s.hp ans) e L) (hL : AllP L) :
    WpE P c n0 s (fun r => r.e = e ∧ r = finOf (run X n c s.tm s.hp ans)) := by
  subst hX
  unfold goodR at h
  generalize hq : run X n c s.tm s.hp ans = r at h
  unfold outG at h
  split at h
  · rename_i f c'
    simp only [Option.some.injEq, Prod.mk.injEq] at h
    obtain ⟨h1, h2, h3⟩ := h
    have hc := (Cnd.is_of c' [] [] [] (by rw [h2]; exact hL) h3 rfl).1
    exact WpE.of_wp (run_ok hct hlp n c _ _ _ _ _ _ hq hc) ⟨h1, rfl⟩
  · simp at h
theorem WeakFto {n0 : Nat} {s : St} {T U : (Nat → Value) → St} (h : WeakF n0 s T) (k : ∀ d, Weak n0 (T d) (U d)) : WeakF n0 s U := by
  intro ds B w₀ η μ a w hn hs
  obtain ⟨d, μ', hs'⟩ := h hn hs
  obtain ⟨μ'', hs''⟩ := k d hn hs'
  exact ⟨d, μ'', hs''⟩
/-! ### HashEdges -/
noncomputable def gE (q : Sh) : Raw := worksG.or (sumG q)
noncomputable def XE6 (q : Sh) : Cx := rawX q (gE q)
theorem XE6_lp (q : Sh) : LpOk (XE6 q) := rawX_lp _ _
theorem XE6_ct : CtOk (XE6 shL) := rawX_ct shL_F (Raw.or_ok worksG_ok sumG_ok)
def argE (c bl : Int) : List SV := [.val (.int .u8 c), .val (.int .u8 bl)]
noncomputable def sE (c bl : Int) : St := ⟨argE c bl ++ List.replicate 63 (.val undef), [globS]⟩
noncomputable def nxE (q : Sh) (c : Code) (s : St) : St := (finOf (run (XE6 q) 80 c s.tm s.hp [])).st
noncomputable def ecA : Code := cL (code 4)
noncomputable def ecB : Code := cL (cR (code 4))
noncomputable def ecC : Code := cL (cR (cR (code 4)))
noncomputable def ecD : Code := cL (cR (cR (cR (code 4))))
noncomputable def ecE : Code := cL (cR (cR (cR (cR (code 4)))))
noncomputable def ecF : Code := cL (cR (cR (cR (cR (cR (code 4))))))
noncomputable def ec6 : Code := cR (cR (cR (cR (cR (cR (code 4))))))
noncomputable def ecG : Code := cL ec6
noncomputable def ecH : Code := cL (cL (cR ec6))
noncomputable def ecL : Code := cLp (cB (cR (cL (cR ec6))))
noncomputable def ecR : Code := cR (cR ec6)
noncomputable def oA : Code := cL ecL
noncomputable def o1 : Code := cB (cL (cR ecL))
noncomputable def oH : Code := cR (cR ecL)
noncomputable def oB : Code := cL o1
noncomputable def oC : Code := cL (cR o1)
noncomputable def oD : Code := cL (cL (cR (cR o1)))
noncomputable def oI : Code := cLp (cB (cR (cL (cR (cR o1)))))
noncomputable def oT : Code := cR (cR (cR o1))
noncomputable def id0 : Nat := bId (cR (cL (cR ec6)))
noncomputable def id1 : Nat := bId (cL (cR ecL))
noncomputable def id2 : Nat := bId (cR (cL (cR (cR o1))))
theorem code4 : code 4 = .seq ecA (.seq ecB (.seq ecC (.seq ecD (.seq ecE (.seq ecF (.seq ecG (.seq (.seq ecH (.block id0 (.loop ecL))) ecR))))))) := by kernel_rfl
theorem ecL_eq : ecL = .seq oA (.seq (.block id1 o1) oH) := by kernel_rfl
theorem o1_eq : o1 = .seq oB (.seq oC (.seq (.seq oD (.block id2 (.loop oI))) oT)) := by kernel_rfl
noncomputable def dgC (q : Sh) (t : ByteArray) : List SV := (List.range 32).map fun i => .val (.int .u8 (dB (q.S t) i))
def tmE (c bl la : Int) (n : Nat) (t : ByteArray) (nv dv iv : SV) (d : Nat → Value) : List SV := [.val (.int .u8 c), .val (.int .u8 bl), .val (d 2), .val (d 3), .val (d 4), .slo 2 n 3, .ptr 1 0, .val (.string t), .val (.int .i64 la), nv, dv, iv] ++ (List.range' 12 53).map (fun j => .val (d j))
noncomputable def hpE (n : Nat) (L : List Value) (p : List Int × ByteArray) (m : Int) : List SO := [.glob 0 glL, .cells true (cW8 p m), .ows 24 32 n 3 L, .dead]
noncomputable def stO (c bl la : Int) (n : Nat) (L : List Value) (t : ByteArray) (p : List Int × ByteArray) (m z : Int) (d : Nat → Value) : St := ⟨tmE c bl la n t (.val (.int .i64 z)) (.val (d 10)) (.val (d 11)) d, hpE n L p m⟩
noncomputable def stD (q : Sh) (c bl la : Int) (n : Nat) (L : List Value) (t : ByteArray) (p : List Int × ByteArray) (m z : Int) (d : Nat → Value) : St := ⟨tmE c bl la n t (.val (.int .i64 z)) (.ptr 4 0) (.val (d 11)) d, hpE n L p m ++ [.cells true (dgC q t)]⟩
noncomputable def stI0 (q : Sh) (c bl la : Int) (n : Nat) (L : List Value) (t : ByteArray) (p : List Int × ByteArray) (m z : Int) (d : Nat → Value) : St := ⟨tmE c bl la n t (.val (.int .i64 z)) (.ptr 4 0) (.num .i64 0) d, hpE n L p m ++ [.cells true (dgC q t)]⟩
noncomputable def stI (q : Sh) (c bl la : Int) (n : Nat) (L : List Value) (t : ByteArray) (p : List Int × ByteArray) (m z i : Int) (d : Nat → Value) : St := ⟨tmE c bl la n t (.val (.int .i64 z)) (.ptr 4 0) (.val (.int .i64 i)) d, hpE n L p m ++ [.cells true (dgC q t)]⟩
def fgO : List Nat := [2, 3, 4] ++ List.range' 10 55
def fgD : List Nat := [2, 3, 4] ++ List.range' 11 54
def fgI : List Nat := [2, 3, 4] ++ List.range' 12 53
def tcE (t : ByteArray) (c : Int) : ByteArray := t ++ ⟨[UInt8.ofNat c.toNat].toArray⟩
def cE (c : Int) : ByteArray := ⟨[UInt8.ofNat c.toNat].toArray⟩
section
variable (q : Sh) (c bl la : Int) (n : Nat) (L : List Value) (t : ByteArray) (p : List Int × ByteArray) (m z i : Int) (d d' : Nat → Value)
theorem eA_t : givesX 1 [0, 1, 2, 3] fgO (run (XE6 q) 80 oA (stO c bl la n L t p m z d).tm (stO c bl la n L t p m z d).hp [true]) .normal (stO c bl la n L t p m z d') [decide (z ≤ la) = true] d' := by unfold givesX; kernel_rfl
theorem eA_x : givesX 1 [0, 1, 2, 3] fgO (run (XE6 q) 80 oA (stO c bl la n L t p m z d).tm (stO c bl la n L t p m z d).hp [false]) (.exit id0) (stO c bl la n L t p m z d') [decide (z ≤ la) = false] d' := by unfold givesX; kernel_rfl
theorem eB : givesX 1 [0, 1, 2, 3, 4] fgD (run (XE6 q) 80 oB (stO c bl la n L t p m z d).tm (stO c bl la n L t p m z d).hp []) .normal (stD q c bl la n L t p m z d') [P9 t 0 glL] d' := by unfold givesX; kernel_rfl
theorem eC_f : givesX 1 [0, 1, 2, 3, 4] fgD (run (XE6 q) 80 oC (stD q c bl la n L t p m z d).tm (stD q c bl la n L t p m z d).hp [false]) .normal (stD q c bl la n L t p m z d') [decide (z > IntKind.i64.wrap (la - 20)) = false] d' := by unfold givesX; kernel_rfl
theorem eC_t : givesX 1 [0, 1, 2, 3, 4] fgD (run (XE6 q) 80 oC (stD q c bl la n L t p m z d).tm (stD q c bl la n L t p m z d).hp [true, false]) .normal (stD q c bl la n L t p m z d') [decide (z > IntKind.i64.wrap (la - 20)) = true, P13 p.2 0 glL, (!eqDg (q.D (oct p) p.2 m) (q.S t)) = false] d' := by unfold givesX; kernel_rfl
theorem eD : givesX 1 [0, 1, 2, 3, 4] fgI (run (XE6 q) 80 oD (stD q c bl la n L t p m z d).tm (stD q c bl la n L t p m z d).hp []) .normal (stI0 q c bl la n L t p m z d') [] d' := by unfold givesX; kernel_rfl
theorem eH : givesX 1 [0, 1, 2, 3] fgO (run (XE6 q) 80 oH (stO c bl la n L t p m z d).tm (stO c bl la n L t p m z d).hp []) .normal (stO c bl la n L t p m (IntKind.i64.wrap (z + 1)) d') [] d' := by unfold givesX; kernel_rfl
theorem eI_x : givesX 1 [0, 1, 2, 3, 4] fgI (run (XE6 q) 80 oI (stI q c bl la n L t p m z i d).tm (stI q c bl la n L t p m z i d).hp [false]) (.exit id2) (stI q c bl la n L t p m z i d') [decide (i < (n : Int)) = false] d' := by unfold givesX; kernel_rfl
def ofE (i : Int) : Nat := (i * ((32 : Nat) : Int)).toNat
noncomputable def eqL (q : Sh) (L : List Value) (o : Nat) (t : ByteArray) : Bool := (List.range 32).foldr (fun j r => (intOf (cellAt L (o + j)) == dB (q.S t) j) && r) true
def ck32 : List CK := List.replicate 32 (.int .u8)
theorem eI_n : givesX 1 [0, 1, 2, 3, 4] fgI (run (XE6 q) 80 oI (stI q c bl la n L t p m z i d).tm (stI q c bl la n L t p m z i d).hp [true, false]) .normal (stI q c bl la n L t p m z (IntKind.i64.wrap (i + 1)) d') [decide (i < (n : Int)) = true, 0 ≤ i ∧ i < (n : Int), loadP L (ofE i) ck32, eqL q L (ofE i) t = false] d' := by unfold givesX; kernel_rfl
noncomputable def dgV (q : Sh) (t : ByteArray) : List Value := (List.range 32).map fun i => .int .u8 (dB (q.S t) i)
theorem eT : givesX 1 [0, 1, 6, 7] fgO (run (XE6 q) 80 oT (stI q c bl la n L t p m z i d).tm (stI q c bl la n L t p m z i d).hp []) .normal (stO c bl la (n + 1) (L ++ dgV q t) (tcE t c) (q.F (oct p) (p.2 ++ cE c)) (w64 m (cE c)) z d') [n = n ∧ n + 1 ≤ 1000000000 ∧ (n + 1) * 32 ≤ 1000000000, P14 (oct p) p.2 (cE c) 0 glL, t.size + (cE c).size ≤ 9223372036854775807] d' := by unfold givesX; kernel_rfl
end
/-! the first round -/
def laE (bl : Int) : Int := IntKind.i64.wrap (IntKind.i64.wrap (64 * IntKind.i64.wrap (bl.tmod 4)) + 70)
def tmF (c bl la : Int) (sn tx nv dv iv : SV) (d : Nat → Value) : List SV := [.val (.int .u8 c), .val (.int .u8 bl), .val (d 2), .val (d 3), .val (d 4), sn, .ptr 1 0, tx, .val (.int .i64 la), nv, dv, iv] ++ (List.range' 12 53).map (fun j => .val (d j))
noncomputable def iv0E : List SV := iv.map (fun z => .num .u32 z) ++ [.bts true [], .num .u64 0]
noncomputable def stF (c bl la : Int) (d : Nat → Value) : St := ⟨tmF c bl la (.val (.slice none 0 0)) (.bts true []) (.num .i64 0) (.val (d 10)) (.val (d 11)) d, [.glob 0 glL, .cells true iv0E]⟩
noncomputable def stFD (q : Sh) (c bl la : Int) (d : Nat → Value) : St := ⟨tmF c bl la (.val (.slice none 0 0)) (.bts true []) (.num .i64 0) (.ptr 2 0) (.val (d 11)) d, [.glob 0 glL, .cells true iv0E, .cells true (dgC q emp)]⟩
noncomputable def stFI (q : Sh) (c bl la : Int) (d : Nat → Value) : St := ⟨tmF c bl la (.val (.slice none 0 0)) (.bts true []) (.num .i64 0) (.ptr 2 0) (.num .i64 0) d, [.glob 0 glL, .cells true iv0E, .cells true (dgC q emp)]⟩
noncomputable def stFT (q : Sh) (nv : SV) (c bl la : Int) (d : Nat → Value) : St := ⟨tmF c bl la (.sle 2 0 1 3) (.bts false [UInt8.ofNat c.toNat]) nv (.val (d 10)) (.val (d 11)) d, [.glob 0 glL, .cells true (cW8 (q.F iv (emp ++ cE c)) (w64 (Int.ofNat 0) (cE c))), .own 24 32 1 3 (dgC q emp), .dead]⟩
noncomputable def g2 (q : Sh) (c bl : Int) : St := nxE q ecA (sE c bl)
noncomputable def g3 (q : Sh) (c bl : Int) : St := nxE q ecB (g2 q c bl)
noncomputable def g4 (q : Sh) (c bl : Int) : St := nxE q ecC (g3 q c bl)
noncomputable def g5 (q : Sh) (c bl : Int) : St := nxE q ecD (g4 q c bl)
noncomputable def g6 (q : Sh) (c bl : Int) : St := nxE q ecE (g5 q c bl)
noncomputable def g7 (q : Sh) (c bl : Int) : St := nxE q ecF (g6 q c bl)
noncomputable def g8 (q : Sh) (c bl : Int) : St := nxE q ecG (g7 q c bl)
section
variable (q : Sh) (c bl la : Int) (d d' : Nat → Value)
theorem ga : goodR (run (XE6 q) 80 ecA (sE c bl).tm (sE c bl).hp []) .normal [] := by unfold goodR; kernel_rfl
theorem gb : goodR (run (XE6 q) 80 ecB (g2 q c bl).tm (g2 q c bl).hp []) .normal [Pg 0 glL] := by unfold goodR; kernel_rfl
theorem gc : goodR (run (XE6 q) 80 ecC (g3 q c bl).tm (g3 q c bl).hp []) .normal [] := by unfold goodR; kernel_rfl
theorem gd : goodR (run (XE6 q) 80 ecD (g4 q c bl).tm (g4 q c bl).hp []) .normal [] := by unfold goodR; kernel_rfl
theorem ge : goodR (run (XE6 q) 80 ecE (g5 q c bl).tm (g5 q c bl).hp []) .normal [] := by unfold goodR; kernel_rfl
theorem gf : goodR (run (XE6 q) 80 ecF (g6 q c bl).tm (g6 q c bl).hp []) .normal [] := by unfold goodR; kernel_rfl
theorem gg : goodR (run (XE6 q) 80 ecG (g7 q c bl).tm (g7 q c bl).hp []) .normal [] := by unfold goodR; kernel_rfl
theorem gh : givesX 1 [0, 1] fgO (run (XE6 q) 80 ecH (g8 q c bl).tm (g8 q c bl).hp []) .normal (stF c bl (laE bl) d) [] d := by unfold givesX; kernel_rfl
theorem fA : givesX 1 [0, 1] fgO (run (XE6 q) 80 oA (stF c bl la d).tm (stF c bl la d).hp [true]) .normal (stF c bl la d') [decide ((0 : Int) ≤ la) = true] d' := by unfold givesX; kernel_rfl
theorem fB : givesX 1 [0, 1, 2] fgD (run (XE6 q) 80 oB (stF c bl la d).tm (stF c bl la d).hp []) .normal (stFD q c bl la d') [P9 emp 0 glL] d' := by unfold givesX; kernel_rfl
theorem fC : givesX 1 [0, 1, 2] fgD (run (XE6 q) 80 oC (stFD q c bl la d).tm (stFD q c bl la d).hp [false]) .normal (stFD q c bl la d') [decide ((0 : Int) > IntKind.i64.wrap (la - 20)) = false] d' := by unfold givesX; kernel_rfl
theorem fD : givesX 1 [0, 1, 2] fgI (run (XE6 q) 80 oD (stFD q c bl la d).tm (stFD q c bl la d).hp []) .normal (stFI q c bl la d') [] d' := by unfold givesX; kernel_rfl
theorem fI : givesX 1 [0, 1, 2] fgI (run (XE6 q) 80 oI (stFI q c bl la d).tm (stFI q c bl la d).hp []) (.exit id2) (stFI q c bl la d') [] d' := by unfold givesX; kernel_rfl
theorem fT : givesX 1 [0, 1, 4, 5] fgO (run (XE6 q) 80 oT (stFI q c bl la d).tm (stFI q c bl la d).hp []) .normal (stFT q (.num .i64 0) c bl la d') [P14 iv emp (cE c) 0 glL] d' := by unfold givesX; kernel_rfl
theorem fH : givesX 1 [0, 1, 2, 3] fgO (run (XE6 q) 80 oH (stFT q (.num .i64 0) c bl la d).tm (stFT q (.num .i64 0) c bl la d).hp []) .normal (stFT q (.num .i64 1) c bl la d') [] d' := by unfold givesX; kernel_rfl
end
noncomputable def fE (q : Sh) (c bl la : Int) (n : Nat) (L : List Value) (t : ByteArray) (p : List Int × ByteArray) (m z : Int) (d : Nat → Value) : Fin := finOf (run (XE6 q) 80 ecR (stO c bl la n L t p m z d).tm (stO c bl la n L t p m z d).hp [])
theorem gr (q : Sh) (c bl la : Int) (n : Nat) (L : List Value) (t : ByteArray) (p : List Int × ByteArray) (m z : Int) (d : Nat → Value) : goodR (run (XE6 q) 80 ecR (stO c bl la n L t p m z d).tm (stO c bl la n L t p m z d).hp []) .ret [] := by unfold goodR; kernel_rfl
theorem gr_e (q : Sh) (c bl la : Int) (n : Nat) (L : List Value) (t : ByteArray) (p : List Int × ByteArray) (m z : Int) (d : Nat → Value) : resultsS Tryd.prog (fnN 4) (fE q c bl la n L t p m z d).tm (fE q c bl la n L t p m z d).hp = some (.bol true) := by kernel_rfl
theorem fn4_at : Tryd.prog.funcs[4]? = some (fnN 4) := by kernel_rfl
theorem fn4_body : (fnN 4).body = some (code 4) := by kernel_rfl
theorem fn4_tm (c bl : Int) : (argE c bl ++ List.replicate ((fnN 4).ntmps - (argE c bl).length) (.val undef) : List SV) = argE c bl ++ List.replicate 63 (.val undef) := by kernel_rfl
/-! ### HashEdges: the law and the join -/
noncomputable def rowV (c : Nat) : Nat → List Value
  | 0 => []
  | n + 1 => rowV c n ++ dgV shL (repT c n)
theorem dgV_len (t : ByteArray) : (dgV shL t).length = 32 := by simp [dgV]
theorem rowV_len (c : Nat) : ∀ n, (rowV c n).length = n * 32
  | 0 => rfl
  | n + 1 => by rw [rowV, List.length_append, rowV_len c n, dgV_len]; omega
theorem rowV_at (c : Nat) : ∀ (n i j : Nat), i < n → j < 32 → (rowV c n)[i * 32 + j]? = some (.int .u8 (dB (shL.S (repT c i)) j))
  | 0, i, j, hi, _ => by omega
  | n + 1, i, j, hi, hj => by
    rw [rowV]
    by_cases h : i < n
    · rw [List.getElem?_append_left (by rw [rowV_len]; omega)]
      exact rowV_at c n i j h hj
    · have e : i = n := by omega
      subst e
      rw [List.getElem?_append_right (by rw [rowV_len]; omega), rowV_len, show i * 32 + j - i * 32 = j by omega]
      unfold dgV
      rw [List.getElem?_map, List.getElem?_range hj]; rfl
theorem cellV (c n i j : Nat) (hi : i < n) (hj : j < 32) : cellAt (rowV c n) (i * 32 + j) = .int .u8 (dB (shL.S (repT c i)) j) := by
  unfold cellAt
  rw [List.getD_eq_getElem?_getD, rowV_at c n i j hi hj]; rfl
theorem fits_rep : ∀ (k : Nat) (L : List Value) (o : Nat), (∀ j, j < k → ∃ z : Int, cellAt L (o + j) = .int .u8 z) → fitsFrom L o (List.replicate k (.int .u8))
  | 0, L, o, h => trivial
  | k + 1, L, o, h => by
    refine ⟨?_, fits_rep k L (o + 1) fun j hj => ?_⟩
    · obtain ⟨z, hz⟩ := h 0 (by omega)
      rw [Nat.add_zero] at hz
      show cellAt L o = .int .u8 (intOf (cellAt L o))
      rw [hz]; rfl
    · obtain ⟨z, hz⟩ := h (j + 1) (by omega)
      exact ⟨z, by rw [show o + 1 + j = o + (j + 1) by omega]; exact hz⟩
theorem load_row (c n i : Nat) (hi : i < n) : loadP (rowV c n) (i * 32) ck32 := by
  refine ⟨?_, fits_rep 32 _ _ fun j hj => ⟨_, cellV c n i j hi hj⟩⟩
  show i * 32 + 32 ≤ _
  rw [rowV_len]; omega
theorem eqL_row (c n i : Nat) (hi : i < n) (t : ByteArray) : eqL shL (rowV c n) (i * 32) t = eqDg (shL.S (repT c i)) (shL.S t) := by
  unfold eqL eqDg
  have go : ∀ l : List Nat, (∀ j ∈ l, j < 32) → l.foldr (fun j r => (intOf (cellAt (rowV c n) (i * 32 + j)) == dB (shL.S t) j) && r) true = l.foldr (fun j r => (dB (shL.S (repT c i)) j == dB (shL.S t) j) && r) true := by
    intro l
    induction l with
    | nil => intro _; rfl
    | cons a l ih =>
      intro h
      simp only [List.foldr_cons]
      rw [ih fun j hj => h j (List.mem_cons_of_mem _ hj), cellV c n i a hi (h a (List.mem_cons_self ..))]
      rfl
  exact go _ fun j hj => by simpa using hj
theorem rep_size (c n : Nat) : (repT c n).size = n := by unfold repT; rw [ba_size, List.length_replicate]
theorem rep_emp (c : Nat) : repT c 0 = emp := rfl
theorem rep_succ (c : Int) (n : Nat) : repT c.toNat n ++ cE c = repT c.toNat (n + 1) := by
  apply ByteArray.ext
  rw [ByteArray.data_append]
  show (List.replicate n (chB c.toNat)).toArray ++ [UInt8.ofNat c.toNat].toArray = (List.replicate (n + 1) (chB c.toNat)).toArray
  rw [List.replicate_succ']
  exact List.append_toArray _ _
theorem cE_size (c : Int) : (cE c).size = 1 := rfl
section
variable (c bl la : Int) (n : Nat)
noncomputable def sO (d : Nat → Value) : St := stO c bl la n (rowV c.toNat n) (repT c.toNat n) (hs shL (repT c.toNat n)) (n : Int) (n : Int) d
noncomputable def sD (d : Nat → Value) : St := stD shL c bl la n (rowV c.toNat n) (repT c.toNat n) (hs shL (repT c.toNat n)) (n : Int) (n : Int) d
noncomputable def sI0 (d : Nat → Value) : St := stI0 shL c bl la n (rowV c.toNat n) (repT c.toNat n) (hs shL (repT c.toNat n)) (n : Int) (n : Int) d
noncomputable def sI (i : Nat) (d : Nat → Value) : St := stI shL c bl la n (rowV c.toNat n) (repT c.toNat n) (hs shL (repT c.toNat n)) (n : Int) (n : Int) (i : Int) d
theorem sI0_weak (d : Nat → Value) : Weak 1 (sI0 c bl la n d) (sI c bl la n 0 d) := by
  intro ds B w₀ η μ x w' hn hs
  refine Weak.tm (n0 := 1) (s := sI0 c bl la n d) (t := sI c bl la n 0 d) rfl rfl (fun i u v hu hv => ?_) hn hs
  by_cases h : i = 11
  · subst h
    simp [sI0, stI0, tmE] at hu
    simp [sI, stI, tmE] at hv
    subst hu; subst hv
    exact fun η v hv => by simp only [R] at hv ⊢; exact hv
  · have : u = v := by
      have e : (sI c bl la n 0 d).tm = (sI0 c bl la n d).tm.set 11 (.val (.int .i64 ((0 : Nat) : Int))) := by
        unfold sI sI0 stI stI0 tmE; rfl
      rw [e, List.getElem?_set_ne (fun h' => h h'.symm), hu] at hv
      exact Option.some.inj hv
    subst this
    exact fun η v hv => hv
theorem loopI (hc : 0 ≤ c ∧ c < 256) (hn : n < 263) (d : Nat → Value) : WpE Tryd.prog (.loop oI) 1 (sI c bl la n 0 d) (fun r => r.e = .exit id2 ∧ WeakF 1 r.st (fun d => sI c bl la n n d)) := by
  have go := WpE.loopF (P := Tryd.prog) (c := oI) (n0 := 1) (γ := {i : Nat // i ≤ n} × (Nat → Value)) (S := fun g => sI c bl la n g.1.1 g.2) (m := fun g => n - g.1.1) (F := fun r => r.e = .exit id2 ∧ WeakF 1 r.st (fun d => sI c bl la n n d)) (fun g => ?_) (⟨0, Nat.zero_le _⟩, d)
  · exact go
  obtain ⟨⟨i, hi⟩, d⟩ := g
  show WpE Tryd.prog oI 1 (sI c bl la n i d) _
  by_cases h : i < n
  · have eo : ofE (i : Int) = i * 32 := by unfold ofE; omega
    have ei : IntKind.i64.wrap ((i : Int) + 1) = ((i + 1 : Nat) : Int) := by rw [wi64]; omega
    have g := fun d' => eI_n shL c bl la n (rowV c.toNat n) (repT c.toNat n) (hs shL (repT c.toNat n)) (n : Int) (n : Int) (i : Int) d d'
    rw [eo, ei] at g
    refine (wpE_X (X := XE6 shL) rfl XE6_ct (XE6_lp _) (T := fun d' => sI c bl la n (i + 1) d') g ⟨decide_eq_true (by omega), ⟨by omega, by omega⟩, load_row _ _ _ h, ?_, trivial⟩).mono fun r hr => .inl ⟨hr.1, _, hr.2, fun d' => ⟨(⟨i + 1, h⟩, d'), ?_, rfl⟩⟩
    · rw [eqL_row _ _ _ h]
      exact dig_ne (by omega) (by omega) (by omega) (by omega)
    · show n - (i + 1) < n - i
      omega
  · have e : i = n := by omega
    subst e
    exact (wpE_X (X := XE6 shL) rfl XE6_ct (XE6_lp _) (T := fun d' => sI c bl la i i d') (fun d' => eI_x shL c bl la i (rowV c.toNat i) (repT c.toNat i) (hs shL (repT c.toNat i)) (i : Int) (i : Int) (i : Int) d d') ⟨decide_eq_false (by omega), trivial⟩).mono fun r hr => .inr ⟨by rw [hr.1]; exact (fun e => by cases e), hr⟩
theorem sO_next (hc : 0 ≤ c ∧ c < 256) (hn : n < 263) (d : Nat → Value) : stO c bl la (n + 1) (rowV c.toNat n ++ dgV shL (repT c.toNat n)) (tcE (repT c.toNat n) c) (shL.F (oct (hs shL (repT c.toNat n))) ((hs shL (repT c.toNat n)).2 ++ cE c)) (w64 (n : Int) (cE c)) ((n + 1 : Nat) : Int) d = sO c bl la (n + 1) d := by
  have e1 : tcE (repT c.toNat n) c = repT c.toNat (n + 1) := rep_succ c n
  have e2 : shL.F (oct (hs shL (repT c.toNat n))) ((hs shL (repT c.toNat n)).2 ++ cE c) = hs shL (repT c.toNat (n + 1)) := by rw [hs_write, rep_succ]
  have e3 : w64 (n : Int) (cE c) = ((n + 1 : Nat) : Int) := by rw [w64_eq _ _ (by rw [cE_size]; omega), cE_size]
  rw [e1, e2, e3]; rfl
theorem roundC (hc : 0 ≤ c ∧ c < 256) (hn : n < 263) (hla : 70 ≤ la ∧ la ≤ 262) (d : Nat → Value) : WpE Tryd.prog oC 1 (sD c bl la n d) (fun r => r.e = .normal ∧ WeakF 1 r.st (fun d => sD c bl la n d)) := by
  have ew : IntKind.i64.wrap (la - 20) = la - 20 := by rw [wi64]; omega
  by_cases h : (n : Int) > la - 20
  · refine wpE_X (X := XE6 shL) rfl XE6_ct (XE6_lp _) (T := fun d' => sD c bl la n d') (fun d' => eC_t shL c bl la n (rowV c.toNat n) (repT c.toNat n) (hs shL (repT c.toNat n)) (n : Int) (n : Int) d d') ⟨by rw [ew]; exact decide_eq_true h, ⟨hs_rest _, rfl, rfl⟩, ?_, trivial⟩
    have := hs_dig (repT c.toNat n) (by rw [rep_size]; omega)
    rw [rep_size] at this
    rw [this, eqDg_self]; rfl
  · exact wpE_X (X := XE6 shL) rfl XE6_ct (XE6_lp _) (T := fun d' => sD c bl la n d') (fun d' => eC_f shL c bl la n (rowV c.toNat n) (repT c.toNat n) (hs shL (repT c.toNat n)) (n : Int) (n : Int) d d') ⟨by rw [ew]; exact decide_eq_false h, trivial⟩
theorem norm_blk {id : Nat} {r : Fin} {T : (Nat → Value) → St} (h : r.e = .normal ∧ WeakF 1 r.st T) : (r.unblock id).e = .normal ∧ WeakF 1 (r.unblock id).st T := by
  unfold Fin.unblock
  rw [h.1]
  exact ⟨h.1, h.2⟩
theorem roundE (hc : 0 ≤ c ∧ c < 256) (hn : (n : Int) ≤ la) (hla : 70 ≤ la ∧ la ≤ 262) (d : Nat → Value) : WpE Tryd.prog ecL 1 (sO c bl la n d) (fun r => r.e = .normal ∧ WeakF 1 r.st (fun d => sO c bl la (n + 1) d)) := by
  have hn' : n < 263 := by omega
  have ez : IntKind.i64.wrap ((n : Int) + 1) = ((n + 1 : Nat) : Int) := by rw [wi64]; omega
  have hr0 := hs_rest (repT c.toNat n)
  rw [ecL_eq]
  refine WpE.seq (wpE_X (X := XE6 shL) rfl XE6_ct (XE6_lp _) (T := fun d' => sO c bl la n d') (fun d' => eA_t shL c bl la n (rowV c.toNat n) (repT c.toNat n) (hs shL (repT c.toNat n)) (n : Int) (n : Int) d d') ⟨decide_eq_true hn, trivial⟩) (fun r hr _ => wpE_weakF hr.2 fun d => ?_) (fun r hr hne => absurd hr.1 hne)
  refine WpE.seq (F := fun r => r.e = .normal ∧ WeakF 1 r.st (fun d' => stO c bl la (n + 1) (rowV c.toNat n ++ dgV shL (repT c.toNat n)) (tcE (repT c.toNat n) c) (shL.F (oct (hs shL (repT c.toNat n))) ((hs shL (repT c.toNat n)).2 ++ cE c)) (w64 (n : Int) (cE c)) (n : Int) d'))
    (WpE.block (F := fun r => r.e = .normal ∧ WeakF 1 r.st (fun d' => stO c bl la (n + 1) (rowV c.toNat n ++ dgV shL (repT c.toNat n)) (tcE (repT c.toNat n) c) (shL.F (oct (hs shL (repT c.toNat n))) ((hs shL (repT c.toNat n)).2 ++ cE c)) (w64 (n : Int) (cE c)) (n : Int) d')) ?_ fun r hr => norm_blk hr) (fun r hr _ => wpE_weakF hr.2 fun d => ?_) (fun r hr hne => absurd hr.1 hne)
  · rw [o1_eq]
    refine WpE.seq (wpE_X (X := XE6 shL) rfl XE6_ct (XE6_lp _) (T := fun d' => sD c bl la n d') (fun d' => eB shL c bl la n (rowV c.toNat n) (repT c.toNat n) (hs shL (repT c.toNat n)) (n : Int) (n : Int) d d') ⟨⟨by rw [rep_size]; omega, rfl, rfl⟩, trivial⟩) (fun r hr _ => wpE_weakF hr.2 fun d => ?_) (fun r hr hne => absurd hr.1 hne)
    refine WpE.seq (roundC c bl la n hc hn' hla d) (fun r hr _ => wpE_weakF hr.2 fun d => ?_) (fun r hr hne => absurd hr.1 hne)
    refine WpE.seq (F := fun r => r.e = .normal ∧ WeakF 1 r.st (fun d => sI c bl la n n d)) (WpE.seq (wpE_X (X := XE6 shL) rfl XE6_ct (XE6_lp _) (T := fun d' => sI0 c bl la n d') (fun d' => eD shL c bl la n (rowV c.toNat n) (repT c.toNat n) (hs shL (repT c.toNat n)) (n : Int) (n : Int) d d') trivial) (fun r hr _ => wpE_weakF hr.2 fun d => ?_) (fun r hr hne => absurd hr.1 hne)) (fun r hr _ => wpE_weakF hr.2 fun d => ?_) (fun r hr hne => absurd hr.1 hne)
    · exact WpE.weak (sI0_weak c bl la n d) (WpE.block (loopI c bl la n hc hn' d) fun f hf => unblk hf)
    · exact wpE_X (X := XE6 shL) rfl XE6_ct (XE6_lp _) (fun d' => eT shL c bl la n (rowV c.toNat n) (repT c.toNat n) (hs shL (repT c.toNat n)) (n : Int) (n : Int) (n : Int) d d') ⟨⟨rfl, by omega, by omega⟩, ⟨by rw [cE_size]; omega, rfl, rfl⟩, by rw [rep_size, cE_size]; omega, trivial⟩
  · have g := fun d' => eH shL c bl la (n + 1) (rowV c.toNat n ++ dgV shL (repT c.toNat n)) (tcE (repT c.toNat n) c) (shL.F (oct (hs shL (repT c.toNat n))) ((hs shL (repT c.toNat n)).2 ++ cE c)) (w64 (n : Int) (cE c)) (n : Int) d d'
    rw [ez] at g
    have g' : ∀ d', _ := fun d' => by
      have := g d'
      rw [sO_next c bl la n hc hn' d'] at this
      exact this
    exact wpE_X (X := XE6 shL) rfl XE6_ct (XE6_lp _) (T := fun d' => sO c bl la (n + 1) d') g' trivial
end
/-! ### HashEdges, whole -/
section
variable (c bl la : Int)
theorem rep1 : repT c.toNat 1 = cE c := rfl
theorem dgC_at (t : ByteArray) (i : Nat) (s : SV) (h : (dgC shL t)[i]? = some s) : ∃ x, (dgV shL t)[i]? = some x ∧ s = .val x := by
  unfold dgC at h
  unfold dgV
  rw [List.getElem?_map] at h ⊢
  obtain ⟨j, hj, rfl⟩ := Option.map_eq_some_iff.1 h
  rw [hj]
  exact ⟨_, rfl, rfl⟩
theorem stFT_weak (d : Nat → Value) : Weak 1 (stFT shL (.num .i64 1) c bl la d) (sO c bl la 1 d) := by
  intro ds B w₀ η μ a w hn hs0
  have e1 : shL.F iv (emp ++ cE c) = hs shL (repT c.toNat 1) := by rw [emp_app]; rfl
  have e2 : w64 (Int.ofNat 0) (cE c) = ((1 : Nat) : Int) := by
    have := w64_eq 0 (cE c) (by rw [cE_size]; omega)
    rw [cE_size] at this
    exact this
  have hh : HR B (η ++ μ) (sO c bl la 1 d).hp w := by
    have h0 := hs0.hr
    have h1 := HR.own_says h0 (k := 2) (e := 24) (sz := 32) (n := 1) (kc := 3) (l := dgC shL emp) rfl (rowV c.toNat 1) (by rw [rowV_len]) (fun i s hi => by
      obtain ⟨x, hx, rfl⟩ := dgC_at emp i s hi
      exact ⟨x, hx, fun v hv => by simpa only [R] using hv⟩)
    have h2 : HR B (η ++ μ) [.glob 0 glL, .cells true (cW8 (shL.F iv (emp ++ cE c)) (w64 (Int.ofNat 0) (cE c))), .ows 24 32 1 3 (rowV c.toNat 1), .dead] w := h1
    rw [e1, e2] at h2
    exact h2
  refine Weak.tm (n0 := 1) (s := ⟨(stFT shL (.num .i64 1) c bl la d).tm, (sO c bl la 1 d).hp⟩) (t := sO c bl la 1 d) rfl rfl (fun i a b ha hb => ?_) hn ⟨hs0.tm, hs0.df, hh, hs0.below, hs0.hB⟩
  match i, ha, hb with
  | 0, ha, hb => simp [stFT, tmF] at ha; simp [sO, stO, tmE] at hb; subst ha; subst hb; exact fun η v hv => hv
  | 1, ha, hb => simp [stFT, tmF] at ha; simp [sO, stO, tmE] at hb; subst ha; subst hb; exact fun η v hv => hv
  | 2, ha, hb => simp [stFT, tmF] at ha; simp [sO, stO, tmE] at hb; subst ha; subst hb; exact fun η v hv => hv
  | 3, ha, hb => simp [stFT, tmF] at ha; simp [sO, stO, tmE] at hb; subst ha; subst hb; exact fun η v hv => hv
  | 4, ha, hb => simp [stFT, tmF] at ha; simp [sO, stO, tmE] at hb; subst ha; subst hb; exact fun η v hv => hv
  | 5, ha, hb =>
    simp [stFT, tmF] at ha; simp [sO, stO, tmE] at hb; subst ha; subst hb
    exact fun η v hv => by simpa only [R, Nat.add_zero] using hv
  | 6, ha, hb => simp [stFT, tmF] at ha; simp [sO, stO, tmE] at hb; subst ha; subst hb; exact fun η v hv => hv
  | 7, ha, hb =>
    simp [stFT, tmF] at ha; simp [sO, stO, tmE] at hb; subst ha; subst hb
    exact fun η v hv => by simp only [R] at hv ⊢; rw [hv]; rfl
  | 8, ha, hb => simp [stFT, tmF] at ha; simp [sO, stO, tmE] at hb; subst ha; subst hb; exact fun η v hv => hv
  | 9, ha, hb =>
    simp [stFT, tmF] at ha; simp [sO, stO, tmE] at hb; subst ha; subst hb
    exact fun η v hv => by simp only [R] at hv ⊢; exact hv
  | 10, ha, hb => simp [stFT, tmF] at ha; simp [sO, stO, tmE] at hb; subst ha; subst hb; exact fun η v hv => hv
  | 11, ha, hb => simp [stFT, tmF] at ha; simp [sO, stO, tmE] at hb; subst ha; subst hb; exact fun η v hv => hv
  | i + 12, ha, hb =>
    have e : (stFT shL (.num .i64 1) c bl la d).tm[i + 12]? = (sO c bl la 1 d).tm[i + 12]? := by
      simp [stFT, tmF, sO, stO, tmE]
    have ha' : (stFT shL (.num .i64 1) c bl la d).tm[i + 12]? = some a := ha
    rw [e, hb] at ha'
    have := Option.some.inj ha'
    subst this
    exact fun η v hv => hv
theorem roundF (hla : 70 ≤ la ∧ la ≤ 262) (d : Nat → Value) : WpE Tryd.prog ecL 1 (stF c bl la d) (fun r => r.e = .normal ∧ WeakF 1 r.st (fun d => sO c bl la 1 d)) := by
  have ew : IntKind.i64.wrap (la - 20) = la - 20 := by rw [wi64]; omega
  have e0 : emp.size = 0 := rfl
  rw [ecL_eq]
  refine WpE.seq (wpE_X (X := XE6 shL) rfl XE6_ct (XE6_lp _) (T := fun d' => stF c bl la d') (fun d' => fA shL c bl la d d') ⟨decide_eq_true (by omega), trivial⟩) (fun r hr _ => wpE_weakF hr.2 fun d => ?_) (fun r hr hne => absurd hr.1 hne)
  refine WpE.seq (F := fun r => r.e = .normal ∧ WeakF 1 r.st (fun d' => stFT shL (.num .i64 0) c bl la d')) (WpE.block (F := fun r => r.e = .normal ∧ WeakF 1 r.st (fun d' => stFT shL (.num .i64 0) c bl la d')) ?_ fun r hr => norm_blk hr) (fun r hr _ => wpE_weakF hr.2 fun d => ?_) (fun r hr hne => absurd hr.1 hne)
  · rw [o1_eq]
    refine WpE.seq (wpE_X (X := XE6 shL) rfl XE6_ct (XE6_lp _) (T := fun d' => stFD shL c bl la d') (fun d' => fB shL c bl la d d') ⟨⟨by omega, rfl, rfl⟩, trivial⟩) (fun r hr _ => wpE_weakF hr.2 fun d => ?_) (fun r hr hne => absurd hr.1 hne)
    refine WpE.seq (wpE_X (X := XE6 shL) rfl XE6_ct (XE6_lp _) (T := fun d' => stFD shL c bl la d') (fun d' => fC shL c bl la d d') ⟨by rw [ew]; exact decide_eq_false (by omega), trivial⟩) (fun r hr _ => wpE_weakF hr.2 fun d => ?_) (fun r hr hne => absurd hr.1 hne)
    refine WpE.seq (F := fun r => r.e = .normal ∧ WeakF 1 r.st (fun d => stFI shL c bl la d)) (WpE.seq (wpE_X (X := XE6 shL) rfl XE6_ct (XE6_lp _) (T := fun d' => stFI shL c bl la d') (fun d' => fD shL c bl la d d') trivial) (fun r hr _ => wpE_weakF hr.2 fun d => ?_) (fun r hr hne => absurd hr.1 hne)) (fun r hr _ => wpE_weakF hr.2 fun d => ?_) (fun r hr hne => absurd hr.1 hne)
    · refine WpE.block (F := fun r => r.e = .exit id2 ∧ WeakF 1 r.st (fun d => stFI shL c bl la d)) ?_ fun f hf => unblk hf
      have go := WpE.loopF (P := Tryd.prog) (c := oI) (n0 := 1) (γ := Nat → Value) (S := fun g => stFI shL c bl la g) (m := fun _ => 0) (F := fun r => r.e = .exit id2 ∧ WeakF 1 r.st (fun d => stFI shL c bl la d)) (fun g => ?_) d
      · exact go
      · exact (wpE_X (X := XE6 shL) rfl XE6_ct (XE6_lp _) (T := fun d' => stFI shL c bl la d') (fun d' => fI shL c bl la g d') trivial).mono fun r hr => .inr ⟨by rw [hr.1]; exact (fun e => by cases e), hr⟩
    · exact wpE_X (X := XE6 shL) rfl XE6_ct (XE6_lp _) (T := fun d' => stFT shL (.num .i64 0) c bl la d') (fun d' => fT shL c bl la d d') ⟨⟨by rw [e0, cE_size]; omega, rfl, rfl⟩, trivial⟩
  · exact (wpE_X (X := XE6 shL) rfl XE6_ct (XE6_lp _) (T := fun d' => stFT shL (.num .i64 1) c bl la d') (fun d' => fH shL c bl la d d') trivial).mono fun r hr => ⟨hr.1, WeakFto hr.2 fun d => stFT_weak c bl la d⟩
noncomputable def sG6 : Option {k : Nat // k ≤ 263} → (Nat → Value) → St
  | none, d => stF c bl la d
  | some k, d => sO c bl la k.1 d
def mG6 : Option {k : Nat // k ≤ 263} → Nat
  | none => 264
  | some k => 263 - k.1
theorem loopE (hc : 0 ≤ c ∧ c < 256) (hla : 70 ≤ la ∧ la ≤ 262) (d : Nat → Value) : WpE Tryd.prog (.loop ecL) 1 (stF c bl la d) (fun r => r.e = .exit id0 ∧ ∃ k, WeakF 1 r.st (fun d => sO c bl la k d)) := by
  have go := WpE.loopF (P := Tryd.prog) (c := ecL) (n0 := 1) (γ := Option {k : Nat // k ≤ 263} × (Nat → Value)) (S := fun g => sG6 c bl la g.1 g.2) (m := fun g => mG6 g.1) (F := fun r => r.e = .exit id0 ∧ ∃ k, WeakF 1 r.st (fun d => sO c bl la k d)) (fun g => ?_) (none, d)
  · exact go
  obtain ⟨g, d⟩ := g
  cases g with
  | none =>
    show WpE Tryd.prog ecL 1 (stF c bl la d) _
    refine (roundF c bl la hla d).mono fun r hr => .inl ⟨hr.1, _, hr.2, fun d' => ⟨(some ⟨1, by omega⟩, d'), ?_, rfl⟩⟩
    show 263 - 1 < 264
    omega
  | some k =>
    obtain ⟨k, hk⟩ := k
    show WpE Tryd.prog ecL 1 (sO c bl la k d) _
    by_cases h : (k : Int) ≤ la
    · refine (roundE c bl la k hc h hla d).mono fun r hr => .inl ⟨hr.1, _, hr.2, fun d' => ⟨(some ⟨k + 1, by omega⟩, d'), ?_, rfl⟩⟩
      show 263 - (k + 1) < 263 - k
      omega
    · have hA : WpE Tryd.prog oA 1 (sO c bl la k d) (fun r => r.e = .exit id0 ∧ WeakF 1 r.st (fun d => sO c bl la k d)) := wpE_X (X := XE6 shL) rfl XE6_ct (XE6_lp _) (T := fun d' => sO c bl la k d') (fun d' => eA_x shL c bl la k (rowV c.toNat k) (repT c.toNat k) (hs shL (repT c.toNat k)) (k : Int) (k : Int) d d') ⟨decide_eq_false h, trivial⟩
      rw [ecL_eq]
      exact WpE.seq hA (fun r hr hn => by rw [hr.1] at hn; cases hn) (fun r hr _ => .inr ⟨by rw [hr.1]; exact (fun e => by cases e), hr.1, k, hr.2⟩)
end
theorem laE_ok (bl : Int) (h : 0 ≤ bl ∧ bl < 256) : 70 ≤ laE bl ∧ laE bl ≤ 262 := by
  unfold laE
  rw [Int.tmod_eq_emod_of_nonneg h.1, wi64, wi64, wi64]
  omega
theorem wpE_to4 {c : Code} {s t : St} {L : List Prop} (h : goodR (run (XE6 shL) 80 c s.tm s.hp []) .normal L) (hL : AllP L) (ht : t = (finOf (run (XE6 shL) 80 c s.tm s.hp [])).st) : WpE Tryd.prog c 1 s (fun r => r.e = .normal ∧ r.st = t) :=
  (wpE_run (X := XE6 shL) rfl XE6_ct (XE6_lp _) h hL).mono fun r hr => ⟨hr.1, by rw [hr.2, ht]⟩
theorem seq_to4 {x y : Code} {s t : St} {G : Fin → Prop} (h : WpE Tryd.prog x 1 s (fun r => r.e = .normal ∧ r.st = t)) (k : WpE Tryd.prog y 1 t G) : WpE Tryd.prog (.seq x y) 1 s G :=
  WpE.seq h (fun r hr _ => by rw [hr.2]; exact k) (fun r hr hne => absurd hr.1 hne)
theorem body4 (c bl : Int) (hc : 0 ≤ c ∧ c < 256) (hb : 0 ≤ bl ∧ bl < 256) : WpE Tryd.prog (code 4) 1 (sE c bl) (fun f => f.e = .ret ∧ ∃ k d, f = fE shL c bl (laE bl) k (rowV c.toNat k) (repT c.toNat k) (hs shL (repT c.toNat k)) (k : Int) (k : Int) d) := by
  rw [code4]
  refine seq_to4 (t := g2 shL c bl) (wpE_to4 (s := sE c bl) (ga shL c bl) trivial rfl) ?_
  refine seq_to4 (t := g3 shL c bl) (wpE_to4 (s := g2 shL c bl) (gb shL c bl) ⟨⟨rfl, rfl⟩, trivial⟩ rfl) ?_
  refine seq_to4 (t := g4 shL c bl) (wpE_to4 (s := g3 shL c bl) (gc shL c bl) trivial rfl) ?_
  refine seq_to4 (t := g5 shL c bl) (wpE_to4 (s := g4 shL c bl) (gd shL c bl) trivial rfl) ?_
  refine seq_to4 (t := g6 shL c bl) (wpE_to4 (s := g5 shL c bl) (ge shL c bl) trivial rfl) ?_
  refine seq_to4 (t := g7 shL c bl) (wpE_to4 (s := g6 shL c bl) (gf shL c bl) trivial rfl) ?_
  refine seq_to4 (t := g8 shL c bl) (wpE_to4 (s := g7 shL c bl) (gg shL c bl) trivial rfl) ?_
  refine WpE.seq (F := fun f => f.e = .normal ∧ ∃ k, WeakF 1 f.st (fun d => sO c bl (laE bl) k d)) (WpE.seq (wpE_X (X := XE6 shL) rfl XE6_ct (XE6_lp _) (s := g8 shL c bl) (T := fun d => stF c bl (laE bl) d) (gh shL c bl) trivial) (fun r hr hn => ?_) (fun r hr hne => absurd hr.1 hne)) (fun r hr hn => ?_) (fun r hr hne => absurd hr.1 hne)
  · refine wpE_weakF hr.2 fun d => WpE.block (loopE c bl (laE bl) hc (laE_ok bl hb) d) fun f hf => ?_
    obtain ⟨h1, k, h2⟩ := hf
    have := unblk ⟨h1, h2⟩
    exact ⟨this.1, k, this.2⟩
  · obtain ⟨h1, k, h2⟩ := hr
    exact wpE_weakF h2 fun d => (wpE_run (X := XE6 shL) rfl XE6_ct (XE6_lp _) (s := sO c bl (laE bl) k d) (gr shL c bl (laE bl) k (rowV c.toNat k) (repT c.toNat k) (hs shL (repT c.toNat k)) (k : Int) (k : Int) d) trivial).mono fun f hf => ⟨hf.1, k, d, hf.2⟩
theorem call4 (c bl : Int) (hc : 0 ≤ c ∧ c < 256) (hb : 0 ≤ bl ∧ bl < 256) {η : Env} {W : World} {vs : List Value} (hr : HR W.heap.size η [globS] W) (hargs : Rs η (argE c bl) vs) :
    Calls Tryd.prog 4 vs.toArray W (fun e w' => ∃ v, e = .returned v ∧ v = .bool true ∧ Below W.heap.size W w') := by
  have hb0 := body4 c bl hc hb
  unfold sE at hb0
  rw [← fn4_tm] at hb0
  have hF : ∀ f : Fin, (f.e = .ret ∧ ∃ k d, f = fE shL c bl (laE bl) k (rowV c.toNat k) (repT c.toNat k) (hs shL (repT c.toNat k)) (k : Int) (k : Int) d) →
      (f.e = .normal ∨ f.e = .ret) ∧ ∃ s, resultsS Tryd.prog (fnN 4) f.tm f.hp = some s ∧ s = .bol true := by
    rintro f ⟨hf, k, d, rfl⟩
    exact ⟨.inr hf, _, gr_e shL c bl (laE bl) k (rowV c.toNat k) (repT c.toNat k) (hs shL (repT c.toNat k)) (k : Int) (k : Int) d, rfl⟩
  refine (calls_of_wpE fn4_at fn4_body (args := argE c bl) (hp := [globS]) (G := fun s _ => s = .bol true) hb0 hF hr (Nat.le_refl _) hargs).mono fun e w' hq => ?_
  obtain ⟨v, μ, s', hp', e1, e2, e3, e4, rfl⟩ := hq
  simp only [R] at e2
  exact ⟨v, e1, e2, e4⟩
end Go.Proofs.YtgefcokanfbpbaaDoor
