/-
  Walks of functions, reckoned through, and what they give (part K23x). No condition beyond what each says. By an AI agent.
-/
import Derived.Test.YtacgamdbmllaoaaDoorK23d
import Derived.Test.YtacgamdbmllaoaaDoorR01
namespace Go.Proofs.YtacgamdbmllaoaaDoor
open Go.Ex
open Go.RowKit (Below)
set_option linter.unusedVariables false
set_option maxRecDepth 1000000
/-! ### EnterDeaf: its laws -/
theorem shW_len (n m a b : Int) : (shW n m a b).length = 8 := by unfold shW byL'; simp
theorem lgW_len (n m a b : Int) : (lgW n m a b).length = 20 := by unfold lgW byL'; simp
theorem baS3 (l : List UInt8) : (ba l).size = l.length := by show l.toArray.size = _; simp
theorem toList_ne {a b : ByteArray} (h : a ≠ b) : (a.toList == b.toList) = false := by
  rw [beq_eq_false_iff_ne]
  intro e
  rw [ByteArray.toList_eq, ByteArray.toList_eq] at e
  exact h (ByteArray.ext (Array.toList_inj.1 e))
theorem cu_ne (s : ByteArray) (k : Int) (h : k.toNat < s.size) : ((cu s k).toList == s.toList) = false := by
  refine toList_ne fun e => ?_
  have := congrArg ByteArray.size e
  unfold cu at this
  rw [ByteArray.size_extract] at this
  have e0 : Int.toNat 0 = 0 := rfl
  rw [e0] at this
  omega
theorem xor1_ne : ∀ n : Fin 256, ¬ ((BitVec.ofInt 8 ((n : Nat) : Int) ^^^ BitVec.ofInt 8 1).toNat % 256 = (n : Nat)) := by decide +kernel
theorem fl_ne (s : ByteArray) (k : Int) (h : k.toNat < s.size) : ((fl s k).toList == s.toList) = false := by
  refine toList_ne fun e => ?_
  have hs : k.toNat < s.data.size := h
  have e1 := congrArg (fun b : ByteArray => b.data[k.toNat]?) e
  unfold fl setB at e1
  simp only [Array.getElem?_setIfInBounds, if_true, hs, Array.getElem?_eq_getElem hs, Option.some.injEq] at e1
  have hb : byteAt s k = ((s.data[k.toNat]).toNat : Int) := by
    unfold byteAt; rw [dif_pos h]; rfl
  have hlt : (s.data[k.toNat]).toNat < 256 := (s.data[k.toNat]).toNat_lt
  have e2 := congrArg UInt8.toNat e1
  rw [UInt8.toNat_ofNat'] at e2
  unfold flZ at e2
  rw [hb, wu8] at e2
  have := xor1_ne ⟨(s.data[k.toNat]).toNat, hlt⟩
  apply this
  have e3 : ∀ m : Nat, (((m : Int)) % 256).toNat % 2 ^ 8 = m % 256 := fun m => by omega
  have e4 := e3 ((BitVec.ofInt 8 (((s.data[k.toNat]).toNat : Nat) : Int) ^^^ BitVec.ofInt 8 1).toNat)
  exact e4.symm.trans e2
theorem LSx_ok {s : ByteArray} {k m : Int} (hm : (s.size : Int) = m) (h0 : 0 ≤ k) (h1 : k < m) (h2 : m ≤ 1000) {r : List Prop} (hr : AllP r) : AllP (LSx s k m ++ r) := by
  have hz : 0 ≤ flZ s k ∧ flZ s k < 256 := by unfold flZ; rw [wu8]; omega
  have hf : s.size = (fl s k).size := by unfold fl; rw [setB_size]
  exact ⟨by omega, by rw [hm]; exact bne_self_eq_false _, ⟨h0, by omega⟩, by omega, ⟨h0, by omega⟩, ⟨by omega, hz⟩, hf, ⟨by omega, h0, by omega⟩, hr⟩
theorem aK_rng (at_ : Int) (ha : 0 ≤ at_ ∧ at_ < 256) (m : Int) (hm : 0 < m) : 0 ≤ aK at_ m ∧ aK at_ m < m := by
  have e : IntKind.i64.wrap at_ = at_ := by rw [wi64]; omega
  unfold aK
  rw [e, Int.tmod_eq_emod_of_nonneg ha.1]
  exact ⟨Int.emod_nonneg _ (by omega), Int.emod_lt_of_pos _ hm⟩
theorem LT3_ok (k0 k1 n0 n1 at_ : Int) (ha : 0 ≤ at_ ∧ at_ < 256) : AllP (LT3 shW lgW k0 k1 n0 n1 at_) := by
  have ps : PSf shW 0 glL := ⟨rfl, rfl, rfl⟩
  have pl : PLf lgW 0 glL := ⟨rfl, rfl, rfl⟩
  have h8 := aK_rng at_ ha 8 (by omega)
  have h20 := aK_rng at_ ha 20 (by omega)
  have s8 : ((ba (shW k1 k0 n1 n0)).size : Int) = 8 := by rw [baS3, shW_len]; rfl
  have s20 : ((ba (lgW k0 k1 n0 n1)).size : Int) = 20 := by rw [baS3, lgW_len]; rfl
  have c8 := cu_ne (ba (shW k1 k0 n1 n0)) (aK at_ 8) (by omega)
  have f8 := fl_ne (ba (shW k1 k0 n1 n0)) (aK at_ 8) (by omega)
  have c20 := cu_ne (ba (lgW k0 k1 n0 n1)) (aK at_ 20) (by omega)
  have f20 := fl_ne (ba (lgW k0 k1 n0 n1)) (aK at_ 20) (by omega)
  have bb : ∀ s : ByteArray, (s.toList == s.toList) = true := fun s => beq_self_eq_true _
  unfold LT3
  rw [List.append_assoc, List.append_assoc]
  have tl := LSx_ok (r := [PLf lgW 0 glL, (!((cu (ba (lgW k0 k1 n0 n1)) (aK at_ 20)).toList == (ba (lgW k0 k1 n0 n1)).toList)) = true, PLf lgW 0 glL, (!((fl (ba (lgW k0 k1 n0 n1)) (aK at_ 20)).toList == (ba (lgW k0 k1 n0 n1)).toList)) = true, PLf lgW 0 glL]) s20 h20.1 h20.2 (by omega) ⟨pl, by rw [c20]; rfl, pl, by rw [f20]; rfl, pl, trivial⟩
  have hE : (!((n1 == n1 && (eqBA (shW k1 k0 n1 n0) (shW k1 k0 n1 n0) && true)) && true)) = false := by rw [eqBA_self, beq_self_eq_true]; rfl
  have hN : (!((ba (shW k1 k0 n1 n0)).toList == (ba (shW k1 k0 n1 n0)).toList)) = false := by rw [bb]; rfl
  refine LSx_ok s8 h8.1 h8.2 (by omega) ?_
  exact ⟨rfl, ps, c8, c8, rfl, ps, f8, f8, pl, ps, hE, rfl, ps, bb _, hN, pl, tl⟩
/-! the row -/
theorem fitsFrom_at (L : List Value) : ∀ (cs : List CK) (j k : Nat) (c : CK), fitsFrom L j cs → cs[k]? = some c → c.fits (cellAt L (j + k))
  | [], j, k, c, _, h => by simp at h
  | a :: r, j, 0, c, h, hk => by simp at hk; subst hk; exact h.1
  | a :: r, j, k + 1, c, h, hk => by
    have := fitsFrom_at L r (j + 1) k c h.2 (by simpa using hk)
    rwa [show j + 1 + k = j + (k + 1) by omega] at this
theorem loadP_at {L : List Value} {cs : List CK} {j : Nat} (k : Nat) (c : CK) (h : loadP L j cs) (hk : cs[k]? = some c) : loadP L (j + k) [c] := by
  have hlt := (List.getElem?_eq_some_iff.1 hk).1
  refine ⟨?_, fitsFrom_at L cs j k c h.2 hk, trivial⟩
  have := h.1
  simp only [List.length_cons, List.length_nil]
  omega
def RowOk (Lr : List Value) (n : Nat) : Prop := ∀ i : Nat, i < n → loadP Lr (i * 38) cksO
theorem wpE_runA {P : Program} {X : Cx} (hX : X.P = P) (hct : CtOk X) (hlp : LpOk X) {n n0 : Nat} {c : Code} {s : St} {ans : List Bool} {e : XE} {L : List Prop} (h : goodR (run X n c s.tm s.hp ans) e L) (hL : AllP L) :
    WpE P c n0 s (fun r => r.e = e ∧ r = finOf (run X n c s.tm s.hp ans)) := by
  subst hX
  unfold goodR at h
  generalize hq : run X n c s.tm s.hp ans = r at h
  unfold outG at h
  split at h
  · rename_i f c'
    simp only [Option.some.injEq, Prod.mk.injEq] at h
    obtain ⟨h1, h2, h3⟩ := h
    have hc := (Cnd.is_of c' [] [] [] (by rw [h2]; exact hL) h3 rfl).1
    exact WpE.of_wp (run_ok hct hlp n c _ _ _ _ _ _ hq hc) ⟨h1, rfl⟩
  · simp at h
section
variable (k0 k1 n0 n1 at_ : Int) (n : Nat) (Lr : List Value)
theorem round3 (hrow : RowOk Lr n) (i : Int) (h0 : 0 ≤ i) (h1 : i < n) (h2 : i < 10) (d : Nat → Value) :
    WpE Tryd.prog dL3 4 (stE true shW k0 k1 n0 n1 at_ n Lr i d) (fun r => r.e = .normal ∧ WeakF 4 r.st (fun d' => stE true shW k0 k1 n0 n1 at_ n Lr (IntKind.i64.wrap (i + 1)) d')) := by
  have rgi : rg i n := ⟨h0, h1⟩
  have ej : (j0 i).toNat = i.toNat * 38 := by
    unfold j0
    obtain ⟨m, rfl⟩ := Int.eq_ofNat_of_zero_le h0
    omega
  have hj : 0 ≤ j0 i := by unfold j0; omega
  have hJ : 0 ≤ jJ i := by unfold jJ; omega
  have eS : (jS i).toNat = (j0 i).toNat := by unfold jS; omega
  have eF : (jF i).toNat = (j0 i).toNat + 9 := by unfold jF jJ; omega
  have lp : loadP Lr (j0 i).toNat cksO := by rw [ej]; exact hrow i.toNat (by omega)
  have lS : loadP Lr (jS i).toNat [.int .i64] := by
    rw [eS]; have := loadP_at 0 (.int .i64) lp rfl; rwa [Nat.add_zero] at this
  have lF : loadP Lr (jF i).toNat [.int .i64] := by rw [eF]; exact loadP_at 9 (.int .i64) lp rfl
  have d1 : decide (i < (n : Int)) = true := by simpa using h1
  have d2 : decide (i < 10) = true := by simpa using h2
  cases hb : (cI Lr (j0 i).toNat == 1) with
  | false =>
    have hne : (cI Lr (j0 i).toNat != 1) = true := by rw [bne, hb]; rfl
    exact wpE_X (X := eX tkT shW lgW) rfl eX_ct (eX_lp _ _ _) (T := fun d' => stE true shW k0 k1 n0 n1 at_ n Lr (IntKind.i64.wrap (i + 1)) d') (fun d' => dr_1 tkT shW lgW k0 k1 n0 n1 at_ n Lr i d d')
      ⟨d1, d2, rgi, hj, lS, by rw [eS]; exact hb, rgi, lp, hne, rgi, lp, rgi, lp, rgi, lp, hb, trivial⟩
  | true =>
    have hne : (cI Lr (j0 i).toNat != 1) = false := by rw [bne, hb]; rfl
    cases hf : (cI Lr ((j0 i).toNat + 9) == 0) with
    | true =>
      exact wpE_X (X := eX tkT shW lgW) rfl eX_ct (eX_lp _ _ _) (T := fun d' => stE true shW k0 k1 n0 n1 at_ n Lr (IntKind.i64.wrap (i + 1)) d') (fun d' => dr_2 tkT shW lgW k0 k1 n0 n1 at_ n Lr i d d')
        ⟨d1, d2, rgi, hj, lS, by rw [eS]; exact hb, rgi, hj, hJ, lF, by rw [eF]; exact hf, trivial⟩
    | false =>
      exact wpE_X (X := eX tkT shW lgW) rfl eX_ct (eX_lp _ _ _) (T := fun d' => stE true shW k0 k1 n0 n1 at_ n Lr (IntKind.i64.wrap (i + 1)) d') (fun d' => dr_3 tkT shW lgW k0 k1 n0 n1 at_ n Lr i d d')
        ⟨d1, d2, rgi, hj, lS, by rw [eS]; exact hb, rgi, hj, hJ, lF, by rw [eF]; exact hf, rgi, lp, hne, hf, rgi, lp, rgi, lp, rgi, lp, hb, trivial⟩
theorem loop3 (hrow : RowOk Lr n) (d : Nat → Value) : WpE Tryd.prog (.loop dL3) 4 (stE true shW k0 k1 n0 n1 at_ n Lr 0 d) (fun r => r.e = .exit id3 ∧ WeakF 4 r.st (fun d => stF shW k0 k1 n0 n1 at_ Lr d)) := by
  have go := WpE.loopF (P := Tryd.prog) (c := dL3) (n0 := 4) (γ := {i : Int // 0 ≤ i ∧ i ≤ 10} × (Nat → Value)) (S := fun g => stE true shW k0 k1 n0 n1 at_ n Lr g.1.1 g.2) (m := fun g => (10 - g.1.1).toNat) (F := fun r => r.e = .exit id3 ∧ WeakF 4 r.st (fun d => stF shW k0 k1 n0 n1 at_ Lr d)) (fun g => ?_) (⟨0, by omega, by omega⟩, d)
  · exact go
  obtain ⟨⟨i, hi0, hi1⟩, d⟩ := g
  show WpE Tryd.prog dL3 4 (stE true shW k0 k1 n0 n1 at_ n Lr i d) _
  by_cases h1 : i < (n : Int)
  · by_cases h2 : i < 10
    · have ew : IntKind.i64.wrap (i + 1) = i + 1 := by rw [wi64]; omega
      have nx := round3 k0 k1 n0 n1 at_ n Lr hrow i hi0 h1 h2 d
      rw [ew] at nx
      refine nx.mono fun r hr => .inl ⟨hr.1, _, hr.2, fun d' => ⟨(⟨i + 1, by omega, by omega⟩, d'), ?_, rfl⟩⟩
      show (10 - (i + 1)).toNat < (10 - i).toNat
      omega
    · exact (wpE_X (X := eX tkT shW lgW) rfl eX_ct (eX_lp _ _ _) (T := fun d' => stF shW k0 k1 n0 n1 at_ Lr d') (fun d' => dx_2 tkT shW lgW k0 k1 n0 n1 at_ n Lr i d d') ⟨by simpa using h1, by simpa using h2, trivial⟩).mono fun r hr => .inr ⟨by rw [hr.1]; exact (fun e => by cases e), hr⟩
  · exact (wpE_X (X := eX tkT shW lgW) rfl eX_ct (eX_lp _ _ _) (T := fun d' => stF shW k0 k1 n0 n1 at_ Lr d') (fun d' => dx_1 tkT shW lgW k0 k1 n0 n1 at_ n Lr i d d') ⟨by simpa using h1, trivial⟩).mono fun r hr => .inr ⟨by rw [hr.1]; exact (fun e => by cases e), hr⟩
theorem loop3n (d : Nat → Value) : WpE Tryd.prog (.loop dL3) 4 (stEx false shW k0 k1 n0 n1 at_ n Lr (.num .i64 0) d) (fun r => r.e = .exit id3 ∧ WeakF 4 r.st (fun d => stF shW k0 k1 n0 n1 at_ Lr d)) := by
  have go := WpE.loopF (P := Tryd.prog) (c := dL3) (n0 := 4) (γ := Nat → Value) (S := fun g => stEx false shW k0 k1 n0 n1 at_ n Lr (.num .i64 0) g) (m := fun _ => 0) (F := fun r => r.e = .exit id3 ∧ WeakF 4 r.st (fun d => stF shW k0 k1 n0 n1 at_ Lr d)) (fun g => ?_) d
  · exact go
  · exact (wpE_X (X := eX tkT shW lgW) rfl eX_ct (eX_lp _ _ _) (T := fun d' => stF shW k0 k1 n0 n1 at_ Lr d') (fun d' => dx_n tkT shW lgW k0 k1 n0 n1 at_ n Lr g d') trivial).mono fun r hr => .inr ⟨by rw [hr.1]; exact (fun e => by cases e), hr⟩
theorem stEx_weak (q : Bool) (d : Nat → Value) : Weak 4 (stEx q shW k0 k1 n0 n1 at_ n Lr (.num .i64 0) d) (stE q shW k0 k1 n0 n1 at_ n Lr 0 d) := by
  intro ds B w₀ η μ x w' hn hs
  refine Weak.tm (n0 := 4) (s := stEx q shW k0 k1 n0 n1 at_ n Lr (.num .i64 0) d) (t := stE q shW k0 k1 n0 n1 at_ n Lr 0 d) rfl rfl (fun i a b ha hb => ?_) hn hs
  by_cases h : i = 12
  · subst h
    simp [stEx] at ha
    simp [stE, stEx] at hb
    subst ha; subst hb
    exact fun η v hv => by simp only [R] at hv ⊢; exact hv
  · have : a = b := by
      have e : (stE q shW k0 k1 n0 n1 at_ n Lr 0 d).tm = (stEx q shW k0 k1 n0 n1 at_ n Lr (.num .i64 0) d).tm.set 12 (.val (.int .i64 0)) := by
        unfold stE stEx; rfl
      rw [e, List.getElem?_set_ne (fun h' => h h'.symm), ha] at hb
      exact Option.some.inj hb
    subst this
    exact fun η v hv => hv
theorem wpE_to3 {X : Cx} (hX : X.P = Tryd.prog) (hct : CtOk X) (hlp : LpOk X) {c : Code} {s t : St} {L : List Prop} (h : goodR (run X 80 c s.tm s.hp []) .normal L) (hL : AllP L) (ht : t = (finOf (run X 80 c s.tm s.hp [])).st) : WpE Tryd.prog c 4 s (fun r => r.e = .normal ∧ r.st = t) :=
  (wpE_run hX hct hlp h hL).mono fun r hr => ⟨hr.1, by rw [hr.2, ht]⟩
theorem seq_to3 {x y : Code} {s t : St} {G : Fin → Prop} (h : WpE Tryd.prog x 4 s (fun r => r.e = .normal ∧ r.st = t)) (k : WpE Tryd.prog y 4 t G) : WpE Tryd.prog (.seq x y) 4 s G :=
  WpE.seq h (fun r hr _ => by rw [hr.2]; exact k) (fun r hr hne => absurd hr.1 hne)
theorem body3t (ha : 0 ≤ at_ ∧ at_ < 256) (hrow : RowOk Lr n) : WpE Tryd.prog (code 3) 4 (d3 true k0 k1 n0 n1 at_ n Lr) (fun f => f.e = .ret ∧ ∃ d, f = f3 tkT shW lgW k0 k1 n0 n1 at_ Lr d) := by
  have ps : PSf shW 0 glL := ⟨rfl, rfl, rfl⟩
  have pt : PTf tkT 0 glL := ⟨rfl, rfl, rfl⟩
  rw [code3]
  refine seq_to3 (t := d3b true tkT shW lgW k0 k1 n0 n1 at_ n Lr) (wpE_to3 (X := eX tkT shW lgW) rfl eX_ct (eX_lp _ _ _) (da_t tkT shW lgW k0 k1 n0 n1 at_ n Lr) trivial rfl) ?_
  refine seq_to3 (t := d3c true tkT shW lgW k0 k1 n0 n1 at_ n Lr) (wpE_to3 (X := eX tkT shW lgW) rfl eX_ct (eX_lp _ _ _) (db_t tkT shW lgW k0 k1 n0 n1 at_ n Lr) trivial rfl) ?_
  refine WpE.seq (wpE_X (X := eX tkT shW lgW) rfl eX_ct (eX_lp _ _ _) (T := fun d => stC3 true k0 k1 n0 n1 at_ n Lr d) (dc_t tkT shW lgW k0 k1 n0 n1 at_ n Lr) ⟨⟨rfl, rfl⟩, pt, rfl, pt, beq_self_eq_true _, by rw [beq_self_eq_true]; rfl, trivial⟩) (fun r hr hn => ?_) (fun r hr hne => absurd hr.1 hne)
  refine wpE_weakF hr.2 fun d => ?_
  refine seq_to3 (t := d3e true tkT shW lgW k0 k1 n0 n1 at_ n Lr d) (wpE_to3 (X := eX tkT shW lgW) rfl eX_ct (eX_lp _ _ _) (dd_t tkT shW lgW k0 k1 n0 n1 at_ n Lr d) ⟨ps, trivial⟩ rfl) ?_
  refine WpE.seq (F := fun f => f.e = .normal ∧ WeakF 4 f.st (fun d => stF shW k0 k1 n0 n1 at_ Lr d)) (WpE.seq (wpE_X (X := eX tkT shW lgW) rfl eX_ct (eX_lp _ _ _) (T := fun d' => stEx true shW k0 k1 n0 n1 at_ n Lr (.num .i64 0) d') (de_t tkT shW lgW k0 k1 n0 n1 at_ n Lr d) trivial) (fun r hr hn => ?_) (fun r hr hne => absurd hr.1 hne)) (fun r hr hn => ?_) (fun r hr hne => absurd hr.1 hne)
  · exact wpE_weakF hr.2 fun d => WpE.weak (stEx_weak k0 k1 n0 n1 at_ n Lr true d) (WpE.block (loop3 k0 k1 n0 n1 at_ n Lr hrow d) fun f hf => unblk hf)
  · exact wpE_weakF hr.2 fun d => (wpE_runA (X := eX tkT shW lgW) rfl eX_ct (eX_lp _ _ _) (s := stF shW k0 k1 n0 n1 at_ Lr d) (dt_ret tkT shW lgW k0 k1 n0 n1 at_ Lr d) (LT3_ok k0 k1 n0 n1 at_ ha)).mono fun f hf => ⟨hf.1, d, hf.2⟩
theorem body3n (ha : 0 ≤ at_ ∧ at_ < 256) : WpE Tryd.prog (code 3) 4 (d3 false k0 k1 n0 n1 at_ n Lr) (fun f => f.e = .ret ∧ ∃ d, f = f3 tkT shW lgW k0 k1 n0 n1 at_ Lr d) := by
  have ps : PSf shW 0 glL := ⟨rfl, rfl, rfl⟩
  have pt : PTf tkT 0 glL := ⟨rfl, rfl, rfl⟩
  rw [code3]
  refine seq_to3 (t := d3b false tkT shW lgW k0 k1 n0 n1 at_ n Lr) (wpE_to3 (X := eX tkT shW lgW) rfl eX_ct (eX_lp _ _ _) (da_n tkT shW lgW k0 k1 n0 n1 at_ n Lr) trivial rfl) ?_
  refine seq_to3 (t := d3c false tkT shW lgW k0 k1 n0 n1 at_ n Lr) (wpE_to3 (X := eX tkT shW lgW) rfl eX_ct (eX_lp _ _ _) (db_n tkT shW lgW k0 k1 n0 n1 at_ n Lr) trivial rfl) ?_
  refine WpE.seq (wpE_X (X := eX tkT shW lgW) rfl eX_ct (eX_lp _ _ _) (T := fun d => stC3 false k0 k1 n0 n1 at_ n Lr d) (dc_n tkT shW lgW k0 k1 n0 n1 at_ n Lr) ⟨⟨rfl, rfl⟩, pt, rfl, pt, beq_self_eq_true _, by rw [beq_self_eq_true]; rfl, trivial⟩) (fun r hr hn => ?_) (fun r hr hne => absurd hr.1 hne)
  refine wpE_weakF hr.2 fun d => ?_
  refine seq_to3 (t := d3e false tkT shW lgW k0 k1 n0 n1 at_ n Lr d) (wpE_to3 (X := eX tkT shW lgW) rfl eX_ct (eX_lp _ _ _) (dd_n tkT shW lgW k0 k1 n0 n1 at_ n Lr d) ⟨ps, trivial⟩ rfl) ?_
  refine WpE.seq (F := fun f => f.e = .normal ∧ WeakF 4 f.st (fun d => stF shW k0 k1 n0 n1 at_ Lr d)) (WpE.seq (wpE_X (X := eX tkT shW lgW) rfl eX_ct (eX_lp _ _ _) (T := fun d' => stEx false shW k0 k1 n0 n1 at_ n Lr (.num .i64 0) d') (de_n tkT shW lgW k0 k1 n0 n1 at_ n Lr d) trivial) (fun r hr hn => ?_) (fun r hr hne => absurd hr.1 hne)) (fun r hr hn => ?_) (fun r hr hne => absurd hr.1 hne)
  · exact wpE_weakF hr.2 fun d => WpE.block (loop3n k0 k1 n0 n1 at_ n Lr d) fun f hf => unblk hf
  · exact wpE_weakF hr.2 fun d => (wpE_runA (X := eX tkT shW lgW) rfl eX_ct (eX_lp _ _ _) (s := stF shW k0 k1 n0 n1 at_ Lr d) (dt_ret tkT shW lgW k0 k1 n0 n1 at_ Lr d) (LT3_ok k0 k1 n0 n1 at_ ha)).mono fun f hf => ⟨hf.1, d, hf.2⟩
theorem deaf_call (q : Bool) (ha : 0 ≤ at_ ∧ at_ < 256) (hrow : q = true → RowOk Lr n) {η : Env} {W : World} {vs : List Value} (hr : HR W.heap.size η (hpR Lr) W) (hargs : Rs η (arg3 q k0 k1 n0 n1 at_ n) vs) :
    Calls Tryd.prog 3 vs.toArray W (fun e w' => ∃ v, e = .returned v ∧ v = .bool true ∧ Below W.heap.size W w') := by
  have hb0 : WpE Tryd.prog (code 3) 4 (d3 q k0 k1 n0 n1 at_ n Lr) (fun f => f.e = .ret ∧ ∃ d, f = f3 tkT shW lgW k0 k1 n0 n1 at_ Lr d) := by
    cases q with
    | true => exact body3t k0 k1 n0 n1 at_ n Lr ha (hrow rfl)
    | false => exact body3n k0 k1 n0 n1 at_ n Lr ha
  have e3 : d3 q k0 k1 n0 n1 at_ n Lr = ⟨arg3 q k0 k1 n0 n1 at_ n ++ List.replicate ((fnN 3).ntmps - (arg3 q k0 k1 n0 n1 at_ n).length) (.val undef), hpR Lr⟩ := by
    rw [fn3_tm]; rfl
  rw [e3] at hb0
  have hF : ∀ f : Fin, (f.e = .ret ∧ ∃ d, f = f3 tkT shW lgW k0 k1 n0 n1 at_ Lr d) → (f.e = .normal ∨ f.e = .ret) ∧ ∃ s, resultsS Tryd.prog (fnN 3) f.tm f.hp = some s ∧ s = .val (.bool true) := by
    intro f hf
    obtain ⟨he, d, e⟩ := hf
    refine ⟨.inr he, _, by rw [e]; exact dt_res tkT shW lgW k0 k1 n0 n1 at_ Lr d, ?_⟩
    rw [beq_self_eq_true]
  have hc := calls_of_wpE (args := arg3 q k0 k1 n0 n1 at_ n) (hp := hpR Lr) (F := fun f => f.e = .ret ∧ ∃ d, f = f3 tkT shW lgW k0 k1 n0 n1 at_ Lr d) (G := fun s' _ => s' = .val (.bool true)) fn3_at fn3_body hb0 hF hr (Nat.le_refl _) hargs
  refine hc.mono fun e w' hq => ?_
  obtain ⟨v, μ, s', hp', e1, e2, e3, e4, rfl⟩ := hq
  simp only [R] at e2
  exact ⟨v, e1, e2, e4⟩
end
end Go.Proofs.YtacgamdbmllaoaaDoor
