/-
  Walks of functions, reckoned through, and what they give (part W06g). No condition beyond what each says. By an AI agent.
-/
import Derived.Test.YtacgamdbmllaoaaDoorW06f
import Derived.Test.YtacgamdbmllaoaaDoorExS
namespace Go.Proofs.YtacgamdbmllaoaaDoor
open Go.Ex
open Go.RowKit (Below)
set_option linter.unusedVariables false
set_option maxRecDepth 1000000
/-! ### temporaries forgotten -/
def fgT (d : Nat → Value) (fg : List Nat) : Nat → List SV → List SV
  | _, [] => []
  | i, s :: l => (if fg.contains i then .val (d i) else s) :: fgT d fg (i + 1) l
theorem fgT_R {η : Env} {d : Nat → Value} {fg : List Nat} : ∀ {l : List SV} {vs : List Value} {i : Nat}, Rs η l vs → (∀ (j : Nat) (v : Value), vs[j]? = some v → d (i + j) = v) → Rs η (fgT d fg i l) vs
  | [], vs, i, h, _ => by simpa only [fgT, Rs] using h
  | s :: l, vs, i, h, hd => by
    obtain ⟨v, r, rfl, h1, h2⟩ := h
    refine Rs.cons ?_ (fgT_R h2 fun j x hx => ?_)
    · split
      · simp only [R]
        exact (hd 0 v rfl).symm
      · exact h1
    · have := hd (j + 1) x (by simpa using hx)
      rwa [show i + 1 + j = i + (j + 1) by omega]
theorem weakF_fg {n0 : Nat} (fg : List Nat) (s : St) : WeakF n0 s (fun d => ⟨fgT d fg 0 s.tm, s.hp⟩) := fun {ds B w₀ η μ a w} hn hs =>
  ⟨fun i => (a.tmps.toList[i]?).getD undef, μ, fgT_R hs.tm fun j v hv => by simp only [Nat.zero_add]; rw [hv]; rfl, hs.df, hs.hr, hs.below, hs.hB⟩
def outT (fg : List Nat) (r : Rr Fin) (e : XE) (T : St) (L : List Prop) (d : Nat → Value) : Option (XE × St × List Prop × List SV) × Option (XE × St × List Prop × List SV) :=
  match r with
  | .ok f [] c => (some (f.e, ⟨fgT d fg 0 f.tm, f.hp⟩, c.props [], c.lefts []), some (e, T, L, c.rights []))
  | _ => (none, some (e, T, L, []))
def givesT (fg : List Nat) (r : Rr Fin) (e : XE) (T : St) (L : List Prop) (d : Nat → Value) : Prop := (outT fg r e T L d).1 = (outT fg r e T L d).2
theorem wpE_fg {P : Program} {X : Cx} (hX : X.P = P) (hct : CtOk X) (hlp : LpOk X) {n n0 : Nat} {fg : List Nat} {c : Code} {s : St} {ans : List Bool} {e : XE} {T : (Nat → Value) → St} {L : List Prop} (h : ∀ d, givesT fg (run X n c s.tm s.hp ans) e (T d) L d) (hL : AllP L) :
    WpE P c n0 s (fun r => r.e = e ∧ WeakF n0 r.st T ∧ r.hp = (T (fun _ => undef)).hp) := by
  subst hX
  generalize hq : run X n c s.tm s.hp ans = r at h
  unfold givesT outT at h
  split at h
  · rename_i f c'
    simp only [Option.some.injEq, Prod.mk.injEq] at h
    have h0 := h (fun _ => undef)
    have hc := (Cnd.is_of c' [] [] [] (by rw [h0.2.2.1]; exact hL) h0.2.2.2 rfl).1
    refine WpE.of_wp (run_ok hct hlp n c _ _ _ _ _ _ hq hc) ⟨h0.1, ?_, congrArg St.hp h0.2.1⟩
    have e : T = fun d => ⟨fgT d fg 0 f.tm, f.hp⟩ := funext fun d => ((h d).2.1).symm
    rw [e]
    exact fun {_ _ _ _ _ _ _} hn hs => weakF_fg fg f.st hn hs
  · have := h (fun _ => undef); simp at this

/-! ### Write -/
noncomputable def blkS (s : ByteArray) : ByteArray := ⟨((List.range 64).map (bAt s)).toArray⟩
noncomputable def rstS (s : ByteArray) : ByteArray := s.extract 64 s.size
theorem rstS_size (s : ByteArray) : (rstS s).size = s.size - 64 := by simp [rstS]
abbrev Z := List Int → ByteArray → (Nat → Int) × (Nat → Int)
theorem tkF_len (z : Z) (ini : List Int) (s : ByteArray) : (tkF z ini s).length = 8 := by simp [tkF]
/-- What is behind a text: the words, and what is left. -/
noncomputable def finW (z : Z) (ini : List Int) (s : ByteArray) : List Int × ByteArray :=
  if h : 64 ≤ s.size then finW z (tkF z ini (blkS s)) (rstS s) else (ini, s)
termination_by s.size
decreasing_by rw [rstS_size]; omega
theorem finW_len (z : Z) (ini : List Int) (s : ByteArray) (h : ini.length = 8) : (finW z ini s).1.length = 8 := by
  rw [finW]
  split
  · exact finW_len z _ _ (tkF_len z _ _)
  · exact h
termination_by s.size
decreasing_by rw [rstS_size]; omega
noncomputable def LB14 : Code := cLp (cB (cR (cR (cR (code 59)))))
noncomputable def id14 : Nat := bId (cR (cR (cR (code 59))))
theorem code14 : code 59 = .seq (cL (code 59)) (.seq (cL (cR (code 59))) (.seq (cL (cR (cR (code 59)))) (.block id14 (.loop LB14)))) := by kernel_rfl
def fgW : List Nat := List.range' 2 49
noncomputable def hW (ini : List Int) (s : ByteArray) (m : Int) (r : List SO) : List SO := globS :: .cells true (ini.map u ++ [.val (.string s), .val (.int .u64 m)]) :: .dead :: r
noncomputable def sW (ini : List Int) (s : ByteArray) (m : Int) (t : ByteArray) (r : List SO) (d : Nat → Value) : St :=
  ⟨[.ptr 1 0, .val (.string t)] ++ fgW.map (fun i => .val (d i)), hW ini s m r⟩
noncomputable def LW (ini : List Int) (s : ByteArray) (m : Int) (r : List SO) : List Prop :=
  [decide ((s.size : Int) ≥ 64) = true, r = r, r = r, 0 ≤ Int.toNat 64 ∧ Int.toNat 64 ≤ s.size, P23 (ini.map u) (blkS s) 0 glL, r = r, r = r, r = r, r = r,
    0 ≤ Int.toNat 64 ∧ Int.toNat 64 ≤ s.size, r = r, P23 (ini.map u) (blkS s) 0 glL, r = r, r = r, 0 ≤ (64 : Int) ∧ (64 : Int) ≤ (s.size : Int) ∧ (s.size : Int) ≤ (s.size : Int)]
theorem w14_round (z : Z) (x0 x1 x2 x3 x4 x5 x6 x7 m : Int) (s t : ByteArray) (r : List SO) (d d' : Nat → Value) :
    givesT fgW (run (X3 z) 60 LB14 (sW [x0, x1, x2, x3, x4, x5, x6, x7] s m t r d).tm (sW [x0, x1, x2, x3, x4, x5, x6, x7] s m t r d).hp [true]) .normal (sW (tkF z [x0, x1, x2, x3, x4, x5, x6, x7] (blkS s)) (rstS s) m t r d') (LW [x0, x1, x2, x3, x4, x5, x6, x7] s m r) d' := by
  unfold givesT; kernel_rfl
theorem w14_end (z : Z) (x0 x1 x2 x3 x4 x5 x6 x7 m : Int) (s t : ByteArray) (r : List SO) (d d' : Nat → Value) :
    givesT fgW (run (X3 z) 60 LB14 (sW [x0, x1, x2, x3, x4, x5, x6, x7] s m t r d).tm (sW [x0, x1, x2, x3, x4, x5, x6, x7] s m t r d).hp [false]) (.exit id14) (sW [x0, x1, x2, x3, x4, x5, x6, x7] s m t r d') [decide ((s.size : Int) ≥ 64) = false] d' := by
  unfold givesT; kernel_rfl
noncomputable def w64 (m : Int) (t : ByteArray) : Int := IntKind.u64.wrap (m + IntKind.u64.wrap (t.size : Int))
noncomputable def s14 (ini : List Int) (s : ByteArray) (m : Int) (t : ByteArray) (r : List SO) : St := ⟨[.ptr 1 0, .val (.string t)] ++ List.replicate 49 (.val undef), hW ini s m r⟩
noncomputable def s14a (z : Z) (ini : List Int) (s : ByteArray) (m : Int) (t : ByteArray) (r : List SO) : St := (finOf (run (X3 z) 60 (cL (code 59)) (s14 ini s m t r).tm (s14 ini s m t r).hp [])).st
noncomputable def s14b (z : Z) (ini : List Int) (s : ByteArray) (m : Int) (t : ByteArray) (r : List SO) : St := (finOf (run (X3 z) 60 (cL (cR (code 59))) (s14a z ini s m t r).tm (s14a z ini s m t r).hp [])).st
theorem w14_a (z : Z) (x0 x1 x2 x3 x4 x5 x6 x7 m : Int) (s t : ByteArray) (r : List SO) : goodR (run (X3 z) 60 (cL (code 59)) (s14 [x0, x1, x2, x3, x4, x5, x6, x7] s m t r).tm (s14 [x0, x1, x2, x3, x4, x5, x6, x7] s m t r).hp []) .normal [] := by
  unfold goodR; kernel_rfl
theorem w14_b (z : Z) (x0 x1 x2 x3 x4 x5 x6 x7 m : Int) (s t : ByteArray) (r : List SO) : goodR (run (X3 z) 60 (cL (cR (code 59))) (s14a z [x0, x1, x2, x3, x4, x5, x6, x7] s m t r).tm (s14a z [x0, x1, x2, x3, x4, x5, x6, x7] s m t r).hp []) .normal [] := by
  unfold goodR; kernel_rfl
theorem w14_c (z : Z) (x0 x1 x2 x3 x4 x5 x6 x7 m : Int) (s t : ByteArray) (r : List SO) (d : Nat → Value) :
    givesT fgW (run (X3 z) 60 (cL (cR (cR (code 59)))) (s14b z [x0, x1, x2, x3, x4, x5, x6, x7] s m t r).tm (s14b z [x0, x1, x2, x3, x4, x5, x6, x7] s m t r).hp []) .normal (sW [x0, x1, x2, x3, x4, x5, x6, x7] (s ++ t) (w64 m t) t r d) [s.size + t.size ≤ 9223372036854775807] d := by
  unfold givesT; kernel_rfl
theorem blkS_size (s : ByteArray) : (blkS s).size = 64 := by
  show (((List.range 64).map (bAt s)).toArray).size = 64
  simp
theorem wAll_u : ∀ l : List Int, wAll (l.map u) = true
  | [] => rfl
  | x :: l => wAll_u l
theorem LW_all (ini : List Int) (hi : ini.length = 8) (s : ByteArray) (hs : 64 ≤ s.size) (m : Int) (r : List SO) : AllP (LW ini s m r) := by
  have p : P23 (ini.map u) (blkS s) 0 glL := ⟨blkS_size s, by simp [hi], wAll_u ini, rfl, rfl⟩
  have b : 0 ≤ Int.toNat 64 ∧ Int.toNat 64 ≤ s.size := ⟨Nat.zero_le _, hs⟩
  have q : decide ((s.size : Int) ≥ 64) = true := by simp; omega
  exact ⟨q, rfl, rfl, b, p, rfl, rfl, rfl, rfl, b, rfl, p, rfl, rfl, ⟨by omega, by omega, by omega⟩, trivial⟩
/-- The loop. -/
theorem loop14 (ini : List Int) (hi : ini.length = 8) (s : ByteArray) (m : Int) (t : ByteArray) (r : List SO) (d : Nat → Value) (n0 : Nat) :
    WpE Tryd.prog (.loop LB14) n0 (sW ini s m t r d) (fun f => f.e = .exit id14 ∧ f.hp = hW (finW zL ini s).1 (finW zL ini s).2 m r) := by
  refine WpE.loopF (γ := {g : List Int × ByteArray // g.1.length = 8 ∧ finW zL g.1 g.2 = finW zL ini s} × (Nat → Value)) (S := fun g => sW g.1.1.1 g.1.1.2 m t r g.2) (m := fun g => g.1.1.2.size) (fun g => ?_) (⟨(ini, s), hi, rfl⟩, d)
  obtain ⟨⟨⟨l, s'⟩, hl, hf⟩, d⟩ := g
  match l, hl with
  | [x0, x1, x2, x3, x4, x5, x6, x7], hl =>
    by_cases h : 64 ≤ s'.size
    · refine (wpE_fg (X := X3 zL) rfl X3_ct (X3_lp zL) (fg := fgW) (n := 60) (ans := [true]) (s := sW [x0, x1, x2, x3, x4, x5, x6, x7] s' m t r d) (T := fun d' => sW (tkF zL [x0, x1, x2, x3, x4, x5, x6, x7] (blkS s')) (rstS s') m t r d')
        (fun d' => w14_round zL x0 x1 x2 x3 x4 x5 x6 x7 m s' t r d d') (LW_all _ hl s' h m r)).mono fun f hr => .inl ⟨hr.1, _, hr.2.1, fun d' => ⟨(⟨(tkF zL [x0, x1, x2, x3, x4, x5, x6, x7] (blkS s'), rstS s'), tkF_len _ _ _, ?_⟩, d'), ?_, rfl⟩⟩
      · show finW zL _ _ = _
        rw [← hf]
        conv => rhs; rw [finW]
        simp only [h, dif_pos]
      · show (rstS s').size < s'.size
        rw [rstS_size]; omega
    · refine (wpE_fg (X := X3 zL) rfl X3_ct (X3_lp zL) (fg := fgW) (n := 60) (ans := [false]) (s := sW [x0, x1, x2, x3, x4, x5, x6, x7] s' m t r d) (T := fun d' => sW [x0, x1, x2, x3, x4, x5, x6, x7] s' m t r d')
        (fun d' => w14_end zL x0 x1 x2 x3 x4 x5 x6 x7 m s' t r d d') ⟨by simp; omega, trivial⟩).mono fun f hr => .inr ⟨by rw [hr.1]; exact (fun e => by cases e), hr.1, ?_⟩
      rw [hr.2.2, ← hf]
      have e : finW zL [x0, x1, x2, x3, x4, x5, x6, x7] s' = ([x0, x1, x2, x3, x4, x5, x6, x7], s') := by rw [finW]; simp only [h, dif_neg, not_false_iff]
      show hW _ _ m r = _
      rw [e]
noncomputable def fn14 : Func := (Tryd.prog.funcs[59]?).getD default
theorem fn14_at : Tryd.prog.funcs[59]? = some fn14 := by kernel_rfl
theorem fn14_body : fn14.body = some (code 59) := by kernel_rfl
theorem fn14_res (tm : List SV) (hp : List SO) : resultsS Tryd.prog fn14 tm hp = some (.tup []) := by kernel_rfl
theorem fn14_tm (t : ByteArray) : ([.ptr 1 0, .val (.string t)] ++ List.replicate (fn14.ntmps - [SV.ptr 1 0, .val (.string t)].length) (.val undef) : List SV) = [.ptr 1 0, .val (.string t)] ++ List.replicate 49 (.val undef) := by kernel_rfl
theorem body14 (ini : List Int) (hi : ini.length = 8) (s : ByteArray) (m : Int) (t : ByteArray) (r : List SO) (n0 : Nat) (hsz : s.size + t.size ≤ 9223372036854775807) :
    WpE Tryd.prog (code 59) n0 (s14 ini s m t r) (fun f => f.e = .normal ∧ f.hp = hW (finW zL ini (s ++ t)).1 (finW zL ini (s ++ t)).2 (w64 m t) r) := by
  match ini, hi with
  | [x0, x1, x2, x3, x4, x5, x6, x7], hi =>
    rw [code14]
    refine WpE.seq (wpE_run (X := X3 zL) rfl X3_ct (X3_lp zL) (w14_a zL x0 x1 x2 x3 x4 x5 x6 x7 m s t r) trivial) (fun f hf hn => ?_) (fun f hf hne => absurd hf.1 hne)
    obtain ⟨_, rfl⟩ := hf
    refine WpE.seq (wpE_run (X := X3 zL) rfl X3_ct (X3_lp zL) (s := s14a zL [x0, x1, x2, x3, x4, x5, x6, x7] s m t r) (w14_b zL x0 x1 x2 x3 x4 x5 x6 x7 m s t r) trivial) (fun f hf hn => ?_) (fun f hf hne => absurd hf.1 hne)
    obtain ⟨_, rfl⟩ := hf
    refine WpE.seq (wpE_fg (X := X3 zL) rfl X3_ct (X3_lp zL) (s := s14b zL [x0, x1, x2, x3, x4, x5, x6, x7] s m t r) (T := fun d => sW [x0, x1, x2, x3, x4, x5, x6, x7] (s ++ t) (w64 m t) t r d) (w14_c zL x0 x1 x2 x3 x4 x5 x6 x7 m s t r) ⟨hsz, trivial⟩) (fun f hf hn => ?_) (fun f hf hne => absurd hf.1 hne)
    refine wpE_weakF hf.2.1 fun d => WpE.block (loop14 _ hi (s ++ t) (w64 m t) t r d n0) fun f hf => ?_
    obtain ⟨h1, h2⟩ := hf
    unfold Fin.unblock
    rw [h1]
    simp only [if_true]
    exact ⟨trivial, h2⟩
theorem call14 (ini : List Int) (hi : ini.length = 8) (s : ByteArray) (m : Int) (t : ByteArray) (r : List SO) (hsz : s.size + t.size ≤ 9223372036854775807) {B : Nat} {η : Env} {w : World} {vs : List Value} (hr : HR B η (hW ini s m r) w) (hB : B ≤ w.heap.size) (hargs : Rs η [.ptr 1 0, .val (.string t)] vs) :
    Calls Tryd.prog 59 vs.toArray w (fun e w' => ∃ v μ, e = .returned v ∧ R (η ++ μ) (.tup []) v ∧ HR B (η ++ μ) (hW (finW zL ini (s ++ t)).1 (finW zL ini (s ++ t)).2 (w64 m t) r) w' ∧ Below B w w') := by
  have hb := body14 ini hi s m t r (hW ini s m r).length hsz
  unfold s14 at hb
  rw [← fn14_tm] at hb
  refine (calls_of_wpE fn14_at fn14_body (args := [.ptr 1 0, .val (.string t)]) (hp := hW ini s m r) (F := fun f => f.e = .normal ∧ f.hp = hW (finW zL ini (s ++ t)).1 (finW zL ini (s ++ t)).2 (w64 m t) r) (G := fun s' hp' => s' = .tup [] ∧ hp' = hW (finW zL ini (s ++ t)).1 (finW zL ini (s ++ t)).2 (w64 m t) r) hb (fun f hf => ⟨.inl hf.1, _, fn14_res _ _, rfl, hf.2⟩) hr hB hargs).mono fun e w' hq => ?_
  obtain ⟨v, μ, s', hp', e1, e2, e3, e4, rfl, rfl⟩ := hq
  exact ⟨v, μ, e1, e2, e3, e4⟩
noncomputable def cW (ini : List Int) (s : ByteArray) (m : Int) : List SV := ini.map u ++ [.val (.string s), .val (.int .u64 m)]
theorem cW_free (ini : List Int) (s : ByteArray) (m : Int) : frees (cW ini s m) = true := by
  unfold cW
  induction ini with
  | nil => rfl
  | cons x l ih => simp only [List.map_cons, List.cons_append, frees, Bool.and_eq_true]; exact ⟨rfl, ih⟩
/-- Wherever it lies. -/
theorem call14_any (ini : List Int) (hi : ini.length = 8) (s : ByteArray) (m : Int) (t : ByteArray) (hsz : s.size + t.size ≤ 9223372036854775807) {B : Nat} {η : Env} {hp : List SO} {k0 k : Nat} {w : World} {vs : List Value} (hr : HR B η hp w) (hB : B ≤ w.heap.size) (h0 : hp[k0]? = some globS) (hk : hp[k]? = some (.cells true (cW ini s m))) (hargs : Rs η [.ptr k 0, .val (.string t)] vs) :
    Calls Tryd.prog 59 vs.toArray w (fun e w' => ∃ v, e = .returned v ∧ R [] (.tup []) v ∧ HR B η (hp.set k (.cells true (cW (finW zL ini (s ++ t)).1 (finW zL ini (s ++ t)).2 (w64 m t)))) w' ∧ Below B w w') := by
  have l0 : k0 < η.length := by rw [hr.len]; exact (List.getElem?_eq_some_iff.1 h0).1
  have l1 : k < η.length := by rw [hr.len]; exact (List.getElem?_eq_some_iff.1 hk).1
  have e0 := List.getElem?_eq_getElem l0
  have e1 := List.getElem?_eq_getElem l1
  have ha := hr_ahead hr h0 hk (by decide) (cW_free ini s m) e0 e1
  have hargs' : Rs (η[k0] :: η[k] :: undef :: η) [.ptr 1 0, .val (.string t)] vs := by
    obtain ⟨a, q, rfl, g1, g2⟩ := hargs.cons_inv
    obtain ⟨b, q2, rfl, g3, g4⟩ := g2.cons_inv
    simp only [Rs] at g4; subst g4
    obtain ⟨b', o', q1, q2⟩ := g1
    rw [e1] at q1
    simp only [Option.some.injEq] at q1
    exact Rs.cons ⟨b', o', by simp [q1], q2⟩ (Rs.cons (by simpa only [R] using g3) Rs.nil)
  refine (call14 ini hi s m t _ hsz ha hB hargs').mono fun e w' hq => ?_
  obtain ⟨v, μ, rfl, hv, hr', hb⟩ := hq
  exact ⟨v, rfl, R.free _ _ rfl hv, hr_back hr hk (cW_free _ _ _) e1 hr', hb⟩
end Go.Proofs.YtacgamdbmllaoaaDoor
