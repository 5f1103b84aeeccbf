/-
  Walks of functions, reckoned through, and what they give (part K07s). No condition beyond what each says. By an AI agent.
-/
import Derived.Test.YtclafmabccbhjaaDoorK07a
namespace Go.Proofs.YtclafmabccbhjaaDoor
open Go.Ex
open Go.RowKit (Below)
set_option linter.unusedVariables false
set_option maxRecDepth 1000000
/-! ### whether texts are the same -/
def unN : SV → SV
  | .num k z => .val (.int k z)
  | .bol b => .val (.bool b)
  | s => s
theorem unN_R {η : Env} {s : SV} {v : Value} (h : R η s v) : R η (unN s) v := by
  cases s <;> first | exact h | (simp only [unN, R] at h ⊢; exact h)
def fgU (d : Nat → Value) (fg : List Nat) : Nat → List SV → List SV
  | _, [] => []
  | i, s :: l => (if fg.contains i then .val (d i) else unN s) :: fgU d fg (i + 1) l
theorem fgU_R {η : Env} {d : Nat → Value} {fg : List Nat} : ∀ {l : List SV} {vs : List Value} {i : Nat}, Rs η l vs → (∀ (j : Nat) (v : Value), vs[j]? = some v → d (i + j) = v) → Rs η (fgU d fg i l) vs
  | [], vs, i, h, _ => by simpa only [fgU, Rs] using h
  | s :: l, vs, i, h, hd => by
    obtain ⟨v, r, rfl, h1, h2⟩ := h
    refine Rs.cons ?_ (fgU_R h2 fun j x hx => ?_)
    · split
      · simp only [R]
        exact (hd 0 v rfl).symm
      · exact unN_R h1
    · have := hd (j + 1) x (by simpa using hx)
      rwa [show i + 1 + j = i + (j + 1) by omega]
theorem weakF_fu {n0 : Nat} (fg : List Nat) (s : St) : WeakF n0 s (fun d => ⟨fgU d fg 0 s.tm, s.hp⟩) := fun {ds B w₀ η μ a w} hn hs =>
  ⟨fun i => (a.tmps.toList[i]?).getD undef, μ, fgU_R hs.tm fun j v hv => by simp only [Nat.zero_add]; rw [hv]; rfl, hs.df, hs.hr, hs.below, hs.hB⟩
def outU (fg : List Nat) (r : Rr Fin) (e : XE) (T : St) (L : List Prop) (d : Nat → Value) : Option (XE × St × List Prop × List SV) × Option (XE × St × List Prop × List SV) :=
  match r with
  | .ok f [] c => (some (f.e, ⟨fgU d fg 0 f.tm, f.hp⟩, c.props [], c.lefts []), some (e, T, L, c.rights []))
  | _ => (none, some (e, T, L, []))
def givesU (fg : List Nat) (r : Rr Fin) (e : XE) (T : St) (L : List Prop) (d : Nat → Value) : Prop := (outU fg r e T L d).1 = (outU fg r e T L d).2
theorem wpE_fu {P : Program} {X : Cx} (hX : X.P = P) (hct : CtOk X) (hlp : LpOk X) {n n0 : Nat} {fg : List Nat} {c : Code} {s : St} {ans : List Bool} {e : XE} {T : (Nat → Value) → St} {L : List Prop} (h : ∀ d, givesU fg (run X n c s.tm s.hp ans) e (T d) L d) (hL : AllP L) :
    WpE P c n0 s (fun r => r.e = e ∧ WeakF n0 r.st T ∧ r.hp = (T (fun _ => undef)).hp) := by
  subst hX
  generalize hq : run X n c s.tm s.hp ans = r at h
  unfold givesU outU at h
  split at h
  · rename_i f c'
    simp only [Option.some.injEq, Prod.mk.injEq] at h
    have h0 := h (fun _ => undef)
    have hc := (Cnd.is_of c' [] [] [] (by rw [h0.2.2.1]; exact hL) h0.2.2.2 rfl).1
    refine WpE.of_wp (run_ok hct hlp n c _ _ _ _ _ _ hq hc) ⟨h0.1, ?_, congrArg St.hp h0.2.1⟩
    have e : T = fun d => ⟨fgU d fg 0 f.tm, f.hp⟩ := funext fun d => ((h d).2.1).symm
    rw [e]
    exact fun {_ _ _ _ _ _ _} hn hs => weakF_fu fg f.st hn hs
  · have := h (fun _ => undef); simp at this

theorem X0_ct : CtOk X0 := plain_ct Tryd.prog
theorem X0_lp : LpOk X0 := plain_lp Tryd.prog
noncomputable def fnN (f : Nat) : Func := (Tryd.prog.funcs[f]?).getD default
noncomputable def LB24 : Code := cLp (cB (cR (cL (cR (code 24)))))
noncomputable def id24 : Nat := bId (cR (cL (cR (code 24))))
theorem code24 : code 24 = .seq (cL (code 24)) (.seq (.seq (cL (cL (cR (code 24)))) (.block id24 (.loop LB24))) (cR (cR (code 24)))) := by kernel_rfl
def fg24 : List Nat := [2, 3] ++ List.range' 5 5 ++ List.range' 12 13
def mnB (a b : ByteArray) : Int := if (b.size : Int) < (a.size : Int) then (b.size : Int) else (a.size : Int)
def nxD (x y d : Int) : Int := IntKind.u8.wrap ((BitVec.ofInt IntKind.u8.bits d ||| BitVec.ofInt IntKind.u8.bits (IntKind.u8.wrap ((BitVec.ofInt IntKind.u8.bits x ^^^ BitVec.ofInt IntKind.u8.bits y).toNat : Int))).toNat : Int)
def s24 (a b : ByteArray) (dd i : Int) (d : Nat → Value) : St := ⟨[.val (.string a), .val (.string b), .val (d 2), .val (d 3), .val (.int .u8 dd)] ++ (List.range' 5 5).map (fun i => .val (d i)) ++ [.val (.int .i64 (mnB a b)), .val (.int .i64 i)] ++ (List.range' 12 13).map (fun i => .val (d i)), []⟩
noncomputable def s24a (a b : ByteArray) : St := ⟨[.val (.string a), .val (.string b)] ++ List.replicate 23 (.val undef), []⟩
noncomputable def s24b (a b : ByteArray) : St := (finOf (run X0 60 (cL (code 24)) (s24a a b).tm (s24a a b).hp [])).st
theorem t24_a (a b : ByteArray) : goodR (run X0 60 (cL (code 24)) (s24a a b).tm (s24a a b).hp []) .normal [] := by unfold goodR; kernel_rfl
theorem t24_c (a b : ByteArray) (d : Nat → Value) : givesU fg24 (run X0 60 (cL (cL (cR (code 24)))) (s24b a b).tm (s24b a b).hp []) .normal (s24 a b 0 0 d) [] d := by unfold givesU; kernel_rfl
theorem t24_round (a b : ByteArray) (dd i : Int) (d d' : Nat → Value) : givesU fg24 (run X0 60 LB24 (s24 a b dd i d).tm (s24 a b dd i d).hp [true]) .normal (s24 a b (nxD (byteAt a i) (byteAt b i) dd) (IntKind.i64.wrap (i + 1)) d') [decide (i < mnB a b) = true, 0 ≤ i ∧ i < (a.size : Int), 0 ≤ i ∧ i < (b.size : Int)] d' := by unfold givesU; kernel_rfl
theorem t24_end (a b : ByteArray) (dd i : Int) (d d' : Nat → Value) : givesU fg24 (run X0 60 LB24 (s24 a b dd i d).tm (s24 a b dd i d).hp [false]) (.exit id24) (s24 a b dd i d') [decide (i < mnB a b) = false] d' := by unfold givesU; kernel_rfl
noncomputable def rs24 : Code := cR (cR (code 24))
noncomputable def f24 (a b : ByteArray) (dd i : Int) (d : Nat → Value) : Fin := finOf (run X0 60 rs24 (s24 a b dd i d).tm (s24 a b dd i d).hp [])
theorem t24_ret (a b : ByteArray) (dd i : Int) (d : Nat → Value) : goodR (run X0 60 rs24 (s24 a b dd i d).tm (s24 a b dd i d).hp []) .ret [] := by unfold goodR; kernel_rfl
theorem t24_res (a b : ByteArray) (dd i : Int) (d : Nat → Value) : resultsS Tryd.prog (fnN 24) (f24 a b dd i d).tm (f24 a b dd i d).hp = some (.val (.int .u8 dd)) := by kernel_rfl
theorem fn24_at : Tryd.prog.funcs[24]? = some (fnN 24) := by kernel_rfl
theorem fn24_body : (fnN 24).body = some (code 24) := by kernel_rfl
theorem fn24_tm (a b : ByteArray) : ([.val (.string a), .val (.string b)] ++ List.replicate ((fnN 24).ntmps - [SV.val (.string a), .val (.string b)].length) (.val undef) : List SV) = [.val (.string a), .val (.string b)] ++ List.replicate 23 (.val undef) := by kernel_rfl
def accD (a b : ByteArray) : Nat → Int
  | 0 => 0
  | m + 1 => nxD (byteAt a m) (byteAt b m) (accD a b m)
theorem loop24 (a b : ByteArray) (ha : a.size ≤ 9223372036854775806) (d : Nat → Value) (n0 : Nat) : WpE Tryd.prog (.loop LB24) n0 (s24 a b 0 0 d) (fun r => r.e = .exit id24 ∧ WeakF n0 r.st (fun d => s24 a b (accD a b (mnB a b).toNat) (mnB a b) d)) := by
  have hm : 0 ≤ mnB a b ∧ mnB a b ≤ (a.size : Int) ∧ mnB a b ≤ (b.size : Int) := by unfold mnB; split <;> omega
  refine WpE.loopF (γ := {i : Nat // i ≤ (mnB a b).toNat} × (Nat → Value)) (S := fun g => s24 a b (accD a b g.1.1) g.1.1 g.2) (m := fun g => (mnB a b).toNat - g.1.1) (fun g => ?_) (⟨0, by omega⟩, d)
  obtain ⟨⟨i, hi⟩, d⟩ := g
  by_cases h : i < (mnB a b).toNat
  · refine (wpE_fu (X := X0) rfl X0_ct X0_lp (n := 60) (fg := fg24) (ans := [true]) (t24_round a b (accD a b i) i d) ⟨by simp; omega, ⟨by omega, by omega⟩, ⟨by omega, by omega⟩, trivial⟩).mono fun r hr => .inl ⟨hr.1, _, hr.2.1, fun d' => ⟨(⟨i + 1, by omega⟩, d'), by show (mnB a b).toNat - (i + 1) < (mnB a b).toNat - i; omega, ?_⟩⟩
    have e2 : IntKind.i64.wrap ((i : Int) + 1) = ((i + 1 : Nat) : Int) := by rw [wi64]; omega
    rw [e2]; rfl
  · have e : (mnB a b).toNat = i := by omega
    have e2 : mnB a b = (i : Int) := by omega
    refine (wpE_fu (X := X0) rfl X0_ct X0_lp (n := 60) (fg := fg24) (ans := [false]) (t24_end a b (accD a b i) i d) ⟨by simp; omega, trivial⟩).mono fun r hr => .inr ⟨by rw [hr.1]; exact (fun e => by cases e), hr.1, ?_⟩
    have e3 : (fun d => s24 a b (accD a b (mnB a b).toNat) (mnB a b) d) = fun d => s24 a b (accD a b i) i d := by rw [e, e2]
    rw [e3]; exact fun {_ _ _ _ _ _ _} hn hs => hr.2.1 hn hs
theorem body24 (a b : ByteArray) (ha : a.size ≤ 9223372036854775806) (n0 : Nat) : WpE Tryd.prog (code 24) n0 (s24a a b) (fun f => f.e = .ret ∧ ∃ d, f = f24 a b (accD a b (mnB a b).toNat) (mnB a b) d) := by
  rw [code24]
  refine WpE.seq (wpE_run (X := X0) rfl X0_ct X0_lp (t24_a a b) trivial) (fun f hf hn => ?_) (fun f hf hne => absurd hf.1 hne)
  obtain ⟨_, rfl⟩ := hf
  refine WpE.seq (F := fun f => f.e = .normal ∧ WeakF n0 f.st (fun d => s24 a b (accD a b (mnB a b).toNat) (mnB a b) d)) (WpE.seq (wpE_fu (X := X0) rfl X0_ct X0_lp (s := s24b a b) (T := fun d => s24 a b 0 0 d) (fg := fg24) (ans := []) (t24_c a b) trivial) (fun f hf hn => ?_) (fun f hf hne => absurd hf.1 hne)) (fun f hf hn => ?_) (fun f hf hne => absurd hf.1 hne)
  · refine wpE_weakF hf.2.1 fun d => WpE.block (loop24 a b ha d n0) fun f hf => ?_
    obtain ⟨h1, h2⟩ := hf
    unfold Fin.unblock
    rw [h1]
    simp only [if_true]
    exact ⟨trivial, h2⟩
  · refine wpE_weakF hf.2 fun d => (wpE_run (X := X0) rfl X0_ct X0_lp (s := s24 a b (accD a b (mnB a b).toNat) (mnB a b) d) (t24_ret a b (accD a b (mnB a b).toNat) (mnB a b) d) trivial).mono fun f hf => ⟨hf.1, d, hf.2⟩
theorem call24 (a b : ByteArray) (ha : a.size ≤ 9223372036854775806) {w : World} {vs : List Value} (hargs : Rs [] [.val (.string a), .val (.string b)] vs) :
    Calls Tryd.prog 24 vs.toArray w (fun e w' => ∃ v, e = .returned v ∧ R [] (.val (.int .u8 (accD a b (mnB a b).toNat))) v ∧ Below w.heap.size w w') := by
  have hb := body24 a b ha 0
  unfold s24a at hb
  rw [← fn24_tm] at hb
  refine (calls_of_wpE fn24_at fn24_body (args := [.val (.string a), .val (.string b)]) (hp := []) (F := fun f => f.e = .ret ∧ ∃ d, f = f24 a b (accD a b (mnB a b).toNat) (mnB a b) d) (G := fun s' _ => s' = .val (.int .u8 (accD a b (mnB a b).toNat))) hb (fun f hf => ⟨.inr hf.1, _, by obtain ⟨d, e⟩ := hf.2; rw [e]; exact t24_res _ _ _ _ d, rfl⟩) (B := w.heap.size) (HR.none w) (Nat.le_refl _) hargs).mono fun e w' hq => ?_
  obtain ⟨v, μ, s', hp', e1, e2, e3, e4, rfl⟩ := hq
  exact ⟨v, e1, R.free _ _ rfl e2, e4⟩
/-! what it is -/
theorem byteAt_N (a : ByteArray) (i : Nat) : ∃ q : Nat, byteAt a i = (q : Int) ∧ q < 256 := by
  unfold byteAt
  split
  · exact ⟨_, rfl, UInt8.toNat_lt _⟩
  · exact ⟨0, rfl, by decide⟩
theorem nxD_N (q r p : Nat) (hq : q < 256) (hr : r < 256) (hp : p < 256) : nxD q r p = ((p ||| (q ^^^ r) : Nat) : Int) ∧ p ||| (q ^^^ r) < 256 := by
  have hx : q ^^^ r < 256 := Nat.xor_lt_two_pow (n := 8) hq hr
  have ho : p ||| (q ^^^ r) < 256 := Nat.or_lt_two_pow (n := 8) hp hx
  have bv : ∀ n : Nat, n < 256 → (BitVec.ofInt IntKind.u8.bits (n : Int)).toNat = n := fun n hn => by
    rw [BitVec.ofInt_natCast, BitVec.toNat_ofNat]; exact Nat.mod_eq_of_lt hn
  refine ⟨?_, ho⟩
  unfold nxD
  rw [BitVec.toNat_xor, bv q hq, bv r hr]
  have e : IntKind.u8.wrap ((q ^^^ r : Nat) : Int) = ((q ^^^ r : Nat) : Int) := by rw [wu8]; omega
  rw [e, BitVec.toNat_or, bv p hp, bv _ hx, wu8]; omega
theorem xor_zero {q r : Nat} (h : q ^^^ r = 0) : q = r := by
  have : q ^^^ r ^^^ r = 0 ^^^ r := by rw [h]
  rwa [Nat.xor_assoc, Nat.xor_self, Nat.xor_zero, Nat.zero_xor] at this
theorem accD_N (a b : ByteArray) : ∀ m : Nat, ∃ p : Nat, accD a b m = (p : Int) ∧ p < 256 ∧ (p = 0 ↔ ∀ i, i < m → byteAt a i = byteAt b i)
  | 0 => ⟨0, rfl, by decide, by simp⟩
  | m + 1 => by
    obtain ⟨p, e, hp, h⟩ := accD_N a b m
    obtain ⟨q, eq, hq⟩ := byteAt_N a m
    obtain ⟨r, er, hr⟩ := byteAt_N b m
    obtain ⟨e2, h2⟩ := nxD_N q r p hq hr hp
    refine ⟨p ||| (q ^^^ r), ?_, h2, ?_⟩
    · show nxD (byteAt a m) (byteAt b m) (accD a b m) = _
      rw [e, eq, er, e2]
    · have l1 : p ≤ p ||| (q ^^^ r) := Nat.left_le_or
      have l2 : q ^^^ r ≤ p ||| (q ^^^ r) := Nat.right_le_or
      constructor
      · intro h0 i hi
        have p0 : p = 0 := by omega
        have x0 : q = r := xor_zero (by omega)
        by_cases him : i = m
        · subst him; rw [eq, er, x0]
        · exact h.1 p0 i (by omega)
      · intro hall
        have p0 : p = 0 := h.2 fun i hi => hall i (by omega)
        have x0 := hall m (by omega)
        rw [eq, er] at x0
        have : q = r := by omega
        rw [p0, this, Nat.xor_self]; rfl
def eqS (a b : ByteArray) : Bool := a.toList == b.toList
theorem eqS_self (a : ByteArray) : eqS a a = true := beq_self_eq_true _
theorem toList_inj {a b : ByteArray} (h : a.toList = b.toList) : a = b := by
  rw [ByteArray.toList_eq, ByteArray.toList_eq] at h
  exact ByteArray.ext (Array.toList_inj.1 h)
theorem eqS_iff (a b : ByteArray) : eqS a b = true ↔ a = b := by
  unfold eqS
  constructor
  · intro h; exact toList_inj (eq_of_beq h)
  · rintro rfl; exact beq_self_eq_true _
theorem same_iff (a b : ByteArray) (hs : a.size = b.size) : (accD a b (mnB a b).toNat == 0) = eqS a b := by
  obtain ⟨p, e, hp, h⟩ := accD_N a b (mnB a b).toNat
  have hm : (mnB a b).toNat = a.size := by unfold mnB; split <;> omega
  rw [hm] at h e ⊢
  rw [e, Bool.eq_iff_iff, eqS_iff]
  constructor
  · intro h0
    have h0 : p = 0 := by simpa using h0
    have hall := h.1 h0
    apply ByteArray.ext
    have hs' : a.data.size = b.data.size := hs
    refine Array.ext hs' fun i h1 h2 => ?_
    have := hall i h1
    unfold byteAt at this
    rw [dif_pos (show (i : Int).toNat < a.size from h1), dif_pos (show (i : Int).toNat < b.size from h2)] at this
    have : (a.data[i]'h1).toNat = (b.data[i]'h2).toNat := by exact_mod_cast this
    exact UInt8.toNat_inj.1 this
  · rintro rfl
    have : p = 0 := h.2 fun _ _ => rfl
    rw [this]; rfl
noncomputable def difG : Raw := fun f args hp =>
  if f = 24 then
    match args with
    | [x, y] =>
      match x.val?, y.val? with
      | some (.string a), some (.string b) => some (.val (.int .u8 (accD a b (mnB a b).toNat)), .pr (a.size ≤ 9223372036854775806))
      | _, _ => none
    | _ => none
  else none
theorem difG_ok : difG.Ok := by
  intro f args hp s c h hc B η w vs hr hargs
  unfold difG at h
  split at h
  · rename_i hf; subst hf
    split at h
    · rename_i x y
      split at h
      · rename_i a b h1 h2
        simp only [Option.some.injEq, Prod.mk.injEq] at h
        obtain ⟨rfl, rfl⟩ := h
        refine call24 a b hc ?_
        obtain ⟨v0, r0, rfl, g0, k0⟩ := hargs.cons_inv
        obtain ⟨v1, r1, rfl, g1, k1⟩ := k0.cons_inv
        simp only [Rs] at k1; subst k1
        exact Rs.cons (by simp only [R]; exact SV.val?_R h1 g0) (Rs.cons (by simp only [R]; exact SV.val?_R h2 g1) Rs.nil)
      · simp at h
    · simp at h
  · simp at h
theorem same_t (a b : ByteArray) : givesV (topR (rawP difG) (run (rawP difG) 80) 15 [.val (.string a), .val (.string b)] [] [true]) (.val (.bool (accD a b (mnB a b).toNat == 0))) [a.size ≤ 9223372036854775806, ((a.size : Int) == (b.size : Int)) = true] := by unfold givesV; kernel_rfl
theorem same_f (a b : ByteArray) : givesV (topR (rawP difG) (run (rawP difG) 80) 15 [.val (.string a), .val (.string b)] [] [false]) (.bol false) [a.size ≤ 9223372036854775806, ((a.size : Int) == (b.size : Int)) = false] := by unfold givesV; kernel_rfl
theorem call15 (a b : ByteArray) (ha : a.size ≤ 9223372036854775806) {w : World} {vs : List Value} (hargs : Rs [] [.val (.string a), .val (.string b)] vs) :
    Calls Tryd.prog 15 vs.toArray w (fun e w' => ∃ v, e = .returned v ∧ R [] (.val (.bool (eqS a b))) v ∧ Below w.heap.size w w') := by
  by_cases hs : a.size = b.size
  · refine (callsV (X := rawP difG) rfl (rawP_ct difG_ok) (rawP_lp _) 80 (same_t a b) ⟨ha, by rw [hs]; simp, trivial⟩ rfl (HR.none w) hargs).mono fun e w' hq => ?_
    rwa [same_iff a b hs] at hq
  · refine (callsV (X := rawP difG) rfl (rawP_ct difG_ok) (rawP_lp _) 80 (same_f a b) ⟨ha, by simp; omega, trivial⟩ rfl (HR.none w) hargs).mono fun e w' hq => ?_
    obtain ⟨v, rfl, hR, hb⟩ := hq
    refine ⟨v, rfl, ?_, hb⟩
    have : eqS a b = false := by
      cases h : eqS a b with
      | false => rfl
      | true => exact absurd (congrArg ByteArray.size ((eqS_iff a b).1 h)) hs
    rw [this]
    simpa only [R] using hR
noncomputable def sameG : Raw := fun f args hp =>
  if f = 15 then
    match args with
    | [.val (.string a), y] =>
      match y.val? with
      | some (.string b) => some (.val (.bool (eqS a b)), .pr (a.size ≤ 9223372036854775806))
      | _ => none
    | _ => none
  else none
theorem sameG_ok : sameG.Ok := by
  intro f args hp s c h hc B η w vs hr hargs
  unfold sameG at h
  split at h
  · rename_i hf; subst hf
    split at h
    · rename_i a y
      split at h
      · rename_i b h2
        simp only [Option.some.injEq, Prod.mk.injEq] at h
        obtain ⟨rfl, rfl⟩ := h
        refine call15 a b hc ?_
        obtain ⟨v0, r0, rfl, g0, k0⟩ := hargs.cons_inv
        obtain ⟨v1, r1, rfl, g1, k1⟩ := k0.cons_inv
        simp only [Rs] at k1; subst k1
        exact Rs.cons (by simpa only [R] using g0) (Rs.cons (by simp only [R]; exact SV.val?_R h2 g1) Rs.nil)
      · simp at h
    · simp at h
  · simp at h
end Go.Proofs.YtclafmabccbhjaaDoor
