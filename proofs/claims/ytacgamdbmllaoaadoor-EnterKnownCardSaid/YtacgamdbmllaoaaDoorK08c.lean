/-
  Walks of functions, reckoned through, and what they give (part K08c). No condition beyond what each says. By an AI agent.
-/
import Derived.Test.YtacgamdbmllaoaaDoorW06m
import Derived.Test.YtacgamdbmllaoaaDoorR08
namespace Go.Proofs.YtacgamdbmllaoaaDoor
open Go.Ex
open Go.RowKit (Below)
set_option linter.unusedVariables false
set_option maxRecDepth 1000000
/-! ### codes (hmac), of told keys and texts -/
def mixB (k : Int) (c : UInt8) : UInt8 := UInt8.ofNat (IntKind.u8.wrap ((BitVec.ofInt IntKind.u8.bits (c.toNat : Int) ^^^ BitVec.ofInt IntKind.u8.bits k).toNat : Int)).toNat
def mixL (k : Int) (l : List UInt8) : List UInt8 := l.map (mixB k) ++ List.replicate (64 - l.length) (UInt8.ofNat (Int.toNat k))
def idB (b : UInt8) : UInt8 := UInt8.ofNat (Int.toNat (b.toNat : Int))
def hmI (k t : List UInt8) : ByteArray := ⟨(mixL 54 k ++ t.map idB).toArray⟩
def dgL (w : List Int) : List UInt8 := (List.range 32).map fun i => UInt8.ofNat (Int.toNat (dB w i))
def hmO (k : List UInt8) (w : List Int) : ByteArray := ⟨(mixL 92 k ++ (dgL w).map idB).toArray⟩
def hmR (S : ByteArray → List Int) (k t : List UInt8) : List Int := S (hmO k (S (hmI k t)))
noncomputable def hmP (q : Sh) (k t : List UInt8) : Prop :=
  givesV (topR (rawX q (sumG q)) (run (rawX q (sumG q)) 80) 50 [.bts false k, .bts false t] [globS] []) (dgS (hmR q.S k t)) [P9 (hmI k t) 0 glL, P9 (hmO k (q.S (hmI k t))) 0 glL]
theorem hm_16_8 (q : Sh) (a0 a1 a2 a3 a4 a5 a6 a7 a8 a9 a10 a11 a12 a13 a14 a15 b0 b1 b2 b3 b4 b5 b6 b7 : UInt8) : hmP q [a0, a1, a2, a3, a4, a5, a6, a7, a8, a9, a10, a11, a12, a13, a14, a15] [b0, b1, b2, b3, b4, b5, b6, b7] := by
  unfold hmP givesV; kernel_rfl
theorem hml_16_8 (q : Sh) (k t : List UInt8) (hk : k.length = 16) (ht : t.length = 8) : hmP q k t :=
  match k, hk, t, ht with
  | a0 :: a1 :: a2 :: a3 :: a4 :: a5 :: a6 :: a7 :: a8 :: a9 :: a10 :: a11 :: a12 :: a13 :: a14 :: a15 :: [], _, b0 :: b1 :: b2 :: b3 :: b4 :: b5 :: b6 :: b7 :: [], _ => hm_16_8 q a0 a1 a2 a3 a4 a5 a6 a7 a8 a9 a10 a11 a12 a13 a14 a15 b0 b1 b2 b3 b4 b5 b6 b7
/-! ### contracts, their results named -/
theorem mixL_len (k : Int) (l : List UInt8) (h : l.length ≤ 64) : (mixL k l).length = 64 := by
  unfold mixL; rw [List.length_append, List.length_map, List.length_replicate]; omega
theorem baS (l : List UInt8) : (⟨l.toArray⟩ : ByteArray).size = l.length := by show l.toArray.size = _; simp
theorem hm_call (k t : List UInt8) (hk : k.length = 16) (ht : t.length = 8) {B : Nat} {η : Env} {hp : List SO} {j : Nat} {w : World} {vs : List Value} (hr : HR B η hp w) (hj : hp[j]? = some globS) (hargs : Rs [] [.bts false k, .bts false t] vs) :
    Calls Tryd.prog 50 vs.toArray w (fun e w' => ∃ v, e = .returned v ∧ R [] (dgS (hmR shL.S k t)) v ∧ Below w.heap.size w w') := by
  obtain ⟨v, hv⟩ := HR.glob hr hj (by decide)
  have hp : hmP shL k t := hml_16_8 shL k t hk ht
  have p1 : P9 (hmI k t) 0 glL := ⟨by unfold hmI; rw [baS, List.length_append, mixL_len _ _ (by omega), List.length_map]; omega, rfl, rfl⟩
  have p2 : P9 (hmO k (shL.S (hmI k t))) 0 glL := ⟨by unfold hmO; rw [baS, List.length_append, mixL_len _ _ (by omega), List.length_map]; unfold dgL; rw [List.length_map, List.length_range]; omega, rfl, rfl⟩
  exact callsV (X := rawX shL (sumG shL)) rfl (rawX_ct shL_F sumG_ok) (rawX_lp _ _) 80 hp ⟨p1, p2, trivial⟩ (dgS_free _) (hv _) (Rs.free _ _ rfl hargs)
def PS (t t0 : ByteArray) (w : List Int) (g : Nat) (gl : List SV) : Prop := t = t0 ∧ t0.size ≤ 9223372036854775807 ∧ shL.S t0 = w ∧ g = 0 ∧ gl = glL
noncomputable def sumW (w : List Int) (t0 : ByteArray) : Raw := fun f args hp =>
  if f = 46 then
    match args with
    | [tv] =>
      match hp with
      | .glob g gl :: _ =>
        match tv.val? with
        | some (.string t) => some (dgS w, .pr (PS t t0 w g gl))
        | _ => none
      | _ => none
    | _ => none
  else none
theorem sumW_ok (w : List Int) (t0 : ByteArray) : (sumW w t0).Ok := by
  intro f args hp s c h hc B η w' vs hr hargs
  unfold sumW at h
  split at h
  · rename_i hf; subst hf
    split at h
    · rename_i tv
      split at h
      · rename_i g gl r
        split at h
        · rename_i t ht
          simp only [Option.some.injEq, Prod.mk.injEq] at h
          obtain ⟨rfl, rfl⟩ := h
          obtain ⟨rfl, h1, rfl, rfl, rfl⟩ := hc
          refine call9 t h1 hr (k := 0) rfl ?_
          obtain ⟨a, x, rfl, g1, g2⟩ := hargs.cons_inv
          simp only [Rs] at g2; subst g2
          exact Rs.cons (by simp only [R]; exact SV.val?_R ht g1) Rs.nil
        · simp at h
      · simp at h
    · simp at h
  · simp at h
def PH (k k0 t t0 : ByteArray) (v : List Int) (g : Nat) (gl : List SV) : Prop := k = k0 ∧ t = t0 ∧ k0.size = 16 ∧ t0.size = 8 ∧ hmR shL.S k0.data.toList t0.data.toList = v ∧ g = 0 ∧ gl = glL
/-- Codes, by how long the text is. -/
noncomputable def hmW (h : Nat → Option (List Int × ByteArray × ByteArray)) : Raw := fun f args hp =>
  if f = 50 then
    match args with
    | [kv, .bts b tl] =>
      match hp with
      | .glob g gl :: _ =>
        match kv.val?, h tl.length with
        | some (.string k), some (v, k0, t0) => some (dgS v, .pr (PH k k0 ⟨tl.toArray⟩ t0 v g gl))
        | _, _ => none
      | _ => none
    | _ => none
  else none
theorem hmW_ok (h : Nat → Option (List Int × ByteArray × ByteArray)) : (hmW h).Ok := by
  intro f args hp s c hh hc B η w' vs hr hargs
  unfold hmW at hh
  split at hh
  · rename_i hf; subst hf
    split at hh
    · rename_i kv b tl
      split at hh
      · rename_i g gl r
        split at hh
        · rename_i k v k0 t0 hk h0
          simp only [Option.some.injEq, Prod.mk.injEq] at hh
          obtain ⟨rfl, rfl⟩ := hh
          obtain ⟨rfl, rfl, h1, h2, rfl, rfl, rfl⟩ := hc
          refine hm_call k.data.toList tl h1 (by rw [baS] at h2; exact h2) hr (j := 0) rfl ?_
          obtain ⟨a, x, rfl, g1, g2⟩ := hargs.cons_inv
          obtain ⟨a2, x2, rfl, g3, g4⟩ := g2.cons_inv
          simp only [Rs] at g4; subst g4
          have e1 := SV.val?_R hk g1
          refine Rs.cons (by simp only [R]; exact e1) (Rs.cons (by simpa only [R] using g3) Rs.nil)
        · simp at hh
      · simp at hh
    · simp at hh
  · simp at hh
noncomputable def joinR : Raw := fun f args hp => if f = 51 then joinG args hp else none
theorem joinR_ok : joinR.Ok := by
  intro f args hp s c h hc B η w vs hr hargs
  unfold joinR at h
  split at h
  · rename_i hf; subst hf
    exact joinG_ok args hp s c h hc B η w vs hr hargs
  · simp at h
noncomputable def rawP (g : Raw) : Cx :=
  ⟨Tryd.prog, fun f args hp => match g f args hp with
    | some (s, c) => if s.free then some (s, none, c) else none
    | none => none, fun _ _ _ _ => none⟩
theorem rawP_lp (g : Raw) : LpOk (rawP g) := fun _ _ _ _ _ _ _ h => by simp [rawP] at h
theorem rawP_ct {g : Raw} (hg : g.Ok) : CtOk (rawP g) := by
  intro f args hp s ho c h hc B η w vs hr hB hargs
  simp only [rawP] at h
  split at h
  · rename_i s1 c1 h1
    split at h
    · rename_i hs
      simp only [Option.some.injEq, Prod.mk.injEq] at h
      obtain ⟨rfl, rfl, rfl⟩ := h
      refine (hg f args hp _ _ h1 hc B η w vs hr hargs).mono fun e w' hq => ?_
      obtain ⟨v, rfl, hR, hb⟩ := hq
      exact ⟨v, [], rfl, R.free _ _ hs hR, by simpa using hr.below hb, hb.mono hB⟩
    · simp at h
  · simp at h
def globHead : List SO → Bool
  | .glob _ _ :: _ => true
  | _ => false
/-- These are not reckoned without the package's variable. -/
noncomputable def guardX (fs : List FuncId) (X : Cx) : Cx :=
  ⟨X.P, fun f args hp => if fs.contains f && !globHead hp then some (.hdl 0, none, .pr False) else X.ct f args hp, X.lp⟩
theorem guardX_ct {fs : List FuncId} {X : Cx} (h : CtOk X) : CtOk (guardX fs X) := by
  intro f args hp s ho c hh hc
  simp only [guardX] at hh
  split at hh
  · simp only [Option.some.injEq, Prod.mk.injEq] at hh
    obtain ⟨_, _, rfl⟩ := hh
    exact absurd hc (by intro h; exact h)
  · exact h f args hp s ho c hh hc
theorem guardX_lp {fs : List FuncId} {X : Cx} (h : LpOk X) : LpOk (guardX fs X) := h
noncomputable def hmX (g : Raw) : Cx := guardX [46, 50, 31, 26] (rawP g)
theorem hmX_ct {g : Raw} (hg : g.Ok) : CtOk (hmX g) := guardX_ct (rawP_ct hg)
theorem hmX_lp (g : Raw) : LpOk (hmX g) := guardX_lp (rawP_lp g)
def eqDg (a b : List Int) : Bool := (List.range 32).foldr (fun i r => (dB a i == dB b i) && r) true
theorem eqDg_self (a : List Int) : eqDg a a = true := by
  unfold eqDg
  generalize List.range 32 = l
  induction l with
  | nil => rfl
  | cons x l ih => simp only [List.foldr_cons, ih]; simp
end Go.Proofs.YtacgamdbmllaoaaDoor
