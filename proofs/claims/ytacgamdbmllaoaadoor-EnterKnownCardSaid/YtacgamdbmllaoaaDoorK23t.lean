/-
  Walks of functions, reckoned through, and what they give (part K23t). No condition beyond what each says. By an AI agent.
-/
import Derived.Test.YtacgamdbmllaoaaDoorK08t
namespace Go.Proofs.YtacgamdbmllaoaaDoor
open Go.Ex
open Go.RowKit (Below)
set_option linter.unusedVariables false
set_option maxRecDepth 1000000
/-! ### Token, Short, Long: by functions that are named -/
abbrev McF := Int → Int → Int → Int → List Int
noncomputable def macW : McF := fun n m a b => hmR shL.S (bs8 n ++ bs8 m) (bs4 a ++ bs4 b)
def PMf (M : McF) (g : Nat) (gl : List SV) : Prop := M = macW ∧ g = 0 ∧ gl = glL
noncomputable def macF (M : McF) : Raw := fun f args hp =>
  if f = 31 then
    match args, hp with
    | [x, y, z, t], .glob g gl :: _ =>
      match x.val?, y.val?, z.val?, t.val? with
      | some (.int .u64 n), some (.int .u64 m), some (.int .u32 a), some (.int .u32 b) => some (dgS (M n m a b), .pr (PMf M g gl))
      | _, _, _, _ => none
    | _, _ => none
  else none
theorem args4 {η : Env} {x y z t : SV} {vs : List Value} {n m a b : Int} (h1 : x.val? = some (.int .u64 n)) (h2 : y.val? = some (.int .u64 m)) (h3 : z.val? = some (.int .u32 a)) (h4 : t.val? = some (.int .u32 b)) (hargs : Rs η [x, y, z, t] vs) :
    Rs [] [.val (.int .u64 n), .val (.int .u64 m), .val (.int .u32 a), .val (.int .u32 b)] vs := by
  obtain ⟨v0, r0, rfl, g0, k0⟩ := hargs.cons_inv
  obtain ⟨v1, r1, rfl, g1, k1⟩ := k0.cons_inv
  obtain ⟨v2, r2, rfl, g2, k2⟩ := k1.cons_inv
  obtain ⟨v3, r3, rfl, g3, k3⟩ := k2.cons_inv
  simp only [Rs] at k3; subst k3
  exact Rs.cons (by simp only [R]; exact SV.val?_R h1 g0) (Rs.cons (by simp only [R]; exact SV.val?_R h2 g1) (Rs.cons (by simp only [R]; exact SV.val?_R h3 g2) (Rs.cons (by simp only [R]; exact SV.val?_R h4 g3) Rs.nil)))
theorem macF_ok (M : McF) : (macF M).Ok := by
  intro f args hp s c h hc B η w vs hr hargs
  unfold macF at h
  split at h
  · rename_i hf; subst hf
    split at h
    · rename_i x y z t g gl r
      split at h
      · rename_i n m a b h1 h2 h3 h4
        simp only [Option.some.injEq, Prod.mk.injEq] at h
        obtain ⟨rfl, rfl⟩ := h
        obtain ⟨rfl, rfl, rfl⟩ := hc
        exact call25 n m a b hr (k := 0) rfl (args4 h1 h2 h3 h4 hargs)
      · simp at h
    · simp at h
  · simp at h
def byL' (w : List Int) (n : Nat) : List UInt8 := (List.range n).map fun i => byB w i
theorem short_gives (M : McF) (n m a b : Int) : givesV (topR (hmX (macF M)) (run (hmX (macF M)) 80) 27 [.val (.int .u64 n), .val (.int .u64 m), .val (.int .u32 a), .val (.int .u32 b)] [globS] []) (.bts false (byL' (M n m a b) 8)) [PMf M 0 glL] := by
  unfold givesV; kernel_rfl
theorem long_gives (M : McF) (n m a b : Int) : givesV (topR (hmX (macF M)) (run (hmX (macF M)) 80) 17 [.val (.int .u64 n), .val (.int .u64 m), .val (.int .u32 a), .val (.int .u32 b)] [globS] []) (.bts false (byL' (M n m a b) 20)) [PMf M 0 glL] := by
  unfold givesV; kernel_rfl
abbrev TxF := Int → Int → Int → Int → List UInt8
noncomputable def shW : TxF := fun n m a b => byL' (macW n m a b) 8
noncomputable def lgW : TxF := fun n m a b => byL' (macW n m a b) 20
theorem call27 (n m a b : Int) {B : Nat} {η : Env} {hp : List SO} {k : Nat} {w : World} {vs : List Value} (hr : HR B η hp w) (hk : hp[k]? = some globS) (hargs : Rs [] [.val (.int .u64 n), .val (.int .u64 m), .val (.int .u32 a), .val (.int .u32 b)] vs) :
    Calls Tryd.prog 27 vs.toArray w (fun e w' => ∃ v, e = .returned v ∧ R [] (.val (.string ⟨(shW n m a b).toArray⟩)) v ∧ Below w.heap.size w w') := by
  obtain ⟨v, hv⟩ := HR.glob hr hk (by decide)
  refine (callsV (X := hmX _) rfl (hmX_ct (macF_ok macW)) (hmX_lp _) 80 (short_gives macW n m a b) ⟨⟨rfl, rfl, rfl⟩, trivial⟩ rfl (hv _) (Rs.free _ _ rfl hargs)).mono fun e w' hq => ?_
  obtain ⟨v, rfl, hR, hb⟩ := hq
  exact ⟨v, rfl, by simp only [R] at hR ⊢; exact hR, hb⟩
theorem call17 (n m a b : Int) {B : Nat} {η : Env} {hp : List SO} {k : Nat} {w : World} {vs : List Value} (hr : HR B η hp w) (hk : hp[k]? = some globS) (hargs : Rs [] [.val (.int .u64 n), .val (.int .u64 m), .val (.int .u32 a), .val (.int .u32 b)] vs) :
    Calls Tryd.prog 17 vs.toArray w (fun e w' => ∃ v, e = .returned v ∧ R [] (.val (.string ⟨(lgW n m a b).toArray⟩)) v ∧ Below w.heap.size w w') := by
  obtain ⟨v, hv⟩ := HR.glob hr hk (by decide)
  refine (callsV (X := hmX _) rfl (hmX_ct (macF_ok macW)) (hmX_lp _) 80 (long_gives macW n m a b) ⟨⟨rfl, rfl, rfl⟩, trivial⟩ rfl (hv _) (Rs.free _ _ rfl hargs)).mono fun e w' hq => ?_
  obtain ⟨v, rfl, hR, hb⟩ := hq
  exact ⟨v, rfl, by simp only [R] at hR ⊢; exact hR, hb⟩
def PSf (S : TxF) (g : Nat) (gl : List SV) : Prop := S = shW ∧ g = 0 ∧ gl = glL
def PLf (L : TxF) (g : Nat) (gl : List SV) : Prop := L = lgW ∧ g = 0 ∧ gl = glL
noncomputable def cutF (S L : TxF) : Raw := fun f args hp =>
  match args, hp with
  | [x, y, z, t], .glob g gl :: _ =>
    match x.val?, y.val?, z.val?, t.val? with
    | some (.int .u64 n), some (.int .u64 m), some (.int .u32 a), some (.int .u32 b) =>
      if f = 27 then some (.val (.string ⟨(S n m a b).toArray⟩), .pr (PSf S g gl))
      else if f = 17 then some (.val (.string ⟨(L n m a b).toArray⟩), .pr (PLf L g gl)) else none
    | _, _, _, _ => none
  | _, _ => none
theorem cutF_ok (S L : TxF) : (cutF S L).Ok := by
  intro f args hp s c h hc B η w vs hr hargs
  unfold cutF at h
  split at h
  · rename_i x y z t g gl r
    split at h
    · rename_i n m a b h1 h2 h3 h4
      split at h
      · rename_i hf; subst hf
        simp only [Option.some.injEq, Prod.mk.injEq] at h
        obtain ⟨rfl, rfl⟩ := h
        obtain ⟨rfl, rfl, rfl⟩ := hc
        exact call27 n m a b hr (k := 0) rfl (args4 h1 h2 h3 h4 hargs)
      · split at h
        · rename_i hf; subst hf
          simp only [Option.some.injEq, Prod.mk.injEq] at h
          obtain ⟨rfl, rfl⟩ := h
          obtain ⟨rfl, rfl, rfl⟩ := hc
          exact call17 n m a b hr (k := 0) rfl (args4 h1 h2 h3 h4 hargs)
        · simp at h
    · simp at h
  · simp at h
noncomputable def tkT : Int → Int := fun n => tokW (shL.S (ba (bs8 n)))
def PTf (T : Int → Int) (g : Nat) (gl : List SV) : Prop := T = tkT ∧ g = 0 ∧ gl = glL
noncomputable def tokF (T : Int → Int) : Raw := fun f args hp =>
  match args, hp with
  | [x], .glob g gl :: _ =>
    match x.val? with
    | some (.int .u64 n) => if f = 26 then some (.val (.int .u32 (T n)), .pr (PTf T g gl)) else none
    | _ => none
  | _, _ => none
theorem tokF_ok (T : Int → Int) : (tokF T).Ok := by
  intro f args hp s c h hc B η w' vs hr hargs
  unfold tokF at h
  split at h
  · rename_i x g gl r
    split at h
    · rename_i n hx
      have ha : Rs [] [.val (.int .u64 n)] vs := by
        obtain ⟨v0, r0, rfl, g0, k0⟩ := hargs.cons_inv
        simp only [Rs] at k0; subst k0
        exact Rs.cons (by simp only [R]; exact SV.val?_R hx g0) Rs.nil
      split at h
      · rename_i hf; subst hf
        simp only [Option.some.injEq, Prod.mk.injEq] at h
        obtain ⟨rfl, rfl⟩ := h
        obtain ⟨rfl, rfl, rfl⟩ := hc
        exact call12 n hr (k := 0) rfl ha
      · simp at h
    · simp at h
  · simp at h
noncomputable def enX (g : Raw) : Cx := guardX [46, 50, 31, 26, 27, 17, 9] (rawP g)
theorem enX_ct {g : Raw} (hg : g.Ok) : CtOk (enX g) := guardX_ct (rawP_ct hg)
theorem enX_lp (g : Raw) : LpOk (enX g) := guardX_lp (rawP_lp g)
end Go.Proofs.YtacgamdbmllaoaaDoor
