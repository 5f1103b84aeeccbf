/-
  Walks of functions, reckoned through, and what they give (part K08t). No condition beyond what each says. By an AI agent.
-/
import Derived.Test.YtacgamdbmllaoaaDoorK08q
namespace Go.Proofs.YtacgamdbmllaoaaDoor
open Go.Ex
open Go.RowKit (Below)
set_option linter.unusedVariables false
set_option maxRecDepth 1000000
/-! ### Mac, Token, Idsn -/
def PM (n m a b : Int) (k0 m0 : ByteArray) (v : List Int) (g : Nat) (gl : List SV) : Prop := ba (bs8 n ++ bs8 m) = k0 ∧ ba (bs4 a ++ bs4 b) = m0 ∧ hmR shL.S k0.data.toList m0.data.toList = v ∧ g = 0 ∧ gl = glL
def PT (n : Int) (t0 : ByteArray) (w : List Int) (g : Nat) (gl : List SV) : Prop := ba (bs8 n) = t0 ∧ shL.S t0 = w ∧ g = 0 ∧ gl = glL
noncomputable def mc8 (v : List Int) (k0 m0 : ByteArray) : Raw := (hmW fun n => if n = 8 then some (v, k0, m0) else none).or joinR
theorem mac_gives (v : List Int) (k0 m0 : ByteArray) (n m a b : Int) : givesV (topR (hmX (mc8 v k0 m0)) (run (hmX (mc8 v k0 m0)) 80) 31 [.val (.int .u64 n), .val (.int .u64 m), .val (.int .u32 a), .val (.int .u32 b)] [globS] []) (dgS v) [PH (ba (bs8 n ++ bs8 m)) k0 (ba (bs4 a ++ bs4 b)) m0 v 0 glL] := by
  unfold givesV; kernel_rfl
theorem tok_gives (w : List Int) (t0 : ByteArray) (n : Int) : givesV (topR (hmX (sumW w t0)) (run (hmX (sumW w t0)) 80) 26 [.val (.int .u64 n)] [globS] []) (.val (.int .u32 (tokW w))) [PS (ba (bs8 n)) t0 w 0 glL] := by
  unfold givesV; kernel_rfl
theorem bs8_len (n : Int) : (bs8 n).length = 8 := rfl
theorem call25 (n m a b : Int) {B : Nat} {η : Env} {hp : List SO} {k : Nat} {w : World} {vs : List Value} (hr : HR B η hp w) (hk : hp[k]? = some globS) (hargs : Rs [] [.val (.int .u64 n), .val (.int .u64 m), .val (.int .u32 a), .val (.int .u32 b)] vs) :
    Calls Tryd.prog 31 vs.toArray w (fun e w' => ∃ v, e = .returned v ∧ R [] (dgS (hmR shL.S (bs8 n ++ bs8 m) (bs4 a ++ bs4 b))) v ∧ Below w.heap.size w w') := by
  obtain ⟨v, hv⟩ := HR.glob hr hk (by decide)
  exact callsV (X := hmX _) rfl (hmX_ct (Raw.or_ok (hmW_ok _) joinR_ok)) (hmX_lp _) 80 (mac_gives _ (ba (bs8 n ++ bs8 m)) (ba (bs4 a ++ bs4 b)) n m a b) ⟨⟨rfl, rfl, rfl, rfl, rfl, rfl, rfl⟩, trivial⟩ (dgS_free _) (hv _) (Rs.free _ _ rfl hargs)
theorem call12 (n : Int) {B : Nat} {η : Env} {hp : List SO} {k : Nat} {w : World} {vs : List Value} (hr : HR B η hp w) (hk : hp[k]? = some globS) (hargs : Rs [] [.val (.int .u64 n)] vs) :
    Calls Tryd.prog 26 vs.toArray w (fun e w' => ∃ v, e = .returned v ∧ R [] (.val (.int .u32 (tokW (shL.S (ba (bs8 n)))))) v ∧ Below w.heap.size w w') := by
  obtain ⟨v, hv⟩ := HR.glob hr hk (by decide)
  exact callsV (X := hmX _) rfl (hmX_ct (sumW_ok _ _)) (hmX_lp _) 80 (tok_gives _ (ba (bs8 n)) n) ⟨⟨rfl, by unfold ba; rw [baS, bs8_len]; omega, rfl, rfl, rfl⟩, trivial⟩ rfl (hv _) (Rs.free _ _ rfl hargs)
noncomputable def macG (v : List Int) (k0 m0 : ByteArray) : Raw := fun f args hp =>
  if f = 31 then
    match args, hp with
    | [x, y, z, t], .glob g gl :: _ =>
      match x.val?, y.val?, z.val?, t.val? with
      | some (.int .u64 n), some (.int .u64 m), some (.int .u32 a), some (.int .u32 b) => some (dgS v, .pr (PM n m a b k0 m0 v g gl))
      | _, _, _, _ => none
    | _, _ => none
  else none
theorem macG_ok (v : List Int) (k0 m0 : ByteArray) : (macG v k0 m0).Ok := by
  intro f args hp s c h hc B η w vs hr hargs
  unfold macG at h
  split at h
  · rename_i hf; subst hf
    split at h
    · rename_i x y z t g gl r
      split at h
      · rename_i n m a b h1 h2 h3 h4
        simp only [Option.some.injEq, Prod.mk.injEq] at h
        obtain ⟨rfl, rfl⟩ := h
        obtain ⟨rfl, rfl, rfl, rfl, rfl⟩ := hc
        refine call25 n m a b hr (k := 0) rfl ?_
        obtain ⟨v0, r0, rfl, g0, k0⟩ := hargs.cons_inv
        obtain ⟨v1, r1, rfl, g1, k1⟩ := k0.cons_inv
        obtain ⟨v2, r2, rfl, g2, k2⟩ := k1.cons_inv
        obtain ⟨v3, r3, rfl, g3, k3⟩ := k2.cons_inv
        simp only [Rs] at k3; subst k3
        exact Rs.cons (by simp only [R]; exact SV.val?_R h1 g0) (Rs.cons (by simp only [R]; exact SV.val?_R h2 g1) (Rs.cons (by simp only [R]; exact SV.val?_R h3 g2) (Rs.cons (by simp only [R]; exact SV.val?_R h4 g3) Rs.nil)))
      · simp at h
    · simp at h
  · simp at h
end Go.Proofs.YtacgamdbmllaoaaDoor
