/-
  Walks of functions, reckoned through, and what they give (part K08x). No condition beyond what each says. By an AI agent.
-/
import Derived.Test.YtaeokmojogekaaaDoorK08u
namespace Go.Proofs.YtaeokmojogekaaaDoor
open Go.Ex
open Go.RowKit (Below)
set_option linter.unusedVariables false
set_option maxRecDepth 1000000
/-! ### KeySides -/
def mn (ip : ByteArray) : Int := if (100 : Int) < (ip.size : Int) then 100 else (ip.size : Int)
def cutI (ip : ByteArray) : ByteArray := ip.extract (Int.toNat 0) (mn ip).toNat
def eqB8 (x y : List Int) : Bool := (ba (e8L x)).toList == (ba (e8L y)).toList
theorem mn_size (ip : ByteArray) : 0 ≤ mn ip ∧ mn ip ≤ 100 ∧ mn ip ≤ (ip.size : Int) := by
  unfold mn; split <;> omega
theorem cutI_size (ip : ByteArray) : (cutI ip).size ≤ 100 := by
  unfold cutI
  rw [ByteArray.size_extract]
  have := mn_size ip
  omega
theorem eqB8_self (x : List Int) : eqB8 x x = true := beq_self_eq_true _
abbrev McF := Int → Int → Int → Int → List Int
noncomputable def macW : McF := fun n m a b => hmR shL.S (bs8 n ++ bs8 m) (bs4 a ++ bs4 b)
def PMf (M : McF) (g : Nat) (gl : List SV) : Prop := M = macW ∧ g = 0 ∧ gl = glL
noncomputable def macF (M : McF) : Raw := fun f args hp =>
  if f = 25 then
    match args, hp with
    | [x, y, z, t], .glob g gl :: _ =>
      match x.val?, y.val?, z.val?, t.val? with
      | some (.int .u64 n), some (.int .u64 m), some (.int .u32 a), some (.int .u32 b) => some (dgS (M n m a b), .pr (PMf M g gl))
      | _, _, _, _ => none
    | _, _ => none
  else none
theorem macF_ok (M : McF) : (macF M).Ok := by
  intro f args hp s c h hc B η w vs hr hargs
  unfold macF at h
  split at h
  · rename_i hf; subst hf
    split at h
    · rename_i x y z t g gl r
      split at h
      · rename_i n m a b h1 h2 h3 h4
        simp only [Option.some.injEq, Prod.mk.injEq] at h
        obtain ⟨rfl, rfl⟩ := h
        obtain ⟨rfl, rfl, rfl⟩ := hc
        refine call25 n m a b hr (k := 0) rfl ?_
        obtain ⟨v0, r0, rfl, g0, k0⟩ := hargs.cons_inv
        obtain ⟨v1, r1, rfl, g1, k1⟩ := k0.cons_inv
        obtain ⟨v2, r2, rfl, g2, k2⟩ := k1.cons_inv
        obtain ⟨v3, r3, rfl, g3, k3⟩ := k2.cons_inv
        simp only [Rs] at k3; subst k3
        exact Rs.cons (by simp only [R]; exact SV.val?_R h1 g0) (Rs.cons (by simp only [R]; exact SV.val?_R h2 g1) (Rs.cons (by simp only [R]; exact SV.val?_R h3 g2) (Rs.cons (by simp only [R]; exact SV.val?_R h4 g3) Rs.nil)))
      · simp at h
    · simp at h
  · simp at h
noncomputable def tkT : Int → Int := fun n => tokW (shL.S (ba (bs8 n)))
noncomputable def tkI : Int → Int := fun n => idsW (shL.S (ba (bs8 n)))
def PTf (T : Int → Int) (g : Nat) (gl : List SV) : Prop := T = tkT ∧ g = 0 ∧ gl = glL
def PIf (I : Int → Int) (g : Nat) (gl : List SV) : Prop := I = tkI ∧ g = 0 ∧ gl = glL
noncomputable def tokF (T I : Int → Int) : Raw := fun f args hp =>
  match args, hp with
  | [x], .glob g gl :: _ =>
    match x.val? with
    | some (.int .u64 n) => if f = 12 then some (.val (.int .u32 (T n)), .pr (PTf T g gl)) else if f = 14 then some (.val (.int .u64 (I n)), .pr (PIf I g gl)) else none
    | _ => none
  | _, _ => none
theorem tokF_ok (T I : Int → Int) : (tokF T I).Ok := by
  intro f args hp s c h hc B η w' vs hr hargs
  unfold tokF at h
  split at h
  · rename_i x g gl r
    split at h
    · rename_i n hx
      have ha : Rs [] [.val (.int .u64 n)] vs := by
        obtain ⟨v0, r0, rfl, g0, k0⟩ := hargs.cons_inv
        simp only [Rs] at k0; subst k0
        exact Rs.cons (by simp only [R]; exact SV.val?_R hx g0) Rs.nil
      split at h
      · rename_i hf; subst hf
        simp only [Option.some.injEq, Prod.mk.injEq] at h
        obtain ⟨rfl, rfl⟩ := h
        obtain ⟨rfl, rfl, rfl⟩ := hc
        exact call12 n hr (k := 0) rfl ha
      · split at h
        · rename_i hf; subst hf
          simp only [Option.some.injEq, Prod.mk.injEq] at h
          obtain ⟨rfl, rfl⟩ := h
          obtain ⟨rfl, rfl, rfl⟩ := hc
          exact call14i n hr (k := 0) rfl ha
        · simp at h
    · simp at h
  · simp at h
noncomputable def adH (A : AdF) : Raw := fun f args hp =>
  if f = 17 then
    match args, hp with
    | [x, y, .agg [i, t, b, p]], .glob g gl :: _ =>
      match x.val?, y.val?, i.val?, t.val?, b.val?, p.val? with
      | some (.int .u64 n), some (.int .u64 m), some (.int .i64 id), some (.string ip), some (.bool hb), some (.int .i64 q) => some (.bts false (e8L (A n m id ip (pq hb q))), .pr (PAd A ip g gl))
      | _, _, _, _, _, _ => none
    | _, _ => none
  else none
theorem adH_ok (A : AdF) : (adH A).Ok := by
  intro f args hp s c h hc B η w vs hr hargs
  unfold adH at h
  split at h
  · rename_i hf; subst hf
    split at h
    · rename_i x y i t b p g gl r
      split at h
      · rename_i n m id ip hb q h1 h2 h3 h4 h5 h6
        simp only [Option.some.injEq, Prod.mk.injEq] at h
        obtain ⟨rfl, rfl⟩ := h
        obtain ⟨rfl, hi, rfl, rfl⟩ := hc
        refine call17 hb n m id q ip hi hr (k := 0) rfl ?_
        obtain ⟨v0, r0, rfl, g0, k0⟩ := hargs.cons_inv
        obtain ⟨v1, r1, rfl, g1, k1⟩ := k0.cons_inv
        obtain ⟨v2, r2, rfl, g2, k2⟩ := k1.cons_inv
        simp only [Rs] at k2; subst k2
        obtain ⟨cs, rfl, g2⟩ := g2
        generalize hcs : cs.toList = cl at g2
        obtain ⟨w0, s0, rfl, f0, l0⟩ := g2.cons_inv
        obtain ⟨w1, s1, rfl, f1, l1⟩ := l0.cons_inv
        obtain ⟨w2, s2, rfl, f2, l2⟩ := l1.cons_inv
        obtain ⟨w3, s3, rfl, f3, l3⟩ := l2.cons_inv
        simp only [Rs] at l3; subst l3
        refine Rs.cons (by simp only [R]; exact SV.val?_R h1 g0) (Rs.cons (by simp only [R]; exact SV.val?_R h2 g1) (Rs.cons ⟨_, rfl, ?_⟩ Rs.nil))
        rw [hcs]
        exact Rs.cons (by simp only [R]; exact SV.val?_R h3 f0) (Rs.cons (by simp only [R]; exact SV.val?_R h4 f1) (Rs.cons (by simp only [R]; exact SV.val?_R h5 f2) (Rs.cons (by simp only [R]; exact SV.val?_R h6 f3) Rs.nil)))
      · simp at h
    · simp at h
  · simp at h
def eqB20 (x y : List Int) : Bool := (byL x 0 20).toList == (byL y 0 20).toList
def xb (b : UInt8) : Int := IntKind.u8.wrap ((BitVec.ofInt IntKind.u8.bits (b.toNat : Int) ^^^ BitVec.ofInt IntKind.u8.bits (b.toNat : Int)).toNat : Int)
def orD (d e : Int) : Int := IntKind.u8.wrap ((BitVec.ofInt IntKind.u8.bits d ||| BitVec.ofInt IntKind.u8.bits e).toNat : Int)
def chn (l : List UInt8) : Int := l.foldl (fun d b => orD d (xb b)) 0
theorem xb_zero (b : UInt8) : xb b = 0 := by
  unfold xb; rw [BitVec.xor_self]; rfl
theorem chn_zero : ∀ l : List UInt8, chn l = 0
  | [] => rfl
  | b :: l => by
    unfold chn
    rw [List.foldl_cons, xb_zero]
    exact chn_zero l
noncomputable def sdR (M : McF) (T I : Int → Int) (A : AdF) : Raw := worksG.or ((adH A).or ((macF M).or (tokF T I)))
noncomputable def LSd (M : McF) (T I : Int → Int) (A : AdF) (n m a b n' m' a' b' id p : Int) (ip : ByteArray) (hb : Bool) (d : Bool) : List Prop :=
  [Pg 0 glL, 0 ≤ (0 : Int) ∧ 0 ≤ mn ip ∧ mn ip ≤ (ip.size : Int), PMf M 0 glL, PAd A (cutI ip) 0 glL, PMf M 0 glL, PAd A (cutI ip) 0 glL, PMf M 0 glL, eqB20 (M n m a b) (M n m a b) = true, PAd A (cutI ip) 0 glL,
   eqB8 (A n m id (cutI ip) (pq hb p)) (A n m id (cutI ip) (pq hb p)) = true, PTf T 0 glL, PTf T 0 glL, (T n' == T n') = true, (n != n') = d] ++
  (if d then [] else [PIf I 0 glL, PIf I 0 glL, (I n == I n') = true]) ++ [PMf M 0 glL]
noncomputable def sdV (M : McF) (n m a b : Int) : SV := .val (.bool (chn ((List.range 20).map fun i => byB (M n m a b) i) == 0))
theorem sides_t (M : McF) (T I : Int → Int) (A : AdF) (n m a b n' m' a' b' id p : Int) (ip : ByteArray) (hb : Bool) : givesV (topR (hmX (sdR M T I A)) (run (hmX (sdR M T I A)) 80) 9 [.agg [.val (.int .u64 n), .val (.int .u64 m), .val (.int .u32 a), .val (.int .u32 b)], .agg [.val (.int .u64 n'), .val (.int .u64 m'), .val (.int .u32 a'), .val (.int .u32 b')], .agg [.val (.int .i64 id), .val (.string ip), .val (.bool hb), .val (.int .i64 p)]] [globS] [true, true, true, true]) (sdV M n m a b) (LSd M T I A n m a b n' m' a' b' id p ip hb true) := by
  unfold givesV; kernel_rfl
theorem sides_f (M : McF) (T I : Int → Int) (A : AdF) (n m a b n' m' a' b' id p : Int) (ip : ByteArray) (hb : Bool) : givesV (topR (hmX (sdR M T I A)) (run (hmX (sdR M T I A)) 80) 9 [.agg [.val (.int .u64 n), .val (.int .u64 m), .val (.int .u32 a), .val (.int .u32 b)], .agg [.val (.int .u64 n'), .val (.int .u64 m'), .val (.int .u32 a'), .val (.int .u32 b')], .agg [.val (.int .i64 id), .val (.string ip), .val (.bool hb), .val (.int .i64 p)]] [globS] [true, true, true, false, true]) (sdV M n m a b) (LSd M T I A n m a b n' m' a' b' id p ip hb false) := by
  unfold givesV; kernel_rfl
theorem sides_call (n m a b n' m' a' b' id p : Int) (ip : ByteArray) (hb : Bool) {η : Env} {W : World} {vs : List Value} (hr : HR W.heap.size η [globS] W)
    (hargs : Rs η [.agg [.val (.int .u64 n), .val (.int .u64 m), .val (.int .u32 a), .val (.int .u32 b)], .agg [.val (.int .u64 n'), .val (.int .u64 m'), .val (.int .u32 a'), .val (.int .u32 b')], .agg [.val (.int .i64 id), .val (.string ip), .val (.bool hb), .val (.int .i64 p)]] vs) :
    Calls Tryd.prog 9 vs.toArray W (fun e w' => ∃ v, e = .returned v ∧ v = .bool true ∧ Below W.heap.size W w') := by
  have hok : (sdR macW tkT tkI adW).Ok := Raw.or_ok worksG_ok (Raw.or_ok (adH_ok _) (Raw.or_ok (macF_ok _) (tokF_ok _ _)))
  have hs := cutI_size ip
  have hm := mn_size ip
  have pa : PAd adW (cutI ip) 0 glL := ⟨rfl, by omega, rfl, rfl⟩
  have pm : PMf macW 0 glL := ⟨rfl, rfl, rfl⟩
  have pt : PTf tkT 0 glL := ⟨rfl, rfl, rfl⟩
  have pi : PIf tkI 0 glL := ⟨rfl, rfl, rfl⟩
  have p0 : Pg 0 glL := ⟨rfl, rfl⟩
  have p1 : 0 ≤ (0 : Int) ∧ 0 ≤ mn ip ∧ mn ip ≤ (ip.size : Int) := ⟨by omega, hm.1, hm.2.2⟩
  cases hd : (n != n') with
  | true =>
    exact (callsV (X := hmX _) rfl (hmX_ct hok) (hmX_lp _) 80 (sides_t _ _ _ _ n m a b n' m' a' b' id p ip hb) ⟨p0, p1, pm, pa, pm, pa, pm, beq_self_eq_true _, pa, eqB8_self _, pt, pt, beq_self_eq_true _, hd, pm, trivial⟩ rfl hr hargs).mono fun e w' hq => by
      obtain ⟨v, rfl, hR, hb⟩ := hq
      unfold sdV at hR
      rw [chn_zero] at hR
      simp only [R] at hR
      exact ⟨_, rfl, hR, hb⟩
  | false =>
    have hn : n = n' := by simpa using hd
    exact (callsV (X := hmX _) rfl (hmX_ct hok) (hmX_lp _) 80 (sides_f _ _ _ _ n m a b n' m' a' b' id p ip hb) ⟨p0, p1, pm, pa, pm, pa, pm, beq_self_eq_true _, pa, eqB8_self _, pt, pt, beq_self_eq_true _, hd, pi, pi, by rw [hn]; exact beq_self_eq_true _, pm, trivial⟩ rfl hr hargs).mono fun e w' hq => by
      obtain ⟨v, rfl, hR, hb⟩ := hq
      unfold sdV at hR
      rw [chn_zero] at hR
      simp only [R] at hR
      exact ⟨_, rfl, hR, hb⟩
end Go.Proofs.YtaeokmojogekaaaDoor
