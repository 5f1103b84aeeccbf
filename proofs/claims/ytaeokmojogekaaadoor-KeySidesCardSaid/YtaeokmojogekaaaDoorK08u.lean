/-
  Walks of functions, reckoned through, and what they give (part K08u). No condition beyond what each says. By an AI agent.
-/
import Derived.Test.YtaeokmojogekaaaDoorK08w
namespace Go.Proofs.YtaeokmojogekaaaDoor
open Go.Ex
open Go.RowKit (Below)
set_option linter.unusedVariables false
set_option maxRecDepth 1000000
/-! ### codes (hmac) of an untold text, under a key of sixteen told bytes -/
def mixC (k : Int) (c : UInt8) : SV := .val (.int .u8 (IntKind.u8.wrap ((BitVec.ofInt IntKind.u8.bits (c.toNat : Int) ^^^ BitVec.ofInt IntKind.u8.bits k).toNat : Int)))
def mixCs (k : Int) (l : List UInt8) : List SV := l.map (mixC k) ++ List.replicate (64 - l.length) (.num .u8 k)
def hmJ (k : List UInt8) (t : ByteArray) : ByteArray := ⟨(mixL 54 k).toArray⟩ ++ t
def hmU (S : ByteArray → List Int) (k : List UInt8) (t : ByteArray) : List Int := S (hmO k (S (hmJ k t)))
noncomputable def LU (S : ByteArray → List Int) (k : List UInt8) (t : ByteArray) : List Prop :=
  [64 ≤ IntKind.i64.wrap (64 + (t.size : Int)) ∧ ((1 : Nat) : Int) * IntKind.i64.wrap (64 + (t.size : Int)) ≤ 281474976710656 ∧ IntKind.i64.wrap (64 + (t.size : Int)) ≤ 1000000000,
   (64 + t.size ≤ 1000000000 ∧ (64 + t.size) * 1 ≤ 1000000000) ∧ inBs (mixCs 54 k), 64 + t.size = (hmJ k t).size, P9 (hmJ k t) 0 glL, P9 (hmO k (S (hmJ k t))) 0 glL]
theorem of_16 (q : Sh) (a0 a1 a2 a3 a4 a5 a6 a7 a8 a9 a10 a11 a12 a13 a14 a15 : UInt8) (t : ByteArray) :
    givesV (topR (rawX q (sumG q)) (run (rawX q (sumG q)) 80) 21 [.bts false [a0, a1, a2, a3, a4, a5, a6, a7, a8, a9, a10, a11, a12, a13, a14, a15], .val (.string t)] [globS] []) (dgS (hmU q.S [a0, a1, a2, a3, a4, a5, a6, a7, a8, a9, a10, a11, a12, a13, a14, a15] t)) (LU q.S [a0, a1, a2, a3, a4, a5, a6, a7, a8, a9, a10, a11, a12, a13, a14, a15] t) := by
  unfold givesV; kernel_rfl
theorem inBs_rep (n : Nat) : inBs (List.replicate n (.num .u8 54)) := by
  induction n with
  | zero => exact trivial
  | succ n ih => exact ⟨by decide, ih⟩
theorem inBs_mix : ∀ l : List UInt8, ∀ r, inBs r → inBs (l.map (mixC 54) ++ r)
  | [], r, h => h
  | c :: l, r, h => by
    refine ⟨?_, inBs_mix l r h⟩
    rw [wu8]; omega
theorem hmJ_size (k : List UInt8) (t : ByteArray) (hk : k.length ≤ 64) : (hmJ k t).size = 64 + t.size := by
  unfold hmJ; rw [ByteArray.size_append, baS, mixL_len _ _ hk]
theorem hmO_size (k : List UInt8) (w : List Int) (hk : k.length ≤ 64) : (hmO k w).size = 96 := by
  unfold hmO; rw [baS, List.length_append, mixL_len _ _ hk, List.length_map]; unfold dgL; rw [List.length_map, List.length_range]
theorem LU_all (S : ByteArray → List Int) (k : List UInt8) (t : ByteArray) (hk : k.length = 16) (ht : t.size ≤ 1000) : AllP (LU S k t) := by
  have e : IntKind.i64.wrap (64 + (t.size : Int)) = 64 + (t.size : Int) := by rw [wi64]; omega
  have h1 := hmJ_size k t (by omega)
  refine ⟨by rw [e]; omega, ⟨by omega, inBs_mix k _ (inBs_rep _)⟩, h1.symm, ⟨by omega, rfl, rfl⟩, ⟨by rw [hmO_size _ _ (by omega)]; omega, rfl, rfl⟩, trivial⟩
theorem hm_callU (k : List UInt8) (hk : k.length = 16) (t : ByteArray) (ht : t.size ≤ 1000) {B : Nat} {η : Env} {hp : List SO} {j : Nat} {w : World} {vs : List Value} (hr : HR B η hp w) (hj : hp[j]? = some globS) (hargs : Rs [] [.bts false k, .val (.string t)] vs) :
    Calls Tryd.prog 21 vs.toArray w (fun e w' => ∃ v, e = .returned v ∧ R [] (dgS (hmU shL.S k t)) v ∧ Below w.heap.size w w') := by
  obtain ⟨v, hv⟩ := HR.glob hr hj (by decide)
  have hl := LU_all shL.S k t hk ht
  match k, hk with
  | [a0, a1, a2, a3, a4, a5, a6, a7, a8, a9, a10, a11, a12, a13, a14, a15], _ =>
    exact callsV (X := rawX shL (sumG shL)) rfl (rawX_ct shL_F sumG_ok) (rawX_lp _ _) 80 (of_16 shL a0 a1 a2 a3 a4 a5 a6 a7 a8 a9 a10 a11 a12 a13 a14 a15 t) hl (dgS_free _) (hv _) (Rs.free _ _ rfl hargs)
/-! ### codes of addresses -/
def PV (k k0 t t0 : ByteArray) (v : List Int) (g : Nat) (gl : List SV) : Prop := k = k0 ∧ t = t0 ∧ k0.size = 16 ∧ t0.size ≤ 1000 ∧ hmU shL.S k0.data.toList t0 = v ∧ g = 0 ∧ gl = glL
noncomputable def hmV (v : List Int) (k0 t0 : ByteArray) : Raw := fun f args hp =>
  if f = 21 then
    match args with
    | [kv, tv] =>
      match hp with
      | .glob g gl :: _ =>
        match kv.val?, tv.val? with
        | some (.string k), some (.string t) => some (dgS v, .pr (PV k k0 t t0 v g gl))
        | _, _ => none
      | _ => none
    | _ => none
  else none
theorem hmV_ok (v : List Int) (k0 t0 : ByteArray) : (hmV v k0 t0).Ok := by
  intro f args hp s c hh hc B η w vs hr hargs
  unfold hmV at hh
  split at hh
  · rename_i hf; subst hf
    split at hh
    · rename_i kv tv
      split at hh
      · rename_i g gl r
        split at hh
        · rename_i k t hk ht
          simp only [Option.some.injEq, Prod.mk.injEq] at hh
          obtain ⟨rfl, rfl⟩ := hh
          obtain ⟨rfl, rfl, h1, h2, rfl, rfl, rfl⟩ := hc
          refine hm_callU k.data.toList h1 t h2 hr (j := 0) rfl ?_
          obtain ⟨a, x, rfl, g1, g2⟩ := hargs.cons_inv
          obtain ⟨a2, x2, rfl, g3, g4⟩ := g2.cons_inv
          simp only [Rs] at g4; subst g4
          have e1 := SV.val?_R hk g1
          have e2 := SV.val?_R ht g3
          refine Rs.cons (by simp only [R]; exact e1) (Rs.cons (by simp only [R]; exact e2) Rs.nil)
        · simp at hh
      · simp at hh
    · simp at hh
  · simp at hh
def adT (id : Int) (ip : ByteArray) (p : Int) : ByteArray := ba [bb (IntKind.u64.wrap (IntKind.u8.wrap id))] ++ ip ++ ba [bb (shB (IntKind.u64.wrap (IntKind.u16.wrap p))), bb (IntKind.u64.wrap (IntKind.u16.wrap p))]
def e8L (w : List Int) : List UInt8 := [byB w 24, byB w 25, byB w 26, byB w 27, byB w 28, byB w 29, byB w 30, byB w 31]
noncomputable def adR (v : List Int) (k0 t0 : ByteArray) : Raw := (hmV v k0 t0).or joinR
noncomputable def LAd (v : List Int) (k0 t0 : ByteArray) (n m id p : Int) (ip : ByteArray) : List Prop := [(adT id ip p).size ≤ 140737488355328, PV (ba (bs8 n ++ bs8 m)) k0 (adT id ip p) t0 v 0 glL]
theorem ad_t (v : List Int) (k0 t0 : ByteArray) (n m id p : Int) (ip : ByteArray) : givesV (topR (hmX (adR v k0 t0)) (run (hmX (adR v k0 t0)) 80) 17 [.val (.int .u64 n), .val (.int .u64 m), .agg [.val (.int .i64 id), .val (.string ip), .bol true, .val (.int .i64 p)]] [globS] []) (.bts false (e8L v)) (LAd v k0 t0 n m id p ip) := by
  unfold givesV; kernel_rfl
theorem ad_f (v : List Int) (k0 t0 : ByteArray) (n m id p : Int) (ip : ByteArray) : givesV (topR (hmX (adR v k0 t0)) (run (hmX (adR v k0 t0)) 80) 17 [.val (.int .u64 n), .val (.int .u64 m), .agg [.val (.int .i64 id), .val (.string ip), .bol false, .val (.int .i64 p)]] [globS] []) (.bts false (e8L v)) (LAd v k0 t0 n m id 0 ip) := by
  unfold givesV; kernel_rfl
/-- The code of an address. -/
noncomputable def adW (n m id : Int) (ip : ByteArray) (p : Int) : List Int := hmU shL.S (bs8 n ++ bs8 m) (adT id ip p)
theorem adT_size (id : Int) (ip : ByteArray) (p : Int) : (adT id ip p).size = 3 + ip.size := by
  have e1 : ∀ a, (ba [a]).size = 1 := fun _ => rfl
  have e2 : ∀ a b, (ba [a, b]).size = 2 := fun _ _ => rfl
  unfold adT; rw [ByteArray.size_append, ByteArray.size_append, e1, e2]; omega
def pq (b : Bool) (p : Int) : Int := if b then p else 0
theorem call17 (b : Bool) (n m id p : Int) (ip : ByteArray) (hi : ip.size ≤ 900) {B : Nat} {η : Env} {hp : List SO} {k : Nat} {w : World} {vs : List Value} (hr : HR B η hp w) (hk : hp[k]? = some globS)
    (hargs : Rs [] [.val (.int .u64 n), .val (.int .u64 m), .agg [.val (.int .i64 id), .val (.string ip), .bol b, .val (.int .i64 p)]] vs) :
    Calls Tryd.prog 17 vs.toArray w (fun e w' => ∃ v, e = .returned v ∧ R [] (.bts false (e8L (adW n m id ip (pq b p)))) v ∧ Below w.heap.size w w') := by
  obtain ⟨v, hv⟩ := HR.glob hr hk (by decide)
  have hok : (adR (adW n m id ip (pq b p)) (ba (bs8 n ++ bs8 m)) (adT id ip (pq b p))).Ok := Raw.or_ok (hmV_ok _ _ _) joinR_ok
  have hs := adT_size id ip (pq b p)
  have hL : AllP (LAd (adW n m id ip (pq b p)) (ba (bs8 n ++ bs8 m)) (adT id ip (pq b p)) n m id (pq b p) ip) :=
    ⟨by omega, ⟨rfl, rfl, rfl, by omega, rfl, rfl, rfl⟩, trivial⟩
  cases b with
  | true => exact callsV (X := hmX _) rfl (hmX_ct hok) (hmX_lp _) 80 (ad_t _ _ _ n m id p ip) hL rfl (hv _) (Rs.free _ _ rfl hargs)
  | false => exact callsV (X := hmX _) rfl (hmX_ct hok) (hmX_lp _) 80 (ad_f _ _ _ n m id p ip) hL rfl (hv _) (Rs.free _ _ rfl hargs)
abbrev AdF := Int → Int → Int → ByteArray → Int → List Int
def PAd (A : AdF) (ip : ByteArray) (g : Nat) (gl : List SV) : Prop := A = adW ∧ ip.size ≤ 900 ∧ g = 0 ∧ gl = glL
noncomputable def adG (A : AdF) : Raw := fun f args hp =>
  if f = 17 then
    match args, hp with
    | [x, y, .agg [i, t, .bol b, p]], .glob g gl :: _ =>
      match x.val?, y.val?, i.val?, t.val?, p.val? with
      | some (.int .u64 n), some (.int .u64 m), some (.int .i64 id), some (.string ip), some (.int .i64 q) => some (.bts false (e8L (A n m id ip (pq b q))), .pr (PAd A ip g gl))
      | _, _, _, _, _ => none
    | _, _ => none
  else none
theorem adG_ok (A : AdF) : (adG A).Ok := by
  intro f args hp s c h hc B η w vs hr hargs
  unfold adG at h
  split at h
  · rename_i hf; subst hf
    split at h
    · rename_i x y i t b p g gl r
      split at h
      · rename_i n m id ip q h1 h2 h3 h4 h5
        simp only [Option.some.injEq, Prod.mk.injEq] at h
        obtain ⟨rfl, rfl⟩ := h
        obtain ⟨rfl, hi, rfl, rfl⟩ := hc
        refine call17 b n m id q ip hi hr (k := 0) rfl ?_
        obtain ⟨v0, r0, rfl, g0, k0⟩ := hargs.cons_inv
        obtain ⟨v1, r1, rfl, g1, k1⟩ := k0.cons_inv
        obtain ⟨v2, r2, rfl, g2, k2⟩ := k1.cons_inv
        simp only [Rs] at k2; subst k2
        obtain ⟨cs, rfl, g2⟩ := g2
        generalize hcs : cs.toList = cl at g2
        obtain ⟨w0, s0, rfl, f0, l0⟩ := g2.cons_inv
        obtain ⟨w1, s1, rfl, f1, l1⟩ := l0.cons_inv
        obtain ⟨w2, s2, rfl, f2, l2⟩ := l1.cons_inv
        obtain ⟨w3, s3, rfl, f3, l3⟩ := l2.cons_inv
        simp only [Rs] at l3; subst l3
        refine Rs.cons (by simp only [R]; exact SV.val?_R h1 g0) (Rs.cons (by simp only [R]; exact SV.val?_R h2 g1) (Rs.cons ⟨_, rfl, ?_⟩ Rs.nil))
        rw [hcs]
        exact Rs.cons (by simp only [R]; exact SV.val?_R h3 f0) (Rs.cons (by simp only [R]; exact SV.val?_R h4 f1) (Rs.cons (by simpa only [R] using f2) (Rs.cons (by simp only [R]; exact SV.val?_R h5 f3) Rs.nil)))
      · simp at h
    · simp at h
  · simp at h
end Go.Proofs.YtaeokmojogekaaaDoor
