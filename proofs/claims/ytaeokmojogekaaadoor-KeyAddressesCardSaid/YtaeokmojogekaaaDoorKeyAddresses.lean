/-
  KeyAddresses: it returns true, whatever the arguments; they read as before. Its condition: the package's variable holds the words that its own text lays.
-/
import Derived.Test.YtaeokmojogekaaaDoorK08M
import Derived.Test.YtaeokmojogekaaaDoorW06w
namespace Go.Proofs.YtaeokmojogekaaaDoor.keyAddresses
open Go.Ex Go.ChangeShapes Go.WideShapes Go.ChangeAt Go.RowKit
set_option linter.unusedVariables false
set_option linter.unusedSimpArgs false
set_option maxRecDepth 1000000
/-! ### codes (hmac) of an untold text, under a key of sixteen told bytes -/
def mixC (k : Int) (c : UInt8) : SV := .val (.int .u8 (IntKind.u8.wrap ((BitVec.ofInt IntKind.u8.bits (c.toNat : Int) ^^^ BitVec.ofInt IntKind.u8.bits k).toNat : Int)))
def mixCs (k : Int) (l : List UInt8) : List SV := l.map (mixC k) ++ List.replicate (64 - l.length) (.num .u8 k)
def hmJ (k : List UInt8) (t : ByteArray) : ByteArray := ⟨(mixL 54 k).toArray⟩ ++ t
def hmU (S : ByteArray → List Int) (k : List UInt8) (t : ByteArray) : List Int := S (hmO k (S (hmJ k t)))
noncomputable def LU (S : ByteArray → List Int) (k : List UInt8) (t : ByteArray) : List Prop :=
  [64 ≤ IntKind.i64.wrap (64 + (t.size : Int)) ∧ ((1 : Nat) : Int) * IntKind.i64.wrap (64 + (t.size : Int)) ≤ 281474976710656 ∧ IntKind.i64.wrap (64 + (t.size : Int)) ≤ 1000000000,
   (64 + t.size ≤ 1000000000 ∧ (64 + t.size) * 1 ≤ 1000000000) ∧ inBs (mixCs 54 k), 64 + t.size = (hmJ k t).size, P9 (hmJ k t) 0 glL, P9 (hmO k (S (hmJ k t))) 0 glL]
theorem of_16 (q : Sh) (a0 a1 a2 a3 a4 a5 a6 a7 a8 a9 a10 a11 a12 a13 a14 a15 : UInt8) (t : ByteArray) :
    givesV (topR (rawX q (sumG q)) (run (rawX q (sumG q)) 80) 21 [.bts false [a0, a1, a2, a3, a4, a5, a6, a7, a8, a9, a10, a11, a12, a13, a14, a15], .val (.string t)] [globS] []) (dgS (hmU q.S [a0, a1, a2, a3, a4, a5, a6, a7, a8, a9, a10, a11, a12, a13, a14, a15] t)) (LU q.S [a0, a1, a2, a3, a4, a5, a6, a7, a8, a9, a10, a11, a12, a13, a14, a15] t) := by
  unfold givesV; kernel_rfl
theorem inBs_rep (n : Nat) : inBs (List.replicate n (.num .u8 54)) := by
  induction n with
  | zero => exact trivial
  | succ n ih => exact ⟨by decide, ih⟩
theorem inBs_mix : ∀ l : List UInt8, ∀ r, inBs r → inBs (l.map (mixC 54) ++ r)
  | [], r, h => h
  | c :: l, r, h => by
    refine ⟨?_, inBs_mix l r h⟩
    rw [wu8]; omega
theorem hmJ_size (k : List UInt8) (t : ByteArray) (hk : k.length ≤ 64) : (hmJ k t).size = 64 + t.size := by
  unfold hmJ; rw [ByteArray.size_append, baS, mixL_len _ _ hk]
theorem hmO_size (k : List UInt8) (w : List Int) (hk : k.length ≤ 64) : (hmO k w).size = 96 := by
  unfold hmO; rw [baS, List.length_append, mixL_len _ _ hk, List.length_map]; unfold dgL; rw [List.length_map, List.length_range]
theorem LU_all (S : ByteArray → List Int) (k : List UInt8) (t : ByteArray) (hk : k.length = 16) (ht : t.size ≤ 1000) : AllP (LU S k t) := by
  have e : IntKind.i64.wrap (64 + (t.size : Int)) = 64 + (t.size : Int) := by rw [wi64]; omega
  have h1 := hmJ_size k t (by omega)
  refine ⟨by rw [e]; omega, ⟨by omega, inBs_mix k _ (inBs_rep _)⟩, h1.symm, ⟨by omega, rfl, rfl⟩, ⟨by rw [hmO_size _ _ (by omega)]; omega, rfl, rfl⟩, trivial⟩
theorem hm_callU (k : List UInt8) (hk : k.length = 16) (t : ByteArray) (ht : t.size ≤ 1000) {B : Nat} {η : Env} {hp : List SO} {j : Nat} {w : World} {vs : List Value} (hr : HR B η hp w) (hj : hp[j]? = some globS) (hargs : Rs [] [.bts false k, .val (.string t)] vs) :
    Calls Tryd.prog 21 vs.toArray w (fun e w' => ∃ v, e = .returned v ∧ R [] (dgS (hmU shL.S k t)) v ∧ Below w.heap.size w w') := by
  obtain ⟨v, hv⟩ := HR.glob hr hj (by decide)
  have hl := LU_all shL.S k t hk ht
  match k, hk with
  | [a0, a1, a2, a3, a4, a5, a6, a7, a8, a9, a10, a11, a12, a13, a14, a15], _ =>
    exact callsV (X := rawX shL (sumG shL)) rfl (rawX_ct shL_F sumG_ok) (rawX_lp _ _) 80 (of_16 shL a0 a1 a2 a3 a4 a5 a6 a7 a8 a9 a10 a11 a12 a13 a14 a15 t) hl (dgS_free _) (hv _) (Rs.free _ _ rfl hargs)
/-! ### codes of addresses -/
def PV (k k0 t t0 : ByteArray) (v : List Int) (g : Nat) (gl : List SV) : Prop := k = k0 ∧ t = t0 ∧ k0.size = 16 ∧ t0.size ≤ 1000 ∧ hmU shL.S k0.data.toList t0 = v ∧ g = 0 ∧ gl = glL
noncomputable def hmV (v : List Int) (k0 t0 : ByteArray) : Raw := fun f args hp =>
  if f = 21 then
    match args with
    | [kv, tv] =>
      match hp with
      | .glob g gl :: _ =>
        match kv.val?, tv.val? with
        | some (.string k), some (.string t) => some (dgS v, .pr (PV k k0 t t0 v g gl))
        | _, _ => none
      | _ => none
    | _ => none
  else none
theorem hmV_ok (v : List Int) (k0 t0 : ByteArray) : (hmV v k0 t0).Ok := by
  intro f args hp s c hh hc B η w vs hr hargs
  unfold hmV at hh
  split at hh
  · rename_i hf; subst hf
    split at hh
    · rename_i kv tv
      split at hh
      · rename_i g gl r
        split at hh
        · rename_i k t hk ht
          simp only [Option.some.injEq, Prod.mk.injEq] at hh
          obtain ⟨rfl, rfl⟩ := hh
          obtain ⟨rfl, rfl, h1, h2, rfl, rfl, rfl⟩ := hc
          refine hm_callU k.data.toList h1 t h2 hr (j := 0) rfl ?_
          obtain ⟨a, x, rfl, g1, g2⟩ := hargs.cons_inv
          obtain ⟨a2, x2, rfl, g3, g4⟩ := g2.cons_inv
          simp only [Rs] at g4; subst g4
          have e1 := SV.val?_R hk g1
          have e2 := SV.val?_R ht g3
          refine Rs.cons (by simp only [R]; exact e1) (Rs.cons (by simp only [R]; exact e2) Rs.nil)
        · simp at hh
      · simp at hh
    · simp at hh
  · simp at hh
def adT (id : Int) (ip : ByteArray) (p : Int) : ByteArray := ba [bb (IntKind.u64.wrap (IntKind.u8.wrap id))] ++ ip ++ ba [bb (shB (IntKind.u64.wrap (IntKind.u16.wrap p))), bb (IntKind.u64.wrap (IntKind.u16.wrap p))]
def e8L (w : List Int) : List UInt8 := [byB w 24, byB w 25, byB w 26, byB w 27, byB w 28, byB w 29, byB w 30, byB w 31]
noncomputable def adR (v : List Int) (k0 t0 : ByteArray) : Raw := (hmV v k0 t0).or joinR
noncomputable def LAd (v : List Int) (k0 t0 : ByteArray) (n m id p : Int) (ip : ByteArray) : List Prop := [(adT id ip p).size ≤ 140737488355328, PV (ba (bs8 n ++ bs8 m)) k0 (adT id ip p) t0 v 0 glL]
theorem ad_t (v : List Int) (k0 t0 : ByteArray) (n m id p : Int) (ip : ByteArray) : givesV (topR (hmX (adR v k0 t0)) (run (hmX (adR v k0 t0)) 80) 17 [.val (.int .u64 n), .val (.int .u64 m), .agg [.val (.int .i64 id), .val (.string ip), .bol true, .val (.int .i64 p)]] [globS] []) (.bts false (e8L v)) (LAd v k0 t0 n m id p ip) := by
  unfold givesV; kernel_rfl
theorem ad_f (v : List Int) (k0 t0 : ByteArray) (n m id p : Int) (ip : ByteArray) : givesV (topR (hmX (adR v k0 t0)) (run (hmX (adR v k0 t0)) 80) 17 [.val (.int .u64 n), .val (.int .u64 m), .agg [.val (.int .i64 id), .val (.string ip), .bol false, .val (.int .i64 p)]] [globS] []) (.bts false (e8L v)) (LAd v k0 t0 n m id 0 ip) := by
  unfold givesV; kernel_rfl
/-- The code of an address. -/
noncomputable def adW (n m id : Int) (ip : ByteArray) (p : Int) : List Int := hmU shL.S (bs8 n ++ bs8 m) (adT id ip p)
theorem adT_size (id : Int) (ip : ByteArray) (p : Int) : (adT id ip p).size = 3 + ip.size := by
  have e1 : ∀ a, (ba [a]).size = 1 := fun _ => rfl
  have e2 : ∀ a b, (ba [a, b]).size = 2 := fun _ _ => rfl
  unfold adT; rw [ByteArray.size_append, ByteArray.size_append, e1, e2]; omega
def pq (b : Bool) (p : Int) : Int := if b then p else 0
theorem call17 (b : Bool) (n m id p : Int) (ip : ByteArray) (hi : ip.size ≤ 900) {B : Nat} {η : Env} {hp : List SO} {k : Nat} {w : World} {vs : List Value} (hr : HR B η hp w) (hk : hp[k]? = some globS)
    (hargs : Rs [] [.val (.int .u64 n), .val (.int .u64 m), .agg [.val (.int .i64 id), .val (.string ip), .bol b, .val (.int .i64 p)]] vs) :
    Calls Tryd.prog 17 vs.toArray w (fun e w' => ∃ v, e = .returned v ∧ R [] (.bts false (e8L (adW n m id ip (pq b p)))) v ∧ Below w.heap.size w w') := by
  obtain ⟨v, hv⟩ := HR.glob hr hk (by decide)
  have hok : (adR (adW n m id ip (pq b p)) (ba (bs8 n ++ bs8 m)) (adT id ip (pq b p))).Ok := Raw.or_ok (hmV_ok _ _ _) joinR_ok
  have hs := adT_size id ip (pq b p)
  have hL : AllP (LAd (adW n m id ip (pq b p)) (ba (bs8 n ++ bs8 m)) (adT id ip (pq b p)) n m id (pq b p) ip) :=
    ⟨by omega, ⟨rfl, rfl, rfl, by omega, rfl, rfl, rfl⟩, trivial⟩
  cases b with
  | true => exact callsV (X := hmX _) rfl (hmX_ct hok) (hmX_lp _) 80 (ad_t _ _ _ n m id p ip) hL rfl (hv _) (Rs.free _ _ rfl hargs)
  | false => exact callsV (X := hmX _) rfl (hmX_ct hok) (hmX_lp _) 80 (ad_f _ _ _ n m id p ip) hL rfl (hv _) (Rs.free _ _ rfl hargs)
abbrev AdF := Int → Int → Int → ByteArray → Int → List Int
def PAd (A : AdF) (ip : ByteArray) (g : Nat) (gl : List SV) : Prop := A = adW ∧ ip.size ≤ 900 ∧ g = 0 ∧ gl = glL
noncomputable def adG (A : AdF) : Raw := fun f args hp =>
  if f = 17 then
    match args, hp with
    | [x, y, .agg [i, t, .bol b, p]], .glob g gl :: _ =>
      match x.val?, y.val?, i.val?, t.val?, p.val? with
      | some (.int .u64 n), some (.int .u64 m), some (.int .i64 id), some (.string ip), some (.int .i64 q) => some (.bts false (e8L (A n m id ip (pq b q))), .pr (PAd A ip g gl))
      | _, _, _, _, _ => none
    | _, _ => none
  else none
theorem adG_ok (A : AdF) : (adG A).Ok := by
  intro f args hp s c h hc B η w vs hr hargs
  unfold adG at h
  split at h
  · rename_i hf; subst hf
    split at h
    · rename_i x y i t b p g gl r
      split at h
      · rename_i n m id ip q h1 h2 h3 h4 h5
        simp only [Option.some.injEq, Prod.mk.injEq] at h
        obtain ⟨rfl, rfl⟩ := h
        obtain ⟨rfl, hi, rfl, rfl⟩ := hc
        refine call17 b n m id q ip hi hr (k := 0) rfl ?_
        obtain ⟨v0, r0, rfl, g0, k0⟩ := hargs.cons_inv
        obtain ⟨v1, r1, rfl, g1, k1⟩ := k0.cons_inv
        obtain ⟨v2, r2, rfl, g2, k2⟩ := k1.cons_inv
        simp only [Rs] at k2; subst k2
        obtain ⟨cs, rfl, g2⟩ := g2
        generalize hcs : cs.toList = cl at g2
        obtain ⟨w0, s0, rfl, f0, l0⟩ := g2.cons_inv
        obtain ⟨w1, s1, rfl, f1, l1⟩ := l0.cons_inv
        obtain ⟨w2, s2, rfl, f2, l2⟩ := l1.cons_inv
        obtain ⟨w3, s3, rfl, f3, l3⟩ := l2.cons_inv
        simp only [Rs] at l3; subst l3
        refine Rs.cons (by simp only [R]; exact SV.val?_R h1 g0) (Rs.cons (by simp only [R]; exact SV.val?_R h2 g1) (Rs.cons ⟨_, rfl, ?_⟩ Rs.nil))
        rw [hcs]
        exact Rs.cons (by simp only [R]; exact SV.val?_R h3 f0) (Rs.cons (by simp only [R]; exact SV.val?_R h4 f1) (Rs.cons (by simpa only [R] using f2) (Rs.cons (by simp only [R]; exact SV.val?_R h5 f3) Rs.nil)))
      · simp at h
    · simp at h
  · simp at h
def mn (ip : ByteArray) : Int := if (100 : Int) < (ip.size : Int) then 100 else (ip.size : Int)
def cutI (ip : ByteArray) : ByteArray := ip.extract (Int.toNat 0) (mn ip).toNat
def eqB8 (x y : List Int) : Bool := (ba (e8L x)).toList == (ba (e8L y)).toList
theorem mn_size (ip : ByteArray) : 0 ≤ mn ip ∧ mn ip ≤ 100 ∧ mn ip ≤ (ip.size : Int) := by
  unfold mn; split <;> omega
theorem cutI_size (ip : ByteArray) : (cutI ip).size ≤ 100 := by
  unfold cutI
  rw [ByteArray.size_extract]
  have := mn_size ip
  omega
/-! ### KeyAddresses -/
noncomputable def rsV (w1 : List Int) (t1 : ByteArray) (w2 : List Int) (t2 : ByteArray) : Raw := fun f args hp =>
  if f = 36 then
    match args with
    | [.val (.string t)] => some (dgS w1, .pr (PR t t1 w1))
    | [.bts _ l] => some (dgS w2, .pr (PR ⟨l.toArray⟩ t2 w2))
    | _ => none
  else none
theorem rsV_ok (w1 : List Int) (t1 : ByteArray) (w2 : List Int) (t2 : ByteArray) : (rsV w1 t1 w2 t2).Ok := by
  intro f args hp s c hh hc B η W vs hr hargs
  unfold rsV at hh
  split at hh
  · rename_i hf; subst hf
    split at hh
    · rename_i t
      simp only [Option.some.injEq, Prod.mk.injEq] at hh
      obtain ⟨rfl, rfl⟩ := hh
      obtain ⟨rfl, hs, rfl⟩ := hc
      exact call36 t hs (Rs.free _ _ rfl hargs)
    · rename_i b l
      simp only [Option.some.injEq, Prod.mk.injEq] at hh
      obtain ⟨rfl, rfl⟩ := hh
      obtain ⟨rfl, hs, rfl⟩ := hc
      refine call36 ⟨l.toArray⟩ hs ?_
      obtain ⟨v0, r0, rfl, g0, k0⟩ := hargs.cons_inv
      simp only [Rs] at k0; subst k0
      exact Rs.cons (by simp only [R]; exact SV.val?_R (s := .bts b l) rfl g0) Rs.nil
    · simp at hh
  · simp at hh
noncomputable def kaX (A : AdF) (a' b' : Nat → UInt8) (w1 : List Int) (t1 : ByteArray) (w2 : List Int) (t2 : ByteArray) : Cx := guardX [23, 21, 25, 12, 14] (rawP (worksG.or ((adG A).or ((rsV w1 t1 w2 t2).or ((mixG a' b').or joinR)))))
def rT0 (id : Int) : ByteArray := ba [rb (IntKind.u64.wrap id)]
def rT2 (p : Int) : ByteArray := ba [rb (rd (IntKind.u64.wrap p)), rb (IntKind.u64.wrap p)]
def rT (id : Int) (ip : ByteArray) (p : Int) : ByteArray := rT0 id ++ ip ++ rT2 p
noncomputable def LKa (A : AdF) (a' b' : Nat → UInt8) (w1 : List Int) (t1 : ByteArray) (w2 : List Int) (t2 : ByteArray) (n m id p : Int) (ip : ByteArray) (h : Bool) : List Prop :=
  [0 ≤ (0 : Int) ∧ 0 ≤ mn ip ∧ mn ip ≤ (ip.size : Int), PAd A (cutI ip) 0 glL, (rT0 id).size + (cutI ip).size ≤ 9223372036854775807, (rT0 id ++ cutI ip).size + (rT2 (pq h p)).size ≤ 9223372036854775807,
   mxP a' (rb8 n ++ rb8 m) 54 54, (ba (b64r a')).size + (rT id (cutI ip) (pq h p)).size ≤ 9223372036854775807, PR (ba (b64r a') ++ rT id (cutI ip) (pq h p)) t1 w1,
   mxP b' (rb8 n ++ rb8 m) 92 92, PR (ba (b64r b' ++ (List.range 32).map (byB w1))) t2 w2, eqB8 (A n m id (cutI ip) (pq h p)) w2 = true, Pg 0 glL]
theorem ka_t (A : AdF) (a' b' : Nat → UInt8) (w1 : List Int) (t1 : ByteArray) (w2 : List Int) (t2 : ByteArray) (n m a b id p : Int) (ip : ByteArray) :
    givesV (topR (kaX A a' b' w1 t1 w2 t2) (run (kaX A a' b' w1 t1 w2 t2) 80) 4 [.agg [.val (.int .u64 n), .val (.int .u64 m), .val (.int .u32 a), .val (.int .u32 b)], .agg [.val (.int .i64 id), .val (.string ip), .bol true, .val (.int .i64 p)]] [.glob 0 glL] [true]) (.bol true) (LKa A a' b' w1 t1 w2 t2 n m id p ip true) := by
  unfold givesV; kernel_rfl
theorem ka_f (A : AdF) (a' b' : Nat → UInt8) (w1 : List Int) (t1 : ByteArray) (w2 : List Int) (t2 : ByteArray) (n m a b id p : Int) (ip : ByteArray) :
    givesV (topR (kaX A a' b' w1 t1 w2 t2) (run (kaX A a' b' w1 t1 w2 t2) 80) 4 [.agg [.val (.int .u64 n), .val (.int .u64 m), .val (.int .u32 a), .val (.int .u32 b)], .agg [.val (.int .i64 id), .val (.string ip), .bol false, .val (.int .i64 p)]] [.glob 0 glL] [true]) (.bol true) (LKa A a' b' w1 t1 w2 t2 n m id p ip false) := by
  unfold givesV; kernel_rfl
theorem rT_eq (id : Int) (ip : ByteArray) (p : Int) : rT id ip p = adT id ip p := by
  have e1 : rb (IntKind.u64.wrap id) = bb (IntKind.u64.wrap (IntKind.u8.wrap id)) := by
    unfold rb bb
    have h0 : 0 ≤ IntKind.u64.wrap id := by rw [wu64]; omega
    rw [Int.tmod_eq_emod_of_nonneg h0, wu8, wu8, wu64, wu64, wu8]
    congr 2; omega
  have e2 : rb (IntKind.u64.wrap p) = bb (IntKind.u64.wrap (IntKind.u16.wrap p)) := by
    unfold rb bb
    have h0 : 0 ≤ IntKind.u64.wrap p := by rw [wu64]; omega
    rw [Int.tmod_eq_emod_of_nonneg h0, wu8, wu8, wu64, wu64, wu16]
    congr 2; omega
  have e3 : rb (rd (IntKind.u64.wrap p)) = bb (shB (IntKind.u64.wrap (IntKind.u16.wrap p))) := by
    have h0 : 0 ≤ IntKind.u64.wrap p := by rw [wu64]; omega
    have h1 : 0 ≤ IntKind.u64.wrap (IntKind.u16.wrap p) := by rw [wu64]; omega
    have h2 : 0 ≤ rd (IntKind.u64.wrap p) := by unfold rd; rw [wu64]; omega
    rw [shB_eq _ h1]
    unfold rb bb
    rw [Int.tmod_eq_emod_of_nonneg h2]
    unfold rd
    rw [Int.tdiv_eq_ediv_of_nonneg h0, wu8, wu8, wu64, wu64, wu64, wu16]
    congr 2; omega
  unfold rT rT0 rT2 adT
  rw [e1, e2, e3]
theorem ka_call (h : Bool) (n m a b id p : Int) (ip : ByteArray) (hn : 0 ≤ n ∧ n < 18446744073709551616) (hm : 0 ≤ m ∧ m < 18446744073709551616) {η : Env} {W : World} {vs : List Value} (hr : HR W.heap.size η [globS] W) (hargs : Rs η [.agg [.val (.int .u64 n), .val (.int .u64 m), .val (.int .u32 a), .val (.int .u32 b)], .agg [.val (.int .i64 id), .val (.string ip), .bol h, .val (.int .i64 p)]] vs) :
    Calls Tryd.prog 4 vs.toArray W (fun e w' => ∃ v, e = .returned v ∧ R [] (.bol true) v ∧ Below W.heap.size W w') := by
  have en := rb8_eq n hn.1 hn.2
  have em := rb8_eq m hm.1 hm.2
  have hk : (bs8 n ++ bs8 m).length = 16 := rfl
  have ea := mix_eq (bs8 n ++ bs8 m) hk 54 (by omega)
  have eb := mix_eq (bs8 n ++ bs8 m) hk 92 (by omega)
  have hc := cutI_size ip
  have hmn := mn_size ip
  have s64 : ∀ g : Nat → UInt8, (ba (b64r g)).size = 64 := fun g => by unfold ba b64r; rw [baS]; simp
  have sA := adT_size id (cutI ip) (pq h p)
  have e1 : ba (b64r (mxB (fnB (bs8 n ++ bs8 m)) (54 : Nat))) ++ rT id (cutI ip) (pq h p) = hmJ (bs8 n ++ bs8 m) (adT id (cutI ip) (pq h p)) := by
    rw [rT_eq]
    unfold hmJ ba b64r
    rw [ea]; rfl
  have e2 : ba (b64r (mxB (fnB (bs8 n ++ bs8 m)) (92 : Nat)) ++ (List.range 32).map (byB (shL.S (hmJ (bs8 n ++ bs8 m) (adT id (cutI ip) (pq h p)))))) = hmO (bs8 n ++ bs8 m) (shL.S (hmJ (bs8 n ++ bs8 m) (adT id (cutI ip) (pq h p)))) := by
    unfold hmO b64r ba
    rw [eb, map_idB]; rfl
  have s1 : (hmJ (bs8 n ++ bs8 m) (adT id (cutI ip) (pq h p))).size ≤ 247 := by
    rw [← e1, ByteArray.size_append, s64, rT_eq, sA]; omega
  have s2 : (hmO (bs8 n ++ bs8 m) (shL.S (hmJ (bs8 n ++ bs8 m) (adT id (cutI ip) (pq h p))))).size ≤ 247 := by
    rw [← e2]; unfold ba b64r; rw [baS]; simp
  have c0 : (rT0 id).size = 1 := rfl
  have c2 : (rT2 (pq h p)).size = 2 := rfl
  have hL : AllP (LKa adW (mxB (fnB (bs8 n ++ bs8 m)) (54 : Nat)) (mxB (fnB (bs8 n ++ bs8 m)) (92 : Nat)) (shL.S (hmJ (bs8 n ++ bs8 m) (adT id (cutI ip) (pq h p)))) (hmJ (bs8 n ++ bs8 m) (adT id (cutI ip) (pq h p))) (hmU shL.S (bs8 n ++ bs8 m) (adT id (cutI ip) (pq h p))) (hmO (bs8 n ++ bs8 m) (shL.S (hmJ (bs8 n ++ bs8 m) (adT id (cutI ip) (pq h p))))) n m id p ip h) :=
    ⟨⟨by omega, hmn.1, hmn.2.2⟩, ⟨rfl, by omega, rfl, rfl⟩, by rw [c0]; omega, by rw [ByteArray.size_append, c0, c2]; omega, by rw [en, em]; exact ⟨rfl, rfl⟩, by rw [s64, rT_eq, sA]; omega, ⟨e1, s1, rfl⟩, by rw [en, em]; exact ⟨rfl, rfl⟩, ⟨e2, s2, rfl⟩, beq_self_eq_true _, ⟨rfl, rfl⟩, trivial⟩
  have hX : CtOk (kaX adW (mxB (fnB (bs8 n ++ bs8 m)) (54 : Nat)) (mxB (fnB (bs8 n ++ bs8 m)) (92 : Nat)) (shL.S (hmJ (bs8 n ++ bs8 m) (adT id (cutI ip) (pq h p)))) (hmJ (bs8 n ++ bs8 m) (adT id (cutI ip) (pq h p))) (hmU shL.S (bs8 n ++ bs8 m) (adT id (cutI ip) (pq h p))) (hmO (bs8 n ++ bs8 m) (shL.S (hmJ (bs8 n ++ bs8 m) (adT id (cutI ip) (pq h p)))))) :=
    guardX_ct (rawP_ct (Raw.or_ok worksG_ok (Raw.or_ok (adG_ok _) (Raw.or_ok (rsV_ok _ _ _ _) (Raw.or_ok (mixG_ok _ _) joinR_ok)))))
  cases h with
  | true => exact callsV (X := kaX _ _ _ _ _ _ _) rfl hX (guardX_lp (rawP_lp _)) 80 (ka_t _ _ _ _ _ _ _ n m a b id p ip) hL rfl hr hargs
  | false => exact callsV (X := kaX _ _ _ _ _ _ _) rfl hX (guardX_lp (rawP_lp _)) 80 (ka_f _ _ _ _ _ _ _ n m a b id p ip) hL rfl hr hargs
theorem walk (n m a b id : Int) (ip : ByteArray) (h : Bool) (p : Int) (hn : IntKind.u64.has n) (hm : IntKind.u64.has m) (W : World) (hL : laidMet Tryd.prog laidL W) :
    Calls Tryd.prog 4 #[.agg #[.int .u64 n, .int .u64 m, .int .u32 a, .int .u32 b], .agg #[.int .i64 id, .string ip, .bool h, .int .i64 p]] W (fun e w' => e = .returned (.bool true) ∧ Below W.heap.size W w') :=
  law_of (f := 4) (args := [.agg [.val (.int .u64 n), .val (.int .u64 m), .val (.int .u32 a), .val (.int .u32 b)], .agg [.val (.int .i64 id), .val (.string ip), .bol h, .val (.int .i64 p)]]) (vs := [.agg #[.int .u64 n, .int .u64 m, .int .u32 a, .int .u32 b], .agg #[.int .i64 id, .string ip, .bool h, .int .i64 p]])
    (Rs.cons ⟨_, rfl, Rs.cons (by simp only [R]) (Rs.cons (by simp only [R]) (Rs.cons (by simp only [R]) (Rs.cons (by simp only [R]) (Rs.nil))))⟩ (Rs.cons ⟨_, rfl, Rs.cons (by simp only [R]) (Rs.cons (by simp only [R]) (Rs.cons (by simp only [R]) (Rs.cons (by simp only [R]) (Rs.nil))))⟩ Rs.nil)) hL fun hr hargs => (ka_call h n m a b id p ip (has_u64 hn) (has_u64 hm) hr hargs).mono fun e w' hq => by
      obtain ⟨v, rfl, hR, hb⟩ := hq
      simp only [R] at hR
      exact ⟨_, rfl, hR, hb⟩

set_option maxRecDepth 100000 in
theorem lifted (os : Os) (started : os.Started) (H : Type) (enc : TypeId × Value → H) :
    ReturnsInHanded {} Tryd.checked os 4 .any (fun w args => (Rows.keyAddressesSpec.pre enc Tryd.prog Tryd.f4 [] false w args ∧ laidMetH Tryd.prog Rows.keyAddressesRow.laid w) ∧ sizedMet enc Tryd.prog Tryd.f4 (OpenSpec.ofChange Rows.keyAddressesSpec) false w args)
      (Rows.keyAddressesSpec.post enc Tryd.prog Tryd.f4 false true false false) := by
  refine returnsInHanded_of_change_and (C := Tryd.checked) (X := fun w _ => laidMetH Tryd.prog Rows.keyAddressesRow.laid w) (fun _ _ _ hh h => h.of_heap hh) own started (by kernel_rfl) Tryd.func4
    (ChangeSpec.witness_shaped (enc := enc) (C := Tryd.checked) (os := os) (X := fun w _ => laidMetH Tryd.prog Rows.keyAddressesRow.laid w) false (World.laidAll Tryd.prog os laidL) #[.agg #[.int .u64 0, .int .u64 0, .int .u32 0, .int .u32 0], .agg #[.int .i64 0, .string ByteArray.empty, .bool false, .int .i64 0]] 8 (World.laidAll_os _ _ _)
      (World.shaped_of_ZipB (by kernel_rfl) (by kernel_rfl)) (by kernel_rfl) (by kernel_rfl) (by kernel_rfl)
      (by rw [MakeChecks.laidMetH_plain _ _ _ (by kernel_rfl)]; exact laidMet_laidAll _ (by kernel_rfl) (by kernel_rfl))) ?_
  intro W base args ds gs before hval0 hW _ hsz0 hL _
  rw [MakeChecks.laidMetH_plain _ _ _ (by kernel_rfl)] at hL
  have hval : ∀ (j : Nat) t v, Tryd.f4.params[j]? = some t → args[j]? = some v → Value.okWide Tryd.prog W .any base t v := hval0
  have hW' := hW
  obtain ⟨p, q, hA0, hV, rfl, hfz, hnd⟩ := hW
  have hA : DataW.TrodAll enc Tryd.prog W 0 (fun _ => true) true Tryd.f4.params.toList args.toList ds p := hA0
  have hK := hA
  rw [Tryd.params4] at hA hval
  obtain ⟨v0, vs0, d0, ds0, p0, q0, hargs, rfl, rfl, h0, r0⟩ := trodAll_cons hA
  obtain ⟨v1, vs1, d1, ds1, p1, q1, rfl, rfl, rfl, h1, r1⟩ := trodAll_cons r0
  obtain ⟨rfl, rfl, rfl⟩ := trodAll_nil r1
  obtain rfl : args = #[v0, v1] := by cases args; simp_all
  obtain ⟨rfl, rfl⟩ := trodVars_none hV
  obtain ⟨cs0, rfl, k0⟩ := cells_of (P := Tryd.prog) (t := 30) (ts := [22, 22, 24, 24]) (by kernel_rfl) (by kernel_rfl) (by kernel_rfl) (hval 0 30 v0 rfl rfl)
  obtain ⟨x0_0, t0_0, e0_0, o0_0, k0⟩ := k0
  obtain ⟨z0_0, rfl, b0_0⟩ := cell_int Tryd.underlying22 o0_0
  obtain ⟨x0_1, t0_1, e0_1, o0_1, k0⟩ := k0
  obtain ⟨z0_1, rfl, b0_1⟩ := cell_int Tryd.underlying22 o0_1
  obtain ⟨x0_2, t0_2, e0_2, o0_2, k0⟩ := k0
  obtain ⟨z0_2, rfl, b0_2⟩ := cell_int Tryd.underlying24 o0_2
  obtain ⟨x0_3, t0_3, e0_3, o0_3, k0⟩ := k0
  obtain ⟨z0_3, rfl, b0_3⟩ := cell_int Tryd.underlying24 o0_3
  simp only [CellsAre] at k0
  obtain rfl : cs0 = #[.int .u64 z0_0, .int .u64 z0_1, .int .u32 z0_2, .int .u32 z0_3] := Array.toList_inj.1 (by rw [e0_0, e0_1, e0_2, e0_3, k0])
  obtain ⟨cs1, rfl, k1⟩ := cells_of (P := Tryd.prog) (t := 32) (ts := [3, 9, 4, 3]) (by kernel_rfl) (by kernel_rfl) (by kernel_rfl) (hval 1 32 v1 rfl rfl)
  obtain ⟨x1_0, t1_0, e1_0, o1_0, k1⟩ := k1
  obtain ⟨z1_0, rfl, b1_0⟩ := cell_int Tryd.underlying3 o1_0
  obtain ⟨x1_1, t1_1, e1_1, o1_1, k1⟩ := k1
  obtain ⟨z1_1, rfl, b1_1⟩ := cell_string Tryd.underlying9 o1_1
  obtain ⟨x1_2, t1_2, e1_2, o1_2, k1⟩ := k1
  obtain ⟨z1_2, rfl⟩ := cell_bool Tryd.underlying4 o1_2
  obtain ⟨x1_3, t1_3, e1_3, o1_3, k1⟩ := k1
  obtain ⟨z1_3, rfl, b1_3⟩ := cell_int Tryd.underlying3 o1_3
  simp only [CellsAre] at k1
  obtain rfl : cs1 = #[.int .i64 z1_0, .string z1_1, .bool z1_2, .int .i64 z1_3] := Array.toList_inj.1 (by rw [e1_0, e1_1, e1_2, e1_3, k1])
  clear hA0 hval0
  refine (walk z0_0 z0_1 z0_2 z0_3 z1_0 z1_1 z1_2 z1_3 b0_0 b0_1 W hL).mono fun e W' ⟨he, bel⟩ => ?_
  subst he
  exact ⟨_, rfl, _, _, _, [], _, [], hW', trodAll_mk1 (shut_bool Tryd.underlying4 _), trodAll_below laidOut bel (by kernel_rfl) hK, rfl, bel.frame _, fun h => by cases h⟩
theorem over : Rows.keyAddressesRow.holds Tryd.pinned (OpenSpec.ofChange Rows.keyAddressesSpec) :=
  OpenClaim.holds_of_wide 4 Tryd.f4 rfl rfl rfl rfl rfl rfl rfl ⟨rfl, rfl, rfl, rfl, rfl⟩ rfl rfl rfl rfl rfl (by kernel_rfl) Tryd.func4 (by kernel_rfl)
    (of_decide_eq_true (by kernel_rfl)) (by unfold Func.isWrapper; first | (rw [if_pos (by decide +kernel)]; kernel_rfl) | (rw [if_neg (by decide +kernel)]; exact ⟨rfl, rfl⟩))
    (fun os started H enc _ => lifted os started H enc)
theorem proved : Rows.KeyAddressesCardSaid :=
  Claim7.holds_tied_plain_at .later [] [.data] true (true, "30f185f298864e8d828eafb7e3d869b00cbf2cc7c0e2e53b1ddd7212857a4ba5") false over (fun _ h => by cases h) (by kernel_rfl) (fun _ h => by cases h) keyAddresses_row_tie rfl ⟨rfl, rfl⟩ (by kernel_rfl) rfl
    (fun f fn hf hfn => by
      obtain rfl : f = 4 := Option.some.inj ((show Tryd.prog.funcNamed "plait/plaitlaw08.KeyAddresses" = some 4 by kernel_rfl).symm.trans hf) |>.symm
      obtain rfl : fn = Tryd.f4 := (Option.some.inj (Tryd.func4.symm.trans hfn)).symm
      exact ⟨by kernel_rfl, fun j t ht => by
        rw [Tryd.params4] at ht
        have hm : t ∈ [30, 32] := by simpa using Array.mem_of_getElem? ht
        have hall : ([30, 32].all fun u => !Tryd.prog.wantsStandIn u) = true := by kernel_rfl
        exact (show Tryd.prog.wantsStandIn t = false by simpa using List.all_eq_true.1 hall t hm)⟩)
    (by kernel_rfl)
#print axioms proved
end Go.Proofs.YtaeokmojogekaaaDoor.keyAddresses
