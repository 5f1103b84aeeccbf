/-
  Walks of functions, reckoned through, and what they give (part K08v). No condition beyond what each says. By an AI agent.
-/
import Derived.Test.YtaeokmojogekaaaDoorK08u
namespace Go.Proofs.YtaeokmojogekaaaDoor
open Go.Ex
open Go.RowKit (Below)
set_option linter.unusedVariables false
set_option maxRecDepth 1000000
/-! ### KeyFields -/
def mn (ip : ByteArray) : Int := if (100 : Int) < (ip.size : Int) then 100 else (ip.size : Int)
def cutI (ip : ByteArray) : ByteArray := ip.extract (Int.toNat 0) (mn ip).toNat
def msk (k x : Int) : Int := IntKind.i64.wrap ((BitVec.ofInt IntKind.i64.bits x &&& BitVec.ofInt IntKind.i64.bits k).toNat : Int)
noncomputable def kfR (A : AdF) (v : List Int) (k0 t0 : ByteArray) : Raw := worksG.or ((adG A).or ((hmV v k0 t0).or joinR))
def eqB8 (x y : List Int) : Bool := (ba (e8L x)).toList == (ba (e8L y)).toList
noncomputable def LKf (A : AdF) (v : List Int) (k0 t0 : ByteArray) (n m id p : Int) (ip : ByteArray) (b : Bool) : List Prop :=
  [Pg 0 glL, 0 ≤ (0 : Int) ∧ 0 ≤ mn ip ∧ mn ip ≤ (ip.size : Int), PAd A (cutI ip) 0 glL,
   (ba [bb (IntKind.u64.wrap (IntKind.u8.wrap id))]).size + (cutI ip).size ≤ 9223372036854775807,
   (ba [bb (IntKind.u64.wrap (IntKind.u8.wrap id))] ++ cutI ip).size + (ba [bb (shB (IntKind.u64.wrap (IntKind.u16.wrap (pq b p)))), bb (IntKind.u64.wrap (IntKind.u16.wrap (pq b p)))]).size ≤ 9223372036854775807] ++
  List.replicate 4 (PV (ba (bs8 n ++ bs8 m)) k0 (adT id (cutI ip) (pq b p)) t0 v 0 glL) ++
  [PAd A (cutI ip) 0 glL, eqB8 (A n m id (cutI ip) (pq b p)) (A n m (msk 255 id) (cutI ip) (pq b (msk 65535 p))) = true, PAd A (cutI ip) 0 glL, PAd A (cutI ip) 0 glL, eqB8 (A n m id (cutI ip) (pq false p)) (A n m id (cutI ip) (pq true 0)) = true]
noncomputable def kfV (A : AdF) (v : List Int) (n m id p : Int) (ip : ByteArray) (b : Bool) : SV := .val (.bool (eqB8 (A n m id (cutI ip) (pq b p)) v))
theorem fields_t (A : AdF) (v : List Int) (k0 t0 : ByteArray) (n m a b id p : Int) (ip : ByteArray) : givesV (topR (hmX (kfR A v k0 t0)) (run (hmX (kfR A v k0 t0)) 80) 5 [.agg [.val (.int .u64 n), .val (.int .u64 m), .val (.int .u32 a), .val (.int .u32 b)], .agg [.val (.int .i64 id), .val (.string ip), .bol true, .val (.int .i64 p)]] [globS] [true, true]) (kfV A v n m id p ip true) (LKf A v k0 t0 n m id p ip true) := by
  unfold givesV; kernel_rfl
theorem fields_f (A : AdF) (v : List Int) (k0 t0 : ByteArray) (n m a b id p : Int) (ip : ByteArray) : givesV (topR (hmX (kfR A v k0 t0)) (run (hmX (kfR A v k0 t0)) 80) 5 [.agg [.val (.int .u64 n), .val (.int .u64 m), .val (.int .u32 a), .val (.int .u32 b)], .agg [.val (.int .i64 id), .val (.string ip), .bol false, .val (.int .i64 p)]] [globS] [true, true]) (kfV A v n m id p ip false) (LKf A v k0 t0 n m id p ip false) := by
  unfold givesV; kernel_rfl
theorem mn_size (ip : ByteArray) : 0 ≤ mn ip ∧ mn ip ≤ 100 ∧ mn ip ≤ (ip.size : Int) := by
  unfold mn; split <;> omega
theorem cutI_size (ip : ByteArray) : (cutI ip).size ≤ 100 := by
  unfold cutI
  rw [ByteArray.size_extract]
  have := mn_size ip
  omega
theorem natmod (a b : Nat) : ((a % b : Nat) : Int) = (a : Int) % (b : Int) := rfl
theorem msk_nat (x : Int) (j : Nat) (hj : j ≤ 16) : msk ((2 ^ j - 1 : Nat) : Int) x = x % ((2 ^ j : Nat) : Int) := by
  unfold msk
  have hk : (BitVec.ofInt IntKind.i64.bits x &&& BitVec.ofInt IntKind.i64.bits ((2 ^ j - 1 : Nat) : Int)).toNat = (BitVec.ofInt 64 x).toNat % 2 ^ j := by
    show (BitVec.ofInt 64 x &&& BitVec.ofInt 64 ((2 ^ j - 1 : Nat) : Int)).toNat = _
    have h2 : 2 ^ j ≤ 2 ^ 16 := Nat.pow_le_pow_right (by decide) hj
    rw [BitVec.toNat_and, BitVec.ofInt_natCast, BitVec.toNat_ofNat, Nat.mod_eq_of_lt (by omega : 2 ^ j - 1 < 2 ^ 64), Nat.and_two_pow_sub_one_eq_mod]
  rw [hk, BitVec.toNat_ofInt]
  have h2 : 2 ^ j ≤ 2 ^ 16 := Nat.pow_le_pow_right (by decide) hj
  have h0 : 0 < 2 ^ j := Nat.pos_of_ne_zero (by simp)
  have hd : ((2 ^ j : Nat) : Int) ∣ ((2 ^ 64 : Nat) : Int) := by
    exact_mod_cast Nat.pow_dvd_pow 2 (by omega : j ≤ 64)
  have e1 : ((x % ((2 ^ 64 : Nat) : Int)).toNat % 2 ^ j : Nat) = ((x % ((2 ^ 64 : Nat) : Int)).toNat : Int) % ((2 ^ j : Nat) : Int) := natmod _ _
  rw [e1, Int.toNat_of_nonneg (Int.emod_nonneg _ (by decide)), Int.emod_emod_of_dvd _ hd]
  have h3 : 0 ≤ x % ((2 ^ j : Nat) : Int) := Int.emod_nonneg _ (by omega)
  have h4 : x % ((2 ^ j : Nat) : Int) < ((2 ^ j : Nat) : Int) := Int.emod_lt_of_pos _ (by omega)
  rw [wi64]; omega
theorem adW_msk (n m id p : Int) (ip : ByteArray) (b : Bool) : adW n m (msk 255 id) ip (pq b (msk 65535 p)) = adW n m id ip (pq b p) := by
  unfold adW adT
  have e1 : IntKind.u8.wrap (msk 255 id) = IntKind.u8.wrap id := by
    have := msk_nat id 8 (by omega)
    rw [show ((2 ^ 8 - 1 : Nat) : Int) = 255 from rfl, show ((2 ^ 8 : Nat) : Int) = 256 from rfl] at this
    rw [this, wu8, wu8]; omega
  have e2 : IntKind.u16.wrap (pq b (msk 65535 p)) = IntKind.u16.wrap (pq b p) := by
    have := msk_nat p 16 (by omega)
    rw [show ((2 ^ 16 - 1 : Nat) : Int) = 65535 from rfl, show ((2 ^ 16 : Nat) : Int) = 65536 from rfl] at this
    cases b with
    | true => show IntKind.u16.wrap (msk 65535 p) = IntKind.u16.wrap p; rw [this, wu16, wu16]; omega
    | false => rfl
  rw [e1, e2]
theorem eqB8_self (x : List Int) : eqB8 x x = true := beq_self_eq_true _
theorem fields_call (n m a b id p : Int) (ip : ByteArray) (hb : Bool) {η : Env} {W : World} {vs : List Value} (hr : HR W.heap.size η [globS] W)
    (hargs : Rs η [.agg [.val (.int .u64 n), .val (.int .u64 m), .val (.int .u32 a), .val (.int .u32 b)], .agg [.val (.int .i64 id), .val (.string ip), .val (.bool hb), .val (.int .i64 p)]] vs) :
    Calls Tryd.prog 5 vs.toArray W (fun e w' => ∃ v, e = .returned v ∧ v = .bool true ∧ Below W.heap.size W w') := by
  have hok : (kfR adW (adW n m id (cutI ip) (pq hb p)) (ba (bs8 n ++ bs8 m)) (adT id (cutI ip) (pq hb p))).Ok := Raw.or_ok worksG_ok (Raw.or_ok (adG_ok _) (Raw.or_ok (hmV_ok _ _ _) joinR_ok))
  have hs := cutI_size ip
  have hsA := adT_size id (cutI ip) (pq hb p)
  have hm := mn_size ip
  have pv : PV (ba (bs8 n ++ bs8 m)) (ba (bs8 n ++ bs8 m)) (adT id (cutI ip) (pq hb p)) (adT id (cutI ip) (pq hb p)) (adW n m id (cutI ip) (pq hb p)) 0 glL := ⟨rfl, rfl, rfl, by omega, rfl, rfl, rfl⟩
  have pa : PAd adW (cutI ip) 0 glL := ⟨rfl, by omega, rfl, rfl⟩
  have e1 : (ba [bb (IntKind.u64.wrap (IntKind.u8.wrap id))]).size = 1 := rfl
  have e2 : (ba [bb (shB (IntKind.u64.wrap (IntKind.u16.wrap (pq hb p)))), bb (IntKind.u64.wrap (IntKind.u16.wrap (pq hb p)))]).size = 2 := rfl
  have hL : AllP (LKf adW (adW n m id (cutI ip) (pq hb p)) (ba (bs8 n ++ bs8 m)) (adT id (cutI ip) (pq hb p)) n m id p ip hb) :=
    ⟨⟨rfl, rfl⟩, ⟨by omega, hm.1, hm.2.2⟩, pa, by omega, by rw [ByteArray.size_append]; omega, pv, pv, pv, pv, pa, by rw [adW_msk]; exact eqB8_self _, pa, pa, eqB8_self _, trivial⟩
  have hargs' : Rs η [.agg [.val (.int .u64 n), .val (.int .u64 m), .val (.int .u32 a), .val (.int .u32 b)], .agg [.val (.int .i64 id), .val (.string ip), .bol hb, .val (.int .i64 p)]] vs := by
    obtain ⟨v0, r0, rfl, g0, k0⟩ := hargs.cons_inv
    obtain ⟨v1, r1, rfl, g1, k1⟩ := k0.cons_inv
    refine Rs.cons g0 (Rs.cons ?_ k1)
    obtain ⟨cs, rfl, g2⟩ := g1
    refine ⟨cs, rfl, ?_⟩
    generalize hcs : cs.toList = cl at g2 ⊢
    obtain ⟨w0, s0, rfl, f0, l0⟩ := g2.cons_inv
    obtain ⟨w1, s1, rfl, f1, l1⟩ := l0.cons_inv
    obtain ⟨w2, s2, rfl, f2, l2⟩ := l1.cons_inv
    exact Rs.cons f0 (Rs.cons f1 (Rs.cons (by simpa only [R] using f2) l2))
  cases hb with
  | true =>
    refine (callsV (X := hmX _) rfl (hmX_ct hok) (hmX_lp _) 80 (fields_t _ _ _ _ n m a b id p ip) hL rfl hr hargs').mono fun e w' hq => ?_
    obtain ⟨v, rfl, hR, hb⟩ := hq
    unfold kfV at hR
    simp only [R, eqB8_self, pq, if_true] at hR
    exact ⟨_, rfl, hR, hb⟩
  | false =>
    refine (callsV (X := hmX _) rfl (hmX_ct hok) (hmX_lp _) 80 (fields_f _ _ _ _ n m a b id p ip) hL rfl hr hargs').mono fun e w' hq => ?_
    obtain ⟨v, rfl, hR, hb⟩ := hq
    unfold kfV at hR
    simp only [R, eqB8_self] at hR
    exact ⟨_, rfl, hR, hb⟩
end Go.Proofs.YtaeokmojogekaaaDoor
