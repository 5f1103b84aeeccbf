/-
  The digests of c^n, n up to 262, differ: from lanes to the digest that the program computes. No condition beyond what each says. By an AI agent.
-/
import Derived.Test.YtgefcokanfbpbaaDoorW06S
import Derived.Test.YtgefcokanfbpbaaDoorK06k0
import Derived.Test.YtgefcokanfbpbaaDoorK06k1
import Derived.Test.YtgefcokanfbpbaaDoorK06k2
import Derived.Test.YtgefcokanfbpbaaDoorK06k3
namespace Go.Proofs.YtgefcokanfbpbaaDoor
open Go.Ex
set_option linter.unusedVariables false
set_option linter.unusedSimpArgs false
set_option maxRecDepth 1000000
theorem tkN_S {st : List Nat} (h : st.length = 8) (s : ByteArray) : tkN st s = tkS st ((List.range 16).map (nbe s)) := by
  match st, h with
  | [a, b, c, d, e, f, g, k], _ => rfl
theorem wdS_get : ∀ (t : Nat) (bs : List (Option Nat)) (c : Nat), 4 * t + 3 < bs.length →
    (wdS bs c)[t]? = some (byF (bs.getD (4 * t) none) c * 16777216 + byF (bs.getD (4 * t + 1) none) c * 65536 + (byF (bs.getD (4 * t + 2) none) c * 256 + byF (bs.getD (4 * t + 3) none) c))
  | 0, bs, c, h => by
    match bs, h with
    | a :: b :: d :: e :: r, _ => rfl
  | t + 1, bs, c, h => by
    match bs, h with
    | a :: b :: d :: e :: r, h =>
      have := wdS_get t r c (by simp only [List.length_cons] at h; omega)
      show (wdS r c)[t]? = _
      rw [this]
      rw [show 4 * (t + 1) = 4 * t + 1 + 1 + 1 + 1 by omega]
      rfl
def chB (c : Nat) : UInt8 := UInt8.ofNat c
/-- The bytes, for one c. -/
def bsB (bs : List (Option Nat)) (c : Nat) : List UInt8 := bs.map fun o => UInt8.ofNat (byF o c)
theorem bAt_bs (bs : List (Option Nat)) (hb : Bs bs) (c i : Nat) (hi : i < bs.length) : (bAt ⟨(bsB bs c).toArray⟩ i).toNat = byF (bs.getD i none) c := by
  have e : (⟨(bsB bs c).toArray⟩ : ByteArray).data[i]? = some (UInt8.ofNat (byF bs[i] c)) := by
    show (bsB bs c).toArray[i]? = _
    rw [List.getElem?_toArray]
    unfold bsB
    rw [List.getElem?_map, List.getElem?_eq_getElem hi]; rfl
  unfold bAt
  rw [e, List.getD_eq_getElem?_getD, List.getElem?_eq_getElem hi]
  have : byF bs[i] c < 256 := byF_lt (fun v hv => hb v (by rw [← hv]; exact List.getElem_mem hi)) c
  show (UInt8.ofNat (byF bs[i] c)).toNat = byF bs[i] c
  rw [UInt8.toNat_ofNat']
  exact Nat.mod_eq_of_lt this
theorem or4S {a b c d : Nat} (ha : a < 256) (hb : b < 256) (hc : c < 256) (hd : d < 256) : ((nshl a 24 ||| nshl b 16) ||| nshl c 8) ||| d = a * 16777216 + b * 65536 + (c * 256 + d) := by
  have e1 : nshl a 24 = a <<< 24 := by unfold nshl; rw [Nat.shiftLeft_eq]; omega
  have e2 : nshl b 16 = b <<< 16 := by unfold nshl; rw [Nat.shiftLeft_eq]; omega
  have e3 : nshl c 8 = c <<< 8 := by unfold nshl; rw [Nat.shiftLeft_eq]; omega
  rw [e1, e2, e3, Nat.or_assoc, Nat.or_assoc]
  have s3 : c <<< 8 ||| d = c * 256 + d := by rw [← Nat.shiftLeft_add_eq_or_of_lt (by omega), Nat.shiftLeft_eq]
  rw [s3]
  have s2 : b <<< 16 ||| (c * 256 + d) = b * 65536 + (c * 256 + d) := by rw [← Nat.shiftLeft_add_eq_or_of_lt (by omega), Nat.shiftLeft_eq]
  rw [s2]
  have s1 : a <<< 24 ||| (b * 65536 + (c * 256 + d)) = a * 16777216 + (b * 65536 + (c * 256 + d)) := by rw [← Nat.shiftLeft_add_eq_or_of_lt (by omega), Nat.shiftLeft_eq]
  rw [s1]; omega
theorem nbe_bs (bs : List (Option Nat)) (hb : Bs bs) (hl : bs.length = 64) (c : Nat) : (List.range 16).map (nbe ⟨(bsB bs c).toArray⟩) = wdS bs c := by
  have hw : (wdS bs c).length = 16 := by rw [← wdF_S, List.length_map, wdF_len 16 bs (by omega)]
  refine List.ext_getElem? fun t => ?_
  by_cases ht : t < 16
  · rw [wdS_get t bs c (by omega), List.getElem?_map, List.getElem?_range ht]
    simp only [Option.map_some, Option.some.injEq]
    unfold nbe
    rw [bAt_bs bs hb c _ (by omega), bAt_bs bs hb c _ (by omega), bAt_bs bs hb c _ (by omega), bAt_bs bs hb c _ (by omega)]
    have hB : ∀ i, i < 64 → byF (bs.getD i none) c < 256 := fun i hi => by
      rw [List.getD_eq_getElem?_getD, List.getElem?_eq_getElem (by omega)]
      exact byF_lt (fun v hv => hb v (by simp only [Option.getD_some] at hv; rw [← hv]; exact List.getElem_mem _)) c
    exact or4S (hB _ (by omega)) (hB _ (by omega)) (hB _ (by omega)) (hB _ (by omega))
  · rw [List.getElem?_eq_none (by simp; omega), List.getElem?_eq_none (by omega)]
theorem tkN_bs {st : List Nat} (h : st.length = 8) (bs : List (Option Nat)) (hb : Bs bs) (hl : bs.length = 64) (c : Nat) : tkN st ⟨(bsB bs c).toArray⟩ = tkS st (wdS bs c) := by
  rw [tkN_S h, nbe_bs bs hb hl]
/-- The state behind k whole blocks. -/
def stB (c : Nat) : Nat → List Nat
  | 0 => ivS
  | k + 1 => tkS (stB c k) (wdS (List.replicate 64 none) c)
theorem stB_w : ∀ k, W8 (fun c => stB c k)
  | 0 => fun _ => ⟨rfl, getD_lt (l := ivS) (by decide)⟩
  | k + 1 => tkS_w (stB_w k) (by simp)
theorem ofNat_cF {c : Nat} (h : c < 256) : UInt8.ofNat (cF c) = chB c := by
  unfold cF chB
  rw [show Nat.mod c 256 = c % 256 from rfl, Nat.mod_eq_of_lt h]
theorem bsB_full {c : Nat} (h : c < 256) (n : Nat) : bsB (List.replicate n none) c = List.replicate n (chB c) := by
  unfold bsB
  rw [List.map_replicate]
  show List.replicate n (UInt8.ofNat (cF c)) = _
  rw [ofNat_cF h]
theorem finN_rep {c : Nat} (h : c < 256) : ∀ (q k r : Nat), r < 64 → finN q (stB c k) (List.replicate (64 * q + r) (chB c)) = (stB c (k + q), List.replicate r (chB c))
  | 0, k, r, hr => by
    unfold finN
    rw [Nat.mul_zero, Nat.zero_add, Nat.add_zero]
  | q + 1, k, r, hr => by
    unfold finN
    rw [if_pos (by rw [List.length_replicate]; omega), List.take_replicate, List.drop_replicate, Nat.min_eq_left (by omega), show 64 * (q + 1) + r - 64 = 64 * q + r by omega, ← bsB_full h 64, tkN_bs (stB_w k c).1 _ fullB (by simp)]
    have := finN_rep h q (k + 1) r hr
    rw [show k + (q + 1) = k + 1 + q by omega]
    exact this
theorem lenB_0 (n : Nat) (hn : n < 4096) (k : Nat) (hk : 16 ≤ k ∧ k ≤ 56) : lenB (n : Int) k = UInt8.ofNat 0 := by
  unfold lenB
  congr 1
  have e : IntKind.u64.wrap ((n : Int) * 8) = ((8 * n : Nat) : Int) := by rw [wu64]; omega
  rw [e, show ((2 : Int) ^ k) = ((2 ^ k : Nat) : Int) by push_cast; rfl, Int.fdiv_eq_ediv_of_nonneg _ (Int.natCast_nonneg _), ← Int.natCast_ediv]
  have : 8 * n / 2 ^ k = 0 := Nat.div_eq_of_lt (Nat.lt_of_lt_of_le (show 8 * n < 2 ^ 16 by omega) (Nat.pow_le_pow_right (by omega) hk.1))
  rw [this]; rfl
theorem lenB_8 (n : Nat) (hn : n < 4096) : lenB (n : Int) 8 = UInt8.ofNat (8 * n / 256) := by
  unfold lenB
  congr 1
  have e : IntKind.u64.wrap ((n : Int) * 8) = ((8 * n : Nat) : Int) := by rw [wu64]; omega
  rw [e, show ((2 : Int) ^ 8) = ((256 : Nat) : Int) by decide, Int.fdiv_eq_ediv_of_nonneg _ (Int.natCast_nonneg _), ← Int.natCast_ediv, wu8]
  omega
theorem lenB_1 (n : Nat) (hn : n < 4096) : lenB (n : Int) 0 = UInt8.ofNat (8 * n % 256) := by
  unfold lenB
  congr 1
  have e : IntKind.u64.wrap ((n : Int) * 8) = ((8 * n : Nat) : Int) := by rw [wu64]; omega
  rw [e, show ((2 : Int) ^ 0) = ((1 : Nat) : Int) by decide, Int.fdiv_eq_ediv_of_nonneg _ (Int.natCast_nonneg _), ← Int.natCast_ediv, wu8]
  omega
theorem padB_O {c : Nat} (h : c < 256) (r n : Nat) (hn : n < 4096) : padB (List.replicate r (chB c)) (n : Int) = bsB (padO r n) c := by
  unfold padB padO bsB
  rw [List.map_append, List.map_cons, List.map_append, List.map_replicate, List.map_replicate, List.map_replicate, List.length_replicate, lenB_0 n hn 56 (by omega), lenB_0 n hn 48 (by omega), lenB_0 n hn 40 (by omega), lenB_0 n hn 32 (by omega), lenB_0 n hn 24 (by omega), lenB_0 n hn 16 (by omega), lenB_8 n hn, lenB_1 n hn]
  have e : UInt8.ofNat (Int.toNat ((chB c).toNat : Int)) = UInt8.ofNat (byF none c) := by
    show _ = UInt8.ofNat (cF c)
    rw [ofNat_cF h, Int.toNat_natCast]
    exact UInt8.ofNat_toNat
  rw [e]
  rfl
theorem dgN_S {c : Nat} (h : c < 256) {st : List Nat} (h8 : st.length = 8) (hst : W8 (fun _ => st)) (r n : Nat) (hr : r < 64) (hn : n < 4096) : dgN st (List.replicate r (chB c)) (n : Int) = digS st r n c := by
  have hl := padO_len r n
  have hb := padO_bs r n hn
  unfold dgN digS
  rw [List.length_replicate]
  unfold blkL
  rw [padB_O h r n hn]
  by_cases h5 : r < 56
  · rw [if_pos h5, if_pos h5, show 64 * 0 = 0 from rfl, List.drop_zero, List.take_of_length_le (by unfold bsB; rw [List.length_map]; omega)]
    exact tkN_bs h8 _ hb (by omega) c
  · have h1 : ((padO r n).take 64).length = 64 := by rw [List.length_take]; omega
    have h2 : ((padO r n).drop 64).length = 64 := by rw [List.length_drop]; omega
    rw [if_neg h5, if_neg h5, show 64 * 0 = 0 from rfl, List.drop_zero, show 64 * 1 = 64 from rfl]
    have e1 : (bsB (padO r n) c).take 64 = bsB ((padO r n).take 64) c := by unfold bsB; rw [List.map_take]
    have e2 : ((bsB (padO r n) c).drop 64).take 64 = bsB ((padO r n).drop 64) c := by
      unfold bsB
      rw [← List.map_drop, List.take_of_length_le (by rw [List.length_map]; omega)]
    rw [e1, e2, tkN_bs h8 _ (hb.sub fun x hx => List.mem_of_mem_take hx) h1 c]
    exact tkN_bs ((tkS_w hst h1) c).1 _ (hb.sub fun x hx => List.mem_of_mem_drop hx) h2 c
/-- The first word of the digest of c^n. -/
def hdW (c n : Nat) : Nat := (digS (stB c (n / 64)) (n % 64) n c).getD 0 0
theorem shN_rep {c : Nat} (h : c < 256) (n : Nat) (hn : n < 4096) : (shN (List.replicate n (chB c))).getD 0 0 = hdW c n := by
  unfold shN
  rw [List.length_replicate]
  have e : List.replicate n (chB c) = List.replicate (64 * (n / 64) + n % 64) (chB c) := by rw [Nat.div_add_mod]
  have f := finN_rep h (n / 64) 0 (n % 64) (Nat.mod_lt _ (by decide))
  rw [← e, Nat.zero_add] at f
  rw [show ivN = stB c 0 from rfl, f]
  have ew : w64 0 ⟨(List.replicate n (chB c)).toArray⟩ = ((n : Nat) : Int) := by
    have := w64_eq 0 ⟨(List.replicate n (chB c)).toArray⟩ (by rw [ba_size, List.length_replicate]; omega)
    rw [ba_size, List.length_replicate, Nat.zero_add] at this
    exact this
  rw [ew]
  show (dgN (stB c (n / 64)) (List.replicate (n % 64) (chB c)) (n : Int)).getD 0 0 = _
  rw [dgN_S h (stB_w _ c).1 (fun _ => stB_w _ c) _ _ (Nat.mod_lt _ (by decide)) hn]; rfl
theorem runS_eq (c : Nat) : ∀ (f n : Nat) (acc : List Nat), runS f (stB c (n / 64)) n acc c = ((List.range' n f).map (hdW c)).reverse ++ acc
  | 0, n, acc => rfl
  | f + 1, n, acc => by
    have ih := runS_eq c f (n + 1) (hdW c n :: acc)
    unfold runS
    rw [List.range'_succ, List.map_cons, List.reverse_cons, List.append_assoc]
    split
    · rename_i h
      rw [show (n + 1) / 64 = n / 64 + 1 by omega] at ih
      exact ih
    · rename_i h
      rw [show (n + 1) / 64 = n / 64 by omega] at ih
      exact ih
theorem hdW_ne {c : Nat} (h : c < 256) {i j : Nat} (hi : i < 263) (hj : j < 263) (hij : i ≠ j) : hdW c i ≠ hdW c j := by
  have hp : (runS 263 ivS 0 [] c).Pairwise (· ≠ ·) := by
    by_cases h1 : c < 64
    · exact chk_ok (by omega) chk_0 c (by omega) (by omega)
    · by_cases h2 : c < 128
      · exact chk_ok (by omega) chk_1 c (by omega) (by omega)
      · by_cases h3 : c < 192
        · exact chk_ok (by omega) chk_2 c (by omega) (by omega)
        · exact chk_ok (by omega) chk_3 c (by omega) (by omega)
  have e := runS_eq c 263 0 []
  rw [show stB c (0 / 64) = ivS from rfl, List.append_nil] at e
  rw [e, List.pairwise_reverse, List.pairwise_iff_getElem] at hp
  have hl : ((List.range' 0 263).map (hdW c)).length = 263 := by simp
  have g : ∀ k (hk : k < ((List.range' 0 263).map (hdW c)).length), ((List.range' 0 263).map (hdW c))[k] = hdW c k := fun k hk => by simp
  rcases Nat.lt_or_gt_of_ne hij with q | q
  · have := hp i j (by omega) (by omega) q
    rw [g, g] at this
    exact fun w => this w.symm
  · have := hp j i (by omega) (by omega) q
    rw [g, g] at this
    exact fun w => this w
/-- c^n. -/
def repT (c n : Nat) : ByteArray := ⟨(List.replicate n (chB c)).toArray⟩
/-- **No two lengths have the same digest.** -/
theorem dig_ne {c : Nat} (h : c < 256) {i j : Nat} (hi : i < 263) (hj : j < 263) (hij : i ≠ j) : eqDg (shL.S (repT c i)) (shL.S (repT c j)) = false := by
  rw [Bool.eq_false_iff]
  intro e
  have qi := shN_ok (List.replicate i (chB c))
  have qj := shN_ok (List.replicate j (chB c))
  have all : ∀ k, k < 32 → dB (shL.S (repT c i)) k = dB (shL.S (repT c j)) k := by
    unfold eqDg at e
    have go : ∀ (l : List Nat), l.foldr (fun i' r => (dB (shL.S (repT c i)) i' == dB (shL.S (repT c j)) i') && r) true = true → ∀ k ∈ l, dB (shL.S (repT c i)) k = dB (shL.S (repT c j)) k := by
      intro l
      induction l with
      | nil => intro _ k hk; simp at hk
      | cons a l ih =>
        intro h k hk
        simp only [List.foldr_cons, Bool.and_eq_true, beq_iff_eq] at h
        rcases List.mem_cons.1 hk with rfl | hk
        · exact h.1
        · exact ih h.2 k hk
    exact fun k hk => go _ e k (by simp; exact hk)
  have bN : ∀ k, k < 32 → bN (shN (List.replicate i (chB c))) k = bN (shN (List.replicate j (chB c))) k := fun k hk => by
    have := all k hk
    unfold repT at this
    rw [dB_N qi.1 qi.2 hk, dB_N qj.1 qj.2 hk] at this
    omega
  have b0 := bN 0 (by omega)
  have b1 := bN 1 (by omega)
  have b2 := bN 2 (by omega)
  have b3 := bN 3 (by omega)
  have wi := (qi.1.2 0 (by omega)).2
  have wj := (qj.1.2 0 (by omega)).2
  simp only [Go.Proofs.YtgefcokanfbpbaaDoor.bN, Nat.shiftRight_eq_div_pow, Nat.zero_div, Nat.zero_mod, show 1 / 4 = 0 from rfl, show 2 / 4 = 0 from rfl, show 3 / 4 = 0 from rfl, show 1 % 4 = 1 from rfl, show 2 % 4 = 2 from rfl, show 3 % 4 = 3 from rfl] at b0 b1 b2 b3
  rw [shN_rep h i (by omega)] at b0 b1 b2 b3 wi
  rw [shN_rep h j (by omega)] at b0 b1 b2 b3 wj
  refine hdW_ne h hi hj hij ?_
  generalize hdW c i = x at *
  generalize hdW c j = y at *
  simp only [Nat.mul_zero, Nat.sub_zero, Nat.mul_one, Nat.reducePow, Nat.reduceMul, Nat.reduceSub] at b0 b1 b2 b3
  omega
end Go.Proofs.YtgefcokanfbpbaaDoor
