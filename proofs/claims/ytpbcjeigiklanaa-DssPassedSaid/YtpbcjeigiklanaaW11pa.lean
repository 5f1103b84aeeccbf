/-
  Walks of functions, reckoned through, and what they give (part W11pa). No condition beyond what each says. By an AI agent.
-/
import Derived.Test.YtpbcjeigiklanaaW11v
import Derived.Test.YtpbcjeigiklanaaW11y
namespace Go.Proofs.Ytpbcjeigiklanaa
open Go.Ex
open Go.RowKit (Below)
set_option linter.unusedVariables false
set_option linter.unusedSimpArgs false

def orM (s : ByteArray) (i b k : Int) : ByteArray := setB s i (IntKind.u8.wrap ((BitVec.ofInt 8 (byteAt s i) ||| BitVec.ofInt 8 (IntKind.u8.wrap ((BitVec.ofInt 8 b &&& BitVec.ofInt 8 k).toNat : Int))).toNat : Int))
def o1 (x : SG) (b0 : Int) : ByteArray := orM (enc (fitS x)).1 0 b0 15
def o2 (x : SG) (b0 b1 : Int) : ByteArray := orM (o1 x b0) 1 b1 224
def o3 (x : SG) (b0 b1 : Int) : ByteArray := orM (o2 x b0 b1) 1 b1 2
def o4 (x : SG) (b0 b1 : Int) : ByteArray := orM (o2 x b0 b1) 1 b1 24
theorem orM_size (s : ByteArray) (i b k : Int) : (orM s i b k).size = s.size := setB_size _ _ _
theorem setB_bAt (s : ByteArray) (i j : Nat) (z : Int) (h : i < s.size) : bAt (setB s (i : Int) z) j = if j = i then UInt8.ofNat z.toNat else bAt s j := by
  have h' : i < s.data.size := h
  unfold bAt setB
  simp only [Int.toNat_natCast, Array.getElem?_setIfInBounds]
  by_cases e : i = j
  · subst e; rw [if_pos rfl, if_pos h', if_pos rfl]; rfl
  · rw [if_neg e, if_neg (fun q => e q.symm)]
theorem orM_at (s : ByteArray) (i j : Nat) (b : Int) (k : Nat) (h : i < s.size) (hb : 0 ≤ b ∧ b < 256) (hk : k < 256) : bAt (orM s (i : Int) b (k : Int)) j = if j = i then UInt8.ofNat ((bAt s i).toNat ||| (b.toNat &&& k)) else bAt s j := by
  unfold orM
  rw [setB_bAt s i j _ h]
  split
  · obtain ⟨v, rfl⟩ := Int.eq_ofNat_of_zero_le hb.1
    have hv : v < 256 := by omega
    have ha := (bAt s i).toNat_lt
    have e1 : ((BitVec.ofInt 8 (v : Int) &&& BitVec.ofInt 8 (k : Int)).toNat) = v &&& k := by
      rw [BitVec.ofInt_natCast, BitVec.ofInt_natCast, BitVec.toNat_and, BitVec.toNat_ofNat, BitVec.toNat_ofNat, Nat.mod_eq_of_lt (by omega), Nat.mod_eq_of_lt (by omega)]
    have e2 : v &&& k < 256 := Nat.lt_of_le_of_lt Nat.and_le_left hv
    have e3 : IntKind.u8.wrap ((v &&& k : Nat) : Int) = ((v &&& k : Nat) : Int) := by rw [wu8]; omega
    have e4 : (BitVec.ofInt 8 ((bAt s i).toNat : Int) ||| BitVec.ofInt 8 ((v &&& k : Nat) : Int)).toNat = (bAt s i).toNat ||| (v &&& k) := by
      rw [BitVec.ofInt_natCast, BitVec.ofInt_natCast, BitVec.toNat_or, BitVec.toNat_ofNat, BitVec.toNat_ofNat, Nat.mod_eq_of_lt (by omega), Nat.mod_eq_of_lt (by omega)]
    have e5 : (bAt s i).toNat ||| (v &&& k) < 256 := Nat.or_lt_two_pow (n := 8) (by omega) (by omega)
    rw [byteAt_eq s i h, e1, e3, e4, Int.toNat_natCast]
    have e6 : IntKind.u8.wrap (((bAt s i).toNat ||| (v &&& k) : Nat) : Int) = (((bAt s i).toNat ||| (v &&& k) : Nat) : Int) := by rw [wu8]; omega
    rw [e6, Int.toNat_natCast]
  · rfl
/-- What is read hangs on these alone. -/
theorem dec_congr {s t : ByteArray} (hz : s.size = t.size) (h0 : (bAt s 0).toNat / 16 = (bAt t 0).toNat / 16) (hA' : hA s = hA t) (hL' : hA t = true → hL s = hL t) (hM' : hM s = hM t) (hD' : hM t = true → hD s = hD t ∧ hF s = hF t) (hb : ∀ i, 2 ≤ i → bAt s i = bAt t i) : dec s = dec t := by
  have hn : ∀ (i : Nat) (l : Bool), 2 ≤ i → numAt s i l = numAt t i l := by
    intro i l hi
    cases l <;> simp only [numAt] <;> rw [hb i hi, hb (i + 1) (by omega), hb (i + 2) (by omega), hb (i + 3) (by omega)]
    rw [hb (i + 4) (by omega), hb (i + 5) (by omega), hb (i + 6) (by omega), hb (i + 7) (by omega)]
  have hf : ∀ a l, 2 ≤ frm a l := by intro a l; cases a <;> cases l <;> decide
  have hnd : ∀ a l m d, 2 ≤ need a l m d := by intro a l m d; cases a <;> cases l <;> cases m <;> cases d <;> decide
  have hv : ∀ (a l m d f h : Bool), dval s a l m d f h = dval t a l m d f h := by
    intro a l m d f h
    have q1 := hf a l
    have q2 := hnd a l m d
    unfold dval
    rw [hn 2 l (by omega), hn (frm a l) d q1, hn (frm a l + wd d) false (by omega), hb (frm a l + wd d + 4) (by omega), hb (frm a l + wd d + 5) (by omega), hb (need a l m d) q2, hb (need a l m d + 1) (by omega)]
  have hc : ∀ (a l m d f : Bool), decF s a l m d f = decF t a l m d f := by
    intro a l m d f
    unfold decF
    rw [hz, hv, hv]
  have hl : ∀ (l l' m d f : Bool), decF t false l m d f = decF t false l' m d f := by intro l l' m d f; rfl
  have hd : ∀ (a l d d' f f' : Bool), decF t a l false d f = decF t a l false d' f' := by intro a l d d' f f'; rfl
  unfold dec
  rw [hz, h0]
  split
  · rfl
  split
  · rfl
  split
  · rfl
  rw [hc, hA', hM']
  cases ea : hA t <;> cases em : hM t
  · rfl
  · rw [(hD' em).1, (hD' em).2]; exact hl _ _ _ _ _
  · rw [hL' ea]; exact hd _ _ _ _ _ _
  · rw [hL' ea, (hD' em).1, (hD' em).2]
theorem or15 (v : Nat) (hv : v < 256) : (32 ||| (v &&& 15)) / 16 = 2 ∧ 32 ||| (v &&& 15) < 256 := by
  have : ∀ x : Fin 256, (32 ||| (x.val &&& 15)) / 16 = 2 ∧ 32 ||| (x.val &&& 15) < 256 := by decide +kernel
  exact this ⟨v, hv⟩
theorem and_mem (v k : Nat) (hv : v < 256) (L : List Nat) (hL : ∀ x : Fin 256, (x.val &&& k) ∈ L) : (v &&& k) ∈ L := hL ⟨v, hv⟩
def bits5 (a b : Nat) : Prop := a % 2 = b % 2 ∧ a / 2 % 2 = b / 2 % 2 ∧ a / 4 % 2 = b / 4 % 2 ∧ a / 8 % 2 = b / 8 % 2 ∧ a / 16 % 2 = b / 16 % 2
instance (a b : Nat) : Decidable (bits5 a b) := by unfold bits5; infer_instance
theorem or224 (f v : Nat) (hf : f < 256) (hv : v < 256) : (f ||| (v &&& 224)) < 256 ∧ bits5 (f ||| (v &&& 224)) f := by
  have m := and_mem v 224 hv [0, 32, 64, 96, 128, 160, 192, 224] (by decide +kernel)
  have h : ∀ w ∈ [0, 32, 64, 96, 128, 160, 192, 224], ∀ x : Fin 256, (x.val ||| w) < 256 ∧ bits5 (x.val ||| w) x.val := by decide +kernel
  exact h _ m ⟨f, hf⟩
theorem or2' (f v : Nat) (hf : f < 256) (hv : v < 256) : (f ||| (v &&& 2)) < 256 ∧ (f ||| (v &&& 2)) % 2 = f % 2 ∧ (f ||| (v &&& 2)) / 4 % 2 = f / 4 % 2 ∧ (f ||| (v &&& 2)) / 8 % 2 = f / 8 % 2 ∧ (f ||| (v &&& 2)) / 16 % 2 = f / 16 % 2 := by
  have m := and_mem v 2 hv [0, 2] (by decide +kernel)
  have h : ∀ w ∈ [0, 2], ∀ x : Fin 256, (x.val ||| w) < 256 ∧ (x.val ||| w) % 2 = x.val % 2 ∧ (x.val ||| w) / 4 % 2 = x.val / 4 % 2 ∧ (x.val ||| w) / 8 % 2 = x.val / 8 % 2 ∧ (x.val ||| w) / 16 % 2 = x.val / 16 % 2 := by decide +kernel
  exact h _ m ⟨f, hf⟩
theorem or24 (f v : Nat) (hf : f < 256) (hv : v < 256) : (f ||| (v &&& 24)) < 256 ∧ (f ||| (v &&& 24)) % 2 = f % 2 ∧ (f ||| (v &&& 24)) / 2 % 2 = f / 2 % 2 ∧ (f ||| (v &&& 24)) / 4 % 2 = f / 4 % 2 := by
  have m := and_mem v 24 hv [0, 8, 16, 24] (by decide +kernel)
  have h : ∀ w ∈ [0, 8, 16, 24], ∀ x : Fin 256, (x.val ||| w) < 256 ∧ (x.val ||| w) % 2 = x.val % 2 ∧ (x.val ||| w) / 2 % 2 = x.val / 2 % 2 ∧ (x.val ||| w) / 4 % 2 = x.val / 4 % 2 := by decide +kernel
  exact h _ m ⟨f, hf⟩
theorem toNat_ofNat' (n : Nat) (h : n < 256) : (UInt8.ofNat n).toNat = n := by rw [UInt8.toNat_ofNat']; omega
theorem enc_ok (x : SG) (h : may x) : (enc x).1 = ⟨(body x).toArray⟩ := by rw [enc, if_pos h]
theorem enc_b0 (x : SG) (h : may x) : bAt (enc x).1 0 = UInt8.ofNat 32 := by rw [enc_ok x h]; rfl
theorem enc_b1 (x : SG) (h : may x) : bAt (enc x).1 1 = flags x := by rw [enc_ok x h]; rfl
theorem flags_A (x : SG) : decide ((flags x).toNat % 2 = 1) = x.ha := by
  obtain ⟨fin, ha, la, ack, hm, ld, dsn, ssn, ln, hs, sm⟩ := x
  show decide ((UInt8.ofNat (bI ha 1 + bI la 2 + bI hm 4 + bI ld 8 + bI fin 16)).toNat % 2 = 1) = ha
  cases fin <;> cases ha <;> cases la <;> cases hm <;> cases ld <;> decide
theorem flags_M (x : SG) : decide ((flags x).toNat / 4 % 2 = 1) = x.hm := by
  obtain ⟨fin, ha, la, ack, hm, ld, dsn, ssn, ln, hs, sm⟩ := x
  show decide ((UInt8.ofNat (bI ha 1 + bI la 2 + bI hm 4 + bI ld 8 + bI fin 16)).toNat / 4 % 2 = 1) = hm
  cases fin <;> cases ha <;> cases la <;> cases hm <;> cases ld <;> decide
section
variable (x : SG) (b0 b1 : Int) (hm : may (fitS x)) (h2 : 2 ≤ (enc (fitS x)).1.size) (h0 : 0 ≤ b0 ∧ b0 < 256) (h1 : 0 ≤ b1 ∧ b1 < 256)
include hm h2 h0 h1
theorem o2_facts : (o2 x b0 b1).size = (enc (fitS x)).1.size ∧ (bAt (o2 x b0 b1) 0).toNat / 16 = 2 ∧ bits5 (bAt (o2 x b0 b1) 1).toNat (flags (fitS x)).toNat ∧ ∀ i, 2 ≤ i → bAt (o2 x b0 b1) i = bAt (enc (fitS x)).1 i := by
  have z1 : (o1 x b0).size = (enc (fitS x)).1.size := orM_size _ _ _ _
  have z2 : (o2 x b0 b1).size = (enc (fitS x)).1.size := (orM_size _ _ _ _).trans z1
  have p1 := fun j => orM_at (enc (fitS x)).1 0 j b0 15 (by omega) h0 (by decide)
  have p2 := fun j => orM_at (o1 x b0) 1 j b1 224 (by omega) h1 (by decide)
  have e0 := enc_b0 _ hm
  have e1 := enc_b1 _ hm
  have k0 : b0.toNat < 256 := by omega
  have k1 : b1.toNat < 256 := by omega
  have q0 : bAt (o2 x b0 b1) 0 = UInt8.ofNat (32 ||| (b0.toNat &&& 15)) := by
    show bAt (orM (o1 x b0) ((1 : Nat) : Int) b1 ((224 : Nat) : Int)) 0 = _
    rw [p2 0, if_neg (by decide)]
    show bAt (orM (enc (fitS x)).1 ((0 : Nat) : Int) b0 ((15 : Nat) : Int)) 0 = _
    rw [p1 0, if_pos rfl, e0]; rfl
  have q1 : bAt (o2 x b0 b1) 1 = UInt8.ofNat ((flags (fitS x)).toNat ||| (b1.toNat &&& 224)) := by
    show bAt (orM (o1 x b0) ((1 : Nat) : Int) b1 ((224 : Nat) : Int)) 1 = _
    rw [p2 1, if_pos rfl]
    show UInt8.ofNat ((bAt (orM (enc (fitS x)).1 ((0 : Nat) : Int) b0 ((15 : Nat) : Int)) 1).toNat ||| _) = _
    rw [p1 1, if_neg (by decide), e1]
  obtain ⟨g1, g2⟩ := or15 b0.toNat k0
  obtain ⟨g3, g4⟩ := or224 (flags (fitS x)).toNat b1.toNat (flags (fitS x)).toNat_lt k1
  refine ⟨z2, by rw [q0, toNat_ofNat' _ g2]; exact g1, by rw [q1, toNat_ofNat' _ g3]; exact g4, fun i hi => ?_⟩
  show bAt (orM (o1 x b0) ((1 : Nat) : Int) b1 ((224 : Nat) : Int)) i = _
  rw [p2 i, if_neg (by omega)]
  show bAt (orM (enc (fitS x)).1 ((0 : Nat) : Int) b0 ((15 : Nat) : Int)) i = _
  rw [p1 i, if_neg (by omega)]
theorem dec_o2 : dec (o2 x b0 b1) = dec (enc (fitS x)).1 := by
  obtain ⟨z, a, ⟨c1, c2, c3, c4, c5⟩, b⟩ := o2_facts x b0 b1 hm h2 h0 h1
  have e0 := enc_b0 _ hm
  have e1 := enc_b1 _ hm
  refine dec_congr z (by rw [a, e0]; rfl) ?_ (fun _ => ?_) ?_ (fun _ => ⟨?_, ?_⟩) b
  · unfold hA; rw [e1, c1]
  · unfold hL; rw [e1, c2]
  · unfold hM; rw [e1, c3]
  · unfold hD; rw [e1, c4]
  · unfold hF; rw [e1, c5]
theorem dec_o3 (hh : (fitS x).ha = false) : dec (o3 x b0 b1) = dec (enc (fitS x)).1 := by
  obtain ⟨z, a, ⟨c1, c2, c3, c4, c5⟩, b⟩ := o2_facts x b0 b1 hm h2 h0 h1
  rw [← dec_o2 x b0 b1 hm h2 h0 h1]
  have p := fun j => orM_at (o2 x b0 b1) 1 j b1 2 (by omega) h1 (by decide)
  have q : ∀ j, bAt (o3 x b0 b1) j = if j = 1 then UInt8.ofNat ((bAt (o2 x b0 b1) 1).toNat ||| (b1.toNat &&& 2)) else bAt (o2 x b0 b1) j := p
  obtain ⟨g1, g2, g3, g4, g5⟩ := or2' (bAt (o2 x b0 b1) 1).toNat b1.toNat (bAt (o2 x b0 b1) 1).toNat_lt (by omega)
  have q1 : (bAt (o3 x b0 b1) 1).toNat = (bAt (o2 x b0 b1) 1).toNat ||| (b1.toNat &&& 2) := by rw [q 1, if_pos rfl, toNat_ofNat' _ g1]
  have hAf : hA (o2 x b0 b1) = false := by unfold hA; rw [c1, flags_A, hh]
  refine dec_congr (orM_size _ _ _ _) (by rw [q 0, if_neg (by decide)]) ?_ (fun e => by rw [hAf] at e; cases e) ?_ (fun _ => ⟨?_, ?_⟩) (fun i hi => by rw [q i, if_neg (by omega)])
  · unfold hA; rw [q1, g2]
  · unfold hM; rw [q1, g3]
  · unfold hD; rw [q1, g4]
  · unfold hF; rw [q1, g5]
theorem dec_o4 (hh : (fitS x).hm = false) : dec (o4 x b0 b1) = dec (enc (fitS x)).1 := by
  obtain ⟨z, a, ⟨c1, c2, c3, c4, c5⟩, b⟩ := o2_facts x b0 b1 hm h2 h0 h1
  rw [← dec_o2 x b0 b1 hm h2 h0 h1]
  have p := fun j => orM_at (o2 x b0 b1) 1 j b1 24 (by omega) h1 (by decide)
  have q : ∀ j, bAt (o4 x b0 b1) j = if j = 1 then UInt8.ofNat ((bAt (o2 x b0 b1) 1).toNat ||| (b1.toNat &&& 24)) else bAt (o2 x b0 b1) j := p
  obtain ⟨g1, g2, g3, g4⟩ := or24 (bAt (o2 x b0 b1) 1).toNat b1.toNat (bAt (o2 x b0 b1) 1).toNat_lt (by omega)
  have q1 : (bAt (o4 x b0 b1) 1).toNat = (bAt (o2 x b0 b1) 1).toNat ||| (b1.toNat &&& 24) := by rw [q 1, if_pos rfl, toNat_ofNat' _ g1]
  have hMf : hM (o2 x b0 b1) = false := by unfold hM; rw [c3, flags_M, hh]
  refine dec_congr (orM_size _ _ _ _) (by rw [q 0, if_neg (by decide)]) ?_ (fun _ => ?_) ?_ (fun e => by rw [hMf] at e; cases e) (fun i hi => by rw [q i, if_neg (by omega)])
  · unfold hA; rw [q1, g2]
  · unfold hL; rw [q1, g3]
  · unfold hM; rw [q1, g4]
end
theorem w8r (z : Int) : 0 ≤ IntKind.u8.wrap z ∧ IntKind.u8.wrap z < 256 := by rw [wu8]; omega
noncomputable def dpass_r0 (x : SG) (b0 : Int) (b1 : Int) (ans : List Bool) : Rr (SV × Option (List SO)) := callR YB (run YB (100 : Nat)) (6 : FuncId) [x.sv, SV.agg [SV.val (Value.int IntKind.u8 b0), SV.val (Value.int IntKind.u8 b1)]] [] ans
def dpass_p0 (x : SG) (b0 : Int) (b1 : Int) : Prop :=
  gives (dpass_r0 x b0 b1 [false, false, false, false, true]) (SV.val
  (Value.bool
    (if true = true then (dec (o2 x b0 b1)).fst.fin == (fitS x).fin && ((dec (o2 x b0 b1)).fst.ha == (fitS x).ha && ((dec (o2 x b0 b1)).fst.la == (fitS x).la && ((dec (o2 x b0 b1)).fst.ack == (fitS x).ack && ((dec (o2 x b0 b1)).fst.hm == (fitS x).hm && ((dec (o2 x b0 b1)).fst.ld == (fitS x).ld && ((dec (o2 x b0 b1)).fst.dsn == (fitS x).dsn && ((dec (o2 x b0 b1)).fst.ssn == (fitS x).ssn && ((dec (o2 x b0 b1)).fst.ln == (fitS x).ln && ((dec (o2 x b0 b1)).fst.hs == (fitS x).hs && ((dec (o2 x b0 b1)).fst.sm == (fitS x).sm && true))))))))))
    else !((dec (o2 x b0 b1)).fst.fin == (fitS x).fin && ((dec (o2 x b0 b1)).fst.ha == (fitS x).ha && ((dec (o2 x b0 b1)).fst.la == (fitS x).la && ((dec (o2 x b0 b1)).fst.ack == (fitS x).ack && ((dec (o2 x b0 b1)).fst.hm == (fitS x).hm && ((dec (o2 x b0 b1)).fst.ld == (fitS x).ld && ((dec (o2 x b0 b1)).fst.dsn == (fitS x).dsn && ((dec (o2 x b0 b1)).fst.ssn == (fitS x).ssn && ((dec (o2 x b0 b1)).fst.ln == (fitS x).ln && ((dec (o2 x b0 b1)).fst.hs == (fitS x).hs && ((dec (o2 x b0 b1)).fst.sm == (fitS x).sm && true)))))))))))))) [True, ((0 : Int) ≤ (fitS x).ack ∧ (fitS x).ack < (18446744073709551616 : Int)) ∧ ((0 : Int) ≤ (fitS x).dsn ∧ (fitS x).dsn < (18446744073709551616 : Int)) ∧ ((0 : Int) ≤ (fitS x).ssn ∧ (fitS x).ssn < (4294967296 : Int)) ∧ (0 : Int) ≤ (fitS x).sm ∧ (fitS x).sm < (65536 : Int), ((enc (fitS x)).snd != (0 : Int)) = false, decide ((↑(enc (fitS x)).fst.size : Int) < (2 : Int)) = false, (0 : Int) ≤ (0 : Int) ∧ (0 : Int) < (↑(enc (fitS x)).fst.size : Int), (0 : Nat) < (enc (fitS x)).fst.size, (0 : Int) ≤ (0 : Int) ∧ (0 : Int) < (↑(enc (fitS x)).fst.size : Int), (0 : Nat) < (enc (fitS x)).fst.size ∧ (0 : Int) ≤ IntKind.u8.wrap (↑(BitVec.ofInt (8 : Nat) (byteAt (enc (fitS x)).fst (0 : Int)) ||| BitVec.ofInt (8 : Nat) (IntKind.u8.wrap (↑(BitVec.ofInt (8 : Nat) b0 &&& BitVec.ofInt (8 : Nat) (15 : Int)).toNat : Int))).toNat : Int) ∧ IntKind.u8.wrap (↑(BitVec.ofInt (8 : Nat) (byteAt (enc (fitS x)).fst (0 : Int)) ||| BitVec.ofInt (8 : Nat) (IntKind.u8.wrap (↑(BitVec.ofInt (8 : Nat) b0 &&& BitVec.ofInt (8 : Nat) (15 : Int)).toNat : Int))).toNat : Int) < (256 : Int), (0 : Int) ≤ (1 : Int) ∧ (1 : Int) < (↑(enc (fitS x)).fst.size : Int), (1 : Nat) < (o1 x b0).size, (0 : Int) ≤ (1 : Int) ∧ (1 : Int) < (↑(enc (fitS x)).fst.size : Int), (1 : Nat) < (o1 x b0).size ∧ (0 : Int) ≤ IntKind.u8.wrap (↑(BitVec.ofInt (8 : Nat) (byteAt (o1 x b0) (1 : Int)) ||| BitVec.ofInt (8 : Nat) (IntKind.u8.wrap (↑(BitVec.ofInt (8 : Nat) b1 &&& BitVec.ofInt (8 : Nat) (224 : Int)).toNat : Int))).toNat : Int) ∧ IntKind.u8.wrap (↑(BitVec.ofInt (8 : Nat) (byteAt (o1 x b0) (1 : Int)) ||| BitVec.ofInt (8 : Nat) (IntKind.u8.wrap (↑(BitVec.ofInt (8 : Nat) b1 &&& BitVec.ofInt (8 : Nat) (224 : Int)).toNat : Int))).toNat : Int) < (256 : Int), (!(fitS x).ha) = false, (!(fitS x).hm) = false, (enc (fitS x)).fst.size = (o2 x b0 b1).size, (o2 x b0 b1).size ≤ (9223372036854775807 : Nat), ((dec (o2 x b0 b1)).snd == (0 : Int)) = true]
def dpass_p1 (x : SG) (b0 : Int) (b1 : Int) : Prop :=
  gives (dpass_r0 x b0 b1 [false, false, false, true, true]) (SV.val
  (Value.bool
    (if true = true then
      (dec (o4 x b0 b1)).fst.fin == (fitS x).fin &&
        ((dec (o4 x b0 b1)).fst.ha == (fitS x).ha &&
          ((dec (o4 x b0 b1)).fst.la == (fitS x).la &&
            ((dec (o4 x b0 b1)).fst.ack == (fitS x).ack &&
              ((dec (o4 x b0 b1)).fst.hm == (fitS x).hm && ((dec (o4 x b0 b1)).fst.ld == (fitS x).ld && ((dec (o4 x b0 b1)).fst.dsn == (fitS x).dsn && ((dec (o4 x b0 b1)).fst.ssn == (fitS x).ssn && ((dec (o4 x b0 b1)).fst.ln == (fitS x).ln && ((dec (o4 x b0 b1)).fst.hs == (fitS x).hs && ((dec (o4 x b0 b1)).fst.sm == (fitS x).sm && true))))))))))
    else
      !((dec (o4 x b0 b1)).fst.fin == (fitS x).fin &&
          ((dec (o4 x b0 b1)).fst.ha == (fitS x).ha &&
            ((dec (o4 x b0 b1)).fst.la == (fitS x).la &&
              ((dec (o4 x b0 b1)).fst.ack == (fitS x).ack &&
                ((dec (o4 x b0 b1)).fst.hm == (fitS x).hm && ((dec (o4 x b0 b1)).fst.ld == (fitS x).ld && ((dec (o4 x b0 b1)).fst.dsn == (fitS x).dsn && ((dec (o4 x b0 b1)).fst.ssn == (fitS x).ssn && ((dec (o4 x b0 b1)).fst.ln == (fitS x).ln && ((dec (o4 x b0 b1)).fst.hs == (fitS x).hs && ((dec (o4 x b0 b1)).fst.sm == (fitS x).sm && true)))))))))))))) [True, ((0 : Int) ≤ (fitS x).ack ∧ (fitS x).ack < (18446744073709551616 : Int)) ∧ ((0 : Int) ≤ (fitS x).dsn ∧ (fitS x).dsn < (18446744073709551616 : Int)) ∧ ((0 : Int) ≤ (fitS x).ssn ∧ (fitS x).ssn < (4294967296 : Int)) ∧ (0 : Int) ≤ (fitS x).sm ∧ (fitS x).sm < (65536 : Int), ((enc (fitS x)).snd != (0 : Int)) = false, decide ((↑(enc (fitS x)).fst.size : Int) < (2 : Int)) = false, (0 : Int) ≤ (0 : Int) ∧ (0 : Int) < (↑(enc (fitS x)).fst.size : Int), (0 : Nat) < (enc (fitS x)).fst.size, (0 : Int) ≤ (0 : Int) ∧ (0 : Int) < (↑(enc (fitS x)).fst.size : Int), (0 : Nat) < (enc (fitS x)).fst.size ∧ (0 : Int) ≤ IntKind.u8.wrap (↑(BitVec.ofInt (8 : Nat) (byteAt (enc (fitS x)).fst (0 : Int)) ||| BitVec.ofInt (8 : Nat) (IntKind.u8.wrap (↑(BitVec.ofInt (8 : Nat) b0 &&& BitVec.ofInt (8 : Nat) (15 : Int)).toNat : Int))).toNat : Int) ∧ IntKind.u8.wrap (↑(BitVec.ofInt (8 : Nat) (byteAt (enc (fitS x)).fst (0 : Int)) ||| BitVec.ofInt (8 : Nat) (IntKind.u8.wrap (↑(BitVec.ofInt (8 : Nat) b0 &&& BitVec.ofInt (8 : Nat) (15 : Int)).toNat : Int))).toNat : Int) < (256 : Int), (0 : Int) ≤ (1 : Int) ∧ (1 : Int) < (↑(enc (fitS x)).fst.size : Int), (1 : Nat) < (o1 x b0).size, (0 : Int) ≤ (1 : Int) ∧ (1 : Int) < (↑(enc (fitS x)).fst.size : Int), (1 : Nat) < (o1 x b0).size ∧ (0 : Int) ≤ IntKind.u8.wrap (↑(BitVec.ofInt (8 : Nat) (byteAt (o1 x b0) (1 : Int)) ||| BitVec.ofInt (8 : Nat) (IntKind.u8.wrap (↑(BitVec.ofInt (8 : Nat) b1 &&& BitVec.ofInt (8 : Nat) (224 : Int)).toNat : Int))).toNat : Int) ∧ IntKind.u8.wrap (↑(BitVec.ofInt (8 : Nat) (byteAt (o1 x b0) (1 : Int)) ||| BitVec.ofInt (8 : Nat) (IntKind.u8.wrap (↑(BitVec.ofInt (8 : Nat) b1 &&& BitVec.ofInt (8 : Nat) (224 : Int)).toNat : Int))).toNat : Int) < (256 : Int), (!(fitS x).ha) = false, (!(fitS x).hm) = true, (0 : Int) ≤ (1 : Int) ∧ (1 : Int) < (↑(enc (fitS x)).fst.size : Int), (1 : Nat) < (o2 x b0 b1).size, (0 : Int) ≤ (1 : Int) ∧ (1 : Int) < (↑(enc (fitS x)).fst.size : Int), (1 : Nat) < (o2 x b0 b1).size ∧ (0 : Int) ≤ IntKind.u8.wrap (↑(BitVec.ofInt (8 : Nat) (byteAt (o2 x b0 b1) (1 : Int)) ||| BitVec.ofInt (8 : Nat) (IntKind.u8.wrap (↑(BitVec.ofInt (8 : Nat) b1 &&& BitVec.ofInt (8 : Nat) (24 : Int)).toNat : Int))).toNat : Int) ∧ IntKind.u8.wrap (↑(BitVec.ofInt (8 : Nat) (byteAt (o2 x b0 b1) (1 : Int)) ||| BitVec.ofInt (8 : Nat) (IntKind.u8.wrap (↑(BitVec.ofInt (8 : Nat) b1 &&& BitVec.ofInt (8 : Nat) (24 : Int)).toNat : Int))).toNat : Int) < (256 : Int), (enc (fitS x)).fst.size = (o4 x b0 b1).size, (o4 x b0 b1).size ≤ (9223372036854775807 : Nat), ((dec (o4 x b0 b1)).snd == (0 : Int)) = true]
def dpass_p2 (x : SG) (b0 : Int) (b1 : Int) : Prop :=
  gives (dpass_r0 x b0 b1 [false, false, true, false, true]) (SV.val
  (Value.bool
    (if true = true then
      (dec (o3 x b0 b1)).fst.fin == (fitS x).fin &&
        ((dec (o3 x b0 b1)).fst.ha == (fitS x).ha &&
          ((dec (o3 x b0 b1)).fst.la == (fitS x).la &&
            ((dec (o3 x b0 b1)).fst.ack == (fitS x).ack &&
              ((dec (o3 x b0 b1)).fst.hm == (fitS x).hm && ((dec (o3 x b0 b1)).fst.ld == (fitS x).ld && ((dec (o3 x b0 b1)).fst.dsn == (fitS x).dsn && ((dec (o3 x b0 b1)).fst.ssn == (fitS x).ssn && ((dec (o3 x b0 b1)).fst.ln == (fitS x).ln && ((dec (o3 x b0 b1)).fst.hs == (fitS x).hs && ((dec (o3 x b0 b1)).fst.sm == (fitS x).sm && true))))))))))
    else
      !((dec (o3 x b0 b1)).fst.fin == (fitS x).fin &&
          ((dec (o3 x b0 b1)).fst.ha == (fitS x).ha &&
            ((dec (o3 x b0 b1)).fst.la == (fitS x).la &&
              ((dec (o3 x b0 b1)).fst.ack == (fitS x).ack &&
                ((dec (o3 x b0 b1)).fst.hm == (fitS x).hm && ((dec (o3 x b0 b1)).fst.ld == (fitS x).ld && ((dec (o3 x b0 b1)).fst.dsn == (fitS x).dsn && ((dec (o3 x b0 b1)).fst.ssn == (fitS x).ssn && ((dec (o3 x b0 b1)).fst.ln == (fitS x).ln && ((dec (o3 x b0 b1)).fst.hs == (fitS x).hs && ((dec (o3 x b0 b1)).fst.sm == (fitS x).sm && true)))))))))))))) [True, ((0 : Int) ≤ (fitS x).ack ∧ (fitS x).ack < (18446744073709551616 : Int)) ∧ ((0 : Int) ≤ (fitS x).dsn ∧ (fitS x).dsn < (18446744073709551616 : Int)) ∧ ((0 : Int) ≤ (fitS x).ssn ∧ (fitS x).ssn < (4294967296 : Int)) ∧ (0 : Int) ≤ (fitS x).sm ∧ (fitS x).sm < (65536 : Int), ((enc (fitS x)).snd != (0 : Int)) = false, decide ((↑(enc (fitS x)).fst.size : Int) < (2 : Int)) = false, (0 : Int) ≤ (0 : Int) ∧ (0 : Int) < (↑(enc (fitS x)).fst.size : Int), (0 : Nat) < (enc (fitS x)).fst.size, (0 : Int) ≤ (0 : Int) ∧ (0 : Int) < (↑(enc (fitS x)).fst.size : Int), (0 : Nat) < (enc (fitS x)).fst.size ∧ (0 : Int) ≤ IntKind.u8.wrap (↑(BitVec.ofInt (8 : Nat) (byteAt (enc (fitS x)).fst (0 : Int)) ||| BitVec.ofInt (8 : Nat) (IntKind.u8.wrap (↑(BitVec.ofInt (8 : Nat) b0 &&& BitVec.ofInt (8 : Nat) (15 : Int)).toNat : Int))).toNat : Int) ∧ IntKind.u8.wrap (↑(BitVec.ofInt (8 : Nat) (byteAt (enc (fitS x)).fst (0 : Int)) ||| BitVec.ofInt (8 : Nat) (IntKind.u8.wrap (↑(BitVec.ofInt (8 : Nat) b0 &&& BitVec.ofInt (8 : Nat) (15 : Int)).toNat : Int))).toNat : Int) < (256 : Int), (0 : Int) ≤ (1 : Int) ∧ (1 : Int) < (↑(enc (fitS x)).fst.size : Int), (1 : Nat) < (o1 x b0).size, (0 : Int) ≤ (1 : Int) ∧ (1 : Int) < (↑(enc (fitS x)).fst.size : Int), (1 : Nat) < (o1 x b0).size ∧ (0 : Int) ≤ IntKind.u8.wrap (↑(BitVec.ofInt (8 : Nat) (byteAt (o1 x b0) (1 : Int)) ||| BitVec.ofInt (8 : Nat) (IntKind.u8.wrap (↑(BitVec.ofInt (8 : Nat) b1 &&& BitVec.ofInt (8 : Nat) (224 : Int)).toNat : Int))).toNat : Int) ∧ IntKind.u8.wrap (↑(BitVec.ofInt (8 : Nat) (byteAt (o1 x b0) (1 : Int)) ||| BitVec.ofInt (8 : Nat) (IntKind.u8.wrap (↑(BitVec.ofInt (8 : Nat) b1 &&& BitVec.ofInt (8 : Nat) (224 : Int)).toNat : Int))).toNat : Int) < (256 : Int), (!(fitS x).ha) = true, (0 : Int) ≤ (1 : Int) ∧ (1 : Int) < (↑(enc (fitS x)).fst.size : Int), (1 : Nat) < (o2 x b0 b1).size, (0 : Int) ≤ (1 : Int) ∧ (1 : Int) < (↑(enc (fitS x)).fst.size : Int), (1 : Nat) < (o2 x b0 b1).size ∧ (0 : Int) ≤ IntKind.u8.wrap (↑(BitVec.ofInt (8 : Nat) (byteAt (o2 x b0 b1) (1 : Int)) ||| BitVec.ofInt (8 : Nat) (IntKind.u8.wrap (↑(BitVec.ofInt (8 : Nat) b1 &&& BitVec.ofInt (8 : Nat) (2 : Int)).toNat : Int))).toNat : Int) ∧ IntKind.u8.wrap (↑(BitVec.ofInt (8 : Nat) (byteAt (o2 x b0 b1) (1 : Int)) ||| BitVec.ofInt (8 : Nat) (IntKind.u8.wrap (↑(BitVec.ofInt (8 : Nat) b1 &&& BitVec.ofInt (8 : Nat) (2 : Int)).toNat : Int))).toNat : Int) < (256 : Int), (!(fitS x).hm) = false, (enc (fitS x)).fst.size = (o3 x b0 b1).size, (o3 x b0 b1).size ≤ (9223372036854775807 : Nat), ((dec (o3 x b0 b1)).snd == (0 : Int)) = true]
set_option maxRecDepth 1000000 in
theorem dpass_b0 (x : SG) (b0 : Int) (b1 : Int) : dpass_p0 x b0 b1 ∧ dpass_p1 x b0 b1 ∧ dpass_p2 x b0 b1 := by
  unfold dpass_p0 dpass_p1 dpass_p2 gives; exact ⟨by kernel_rfl, by kernel_rfl, by kernel_rfl⟩
theorem dpass_0 (x : SG) (b0 : Int) (b1 : Int) : dpass_p0 x b0 b1 := (dpass_b0 x b0 b1).1
theorem dpass_1 (x : SG) (b0 : Int) (b1 : Int) : dpass_p1 x b0 b1 := (dpass_b0 x b0 b1).2.1
theorem dpass_2 (x : SG) (b0 : Int) (b1 : Int) : dpass_p2 x b0 b1 := (dpass_b0 x b0 b1).2.2
end Go.Proofs.Ytpbcjeigiklanaa
