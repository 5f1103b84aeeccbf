/-
  Walks of functions, reckoned through, and what they give (part W12p). No condition beyond what each says. By an AI agent.
-/
import Derived.Test.YtopillmjfpnmoaaW12c
namespace Go.Proofs.Ytopillmjfpnmoaa
open Go.Ex
open Go.RowKit (Below)
set_option linter.unusedVariables false
set_option linter.unusedSimpArgs false
def L37 (s : ByteArray) : Int := if (37 : Int) < IntKind.i64.wrap ((s.size : Int) + 1) then 37 else IntKind.i64.wrap ((s.size : Int) + 1)
def S0 (s : ByteArray) : ByteArray := s ++ ByteArray.mk (ByteArray.mk #[(0 : UInt8)]).data.toList.toArray
def ids (s : ByteArray) : ByteArray := (S0 s).extract 0 (L37 s).toNat

def same (a b : AV) : Bool := a.ec == b.ec && (a.id == b.id && (a.ip == b.ip && (a.has == b.has && (a.port == b.port && (a.mac == b.mac && true)))))
theorem same_iff (a b : AV) : same a b = true ↔ a = b := by
  obtain ⟨a1, a2, a3, a4, a5, a6⟩ := a
  obtain ⟨b1, b2, b3, b4, b5, b6⟩ := b
  simp only [same, Bool.and_eq_true, beq_iff_eq, ba_beq, decide_eq_true_eq, AV.mk.injEq, and_true]
/-- A draft stays in its bounds. -/
structure DV.Ok (x : DV) : Prop where
  i : 0 ≤ x.i ∧ x.i < 256
  n : 0 ≤ x.n ∧ x.n < 65536
def DV.ipL (x : DV) : List UInt8 := if x.wide then [UInt8.ofNat x.b0.toNat, UInt8.ofNat x.b1.toNat, UInt8.ofNat x.b2.toNat, UInt8.ofNat x.b3.toNat, UInt8.ofNat x.b4.toNat, UInt8.ofNat x.b5.toNat, UInt8.ofNat x.b6.toNat, UInt8.ofNat x.b7.toNat, UInt8.ofNat x.b8.toNat, UInt8.ofNat x.b9.toNat, UInt8.ofNat x.b10.toNat, UInt8.ofNat x.b11.toNat, UInt8.ofNat x.b12.toNat, UInt8.ofNat x.b13.toNat, UInt8.ofNat x.b14.toNat, UInt8.ofNat x.b15.toNat] else [UInt8.ofNat x.b0.toNat, UInt8.ofNat x.b1.toNat, UInt8.ofNat x.b2.toNat, UInt8.ofNat x.b3.toNat]
def DV.poL (x : DV) : List UInt8 := if x.po then [byK 256 (IntKind.i64.wrap x.n), byK 1 (IntKind.i64.wrap x.n)] else []
def DV.maL (x : DV) : List UInt8 := if x.ec then [] else [UInt8.ofNat x.b16.toNat, UInt8.ofNat x.b17.toNat, UInt8.ofNat x.b18.toNat, UInt8.ofNat x.b19.toNat, UInt8.ofNat x.b20.toNat, UInt8.ofNat x.b21.toNat, UInt8.ofNat x.b22.toNat, UInt8.ofNat x.b23.toNat]
def DV.rest (x : DV) : List UInt8 := byK 1 (IntKind.i64.wrap x.i) :: (x.ipL ++ (x.poL ++ x.maL))
/-- Its body, with any first byte. -/
def DV.body (x : DV) (f : UInt8) : ByteArray := ⟨(f :: x.rest).toArray⟩
theorem wrap_in {n : Int} (h0 : 0 ≤ n) (h : n < 65536) : IntKind.i64.wrap n = n := by rw [wi64]; omega
theorem app_mk (a b : Array UInt8) : ByteArray.mk a ++ ByteArray.mk b = ByteArray.mk (a ++ b) := by
  apply ByteArray.ext; simp
theorem DV.may_b {x : DV} (h : x.Ok) : may x.j := by
  obtain ⟨⟨h1, h2⟩, h3, h4⟩ := h
  have e1 := wrap_in h1 (by omega)
  have e2 := wrap_in h3 h4
  obtain ⟨ec, wide, po, i, n, b0, b1, b2, b3, b4, b5, b6, b7, b8, b9, b10, b11, b12, b13, b14, b15, b16, b17, b18, b19, b20, b21, b22, b23⟩ := x
  simp only at h1 h2 h3 h4 e1 e2
  unfold Ytopillmjfpnmoaa.may
  simp only [DV.j, e1, e2]
  refine ⟨h1, by omega, ?_, ?_, ?_, ?_, ?_⟩
  · cases wide
    · exact .inl rfl
    · exact .inr rfl
  · cases po <;> simp <;> omega
  · cases po <;> simp <;> omega
  · cases po <;> simp
  · cases ec
    · exact .inr ⟨rfl, rfl⟩
    · exact .inl ⟨rfl, rfl⟩
set_option maxHeartbeats 1000000 in
theorem DV.enc_b {x : DV} (h : x.Ok) : enc x.j = (x.body (hd x.ec), 0) := by
  have hm := DV.may_b h
  rw [Ytopillmjfpnmoaa.enc, if_pos hm]
  clear hm h
  obtain ⟨ec, wide, po, i, n, b0, b1, b2, b3, b4, b5, b6, b7, b8, b9, b10, b11, b12, b13, b14, b15, b16, b17, b18, b19, b20, b21, b22, b23⟩ := x
  cases ec <;> cases wide <;> cases po <;> simp only [DV.j, DV.ip4, DV.ip16, DV.mac8, if_true, if_false, Bool.false_eq_true, app_mk] <;> refine congrArg (fun z => (ByteArray.mk z, (0 : Int))) (Array.toList_inj.1 ?_) <;> simp only [Array.toList_append] <;> rfl
theorem bi {i : Int} (h : 0 ≤ i ∧ i < 256) : ((byK 1 (IntKind.i64.wrap i)).toNat : Int) = IntKind.i64.wrap i := by
  rw [byK_toNat, wrap_in h.1 (by omega)]; omega
theorem bn {n : Int} (h : 0 ≤ n ∧ n < 65536) : n2 (byK 256 (IntKind.i64.wrap n)) (byK 1 (IntKind.i64.wrap n)) = IntKind.i64.wrap n := by
  rw [n2, byK_toNat, byK_toNat, wrap_in h.1 h.2]; omega
theorem DV.dec_b {x : DV} (h : x.Ok) (f : UInt8) (h3 : f.toNat / 16 = 3) (h2 : f.toNat % 2 = if x.ec then 1 else 0) : dec (x.body f) = (x.j, 0) := by
  obtain ⟨hi, hn⟩ := h
  obtain ⟨ec, wide, po, i, n, b0, b1, b2, b3, b4, b5, b6, b7, b8, b9, b10, b11, b12, b13, b14, b15, b16, b17, b18, b19, b20, b21, b22, b23⟩ := x
  simp only at hi hn h2
  generalize hS : DV.body _ f = S
  cases ec
  · simp only [if_true, if_false, Bool.false_eq_true] at h2
    cases wide
    · cases po
      · have z : S.size = 14 := by rw [← hS]; rfl
        have e0 : bAt S 0 = f := by rw [← hS]; rfl
        have e1 : bAt S 1 = byK 1 (IntKind.i64.wrap i) := by rw [← hS]; rfl
        rw [Ytopillmjfpnmoaa.dec, if_neg (by omega), if_neg (by rw [e0]; omega), if_neg (by rw [e0]; omega), if_pos (by omega), e1, bi hi, ← hS]; rfl
      · have z : S.size = 16 := by rw [← hS]; rfl
        have e0 : bAt S 0 = f := by rw [← hS]; rfl
        have e1 : bAt S 1 = byK 1 (IntKind.i64.wrap i) := by rw [← hS]; rfl
        have e2 : bAt S 6 = byK 256 (IntKind.i64.wrap n) := by rw [← hS]; rfl
        have e3 : bAt S 7 = byK 1 (IntKind.i64.wrap n) := by rw [← hS]; rfl
        rw [Ytopillmjfpnmoaa.dec, if_neg (by omega), if_neg (by rw [e0]; omega), if_neg (by rw [e0]; omega), if_neg (by omega), if_pos (by omega), e1, bi hi, e2, e3, bn hn, ← hS]; rfl
    · cases po
      · have z : S.size = 26 := by rw [← hS]; rfl
        have e0 : bAt S 0 = f := by rw [← hS]; rfl
        have e1 : bAt S 1 = byK 1 (IntKind.i64.wrap i) := by rw [← hS]; rfl
        rw [Ytopillmjfpnmoaa.dec, if_neg (by omega), if_neg (by rw [e0]; omega), if_neg (by rw [e0]; omega), if_neg (by omega), if_neg (by omega), if_pos (by omega), e1, bi hi, ← hS]; rfl
      · have z : S.size = 28 := by rw [← hS]; rfl
        have e0 : bAt S 0 = f := by rw [← hS]; rfl
        have e1 : bAt S 1 = byK 1 (IntKind.i64.wrap i) := by rw [← hS]; rfl
        have e2 : bAt S 18 = byK 256 (IntKind.i64.wrap n) := by rw [← hS]; rfl
        have e3 : bAt S 19 = byK 1 (IntKind.i64.wrap n) := by rw [← hS]; rfl
        rw [Ytopillmjfpnmoaa.dec, if_neg (by omega), if_neg (by rw [e0]; omega), if_neg (by rw [e0]; omega), if_neg (by omega), if_neg (by omega), if_neg (by omega), if_pos (by omega), e1, bi hi, e2, e3, bn hn, ← hS]; rfl
  · simp only [if_true, if_false, Bool.false_eq_true] at h2
    cases wide
    · cases po
      · have z : S.size = 6 := by rw [← hS]; rfl
        have e0 : bAt S 0 = f := by rw [← hS]; rfl
        have e1 : bAt S 1 = byK 1 (IntKind.i64.wrap i) := by rw [← hS]; rfl
        rw [Ytopillmjfpnmoaa.dec, if_neg (by omega), if_neg (by rw [e0]; omega), if_pos (by rw [e0]; omega), if_pos (by omega), e1, bi hi, ← hS]; rfl
      · have z : S.size = 8 := by rw [← hS]; rfl
        have e0 : bAt S 0 = f := by rw [← hS]; rfl
        have e1 : bAt S 1 = byK 1 (IntKind.i64.wrap i) := by rw [← hS]; rfl
        have e2 : bAt S 6 = byK 256 (IntKind.i64.wrap n) := by rw [← hS]; rfl
        have e3 : bAt S 7 = byK 1 (IntKind.i64.wrap n) := by rw [← hS]; rfl
        rw [Ytopillmjfpnmoaa.dec, if_neg (by omega), if_neg (by rw [e0]; omega), if_pos (by rw [e0]; omega), if_neg (by omega), if_pos (by omega), e1, bi hi, e2, e3, bn hn, ← hS]; rfl
    · cases po
      · have z : S.size = 18 := by rw [← hS]; rfl
        have e0 : bAt S 0 = f := by rw [← hS]; rfl
        have e1 : bAt S 1 = byK 1 (IntKind.i64.wrap i) := by rw [← hS]; rfl
        rw [Ytopillmjfpnmoaa.dec, if_neg (by omega), if_neg (by rw [e0]; omega), if_pos (by rw [e0]; omega), if_neg (by omega), if_neg (by omega), if_pos (by omega), e1, bi hi, ← hS]; rfl
      · have z : S.size = 20 := by rw [← hS]; rfl
        have e0 : bAt S 0 = f := by rw [← hS]; rfl
        have e1 : bAt S 1 = byK 1 (IntKind.i64.wrap i) := by rw [← hS]; rfl
        have e2 : bAt S 18 = byK 256 (IntKind.i64.wrap n) := by rw [← hS]; rfl
        have e3 : bAt S 19 = byK 1 (IntKind.i64.wrap n) := by rw [← hS]; rfl
        rw [Ytopillmjfpnmoaa.dec, if_neg (by omega), if_neg (by rw [e0]; omega), if_pos (by rw [e0]; omega), if_neg (by omega), if_neg (by omega), if_neg (by omega), if_pos (by omega), e1, bi hi, e2, e3, bn hn, ← hS]; rfl
theorem hd_ok (b : Bool) : (hd b).toNat / 16 = 3 ∧ (hd b).toNat % 2 = if b then 1 else 0 := by cases b <;> decide
theorem DV.again {x : DV} (h : x.Ok) : dec (x.body (hd x.ec)) = (x.j, 0) := DV.dec_b h _ (hd_ok _).1 (hd_ok _).2
theorem DV.ip_size (x : DV) : x.j.ip.size = if x.wide then 16 else 4 := by
  unfold DV.j; simp only; cases x.wide <;> rfl
theorem DV.mac_size (x : DV) : x.j.mac.size = if x.ec then 0 else 8 := by
  unfold DV.j; simp only; cases x.ec <;> rfl
theorem DV.body_size (x : DV) (f : UInt8) : (x.body f).size = 2 + x.j.ip.size + x.j.mac.size + (if x.po then 2 else 0) := by
  rw [DV.ip_size, DV.mac_size, DV.body, size_mk, List.length_cons, DV.rest, List.length_cons, List.length_append, List.length_append, DV.ipL, DV.poL, DV.maL]
  cases x.ec <;> cases x.wide <;> cases x.po <;> rfl
theorem DV.body_small (x : DV) (f : UInt8) : 6 ≤ (x.body f).size ∧ (x.body f).size ≤ 28 := by
  rw [DV.body_size, DV.ip_size, DV.mac_size]
  cases x.ec <;> cases x.wide <;> cases x.po <;> decide
theorem DV.body_first (x : DV) (f : UInt8) : bAt (x.body f) 0 = f := by
  unfold DV.body bAt; simp
theorem DV.notR (x : DV) (f : UInt8) (h : f.toNat / 16 = 3) : (decR (x.body f)).2 = 7 := by
  have hz := DV.body_small x f
  rw [decR, if_neg (by omega), if_pos (by rw [DV.body_first]; omega)]
theorem DV.bent (x : DV) (f g : UInt8) : (⟨#[g]⟩ : ByteArray) ++ (x.body f).extract 1 ((x.body f).size : Int).toNat = x.body g := by
  rw [Int.toNat_natCast, DV.body, DV.body, size_mk]
  apply ByteArray.ext
  apply Array.toList_inj.1
  simp
theorem DV.bounds {x : DV} (h : x.Ok) : ((-9223372036854775808 : Int) ≤ x.j.id ∧ x.j.id < 9223372036854775808) ∧ (-9223372036854775808 : Int) ≤ x.j.port ∧ x.j.port < 9223372036854775808 := by
  obtain ⟨h1, h2, _, h3, h4, _⟩ := DV.may_b h
  exact ⟨⟨by omega, by omega⟩, by omega, by omega⟩
theorem DV.tell {x y : DV} (hx : x.Ok) (hy : y.Ok) : ((x.body (hd x.ec)).toList == (y.body (hd y.ec)).toList) = same x.j y.j := by
  rw [Bool.eq_iff_iff, same_iff, ba_toList_beq, decide_eq_true_eq]
  constructor
  · intro h
    have h1 := DV.again hx
    rw [h, DV.again hy] at h1
    exact (Prod.mk.inj h1).1.symm
  · intro h
    have h1 := DV.enc_b hx
    rw [h, DV.enc_b hy] at h1
    exact (Prod.mk.inj h1).1.symm
/-! ### Removes -/
theorem S0_size (s : ByteArray) : (S0 s).size = s.size + 1 := by unfold S0; rw [ByteArray.size_append]; rfl
theorem L37_eq (s : ByteArray) (h : s.size ≤ 140737488355328) : L37 s = if (s.size : Int) + 1 ≤ 37 then (s.size : Int) + 1 else 37 := by
  have e : IntKind.i64.wrap ((s.size : Int) + 1) = (s.size : Int) + 1 := by rw [wi64]; omega
  unfold L37
  rw [e]
  by_cases c : (s.size : Int) + 1 ≤ 37
  · rw [if_pos c]; split <;> omega
  · rw [if_neg c, if_pos (by omega)]
theorem ids_size (s : ByteArray) (h : s.size ≤ 140737488355328) : 1 ≤ (ids s).size ∧ (ids s).size ≤ 37 := by
  have e : (ids s).size = min (L37 s).toNat (S0 s).size - 0 := by unfold ids; rw [ByteArray.size_extract]
  rw [e, S0_size, L37_eq s h]
  split <;> omega
theorem L37_ok (s : ByteArray) (h : s.size ≤ 140737488355328) : (0 : Int) ≤ L37 s ∧ L37 s ≤ ((S0 s).size : Int) := by
  rw [S0_size, L37_eq s h]
  split <;> omega
def rb (g : UInt8) (t : ByteArray) : ByteArray := (⟨#[g]⟩ : ByteArray) ++ t
theorem rb_size (g : UInt8) (t : ByteArray) : (rb g t).size = 1 + t.size := by unfold rb; rw [size_app, size_1]
theorem rb_first (g : UInt8) (t : ByteArray) : bAt (rb g t) 0 = g := by
  unfold rb bAt
  rw [ByteArray.data_append, Array.getElem?_append_left (by simp)]; rfl
theorem rb_rest (g : UInt8) (t : ByteArray) : (rb g t).extract 1 (rb g t).size = t := by
  rw [rb_size]
  unfold rb
  apply ByteArray.ext
  apply Array.toList_inj.1
  rw [ByteArray.data_extract, ByteArray.data_append, Array.toList_extract, Array.toList_append, List.extract_eq_take_drop]
  show List.take (1 + t.data.size - 1) (List.drop 1 ([g] ++ t.data.toList)) = t.data.toList
  rw [Nat.add_sub_cancel_left]
  exact List.take_of_length_le (by rw [List.drop_append_of_le_length (by simp)]; simp [Array.length_toList])
theorem encR_ok (t : ByteArray) (h1 : 1 ≤ t.size) (h2 : t.size ≤ 37) : encR t = (rb (UInt8.ofNat 64) t, 0) := by
  rw [encR, if_neg (by omega)]; rfl
theorem decR_ok (g : UInt8) (t : ByteArray) (hg : g.toNat / 16 = 4) (h1 : 1 ≤ t.size) (h2 : t.size ≤ 37) : decR (rb g t) = (t, 0) := by
  have hs := rb_size g t
  rw [decR, if_neg (by omega), if_neg (by rw [rb_first]; omega), if_neg (by omega), rb_rest]
theorem notA (g : UInt8) (t : ByteArray) (hg : g.toNat / 16 = 4) : (dec (rb g t)).2 = 7 := by
  have hs := rb_size g t
  rw [dec, if_neg (by omega), if_pos (by rw [rb_first]; omega)]
theorem rb_bent (f g : UInt8) (t : ByteArray) : (⟨#[g]⟩ : ByteArray) ++ (rb f t).extract 1 ((rb f t).size : Int).toNat = rb g t := by
  rw [Int.toNat_natCast, rb_rest]; rfl
/-! ### bits -/
theorem bop (a b : Nat) (ha : a < 256) (hb : b < 256) : IntKind.u8.wrap ((BitVec.ofInt 8 (a : Int) &&& BitVec.ofInt 8 (b : Int)).toNat : Int) = ((a &&& b : Nat) : Int) ∧
    IntKind.u8.wrap ((BitVec.ofInt 8 (a : Int) ^^^ BitVec.ofInt 8 (b : Int)).toNat : Int) = ((a ^^^ b : Nat) : Int) := by
  have e2 : a &&& b < 256 := Nat.lt_of_le_of_lt Nat.and_le_left ha
  have e3 : a ^^^ b < 256 := Nat.xor_lt_two_pow (n := 8) (by omega) (by omega)
  refine ⟨?_, ?_⟩
  · rw [BitVec.ofInt_natCast, BitVec.ofInt_natCast, BitVec.toNat_and, BitVec.toNat_ofNat, BitVec.toNat_ofNat, Nat.mod_eq_of_lt (by omega), Nat.mod_eq_of_lt (by omega), wu8]; omega
  · rw [BitVec.ofInt_natCast, BitVec.ofInt_natCast, BitVec.toNat_xor, BitVec.toNat_ofNat, BitVec.toNat_ofNat, Nat.mod_eq_of_lt (by omega), Nat.mod_eq_of_lt (by omega), wu8]; omega
def fb (a bits m : Int) : UInt8 := UInt8.ofNat (IntKind.u8.wrap (↑(BitVec.ofInt (8 : Nat) a ^^^ BitVec.ofInt (8 : Nat) (IntKind.u8.wrap (↑(BitVec.ofInt (8 : Nat) bits &&& BitVec.ofInt (8 : Nat) m).toNat : Int))).toNat : Int)).toNat
theorem fb_eq (a m v : Nat) (ha : a < 256) (hm : m < 256) (hv : v < 256) : (fb (a : Int) (v : Int) (m : Int)).toNat = a ^^^ (v &&& m) := by
  have e : a ^^^ (v &&& m) < 256 := Nat.xor_lt_two_pow (n := 8) (by omega) (Nat.lt_of_le_of_lt Nat.and_le_left (by omega))
  unfold fb
  rw [(bop v m hv hm).1, (bop a _ ha (Nat.lt_of_le_of_lt Nat.and_le_left hv)).2, Int.toNat_natCast, UInt8.toNat_ofNat']
  omega
theorem k14 : ∀ v : Fin 256, (48 ^^^ (v.val &&& 14)) / 16 = 3 ∧ (48 ^^^ (v.val &&& 14)) % 2 = 0 ∧ (49 ^^^ (v.val &&& 14)) / 16 = 3 ∧ (49 ^^^ (v.val &&& 14)) % 2 = 1 ∧ (64 ^^^ (v.val &&& 15)) / 16 = 4 := by decide +kernel
theorem fb_hd (b : Bool) (v : Int) (hv : 0 ≤ v ∧ v < 256) : (fb ((hd b).toNat : Int) v 14).toNat / 16 = 3 ∧ (fb ((hd b).toNat : Int) v 14).toNat % 2 = if b then 1 else 0 := by
  obtain ⟨n, rfl⟩ := Int.eq_ofNat_of_zero_le hv.1
  have hn : n < 256 := by omega
  obtain ⟨k1, k2, k3, k4, _⟩ := k14 ⟨n, hn⟩
  rw [show (14 : Int) = ((14 : Nat) : Int) from rfl, fb_eq _ 14 n (hd b).toNat_lt (by decide) hn]
  cases b
  · exact ⟨k1, k2⟩
  · exact ⟨k3, k4⟩
theorem fb_64 (v : Int) (hv : 0 ≤ v ∧ v < 256) : (fb ((UInt8.ofNat 64).toNat : Int) v 15).toNat / 16 = 4 := by
  obtain ⟨n, rfl⟩ := Int.eq_ofNat_of_zero_le hv.1
  have hn : n < 256 := by omega
  obtain ⟨_, _, _, _, k⟩ := k14 ⟨n, hn⟩
  rw [show (15 : Int) = ((15 : Nat) : Int) from rfl, fb_eq _ 15 n (UInt8.ofNat 64).toNat_lt (by decide) hn]
  exact k
theorem byte0 (s : ByteArray) (h : 0 < s.size) : byteAt s 0 = ((bAt s 0).toNat : Int) := byteAt_eq s 0 h
end Go.Proofs.Ytopillmjfpnmoaa
