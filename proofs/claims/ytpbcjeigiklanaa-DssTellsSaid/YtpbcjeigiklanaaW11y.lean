/-
  Walks of functions, reckoned through, and what they give (part W11y). No condition beyond what each says. By an AI agent.
-/
import Derived.Test.YtpbcjeigiklanaaW11n
import Derived.Test.YtpbcjeigiklanaaW11A
namespace Go.Proofs.Ytpbcjeigiklanaa
open Go.Ex
open Go.RowKit (Below)
set_option linter.unusedVariables false
set_option linter.unusedSimpArgs false

theorem n8_byK (n : Int) (h : 0 ≤ n ∧ n < 18446744073709551616) : n8 (byK 72057594037927936 n) (byK 281474976710656 n) (byK 1099511627776 n) (byK 4294967296 n) (byK 16777216 n) (byK 65536 n) (byK 256 n) (byK 1 n) = n := by
  unfold n8
  rw [byK_toNat, byK_toNat, byK_toNat, byK_toNat, byK_toNat, byK_toNat, byK_toNat, byK_toNat]
  omega
theorem n4_byK (n : Int) (h : 0 ≤ n ∧ n < 4294967296) : n4 (byK 16777216 n) (byK 65536 n) (byK 256 n) (byK 1 n) = n := by
  unfold n4
  rw [byK_toNat, byK_toNat, byK_toNat, byK_toNat]
  omega
theorem n2_byK (n : Int) (h : 0 ≤ n ∧ n < 65536) : n2 (byK 256 n) (byK 1 n) = n := by
  unfold n2
  rw [byK_toNat, byK_toNat]
  omega
theorem byK_is {k n : Int} {a : UInt8} (h : n / k % 256 = (a.toNat : Int)) : byK k n = a := by
  unfold byK u8
  rw [h, Int.toNat_natCast, UInt8.ofNat_toNat]
theorem b8_n8 (a b c d e f g h : UInt8) : b8 (n8 a b c d e f g h) = [a, b, c, d, e, f, g, h] := by
  have := a.toNat_lt; have := b.toNat_lt; have := c.toNat_lt; have := d.toNat_lt; have := e.toNat_lt; have := f.toNat_lt; have := g.toNat_lt; have := h.toNat_lt
  unfold b8
  rw [byK_is (k := 72057594037927936) (a := a) (by unfold n8; omega), byK_is (k := 281474976710656) (a := b) (by unfold n8; omega), byK_is (k := 1099511627776) (a := c) (by unfold n8; omega), byK_is (k := 4294967296) (a := d) (by unfold n8; omega),
    byK_is (k := 16777216) (a := e) (by unfold n8; omega), byK_is (k := 65536) (a := f) (by unfold n8; omega), byK_is (k := 256) (a := g) (by unfold n8; omega), byK_is (k := 1) (a := h) (by unfold n8; omega)]
theorem b4_n4 (a b c d : UInt8) : b4 (n4 a b c d) = [a, b, c, d] := by
  have := a.toNat_lt; have := b.toNat_lt; have := c.toNat_lt; have := d.toNat_lt
  unfold b4
  rw [byK_is (k := 16777216) (a := a) (by unfold n4; omega), byK_is (k := 65536) (a := b) (by unfold n4; omega), byK_is (k := 256) (a := c) (by unfold n4; omega), byK_is (k := 1) (a := d) (by unfold n4; omega)]
theorem b2_n2 (a b : UInt8) : b2 (n2 a b) = [a, b] := by
  have := a.toNat_lt; have := b.toNat_lt
  unfold b2
  rw [byK_is (k := 256) (a := a) (by unfold n2; omega), byK_is (k := 1) (a := b) (by unfold n2; omega)]
theorem sg_eq {a a' b b' c c' e e' f f' j j' : Bool} {d d' g g' h h' i i' k k' : Int} (h1 : a = a') (h2 : b = b') (h3 : c = c') (h4 : d = d') (h5 : e = e') (h6 : f = f') (h7 : g = g') (h8 : h = h') (h9 : i = i') (h10 : j = j') (h11 : k = k') :
    SG.mk a b c d e f g h i j k = SG.mk a' b' c' d' e' f' g' h' i' j' k' := by
  subst h1 h2 h3 h4 h5 h6 h7 h8 h9 h10 h11; rfl
theorem enc_not (x : SG) (h : ¬ (enc x).2 = 0) : (enc x).1 = ⟨#[]⟩ := by
  unfold enc at h ⊢
  split at h
  · exact absurd rfl h
  · rename_i hm; rw [if_neg hm]
theorem enc_may (x : SG) (h : (enc x).2 = 0) : may x := by
  unfold enc at h
  split at h
  · assumption
  · exact absurd h (by decide)
theorem decF_none (s : ByteArray) (a l m d f : Bool) (h : ¬ (decF s a l m d f).2 = 0) : (decF s a l m d f).1 = SG.none := by
  unfold decF at h ⊢
  by_cases c1 : (a || m) = false
  · rw [if_pos c1]
  rw [if_neg c1] at h ⊢
  by_cases c2 : s.size < need a l m d
  · rw [if_pos c2]
  rw [if_neg c2] at h ⊢
  by_cases c3 : s.size = need a l m d
  · rw [if_pos c3] at h; exact absurd rfl h
  rw [if_neg c3] at h ⊢
  by_cases c4 : m = true ∧ s.size = need a l m d + 2
  · rw [if_pos c4] at h; exact absurd rfl h
  rw [if_neg c4]
theorem dec_none (s : ByteArray) (h : ¬ (dec s).2 = 0) : (dec s).1 = SG.none := by
  unfold dec at h ⊢
  by_cases c1 : s.size = 0
  · rw [if_pos c1]
  rw [if_neg c1] at h ⊢
  by_cases c2 : ¬ (bAt s 0).toNat / 16 = 2
  · rw [if_pos c2]
  rw [if_neg c2] at h ⊢
  by_cases c3 : s.size < 2
  · rw [if_pos c3]
  rw [if_neg c3] at h ⊢
  exact decF_none _ _ _ _ _ _ h
theorem fit_may (x : SG) (h : Rng x) : may (fitS x) := by
  obtain ⟨h1, h2, h3, h4⟩ := h
  have m1 : x.ack.tmod 4294967296 < 4294967296 := by rw [tm _ _ h1.1]; omega
  have m2 : x.dsn.tmod 4294967296 < 4294967296 := by rw [tm _ _ h2.1]; omega
  have m3 : 0 ≤ IntKind.i64.wrap ((IntKind.u64.wrap x.ln).tmod 65536) ∧ IntKind.i64.wrap ((IntKind.u64.wrap x.ln).tmod 65536) < 65536 := by
    have h : 0 ≤ IntKind.u64.wrap x.ln := by rw [wu64]; omega
    rw [tm _ _ h, wi64]; omega
  obtain ⟨fin, ha, la, ack, hm, ld, dsn, ssn, ln, hs, sm⟩ := x
  simp only at m1 m2 m3 h1 h2 h3 h4
  unfold may fitS
  cases hm
  · cases la <;> simp_all
  · cases ha <;> cases la <;> cases ld <;> cases hs <;> simp_all

def sizeOf' (x : SG) : Nat := need x.ha x.la x.hm x.ld + (match x.hs with | true => 2 | false => 0)
theorem back10000 (fin : Bool) (ack dsn ssn ln sm : Int) (hm : may ⟨fin, true, false, ack, false, false, dsn, ssn, ln, false, sm⟩) (hr : Rng ⟨fin, true, false, ack, false, false, dsn, ssn, ln, false, sm⟩) : dec (enc ⟨fin, true, false, ack, false, false, dsn, ssn, ln, false, sm⟩).1 = (⟨fin, true, false, ack, false, false, dsn, ssn, ln, false, sm⟩, 0) ∧ (enc ⟨fin, true, false, ack, false, false, dsn, ssn, ln, false, sm⟩).2 = 0 ∧ (enc ⟨fin, true, false, ack, false, false, dsn, ssn, ln, false, sm⟩).1.size = 6 := by
  have he : enc ⟨fin, true, false, ack, false, false, dsn, ssn, ln, false, sm⟩ = (⟨(body ⟨fin, true, false, ack, false, false, dsn, ssn, ln, false, sm⟩).toArray⟩, 0) := by rw [enc, if_pos hm]
  obtain ⟨m1, m2, m3, m4, m5, m6, m7, m8⟩ := hm
  obtain ⟨r1, r2, r3, r4⟩ := hr
  simp only at m1 m2 m3 m4 m5 m6 m7 m8 r1 r2 r3 r4
  obtain rfl : sm = 0 := by simpa using m3
  obtain ⟨rfl, rfl, rfl, rfl⟩ : fin = false ∧ dsn = 0 ∧ ssn = 0 ∧ ln = 0 := by simpa using m4
  have l5 : ack < 4294967296 := by simpa using m5
  rw [he]
  refine ⟨?_, rfl, rfl⟩
  simp only
  generalize hS : ByteArray.mk (body ⟨false, true, false, ack, false, false, 0, 0, 0, false, 0⟩).toArray = S
  have z : S.size = 6 := by rw [← hS]; rfl
  have b0 : bAt S 0 = UInt8.ofNat 32 := by rw [← hS]; rfl
  have b1 : bAt S 1 = UInt8.ofNat (1) := by rw [← hS]; rfl
  have q1 : n4 (bAt S 2) (bAt S 3) (bAt S 4) (bAt S 5) = ack := by rw [← hS]; exact n4_byK ack ⟨r1.1, l5⟩
  have eF : hF S = false := (by unfold hF; rw [b1]; decide)
  rw [dec_cls (a := true) (l := false) (m := false) (d := false) (by omega) (by rw [b0]; rfl) (by unfold hA; rw [b1]; decide) (by unfold hL; rw [b1]; decide) (by unfold hM; rw [b1]; decide) (by unfold hD; rw [b1]; decide), eF, dF_o rfl (by show S.size = 6; exact z)]
  exact congrArg (fun y => (y, (0 : Int))) (sg_eq rfl rfl rfl q1 rfl rfl rfl rfl rfl rfl rfl)
theorem back11000 (fin : Bool) (ack dsn ssn ln sm : Int) (hm : may ⟨fin, true, true, ack, false, false, dsn, ssn, ln, false, sm⟩) (hr : Rng ⟨fin, true, true, ack, false, false, dsn, ssn, ln, false, sm⟩) : dec (enc ⟨fin, true, true, ack, false, false, dsn, ssn, ln, false, sm⟩).1 = (⟨fin, true, true, ack, false, false, dsn, ssn, ln, false, sm⟩, 0) ∧ (enc ⟨fin, true, true, ack, false, false, dsn, ssn, ln, false, sm⟩).2 = 0 ∧ (enc ⟨fin, true, true, ack, false, false, dsn, ssn, ln, false, sm⟩).1.size = 10 := by
  have he : enc ⟨fin, true, true, ack, false, false, dsn, ssn, ln, false, sm⟩ = (⟨(body ⟨fin, true, true, ack, false, false, dsn, ssn, ln, false, sm⟩).toArray⟩, 0) := by rw [enc, if_pos hm]
  obtain ⟨m1, m2, m3, m4, m5, m6, m7, m8⟩ := hm
  obtain ⟨r1, r2, r3, r4⟩ := hr
  simp only at m1 m2 m3 m4 m5 m6 m7 m8 r1 r2 r3 r4
  obtain rfl : sm = 0 := by simpa using m3
  obtain ⟨rfl, rfl, rfl, rfl⟩ : fin = false ∧ dsn = 0 ∧ ssn = 0 ∧ ln = 0 := by simpa using m4
  rw [he]
  refine ⟨?_, rfl, rfl⟩
  simp only
  generalize hS : ByteArray.mk (body ⟨false, true, true, ack, false, false, 0, 0, 0, false, 0⟩).toArray = S
  have z : S.size = 10 := by rw [← hS]; rfl
  have b0 : bAt S 0 = UInt8.ofNat 32 := by rw [← hS]; rfl
  have b1 : bAt S 1 = UInt8.ofNat (3) := by rw [← hS]; rfl
  have q1 : n8 (bAt S 2) (bAt S 3) (bAt S 4) (bAt S 5) (bAt S 6) (bAt S 7) (bAt S 8) (bAt S 9) = ack := by rw [← hS]; exact n8_byK ack r1
  have eF : hF S = false := (by unfold hF; rw [b1]; decide)
  rw [dec_cls (a := true) (l := true) (m := false) (d := false) (by omega) (by rw [b0]; rfl) (by unfold hA; rw [b1]; decide) (by unfold hL; rw [b1]; decide) (by unfold hM; rw [b1]; decide) (by unfold hD; rw [b1]; decide), eF, dF_o rfl (by show S.size = 10; exact z)]
  exact congrArg (fun y => (y, (0 : Int))) (sg_eq rfl rfl rfl q1 rfl rfl rfl rfl rfl rfl rfl)
theorem back00100 (fin : Bool) (ack dsn ssn ln sm : Int) (hm : may ⟨fin, false, false, ack, true, false, dsn, ssn, ln, false, sm⟩) (hr : Rng ⟨fin, false, false, ack, true, false, dsn, ssn, ln, false, sm⟩) : dec (enc ⟨fin, false, false, ack, true, false, dsn, ssn, ln, false, sm⟩).1 = (⟨fin, false, false, ack, true, false, dsn, ssn, ln, false, sm⟩, 0) ∧ (enc ⟨fin, false, false, ack, true, false, dsn, ssn, ln, false, sm⟩).2 = 0 ∧ (enc ⟨fin, false, false, ack, true, false, dsn, ssn, ln, false, sm⟩).1.size = 12 := by
  have he : enc ⟨fin, false, false, ack, true, false, dsn, ssn, ln, false, sm⟩ = (⟨(body ⟨fin, false, false, ack, true, false, dsn, ssn, ln, false, sm⟩).toArray⟩, 0) := by rw [enc, if_pos hm]
  obtain ⟨m1, m2, m3, m4, m5, m6, m7, m8⟩ := hm
  obtain ⟨r1, r2, r3, r4⟩ := hr
  simp only at m1 m2 m3 m4 m5 m6 m7 m8 r1 r2 r3 r4
  obtain rfl : ack = 0 := by simpa using m2
  obtain rfl : sm = 0 := by simpa using m3
  have l6 : dsn < 4294967296 := by simpa using m6
  rw [he]
  refine ⟨?_, rfl, rfl⟩
  simp only
  generalize hS : ByteArray.mk (body ⟨fin, false, false, 0, true, false, dsn, ssn, ln, false, 0⟩).toArray = S
  have z : S.size = 12 := by rw [← hS]; rfl
  have b0 : bAt S 0 = UInt8.ofNat 32 := by rw [← hS]; rfl
  have b1 : bAt S 1 = UInt8.ofNat (4 + bI fin 16) := by rw [← hS]; rfl
  have q2 : n4 (bAt S 2) (bAt S 3) (bAt S 4) (bAt S 5) = dsn := by rw [← hS]; exact n4_byK dsn ⟨r2.1, l6⟩
  have q3 : n4 (bAt S 6) (bAt S 7) (bAt S 8) (bAt S 9) = ssn := by rw [← hS]; exact n4_byK ssn r3
  have q4 : n2 (bAt S 10) (bAt S 11) = ln := by rw [← hS]; exact n2_byK ln ⟨m7, m8⟩
  have eF : hF S = fin := (by unfold hF; rw [b1]; cases fin <;> decide)
  rw [dec_cls (a := false) (l := false) (m := true) (d := false) (by omega) (by rw [b0]; rfl) (by unfold hA; rw [b1]; cases fin <;> decide) (by unfold hL; rw [b1]; cases fin <;> decide) (by unfold hM; rw [b1]; cases fin <;> decide) (by unfold hD; rw [b1]; cases fin <;> decide), eF, dF_o rfl (by show S.size = 12; exact z)]
  exact congrArg (fun y => (y, (0 : Int))) (sg_eq rfl rfl rfl rfl rfl rfl q2 q3 q4 rfl rfl)
theorem back00101 (fin : Bool) (ack dsn ssn ln sm : Int) (hm : may ⟨fin, false, false, ack, true, false, dsn, ssn, ln, true, sm⟩) (hr : Rng ⟨fin, false, false, ack, true, false, dsn, ssn, ln, true, sm⟩) : dec (enc ⟨fin, false, false, ack, true, false, dsn, ssn, ln, true, sm⟩).1 = (⟨fin, false, false, ack, true, false, dsn, ssn, ln, true, sm⟩, 0) ∧ (enc ⟨fin, false, false, ack, true, false, dsn, ssn, ln, true, sm⟩).2 = 0 ∧ (enc ⟨fin, false, false, ack, true, false, dsn, ssn, ln, true, sm⟩).1.size = 14 := by
  have he : enc ⟨fin, false, false, ack, true, false, dsn, ssn, ln, true, sm⟩ = (⟨(body ⟨fin, false, false, ack, true, false, dsn, ssn, ln, true, sm⟩).toArray⟩, 0) := by rw [enc, if_pos hm]
  obtain ⟨m1, m2, m3, m4, m5, m6, m7, m8⟩ := hm
  obtain ⟨r1, r2, r3, r4⟩ := hr
  simp only at m1 m2 m3 m4 m5 m6 m7 m8 r1 r2 r3 r4
  obtain rfl : ack = 0 := by simpa using m2
  have l6 : dsn < 4294967296 := by simpa using m6
  rw [he]
  refine ⟨?_, rfl, rfl⟩
  simp only
  generalize hS : ByteArray.mk (body ⟨fin, false, false, 0, true, false, dsn, ssn, ln, true, sm⟩).toArray = S
  have z : S.size = 14 := by rw [← hS]; rfl
  have b0 : bAt S 0 = UInt8.ofNat 32 := by rw [← hS]; rfl
  have b1 : bAt S 1 = UInt8.ofNat (4 + bI fin 16) := by rw [← hS]; rfl
  have q2 : n4 (bAt S 2) (bAt S 3) (bAt S 4) (bAt S 5) = dsn := by rw [← hS]; exact n4_byK dsn ⟨r2.1, l6⟩
  have q3 : n4 (bAt S 6) (bAt S 7) (bAt S 8) (bAt S 9) = ssn := by rw [← hS]; exact n4_byK ssn r3
  have q4 : n2 (bAt S 10) (bAt S 11) = ln := by rw [← hS]; exact n2_byK ln ⟨m7, m8⟩
  have q5 : n2 (bAt S 12) (bAt S 13) = sm := by rw [← hS]; exact n2_byK sm r4
  have eF : hF S = fin := (by unfold hF; rw [b1]; cases fin <;> decide)
  rw [dec_cls (a := false) (l := false) (m := true) (d := false) (by omega) (by rw [b0]; rfl) (by unfold hA; rw [b1]; cases fin <;> decide) (by unfold hL; rw [b1]; cases fin <;> decide) (by unfold hM; rw [b1]; cases fin <;> decide) (by unfold hD; rw [b1]; cases fin <;> decide), eF, dF_h rfl (by show S.size = 14; exact z)]
  exact congrArg (fun y => (y, (0 : Int))) (sg_eq rfl rfl rfl rfl rfl rfl q2 q3 q4 rfl q5)
theorem back00110 (fin : Bool) (ack dsn ssn ln sm : Int) (hm : may ⟨fin, false, false, ack, true, true, dsn, ssn, ln, false, sm⟩) (hr : Rng ⟨fin, false, false, ack, true, true, dsn, ssn, ln, false, sm⟩) : dec (enc ⟨fin, false, false, ack, true, true, dsn, ssn, ln, false, sm⟩).1 = (⟨fin, false, false, ack, true, true, dsn, ssn, ln, false, sm⟩, 0) ∧ (enc ⟨fin, false, false, ack, true, true, dsn, ssn, ln, false, sm⟩).2 = 0 ∧ (enc ⟨fin, false, false, ack, true, true, dsn, ssn, ln, false, sm⟩).1.size = 16 := by
  have he : enc ⟨fin, false, false, ack, true, true, dsn, ssn, ln, false, sm⟩ = (⟨(body ⟨fin, false, false, ack, true, true, dsn, ssn, ln, false, sm⟩).toArray⟩, 0) := by rw [enc, if_pos hm]
  obtain ⟨m1, m2, m3, m4, m5, m6, m7, m8⟩ := hm
  obtain ⟨r1, r2, r3, r4⟩ := hr
  simp only at m1 m2 m3 m4 m5 m6 m7 m8 r1 r2 r3 r4
  obtain rfl : ack = 0 := by simpa using m2
  obtain rfl : sm = 0 := by simpa using m3
  rw [he]
  refine ⟨?_, rfl, rfl⟩
  simp only
  generalize hS : ByteArray.mk (body ⟨fin, false, false, 0, true, true, dsn, ssn, ln, false, 0⟩).toArray = S
  have z : S.size = 16 := by rw [← hS]; rfl
  have b0 : bAt S 0 = UInt8.ofNat 32 := by rw [← hS]; rfl
  have b1 : bAt S 1 = UInt8.ofNat (12 + bI fin 16) := by rw [← hS]; rfl
  have q2 : n8 (bAt S 2) (bAt S 3) (bAt S 4) (bAt S 5) (bAt S 6) (bAt S 7) (bAt S 8) (bAt S 9) = dsn := by rw [← hS]; exact n8_byK dsn r2
  have q3 : n4 (bAt S 10) (bAt S 11) (bAt S 12) (bAt S 13) = ssn := by rw [← hS]; exact n4_byK ssn r3
  have q4 : n2 (bAt S 14) (bAt S 15) = ln := by rw [← hS]; exact n2_byK ln ⟨m7, m8⟩
  have eF : hF S = fin := (by unfold hF; rw [b1]; cases fin <;> decide)
  rw [dec_cls (a := false) (l := false) (m := true) (d := true) (by omega) (by rw [b0]; rfl) (by unfold hA; rw [b1]; cases fin <;> decide) (by unfold hL; rw [b1]; cases fin <;> decide) (by unfold hM; rw [b1]; cases fin <;> decide) (by unfold hD; rw [b1]; cases fin <;> decide), eF, dF_o rfl (by show S.size = 16; exact z)]
  exact congrArg (fun y => (y, (0 : Int))) (sg_eq rfl rfl rfl rfl rfl rfl q2 q3 q4 rfl rfl)
theorem back00111 (fin : Bool) (ack dsn ssn ln sm : Int) (hm : may ⟨fin, false, false, ack, true, true, dsn, ssn, ln, true, sm⟩) (hr : Rng ⟨fin, false, false, ack, true, true, dsn, ssn, ln, true, sm⟩) : dec (enc ⟨fin, false, false, ack, true, true, dsn, ssn, ln, true, sm⟩).1 = (⟨fin, false, false, ack, true, true, dsn, ssn, ln, true, sm⟩, 0) ∧ (enc ⟨fin, false, false, ack, true, true, dsn, ssn, ln, true, sm⟩).2 = 0 ∧ (enc ⟨fin, false, false, ack, true, true, dsn, ssn, ln, true, sm⟩).1.size = 18 := by
  have he : enc ⟨fin, false, false, ack, true, true, dsn, ssn, ln, true, sm⟩ = (⟨(body ⟨fin, false, false, ack, true, true, dsn, ssn, ln, true, sm⟩).toArray⟩, 0) := by rw [enc, if_pos hm]
  obtain ⟨m1, m2, m3, m4, m5, m6, m7, m8⟩ := hm
  obtain ⟨r1, r2, r3, r4⟩ := hr
  simp only at m1 m2 m3 m4 m5 m6 m7 m8 r1 r2 r3 r4
  obtain rfl : ack = 0 := by simpa using m2
  rw [he]
  refine ⟨?_, rfl, rfl⟩
  simp only
  generalize hS : ByteArray.mk (body ⟨fin, false, false, 0, true, true, dsn, ssn, ln, true, sm⟩).toArray = S
  have z : S.size = 18 := by rw [← hS]; rfl
  have b0 : bAt S 0 = UInt8.ofNat 32 := by rw [← hS]; rfl
  have b1 : bAt S 1 = UInt8.ofNat (12 + bI fin 16) := by rw [← hS]; rfl
  have q2 : n8 (bAt S 2) (bAt S 3) (bAt S 4) (bAt S 5) (bAt S 6) (bAt S 7) (bAt S 8) (bAt S 9) = dsn := by rw [← hS]; exact n8_byK dsn r2
  have q3 : n4 (bAt S 10) (bAt S 11) (bAt S 12) (bAt S 13) = ssn := by rw [← hS]; exact n4_byK ssn r3
  have q4 : n2 (bAt S 14) (bAt S 15) = ln := by rw [← hS]; exact n2_byK ln ⟨m7, m8⟩
  have q5 : n2 (bAt S 16) (bAt S 17) = sm := by rw [← hS]; exact n2_byK sm r4
  have eF : hF S = fin := (by unfold hF; rw [b1]; cases fin <;> decide)
  rw [dec_cls (a := false) (l := false) (m := true) (d := true) (by omega) (by rw [b0]; rfl) (by unfold hA; rw [b1]; cases fin <;> decide) (by unfold hL; rw [b1]; cases fin <;> decide) (by unfold hM; rw [b1]; cases fin <;> decide) (by unfold hD; rw [b1]; cases fin <;> decide), eF, dF_h rfl (by show S.size = 18; exact z)]
  exact congrArg (fun y => (y, (0 : Int))) (sg_eq rfl rfl rfl rfl rfl rfl q2 q3 q4 rfl q5)
theorem back10100 (fin : Bool) (ack dsn ssn ln sm : Int) (hm : may ⟨fin, true, false, ack, true, false, dsn, ssn, ln, false, sm⟩) (hr : Rng ⟨fin, true, false, ack, true, false, dsn, ssn, ln, false, sm⟩) : dec (enc ⟨fin, true, false, ack, true, false, dsn, ssn, ln, false, sm⟩).1 = (⟨fin, true, false, ack, true, false, dsn, ssn, ln, false, sm⟩, 0) ∧ (enc ⟨fin, true, false, ack, true, false, dsn, ssn, ln, false, sm⟩).2 = 0 ∧ (enc ⟨fin, true, false, ack, true, false, dsn, ssn, ln, false, sm⟩).1.size = 16 := by
  have he : enc ⟨fin, true, false, ack, true, false, dsn, ssn, ln, false, sm⟩ = (⟨(body ⟨fin, true, false, ack, true, false, dsn, ssn, ln, false, sm⟩).toArray⟩, 0) := by rw [enc, if_pos hm]
  obtain ⟨m1, m2, m3, m4, m5, m6, m7, m8⟩ := hm
  obtain ⟨r1, r2, r3, r4⟩ := hr
  simp only at m1 m2 m3 m4 m5 m6 m7 m8 r1 r2 r3 r4
  obtain rfl : sm = 0 := by simpa using m3
  have l5 : ack < 4294967296 := by simpa using m5
  have l6 : dsn < 4294967296 := by simpa using m6
  rw [he]
  refine ⟨?_, rfl, rfl⟩
  simp only
  generalize hS : ByteArray.mk (body ⟨fin, true, false, ack, true, false, dsn, ssn, ln, false, 0⟩).toArray = S
  have z : S.size = 16 := by rw [← hS]; rfl
  have b0 : bAt S 0 = UInt8.ofNat 32 := by rw [← hS]; rfl
  have b1 : bAt S 1 = UInt8.ofNat (5 + bI fin 16) := by rw [← hS]; rfl
  have q1 : n4 (bAt S 2) (bAt S 3) (bAt S 4) (bAt S 5) = ack := by rw [← hS]; exact n4_byK ack ⟨r1.1, l5⟩
  have q2 : n4 (bAt S 6) (bAt S 7) (bAt S 8) (bAt S 9) = dsn := by rw [← hS]; exact n4_byK dsn ⟨r2.1, l6⟩
  have q3 : n4 (bAt S 10) (bAt S 11) (bAt S 12) (bAt S 13) = ssn := by rw [← hS]; exact n4_byK ssn r3
  have q4 : n2 (bAt S 14) (bAt S 15) = ln := by rw [← hS]; exact n2_byK ln ⟨m7, m8⟩
  have eF : hF S = fin := (by unfold hF; rw [b1]; cases fin <;> decide)
  rw [dec_cls (a := true) (l := false) (m := true) (d := false) (by omega) (by rw [b0]; rfl) (by unfold hA; rw [b1]; cases fin <;> decide) (by unfold hL; rw [b1]; cases fin <;> decide) (by unfold hM; rw [b1]; cases fin <;> decide) (by unfold hD; rw [b1]; cases fin <;> decide), eF, dF_o rfl (by show S.size = 16; exact z)]
  exact congrArg (fun y => (y, (0 : Int))) (sg_eq rfl rfl rfl q1 rfl rfl q2 q3 q4 rfl rfl)
theorem back10101 (fin : Bool) (ack dsn ssn ln sm : Int) (hm : may ⟨fin, true, false, ack, true, false, dsn, ssn, ln, true, sm⟩) (hr : Rng ⟨fin, true, false, ack, true, false, dsn, ssn, ln, true, sm⟩) : dec (enc ⟨fin, true, false, ack, true, false, dsn, ssn, ln, true, sm⟩).1 = (⟨fin, true, false, ack, true, false, dsn, ssn, ln, true, sm⟩, 0) ∧ (enc ⟨fin, true, false, ack, true, false, dsn, ssn, ln, true, sm⟩).2 = 0 ∧ (enc ⟨fin, true, false, ack, true, false, dsn, ssn, ln, true, sm⟩).1.size = 18 := by
  have he : enc ⟨fin, true, false, ack, true, false, dsn, ssn, ln, true, sm⟩ = (⟨(body ⟨fin, true, false, ack, true, false, dsn, ssn, ln, true, sm⟩).toArray⟩, 0) := by rw [enc, if_pos hm]
  obtain ⟨m1, m2, m3, m4, m5, m6, m7, m8⟩ := hm
  obtain ⟨r1, r2, r3, r4⟩ := hr
  simp only at m1 m2 m3 m4 m5 m6 m7 m8 r1 r2 r3 r4
  have l5 : ack < 4294967296 := by simpa using m5
  have l6 : dsn < 4294967296 := by simpa using m6
  rw [he]
  refine ⟨?_, rfl, rfl⟩
  simp only
  generalize hS : ByteArray.mk (body ⟨fin, true, false, ack, true, false, dsn, ssn, ln, true, sm⟩).toArray = S
  have z : S.size = 18 := by rw [← hS]; rfl
  have b0 : bAt S 0 = UInt8.ofNat 32 := by rw [← hS]; rfl
  have b1 : bAt S 1 = UInt8.ofNat (5 + bI fin 16) := by rw [← hS]; rfl
  have q1 : n4 (bAt S 2) (bAt S 3) (bAt S 4) (bAt S 5) = ack := by rw [← hS]; exact n4_byK ack ⟨r1.1, l5⟩
  have q2 : n4 (bAt S 6) (bAt S 7) (bAt S 8) (bAt S 9) = dsn := by rw [← hS]; exact n4_byK dsn ⟨r2.1, l6⟩
  have q3 : n4 (bAt S 10) (bAt S 11) (bAt S 12) (bAt S 13) = ssn := by rw [← hS]; exact n4_byK ssn r3
  have q4 : n2 (bAt S 14) (bAt S 15) = ln := by rw [← hS]; exact n2_byK ln ⟨m7, m8⟩
  have q5 : n2 (bAt S 16) (bAt S 17) = sm := by rw [← hS]; exact n2_byK sm r4
  have eF : hF S = fin := (by unfold hF; rw [b1]; cases fin <;> decide)
  rw [dec_cls (a := true) (l := false) (m := true) (d := false) (by omega) (by rw [b0]; rfl) (by unfold hA; rw [b1]; cases fin <;> decide) (by unfold hL; rw [b1]; cases fin <;> decide) (by unfold hM; rw [b1]; cases fin <;> decide) (by unfold hD; rw [b1]; cases fin <;> decide), eF, dF_h rfl (by show S.size = 18; exact z)]
  exact congrArg (fun y => (y, (0 : Int))) (sg_eq rfl rfl rfl q1 rfl rfl q2 q3 q4 rfl q5)
theorem back10110 (fin : Bool) (ack dsn ssn ln sm : Int) (hm : may ⟨fin, true, false, ack, true, true, dsn, ssn, ln, false, sm⟩) (hr : Rng ⟨fin, true, false, ack, true, true, dsn, ssn, ln, false, sm⟩) : dec (enc ⟨fin, true, false, ack, true, true, dsn, ssn, ln, false, sm⟩).1 = (⟨fin, true, false, ack, true, true, dsn, ssn, ln, false, sm⟩, 0) ∧ (enc ⟨fin, true, false, ack, true, true, dsn, ssn, ln, false, sm⟩).2 = 0 ∧ (enc ⟨fin, true, false, ack, true, true, dsn, ssn, ln, false, sm⟩).1.size = 20 := by
  have he : enc ⟨fin, true, false, ack, true, true, dsn, ssn, ln, false, sm⟩ = (⟨(body ⟨fin, true, false, ack, true, true, dsn, ssn, ln, false, sm⟩).toArray⟩, 0) := by rw [enc, if_pos hm]
  obtain ⟨m1, m2, m3, m4, m5, m6, m7, m8⟩ := hm
  obtain ⟨r1, r2, r3, r4⟩ := hr
  simp only at m1 m2 m3 m4 m5 m6 m7 m8 r1 r2 r3 r4
  obtain rfl : sm = 0 := by simpa using m3
  have l5 : ack < 4294967296 := by simpa using m5
  rw [he]
  refine ⟨?_, rfl, rfl⟩
  simp only
  generalize hS : ByteArray.mk (body ⟨fin, true, false, ack, true, true, dsn, ssn, ln, false, 0⟩).toArray = S
  have z : S.size = 20 := by rw [← hS]; rfl
  have b0 : bAt S 0 = UInt8.ofNat 32 := by rw [← hS]; rfl
  have b1 : bAt S 1 = UInt8.ofNat (13 + bI fin 16) := by rw [← hS]; rfl
  have q1 : n4 (bAt S 2) (bAt S 3) (bAt S 4) (bAt S 5) = ack := by rw [← hS]; exact n4_byK ack ⟨r1.1, l5⟩
  have q2 : n8 (bAt S 6) (bAt S 7) (bAt S 8) (bAt S 9) (bAt S 10) (bAt S 11) (bAt S 12) (bAt S 13) = dsn := by rw [← hS]; exact n8_byK dsn r2
  have q3 : n4 (bAt S 14) (bAt S 15) (bAt S 16) (bAt S 17) = ssn := by rw [← hS]; exact n4_byK ssn r3
  have q4 : n2 (bAt S 18) (bAt S 19) = ln := by rw [← hS]; exact n2_byK ln ⟨m7, m8⟩
  have eF : hF S = fin := (by unfold hF; rw [b1]; cases fin <;> decide)
  rw [dec_cls (a := true) (l := false) (m := true) (d := true) (by omega) (by rw [b0]; rfl) (by unfold hA; rw [b1]; cases fin <;> decide) (by unfold hL; rw [b1]; cases fin <;> decide) (by unfold hM; rw [b1]; cases fin <;> decide) (by unfold hD; rw [b1]; cases fin <;> decide), eF, dF_o rfl (by show S.size = 20; exact z)]
  exact congrArg (fun y => (y, (0 : Int))) (sg_eq rfl rfl rfl q1 rfl rfl q2 q3 q4 rfl rfl)
theorem back10111 (fin : Bool) (ack dsn ssn ln sm : Int) (hm : may ⟨fin, true, false, ack, true, true, dsn, ssn, ln, true, sm⟩) (hr : Rng ⟨fin, true, false, ack, true, true, dsn, ssn, ln, true, sm⟩) : dec (enc ⟨fin, true, false, ack, true, true, dsn, ssn, ln, true, sm⟩).1 = (⟨fin, true, false, ack, true, true, dsn, ssn, ln, true, sm⟩, 0) ∧ (enc ⟨fin, true, false, ack, true, true, dsn, ssn, ln, true, sm⟩).2 = 0 ∧ (enc ⟨fin, true, false, ack, true, true, dsn, ssn, ln, true, sm⟩).1.size = 22 := by
  have he : enc ⟨fin, true, false, ack, true, true, dsn, ssn, ln, true, sm⟩ = (⟨(body ⟨fin, true, false, ack, true, true, dsn, ssn, ln, true, sm⟩).toArray⟩, 0) := by rw [enc, if_pos hm]
  obtain ⟨m1, m2, m3, m4, m5, m6, m7, m8⟩ := hm
  obtain ⟨r1, r2, r3, r4⟩ := hr
  simp only at m1 m2 m3 m4 m5 m6 m7 m8 r1 r2 r3 r4
  have l5 : ack < 4294967296 := by simpa using m5
  rw [he]
  refine ⟨?_, rfl, rfl⟩
  simp only
  generalize hS : ByteArray.mk (body ⟨fin, true, false, ack, true, true, dsn, ssn, ln, true, sm⟩).toArray = S
  have z : S.size = 22 := by rw [← hS]; rfl
  have b0 : bAt S 0 = UInt8.ofNat 32 := by rw [← hS]; rfl
  have b1 : bAt S 1 = UInt8.ofNat (13 + bI fin 16) := by rw [← hS]; rfl
  have q1 : n4 (bAt S 2) (bAt S 3) (bAt S 4) (bAt S 5) = ack := by rw [← hS]; exact n4_byK ack ⟨r1.1, l5⟩
  have q2 : n8 (bAt S 6) (bAt S 7) (bAt S 8) (bAt S 9) (bAt S 10) (bAt S 11) (bAt S 12) (bAt S 13) = dsn := by rw [← hS]; exact n8_byK dsn r2
  have q3 : n4 (bAt S 14) (bAt S 15) (bAt S 16) (bAt S 17) = ssn := by rw [← hS]; exact n4_byK ssn r3
  have q4 : n2 (bAt S 18) (bAt S 19) = ln := by rw [← hS]; exact n2_byK ln ⟨m7, m8⟩
  have q5 : n2 (bAt S 20) (bAt S 21) = sm := by rw [← hS]; exact n2_byK sm r4
  have eF : hF S = fin := (by unfold hF; rw [b1]; cases fin <;> decide)
  rw [dec_cls (a := true) (l := false) (m := true) (d := true) (by omega) (by rw [b0]; rfl) (by unfold hA; rw [b1]; cases fin <;> decide) (by unfold hL; rw [b1]; cases fin <;> decide) (by unfold hM; rw [b1]; cases fin <;> decide) (by unfold hD; rw [b1]; cases fin <;> decide), eF, dF_h rfl (by show S.size = 22; exact z)]
  exact congrArg (fun y => (y, (0 : Int))) (sg_eq rfl rfl rfl q1 rfl rfl q2 q3 q4 rfl q5)
theorem back11100 (fin : Bool) (ack dsn ssn ln sm : Int) (hm : may ⟨fin, true, true, ack, true, false, dsn, ssn, ln, false, sm⟩) (hr : Rng ⟨fin, true, true, ack, true, false, dsn, ssn, ln, false, sm⟩) : dec (enc ⟨fin, true, true, ack, true, false, dsn, ssn, ln, false, sm⟩).1 = (⟨fin, true, true, ack, true, false, dsn, ssn, ln, false, sm⟩, 0) ∧ (enc ⟨fin, true, true, ack, true, false, dsn, ssn, ln, false, sm⟩).2 = 0 ∧ (enc ⟨fin, true, true, ack, true, false, dsn, ssn, ln, false, sm⟩).1.size = 20 := by
  have he : enc ⟨fin, true, true, ack, true, false, dsn, ssn, ln, false, sm⟩ = (⟨(body ⟨fin, true, true, ack, true, false, dsn, ssn, ln, false, sm⟩).toArray⟩, 0) := by rw [enc, if_pos hm]
  obtain ⟨m1, m2, m3, m4, m5, m6, m7, m8⟩ := hm
  obtain ⟨r1, r2, r3, r4⟩ := hr
  simp only at m1 m2 m3 m4 m5 m6 m7 m8 r1 r2 r3 r4
  obtain rfl : sm = 0 := by simpa using m3
  have l6 : dsn < 4294967296 := by simpa using m6
  rw [he]
  refine ⟨?_, rfl, rfl⟩
  simp only
  generalize hS : ByteArray.mk (body ⟨fin, true, true, ack, true, false, dsn, ssn, ln, false, 0⟩).toArray = S
  have z : S.size = 20 := by rw [← hS]; rfl
  have b0 : bAt S 0 = UInt8.ofNat 32 := by rw [← hS]; rfl
  have b1 : bAt S 1 = UInt8.ofNat (7 + bI fin 16) := by rw [← hS]; rfl
  have q1 : n8 (bAt S 2) (bAt S 3) (bAt S 4) (bAt S 5) (bAt S 6) (bAt S 7) (bAt S 8) (bAt S 9) = ack := by rw [← hS]; exact n8_byK ack r1
  have q2 : n4 (bAt S 10) (bAt S 11) (bAt S 12) (bAt S 13) = dsn := by rw [← hS]; exact n4_byK dsn ⟨r2.1, l6⟩
  have q3 : n4 (bAt S 14) (bAt S 15) (bAt S 16) (bAt S 17) = ssn := by rw [← hS]; exact n4_byK ssn r3
  have q4 : n2 (bAt S 18) (bAt S 19) = ln := by rw [← hS]; exact n2_byK ln ⟨m7, m8⟩
  have eF : hF S = fin := (by unfold hF; rw [b1]; cases fin <;> decide)
  rw [dec_cls (a := true) (l := true) (m := true) (d := false) (by omega) (by rw [b0]; rfl) (by unfold hA; rw [b1]; cases fin <;> decide) (by unfold hL; rw [b1]; cases fin <;> decide) (by unfold hM; rw [b1]; cases fin <;> decide) (by unfold hD; rw [b1]; cases fin <;> decide), eF, dF_o rfl (by show S.size = 20; exact z)]
  exact congrArg (fun y => (y, (0 : Int))) (sg_eq rfl rfl rfl q1 rfl rfl q2 q3 q4 rfl rfl)
theorem back11101 (fin : Bool) (ack dsn ssn ln sm : Int) (hm : may ⟨fin, true, true, ack, true, false, dsn, ssn, ln, true, sm⟩) (hr : Rng ⟨fin, true, true, ack, true, false, dsn, ssn, ln, true, sm⟩) : dec (enc ⟨fin, true, true, ack, true, false, dsn, ssn, ln, true, sm⟩).1 = (⟨fin, true, true, ack, true, false, dsn, ssn, ln, true, sm⟩, 0) ∧ (enc ⟨fin, true, true, ack, true, false, dsn, ssn, ln, true, sm⟩).2 = 0 ∧ (enc ⟨fin, true, true, ack, true, false, dsn, ssn, ln, true, sm⟩).1.size = 22 := by
  have he : enc ⟨fin, true, true, ack, true, false, dsn, ssn, ln, true, sm⟩ = (⟨(body ⟨fin, true, true, ack, true, false, dsn, ssn, ln, true, sm⟩).toArray⟩, 0) := by rw [enc, if_pos hm]
  obtain ⟨m1, m2, m3, m4, m5, m6, m7, m8⟩ := hm
  obtain ⟨r1, r2, r3, r4⟩ := hr
  simp only at m1 m2 m3 m4 m5 m6 m7 m8 r1 r2 r3 r4
  have l6 : dsn < 4294967296 := by simpa using m6
  rw [he]
  refine ⟨?_, rfl, rfl⟩
  simp only
  generalize hS : ByteArray.mk (body ⟨fin, true, true, ack, true, false, dsn, ssn, ln, true, sm⟩).toArray = S
  have z : S.size = 22 := by rw [← hS]; rfl
  have b0 : bAt S 0 = UInt8.ofNat 32 := by rw [← hS]; rfl
  have b1 : bAt S 1 = UInt8.ofNat (7 + bI fin 16) := by rw [← hS]; rfl
  have q1 : n8 (bAt S 2) (bAt S 3) (bAt S 4) (bAt S 5) (bAt S 6) (bAt S 7) (bAt S 8) (bAt S 9) = ack := by rw [← hS]; exact n8_byK ack r1
  have q2 : n4 (bAt S 10) (bAt S 11) (bAt S 12) (bAt S 13) = dsn := by rw [← hS]; exact n4_byK dsn ⟨r2.1, l6⟩
  have q3 : n4 (bAt S 14) (bAt S 15) (bAt S 16) (bAt S 17) = ssn := by rw [← hS]; exact n4_byK ssn r3
  have q4 : n2 (bAt S 18) (bAt S 19) = ln := by rw [← hS]; exact n2_byK ln ⟨m7, m8⟩
  have q5 : n2 (bAt S 20) (bAt S 21) = sm := by rw [← hS]; exact n2_byK sm r4
  have eF : hF S = fin := (by unfold hF; rw [b1]; cases fin <;> decide)
  rw [dec_cls (a := true) (l := true) (m := true) (d := false) (by omega) (by rw [b0]; rfl) (by unfold hA; rw [b1]; cases fin <;> decide) (by unfold hL; rw [b1]; cases fin <;> decide) (by unfold hM; rw [b1]; cases fin <;> decide) (by unfold hD; rw [b1]; cases fin <;> decide), eF, dF_h rfl (by show S.size = 22; exact z)]
  exact congrArg (fun y => (y, (0 : Int))) (sg_eq rfl rfl rfl q1 rfl rfl q2 q3 q4 rfl q5)
theorem back11110 (fin : Bool) (ack dsn ssn ln sm : Int) (hm : may ⟨fin, true, true, ack, true, true, dsn, ssn, ln, false, sm⟩) (hr : Rng ⟨fin, true, true, ack, true, true, dsn, ssn, ln, false, sm⟩) : dec (enc ⟨fin, true, true, ack, true, true, dsn, ssn, ln, false, sm⟩).1 = (⟨fin, true, true, ack, true, true, dsn, ssn, ln, false, sm⟩, 0) ∧ (enc ⟨fin, true, true, ack, true, true, dsn, ssn, ln, false, sm⟩).2 = 0 ∧ (enc ⟨fin, true, true, ack, true, true, dsn, ssn, ln, false, sm⟩).1.size = 24 := by
  have he : enc ⟨fin, true, true, ack, true, true, dsn, ssn, ln, false, sm⟩ = (⟨(body ⟨fin, true, true, ack, true, true, dsn, ssn, ln, false, sm⟩).toArray⟩, 0) := by rw [enc, if_pos hm]
  obtain ⟨m1, m2, m3, m4, m5, m6, m7, m8⟩ := hm
  obtain ⟨r1, r2, r3, r4⟩ := hr
  simp only at m1 m2 m3 m4 m5 m6 m7 m8 r1 r2 r3 r4
  obtain rfl : sm = 0 := by simpa using m3
  rw [he]
  refine ⟨?_, rfl, rfl⟩
  simp only
  generalize hS : ByteArray.mk (body ⟨fin, true, true, ack, true, true, dsn, ssn, ln, false, 0⟩).toArray = S
  have z : S.size = 24 := by rw [← hS]; rfl
  have b0 : bAt S 0 = UInt8.ofNat 32 := by rw [← hS]; rfl
  have b1 : bAt S 1 = UInt8.ofNat (15 + bI fin 16) := by rw [← hS]; rfl
  have q1 : n8 (bAt S 2) (bAt S 3) (bAt S 4) (bAt S 5) (bAt S 6) (bAt S 7) (bAt S 8) (bAt S 9) = ack := by rw [← hS]; exact n8_byK ack r1
  have q2 : n8 (bAt S 10) (bAt S 11) (bAt S 12) (bAt S 13) (bAt S 14) (bAt S 15) (bAt S 16) (bAt S 17) = dsn := by rw [← hS]; exact n8_byK dsn r2
  have q3 : n4 (bAt S 18) (bAt S 19) (bAt S 20) (bAt S 21) = ssn := by rw [← hS]; exact n4_byK ssn r3
  have q4 : n2 (bAt S 22) (bAt S 23) = ln := by rw [← hS]; exact n2_byK ln ⟨m7, m8⟩
  have eF : hF S = fin := (by unfold hF; rw [b1]; cases fin <;> decide)
  rw [dec_cls (a := true) (l := true) (m := true) (d := true) (by omega) (by rw [b0]; rfl) (by unfold hA; rw [b1]; cases fin <;> decide) (by unfold hL; rw [b1]; cases fin <;> decide) (by unfold hM; rw [b1]; cases fin <;> decide) (by unfold hD; rw [b1]; cases fin <;> decide), eF, dF_o rfl (by show S.size = 24; exact z)]
  exact congrArg (fun y => (y, (0 : Int))) (sg_eq rfl rfl rfl q1 rfl rfl q2 q3 q4 rfl rfl)
theorem back11111 (fin : Bool) (ack dsn ssn ln sm : Int) (hm : may ⟨fin, true, true, ack, true, true, dsn, ssn, ln, true, sm⟩) (hr : Rng ⟨fin, true, true, ack, true, true, dsn, ssn, ln, true, sm⟩) : dec (enc ⟨fin, true, true, ack, true, true, dsn, ssn, ln, true, sm⟩).1 = (⟨fin, true, true, ack, true, true, dsn, ssn, ln, true, sm⟩, 0) ∧ (enc ⟨fin, true, true, ack, true, true, dsn, ssn, ln, true, sm⟩).2 = 0 ∧ (enc ⟨fin, true, true, ack, true, true, dsn, ssn, ln, true, sm⟩).1.size = 26 := by
  have he : enc ⟨fin, true, true, ack, true, true, dsn, ssn, ln, true, sm⟩ = (⟨(body ⟨fin, true, true, ack, true, true, dsn, ssn, ln, true, sm⟩).toArray⟩, 0) := by rw [enc, if_pos hm]
  obtain ⟨m1, m2, m3, m4, m5, m6, m7, m8⟩ := hm
  obtain ⟨r1, r2, r3, r4⟩ := hr
  simp only at m1 m2 m3 m4 m5 m6 m7 m8 r1 r2 r3 r4
  rw [he]
  refine ⟨?_, rfl, rfl⟩
  simp only
  generalize hS : ByteArray.mk (body ⟨fin, true, true, ack, true, true, dsn, ssn, ln, true, sm⟩).toArray = S
  have z : S.size = 26 := by rw [← hS]; rfl
  have b0 : bAt S 0 = UInt8.ofNat 32 := by rw [← hS]; rfl
  have b1 : bAt S 1 = UInt8.ofNat (15 + bI fin 16) := by rw [← hS]; rfl
  have q1 : n8 (bAt S 2) (bAt S 3) (bAt S 4) (bAt S 5) (bAt S 6) (bAt S 7) (bAt S 8) (bAt S 9) = ack := by rw [← hS]; exact n8_byK ack r1
  have q2 : n8 (bAt S 10) (bAt S 11) (bAt S 12) (bAt S 13) (bAt S 14) (bAt S 15) (bAt S 16) (bAt S 17) = dsn := by rw [← hS]; exact n8_byK dsn r2
  have q3 : n4 (bAt S 18) (bAt S 19) (bAt S 20) (bAt S 21) = ssn := by rw [← hS]; exact n4_byK ssn r3
  have q4 : n2 (bAt S 22) (bAt S 23) = ln := by rw [← hS]; exact n2_byK ln ⟨m7, m8⟩
  have q5 : n2 (bAt S 24) (bAt S 25) = sm := by rw [← hS]; exact n2_byK sm r4
  have eF : hF S = fin := (by unfold hF; rw [b1]; cases fin <;> decide)
  rw [dec_cls (a := true) (l := true) (m := true) (d := true) (by omega) (by rw [b0]; rfl) (by unfold hA; rw [b1]; cases fin <;> decide) (by unfold hL; rw [b1]; cases fin <;> decide) (by unfold hM; rw [b1]; cases fin <;> decide) (by unfold hD; rw [b1]; cases fin <;> decide), eF, dF_h rfl (by show S.size = 26; exact z)]
  exact congrArg (fun y => (y, (0 : Int))) (sg_eq rfl rfl rfl q1 rfl rfl q2 q3 q4 rfl q5)
theorem back (x : SG) (hm : may x) (hr : Rng x) : dec (enc x).1 = (x, 0) ∧ (enc x).2 = 0 ∧ (enc x).1.size = sizeOf' x := by
  obtain ⟨fin, ha, la, ack, hm', ld, dsn, ssn, ln, hs, sm⟩ := x
  have k := hm
  obtain ⟨m1, m2, m3, m4, m5, m6, m7, m8⟩ := k
  simp only at m1 m2 m3 m4 m5 m6 m7 m8
  cases ha <;> cases la <;> cases hm' <;> cases ld <;> cases hs
  · exfalso; simp at m1 m2 m4
  · exfalso; simp at m1 m2 m4
  · exfalso; simp at m1 m2 m4
  · exfalso; simp at m1 m2 m4
  · exact back00100 fin ack dsn ssn ln sm hm hr
  · exact back00101 fin ack dsn ssn ln sm hm hr
  · exact back00110 fin ack dsn ssn ln sm hm hr
  · exact back00111 fin ack dsn ssn ln sm hm hr
  · exfalso; simp at m1 m2 m4
  · exfalso; simp at m1 m2 m4
  · exfalso; simp at m1 m2 m4
  · exfalso; simp at m1 m2 m4
  · exfalso; simp at m1 m2 m4
  · exfalso; simp at m1 m2 m4
  · exfalso; simp at m1 m2 m4
  · exfalso; simp at m1 m2 m4
  · exact back10000 fin ack dsn ssn ln sm hm hr
  · exfalso; simp at m1 m2 m4
  · exfalso; simp at m1 m2 m4
  · exfalso; simp at m1 m2 m4
  · exact back10100 fin ack dsn ssn ln sm hm hr
  · exact back10101 fin ack dsn ssn ln sm hm hr
  · exact back10110 fin ack dsn ssn ln sm hm hr
  · exact back10111 fin ack dsn ssn ln sm hm hr
  · exact back11000 fin ack dsn ssn ln sm hm hr
  · exfalso; simp at m1 m2 m4
  · exfalso; simp at m1 m2 m4
  · exfalso; simp at m1 m2 m4
  · exact back11100 fin ack dsn ssn ln sm hm hr
  · exact back11101 fin ack dsn ssn ln sm hm hr
  · exact back11110 fin ack dsn ssn ln sm hm hr
  · exact back11111 fin ack dsn ssn ln sm hm hr
theorem size28 (x : SG) : sizeOf' x ≤ 28 := by
  have h : ∀ a l m d h : Bool, need a l m d + (match h with | true => 2 | false => 0) ≤ 28 := by decide
  exact h _ _ _ _ _
theorem size2 (x : SG) : 2 ≤ sizeOf' x := by
  have h : ∀ a l m d h : Bool, 2 ≤ need a l m d + (match h with | true => 2 | false => 0) := by decide
  exact h _ _ _ _ _
end Go.Proofs.Ytpbcjeigiklanaa
