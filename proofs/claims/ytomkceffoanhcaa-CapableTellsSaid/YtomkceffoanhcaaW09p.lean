/-
  Walks of functions, reckoned through, and what they give (part W09p). No condition beyond what each says. By an AI agent.
-/
import Derived.Test.YtomkceffoanhcaaW09y
namespace Go.Proofs.Ytomkceffoanhcaa
open Go.Ex
set_option linter.unusedVariables false
set_option linter.unusedSimpArgs false
/-! ### what is laid is read back; what is read is laid again -/
theorem n8_byK (n : Int) (h : 0 ≤ n ∧ n < 18446744073709551616) : n8 (byK 72057594037927936 n) (byK 281474976710656 n) (byK 1099511627776 n) (byK 4294967296 n) (byK 16777216 n) (byK 65536 n) (byK 256 n) (byK 1 n) = n := by
  unfold n8
  rw [byK_toNat, byK_toNat, byK_toNat, byK_toNat, byK_toNat, byK_toNat, byK_toNat, byK_toNat]
  omega
theorem n2_byK (n : Int) (h : 0 ≤ n ∧ n < 65536) : n2 (byK 256 n) (byK 1 n) = n := by
  unfold n2
  rw [byK_toNat, byK_toNat]
  omega
theorem byK_is {k n : Int} {a : UInt8} (h : n / k % 256 = (a.toNat : Int)) : byK k n = a := by
  unfold byK u8
  rw [h, Int.toNat_natCast, UInt8.ofNat_toNat]
theorem b8_n8 (a b c d e f g h : UInt8) : b8 (n8 a b c d e f g h) = [a, b, c, d, e, f, g, h] := by
  have := a.toNat_lt; have := b.toNat_lt; have := c.toNat_lt; have := d.toNat_lt; have := e.toNat_lt; have := f.toNat_lt; have := g.toNat_lt; have := h.toNat_lt
  unfold b8
  rw [byK_is (k := 72057594037927936) (a := a) (by unfold n8; omega), byK_is (k := 281474976710656) (a := b) (by unfold n8; omega), byK_is (k := 1099511627776) (a := c) (by unfold n8; omega), byK_is (k := 4294967296) (a := d) (by unfold n8; omega),
    byK_is (k := 16777216) (a := e) (by unfold n8; omega), byK_is (k := 65536) (a := f) (by unfold n8; omega), byK_is (k := 256) (a := g) (by unfold n8; omega), byK_is (k := 1) (a := h) (by unfold n8; omega)]
theorem b2_n2 (a b : UInt8) : b2 (n2 a b) = [a, b] := by
  have := a.toNat_lt; have := b.toNat_lt
  unfold b2
  rw [byK_is (k := 256) (a := a) (by unfold n2; omega), byK_is (k := 1) (a := b) (by unfold n2; omega)]
theorem ver_toNat (v : Int) (h : 0 ≤ v ∧ v < 16) : ((byK 1 v).toNat : Int) = v := by rw [byK_toNat]; omega
theorem flag_odd (s a : Bool) : (flag s a).toNat % 2 = 1 := by cases s <;> cases a <;> rfl
theorem flag_s (s a : Bool) : decide (128 ≤ (flag s a).toNat) = s := by cases s <;> cases a <;> rfl
theorem flag_a (s a : Bool) : decide ((flag s a).toNat / 32 % 2 = 1) = a := by cases s <;> cases a <;> rfl
theorem flag_and (b : UInt8) (h : b.toNat % 2 = 1) : (flag (decide (128 ≤ b.toNat)) (decide (b.toNat / 32 % 2 = 1))).toNat = b.toNat &&& 161 := by
  have : ∀ x : Fin 256, x.val % 2 = 1 → (flag (decide (128 ≤ x.val)) (decide (x.val / 32 % 2 = 1))).toNat = x.val &&& 161 := by decide +kernel
  exact this ⟨b.toNat, b.toNat_lt⟩ h

def Rng (x : CV) : Prop := (0 ≤ x.own ∧ x.own < 18446744073709551616) ∧ (0 ≤ x.peer ∧ x.peer < 18446744073709551616) ∧ (0 ≤ x.sm ∧ x.sm < 65536)
set_option maxHeartbeats 2000000 in
theorem back (x : CV) (hm : may x) (hr : Rng x) : dec (enc x).1 = (x, 0) ∧ (enc x).2 = 0 ∧ 2 ≤ (enc x).1.size ∧ (enc x).1.size ≤ 22 := by
  have he : enc x = (⟨(body x).toArray⟩, 0) := by rw [enc, if_pos hm]
  obtain ⟨fo, ver, su, al, own, peer, ln, sm⟩ := x
  obtain ⟨m1, m2, m3, m4, m5, m6, m7, m8, m9, m10⟩ := hm
  obtain ⟨r1, r2, r3⟩ := hr
  simp only [] at *
  have hv := ver_toNat ver ⟨m3, m4⟩
  have hv1 : (byK 1 ver).toNat / 16 = 0 := by omega
  have hv2 : ((byK 1 ver).toNat : Int) % 16 = ver := by omega
  have ho8 := n8_byK own r1
  have hp8 := n8_byK peer r2
  have hl2 := n2_byK ln ⟨m5, m6⟩
  have hs2 := n2_byK sm r3
  have hfo : fo = 0 ∨ fo = 1 ∨ fo = 2 ∨ fo = 3 ∨ fo = 4 := by omega
  rcases hfo with rfl | rfl | rfl | rfl | rfl
  · obtain rfl : own = 0 := by omega
    obtain rfl : peer = 0 := by omega
    obtain rfl : ln = 0 := by omega
    obtain rfl : sm = 0 := by omega
    have hb : body ⟨0, ver, su, al, 0, 0, 0, 0⟩ = [byK 1 ver, flag su al] := by rw [body]; simp
    rw [he, hb]
    simp only []
    generalize hS : ByteArray.mk ([byK 1 ver, flag su al]).toArray = S
    have z : S.size = 2 := by rw [← hS]; rfl
    have b0 : bAt S 0 = byK 1 ver := by rw [← hS]; rfl
    have b1 : bAt S 1 = flag su al := by rw [← hS]; rfl
    refine ⟨?_, by first | rfl | trivial, by omega, by omega⟩
    rw [dec, if_neg (by omega), if_neg (by rw [b0]; omega), if_neg (by omega), if_neg (by rw [b1, flag_odd]; decide), if_pos z, b0, b1, hv2, flag_s, flag_a]
  · obtain rfl : peer = 0 := by omega
    obtain rfl : ln = 0 := by omega
    obtain rfl : sm = 0 := by omega
    have hb : body ⟨1, ver, su, al, own, 0, 0, 0⟩ = byK 1 ver :: flag su al :: b8 own := by rw [body]; simp
    rw [he, hb]
    simp only []
    generalize hS : ByteArray.mk (byK 1 ver :: flag su al :: b8 own).toArray = S
    have z : S.size = 10 := by rw [← hS]; rfl
    have b0 : bAt S 0 = byK 1 ver := by rw [← hS]; rfl
    have b1 : bAt S 1 = flag su al := by rw [← hS]; rfl
    have q1 : n8 (bAt S 2) (bAt S 3) (bAt S 4) (bAt S 5) (bAt S 6) (bAt S 7) (bAt S 8) (bAt S 9) = own := by rw [← hS]; exact ho8
    refine ⟨?_, by first | rfl | trivial, by omega, by omega⟩
    rw [dec, if_neg (by omega), if_neg (by rw [b0]; omega), if_neg (by omega), if_neg (by rw [b1, flag_odd]; decide), if_neg (by omega), if_pos z, b0, b1, hv2, flag_s, flag_a, q1]
  · obtain rfl : ln = 0 := by omega
    obtain rfl : sm = 0 := by omega
    have hb : body ⟨2, ver, su, al, own, peer, 0, 0⟩ = byK 1 ver :: flag su al :: (b8 own ++ b8 peer) := by rw [body]; simp
    rw [he, hb]
    simp only []
    generalize hS : ByteArray.mk (byK 1 ver :: flag su al :: (b8 own ++ b8 peer)).toArray = S
    have z : S.size = 18 := by rw [← hS]; rfl
    have b0 : bAt S 0 = byK 1 ver := by rw [← hS]; rfl
    have b1 : bAt S 1 = flag su al := by rw [← hS]; rfl
    have q1 : n8 (bAt S 2) (bAt S 3) (bAt S 4) (bAt S 5) (bAt S 6) (bAt S 7) (bAt S 8) (bAt S 9) = own := by rw [← hS]; exact ho8
    have q2 : n8 (bAt S 10) (bAt S 11) (bAt S 12) (bAt S 13) (bAt S 14) (bAt S 15) (bAt S 16) (bAt S 17) = peer := by rw [← hS]; exact hp8
    refine ⟨?_, by first | rfl | trivial, by omega, by omega⟩
    rw [dec, if_neg (by omega), if_neg (by rw [b0]; omega), if_neg (by omega), if_neg (by rw [b1, flag_odd]; decide), if_neg (by omega), if_neg (by omega), if_pos z, b0, b1, hv2, flag_s, flag_a, q1, q2]
  · obtain rfl : sm = 0 := by omega
    have hb : body ⟨3, ver, su, al, own, peer, ln, 0⟩ = byK 1 ver :: flag su al :: (b8 own ++ (b8 peer ++ b2 ln)) := by rw [body]; simp
    rw [he, hb]
    simp only []
    generalize hS : ByteArray.mk (byK 1 ver :: flag su al :: (b8 own ++ (b8 peer ++ b2 ln))).toArray = S
    have z : S.size = 20 := by rw [← hS]; rfl
    have b0 : bAt S 0 = byK 1 ver := by rw [← hS]; rfl
    have b1 : bAt S 1 = flag su al := by rw [← hS]; rfl
    have q1 : n8 (bAt S 2) (bAt S 3) (bAt S 4) (bAt S 5) (bAt S 6) (bAt S 7) (bAt S 8) (bAt S 9) = own := by rw [← hS]; exact ho8
    have q2 : n8 (bAt S 10) (bAt S 11) (bAt S 12) (bAt S 13) (bAt S 14) (bAt S 15) (bAt S 16) (bAt S 17) = peer := by rw [← hS]; exact hp8
    have q3 : n2 (bAt S 18) (bAt S 19) = ln := by rw [← hS]; exact hl2
    refine ⟨?_, by first | rfl | trivial, by omega, by omega⟩
    rw [dec, if_neg (by omega), if_neg (by rw [b0]; omega), if_neg (by omega), if_neg (by rw [b1, flag_odd]; decide), if_neg (by omega), if_neg (by omega), if_neg (by omega), if_pos z, b0, b1, hv2, flag_s, flag_a, q1, q2, q3]
  · skip
    have hb : body ⟨4, ver, su, al, own, peer, ln, sm⟩ = byK 1 ver :: flag su al :: (b8 own ++ (b8 peer ++ (b2 ln ++ b2 sm))) := by rw [body]; simp
    rw [he, hb]
    simp only []
    generalize hS : ByteArray.mk (byK 1 ver :: flag su al :: (b8 own ++ (b8 peer ++ (b2 ln ++ b2 sm)))).toArray = S
    have z : S.size = 22 := by rw [← hS]; rfl
    have b0 : bAt S 0 = byK 1 ver := by rw [← hS]; rfl
    have b1 : bAt S 1 = flag su al := by rw [← hS]; rfl
    have q1 : n8 (bAt S 2) (bAt S 3) (bAt S 4) (bAt S 5) (bAt S 6) (bAt S 7) (bAt S 8) (bAt S 9) = own := by rw [← hS]; exact ho8
    have q2 : n8 (bAt S 10) (bAt S 11) (bAt S 12) (bAt S 13) (bAt S 14) (bAt S 15) (bAt S 16) (bAt S 17) = peer := by rw [← hS]; exact hp8
    have q3 : n2 (bAt S 18) (bAt S 19) = ln := by rw [← hS]; exact hl2
    have q4 : n2 (bAt S 20) (bAt S 21) = sm := by rw [← hS]; exact hs2
    refine ⟨?_, by first | rfl | trivial, by omega, by omega⟩
    rw [dec, if_neg (by omega), if_neg (by rw [b0]; omega), if_neg (by omega), if_neg (by rw [b1, flag_odd]; decide), if_neg (by omega), if_neg (by omega), if_neg (by omega), if_neg (by omega), b0, b1, hv2, flag_s, flag_a, q1, q2, q3, q4]

theorem bAt_mk (l : List UInt8) (i : Nat) : bAt ⟨l.toArray⟩ i = (l[i]?).getD 0 := by simp [bAt]
/-- What was read is laid again: but for bits that are passed over. -/
theorem again (s : ByteArray) (h : (dec s).2 = 0) : may (dec s).1 ∧ Rng (dec s).1 ∧ (enc (dec s).1).2 = 0 ∧ 2 ≤ s.size ∧ s.size ≤ 22 ∧ (bAt s 1).toNat % 2 = 1 ∧
    ∃ l, (enc (dec s).1).1 = ⟨(bAt s 0 :: flag (decide (128 ≤ (bAt s 1).toNat)) (decide ((bAt s 1).toNat / 32 % 2 = 1)) :: l).toArray⟩ ∧ s.extract 2 s.size = ⟨l.toArray⟩ ∧ l.length + 2 = s.size := by
  have k0 := byte_lt (bAt s 0)
  by_cases h0 : s.size = 0
  · rw [dec, if_pos h0] at h; exact absurd h (by decide)
  by_cases h1 : (bAt s 0).toNat / 16 ≠ 0
  · rw [dec, if_neg h0, if_pos h1] at h; exact absurd h (by decide)
  by_cases h2 : s.size ≠ 2 ∧ s.size ≠ 10 ∧ s.size ≠ 18 ∧ s.size ≠ 20 ∧ s.size ≠ 22
  · rw [dec, if_neg h0, if_neg h1, if_pos h2] at h; exact absurd h (by decide)
  by_cases h3 : (bAt s 1).toNat % 2 = 0
  · rw [dec, if_neg h0, if_neg h1, if_neg h2, if_pos h3] at h; exact absurd h (by decide)
  have hv : byK 1 (((bAt s 0).toNat : Int) % 16) = bAt s 0 := byK_is (by omega)
  have ord : (bAt s 1).toNat % 2 = 1 := by omega
  have cut : ∀ n, s.size = n + 2 → s.extract 2 s.size = ⟨(cutL s 2 n).toArray⟩ := fun n hn => by
    have := cutL_eq (s := s) (i := 2) (j := s.size) (by omega) (by omega)
    rw [← this, show s.size - 2 = n by omega]
  have z64 : (0 : Int) ≤ 0 ∧ (0 : Int) < 18446744073709551616 := by decide
  have z16 : (0 : Int) ≤ 0 ∧ (0 : Int) < 65536 := by decide
  by_cases c2 : s.size = 2
  · have hd : dec s = ((⟨0, ((bAt s 0).toNat : Int) % 16, decide (128 ≤ (bAt s 1).toNat), decide ((bAt s 1).toNat / 32 % 2 = 1), 0, 0, 0, 0⟩ : CV), 0) := by rw [dec, if_neg h0, if_neg h1, if_neg h2, if_neg h3, if_pos c2]
    have hm : may (⟨0, ((bAt s 0).toNat : Int) % 16, decide (128 ≤ (bAt s 1).toNat), decide ((bAt s 1).toNat / 32 % 2 = 1), 0, 0, 0, 0⟩ : CV) := ⟨(by decide : (0 : Int) ≤ 0), (by decide : (0 : Int) < 5), by show 0 ≤ ((bAt s 0).toNat : Int) % 16; omega, by show ((bAt s 0).toNat : Int) % 16 < 16; omega, (by decide : (0 : Int) ≤ 0), (by decide : (0 : Int) < 65536), .inr rfl, .inr rfl, .inr rfl, .inr rfl⟩
    rw [hd]
    refine ⟨hm, ⟨z64, z64, z16⟩, by rw [enc, if_pos hm], by omega, by omega, ord, cutL s 2 0, ?_, cut 0 c2, by simp [cutL_length]; omega⟩
    rw [enc, if_pos hm, body]; simp only [if_true, hv]; rfl
  by_cases c10 : s.size = 10
  · have hd : dec s = ((⟨1, ((bAt s 0).toNat : Int) % 16, decide (128 ≤ (bAt s 1).toNat), decide ((bAt s 1).toNat / 32 % 2 = 1), n8 (bAt s 2) (bAt s 3) (bAt s 4) (bAt s 5) (bAt s 6) (bAt s 7) (bAt s 8) (bAt s 9), 0, 0, 0⟩ : CV), 0) := by rw [dec, if_neg h0, if_neg h1, if_neg h2, if_neg h3, if_neg c2, if_pos c10]
    have g1 := n8_range (bAt s 2) (bAt s 3) (bAt s 4) (bAt s 5) (bAt s 6) (bAt s 7) (bAt s 8) (bAt s 9)
    have hm : may (⟨1, ((bAt s 0).toNat : Int) % 16, decide (128 ≤ (bAt s 1).toNat), decide ((bAt s 1).toNat / 32 % 2 = 1), n8 (bAt s 2) (bAt s 3) (bAt s 4) (bAt s 5) (bAt s 6) (bAt s 7) (bAt s 8) (bAt s 9), 0, 0, 0⟩ : CV) := ⟨(by decide : (0 : Int) ≤ 1), (by decide : (1 : Int) < 5), by show 0 ≤ ((bAt s 0).toNat : Int) % 16; omega, by show ((bAt s 0).toNat : Int) % 16 < 16; omega, (by decide : (0 : Int) ≤ 0), (by decide : (0 : Int) < 65536), .inl (by decide : (1 : Int) ≥ 1), .inr rfl, .inr rfl, .inr rfl⟩
    rw [hd]
    refine ⟨hm, ⟨g1, z64, z16⟩, by rw [enc, if_pos hm], by omega, by omega, ord, cutL s 2 8, ?_, cut 8 c10, by simp [cutL_length]; omega⟩
    rw [enc, if_pos hm, body]; simp only [if_true, if_false, Int.reduceEq, hv, b8_n8]; rfl
  by_cases c18 : s.size = 18
  · have hd : dec s = ((⟨2, ((bAt s 0).toNat : Int) % 16, decide (128 ≤ (bAt s 1).toNat), decide ((bAt s 1).toNat / 32 % 2 = 1), n8 (bAt s 2) (bAt s 3) (bAt s 4) (bAt s 5) (bAt s 6) (bAt s 7) (bAt s 8) (bAt s 9), n8 (bAt s 10) (bAt s 11) (bAt s 12) (bAt s 13) (bAt s 14) (bAt s 15) (bAt s 16) (bAt s 17), 0, 0⟩ : CV), 0) := by rw [dec, if_neg h0, if_neg h1, if_neg h2, if_neg h3, if_neg c2, if_neg c10, if_pos c18]
    have g1 := n8_range (bAt s 2) (bAt s 3) (bAt s 4) (bAt s 5) (bAt s 6) (bAt s 7) (bAt s 8) (bAt s 9)
    have g2 := n8_range (bAt s 10) (bAt s 11) (bAt s 12) (bAt s 13) (bAt s 14) (bAt s 15) (bAt s 16) (bAt s 17)
    have hm : may (⟨2, ((bAt s 0).toNat : Int) % 16, decide (128 ≤ (bAt s 1).toNat), decide ((bAt s 1).toNat / 32 % 2 = 1), n8 (bAt s 2) (bAt s 3) (bAt s 4) (bAt s 5) (bAt s 6) (bAt s 7) (bAt s 8) (bAt s 9), n8 (bAt s 10) (bAt s 11) (bAt s 12) (bAt s 13) (bAt s 14) (bAt s 15) (bAt s 16) (bAt s 17), 0, 0⟩ : CV) := ⟨(by decide : (0 : Int) ≤ 2), (by decide : (2 : Int) < 5), by show 0 ≤ ((bAt s 0).toNat : Int) % 16; omega, by show ((bAt s 0).toNat : Int) % 16 < 16; omega, (by decide : (0 : Int) ≤ 0), (by decide : (0 : Int) < 65536), .inl (by decide : (2 : Int) ≥ 1), .inl (by decide : (2 : Int) ≥ 2), .inr rfl, .inr rfl⟩
    rw [hd]
    refine ⟨hm, ⟨g1, g2, z16⟩, by rw [enc, if_pos hm], by omega, by omega, ord, cutL s 2 16, ?_, cut 16 c18, by simp [cutL_length]; omega⟩
    rw [enc, if_pos hm, body]; simp only [if_true, if_false, Int.reduceEq, hv, b8_n8]; rfl
  by_cases c20 : s.size = 20
  · have hd : dec s = ((⟨3, ((bAt s 0).toNat : Int) % 16, decide (128 ≤ (bAt s 1).toNat), decide ((bAt s 1).toNat / 32 % 2 = 1), n8 (bAt s 2) (bAt s 3) (bAt s 4) (bAt s 5) (bAt s 6) (bAt s 7) (bAt s 8) (bAt s 9), n8 (bAt s 10) (bAt s 11) (bAt s 12) (bAt s 13) (bAt s 14) (bAt s 15) (bAt s 16) (bAt s 17), n2 (bAt s 18) (bAt s 19), 0⟩ : CV), 0) := by rw [dec, if_neg h0, if_neg h1, if_neg h2, if_neg h3, if_neg c2, if_neg c10, if_neg c18, if_pos c20]
    have g1 := n8_range (bAt s 2) (bAt s 3) (bAt s 4) (bAt s 5) (bAt s 6) (bAt s 7) (bAt s 8) (bAt s 9)
    have g2 := n8_range (bAt s 10) (bAt s 11) (bAt s 12) (bAt s 13) (bAt s 14) (bAt s 15) (bAt s 16) (bAt s 17)
    have g3 := n2_range (bAt s 18) (bAt s 19)
    have hm : may (⟨3, ((bAt s 0).toNat : Int) % 16, decide (128 ≤ (bAt s 1).toNat), decide ((bAt s 1).toNat / 32 % 2 = 1), n8 (bAt s 2) (bAt s 3) (bAt s 4) (bAt s 5) (bAt s 6) (bAt s 7) (bAt s 8) (bAt s 9), n8 (bAt s 10) (bAt s 11) (bAt s 12) (bAt s 13) (bAt s 14) (bAt s 15) (bAt s 16) (bAt s 17), n2 (bAt s 18) (bAt s 19), 0⟩ : CV) := ⟨(by decide : (0 : Int) ≤ 3), (by decide : (3 : Int) < 5), by show 0 ≤ ((bAt s 0).toNat : Int) % 16; omega, by show ((bAt s 0).toNat : Int) % 16 < 16; omega, g3.1, g3.2, .inl (by decide : (3 : Int) ≥ 1), .inl (by decide : (3 : Int) ≥ 2), .inl (by decide : (3 : Int) ≥ 3), .inr rfl⟩
    rw [hd]
    refine ⟨hm, ⟨g1, g2, z16⟩, by rw [enc, if_pos hm], by omega, by omega, ord, cutL s 2 18, ?_, cut 18 c20, by simp [cutL_length]; omega⟩
    rw [enc, if_pos hm, body]; simp only [if_true, if_false, Int.reduceEq, hv, b8_n8, b2_n2]; rfl
  have c22 : s.size = 22 := by omega
  have hd : dec s = ((⟨4, ((bAt s 0).toNat : Int) % 16, decide (128 ≤ (bAt s 1).toNat), decide ((bAt s 1).toNat / 32 % 2 = 1), n8 (bAt s 2) (bAt s 3) (bAt s 4) (bAt s 5) (bAt s 6) (bAt s 7) (bAt s 8) (bAt s 9), n8 (bAt s 10) (bAt s 11) (bAt s 12) (bAt s 13) (bAt s 14) (bAt s 15) (bAt s 16) (bAt s 17), n2 (bAt s 18) (bAt s 19), n2 (bAt s 20) (bAt s 21)⟩ : CV), 0) := by rw [dec, if_neg h0, if_neg h1, if_neg h2, if_neg h3, if_neg c2, if_neg c10, if_neg c18, if_neg c20]
  have g1 := n8_range (bAt s 2) (bAt s 3) (bAt s 4) (bAt s 5) (bAt s 6) (bAt s 7) (bAt s 8) (bAt s 9)
  have g2 := n8_range (bAt s 10) (bAt s 11) (bAt s 12) (bAt s 13) (bAt s 14) (bAt s 15) (bAt s 16) (bAt s 17)
  have g3 := n2_range (bAt s 18) (bAt s 19)
  have g4 := n2_range (bAt s 20) (bAt s 21)
  have hm : may (⟨4, ((bAt s 0).toNat : Int) % 16, decide (128 ≤ (bAt s 1).toNat), decide ((bAt s 1).toNat / 32 % 2 = 1), n8 (bAt s 2) (bAt s 3) (bAt s 4) (bAt s 5) (bAt s 6) (bAt s 7) (bAt s 8) (bAt s 9), n8 (bAt s 10) (bAt s 11) (bAt s 12) (bAt s 13) (bAt s 14) (bAt s 15) (bAt s 16) (bAt s 17), n2 (bAt s 18) (bAt s 19), n2 (bAt s 20) (bAt s 21)⟩ : CV) := ⟨(by decide : (0 : Int) ≤ 4), (by decide : (4 : Int) < 5), by show 0 ≤ ((bAt s 0).toNat : Int) % 16; omega, by show ((bAt s 0).toNat : Int) % 16 < 16; omega, g3.1, g3.2, .inl (by decide : (4 : Int) ≥ 1), .inl (by decide : (4 : Int) ≥ 2), .inl (by decide : (4 : Int) ≥ 3), .inl (by decide : (4 : Int) ≥ 4)⟩
  rw [hd]
  refine ⟨hm, ⟨g1, g2, g4⟩, by rw [enc, if_pos hm], by omega, by omega, ord, cutL s 2 20, ?_, cut 20 c22, by simp [cutL_length]; omega⟩
  rw [enc, if_pos hm, body]; simp only [if_true, if_false, Int.reduceEq, hv, b8_n8, b2_n2]; rfl
theorem dec_none (s : ByteArray) (h : ¬ (dec s).2 = 0) : (dec s).1 = CV.none := by
  by_cases h0 : s.size = 0
  · rw [dec, if_pos h0]
  by_cases h1 : (bAt s 0).toNat / 16 ≠ 0
  · rw [dec, if_neg h0, if_pos h1]
  by_cases h2 : s.size ≠ 2 ∧ s.size ≠ 10 ∧ s.size ≠ 18 ∧ s.size ≠ 20 ∧ s.size ≠ 22
  · rw [dec, if_neg h0, if_neg h1, if_pos h2]
  by_cases h3 : (bAt s 1).toNat % 2 = 0
  · rw [dec, if_neg h0, if_neg h1, if_neg h2, if_pos h3]
  by_cases h4 : s.size = 2
  · exfalso; rw [dec, if_neg h0, if_neg h1, if_neg h2, if_neg h3, if_pos h4] at h; exact h rfl
  by_cases h5 : s.size = 10
  · exfalso; rw [dec, if_neg h0, if_neg h1, if_neg h2, if_neg h3, if_neg h4, if_pos h5] at h; exact h rfl
  by_cases h6 : s.size = 18
  · exfalso; rw [dec, if_neg h0, if_neg h1, if_neg h2, if_neg h3, if_neg h4, if_neg h5, if_pos h6] at h; exact h rfl
  by_cases h7 : s.size = 20
  · exfalso; rw [dec, if_neg h0, if_neg h1, if_neg h2, if_neg h3, if_neg h4, if_neg h5, if_neg h6, if_pos h7] at h; exact h rfl
  exfalso; rw [dec, if_neg h0, if_neg h1, if_neg h2, if_neg h3, if_neg h4, if_neg h5, if_neg h6, if_neg h7] at h; exact h rfl
end Go.Proofs.Ytomkceffoanhcaa
