/-
  Walks of functions, reckoned through, and what they give (part W10p). No condition beyond what each says. By an AI agent.
-/
import Derived.Test.YtmngnhbnicgjfaaW10e
namespace Go.Proofs.Ytmngnhbnicgjfaa
open Go.Ex
set_option linter.unusedVariables false
set_option linter.unusedSimpArgs false

/-! ### what is laid is read back -/
theorem n4_byK (n : Int) (h : 0 ≤ n ∧ n < 4294967296) : n4 (byK 16777216 n) (byK 65536 n) (byK 256 n) (byK 1 n) = n := by
  unfold n4
  rw [byK_toNat, byK_toNat, byK_toNat, byK_toNat]
  omega
theorem byK1 (n : Int) (h : 0 ≤ n ∧ n < 256) : ((byK 1 n).toNat : Int) = n := by
  rw [byK_toNat]; omega
theorem hd16 (b : Bool) : (hd b).toNat / 16 = 1 := by cases b <;> rfl
theorem hd2 (b : Bool) : decide ((hd b).toNat % 2 = 1) = b := by cases b <;> rfl
theorem bytes8 (m : ByteArray) (h : m.size = 8) : ∃ a0 a1 a2 a3 a4 a5 a6 a7 : UInt8, m = ⟨#[a0, a1, a2, a3, a4, a5, a6, a7]⟩ := ⟨_, _, _, _, _, _, _, _, spelled m h⟩
theorem bytes20 (m : ByteArray) (h : m.size = 20) : ∃ a0 a1 a2 a3 a4 a5 a6 a7 a8 a9 a10 a11 a12 a13 a14 a15 a16 a17 a18 a19 : UInt8, m = ⟨#[a0, a1, a2, a3, a4, a5, a6, a7, a8, a9, a10, a11, a12, a13, a14, a15, a16, a17, a18, a19]⟩ :=
  ⟨_, _, _, _, _, _, _, _, _, _, _, _, _, _, _, _, _, _, _, _, spelled m h⟩
theorem app_mk (a b : Array UInt8) : ByteArray.mk a ++ ByteArray.mk b = ByteArray.mk (a ++ b) := by
  apply ByteArray.ext; simp

set_option maxHeartbeats 2000000 in
theorem back (x : JV) (hm : may x) (ht : 0 ≤ x.t ∧ x.t < 4294967296) (hn : 0 ≤ x.n ∧ x.n < 4294967296) :
    dec (enc x).1 = (x, 0) ∧ (enc x).2 = 0 ∧ ((enc x).1.size : Int) = bytesOf x.fo ∧ (bAt (enc x).1 0).toNat / 16 = 1 := by
  have he : enc x = (if x.fo = 0 then ⟨#[hd x.bk, byK 1 x.id, byK 16777216 x.t, byK 65536 x.t, byK 256 x.t, byK 1 x.t, byK 16777216 x.n, byK 65536 x.n, byK 256 x.n, byK 1 x.n]⟩
     else if x.fo = 1 then ⟨#[hd x.bk, byK 1 x.id]⟩ ++ x.m ++ ⟨#[byK 16777216 x.n, byK 65536 x.n, byK 256 x.n, byK 1 x.n]⟩
     else ⟨#[hd x.bk, byK 1 x.id]⟩ ++ x.m, 0) := by rw [enc, if_pos hm]
  obtain ⟨fo, bk, id, t, n, m⟩ := x
  obtain ⟨h0, h1, h2⟩ := hm
  simp only [] at *
  have hid : ((byK 1 id).toNat : Int) = id := byK1 id (by omega)
  have ht4 := n4_byK t ht
  have hn4 := n4_byK n hn
  rcases h2 with ⟨rfl, h3⟩ | ⟨rfl, h3, rfl⟩ | ⟨rfl, h3, rfl, rfl, rfl, rfl⟩
  · obtain rfl := (ba_none m).2 h3
    rw [he]
    simp only [if_true]
    generalize hS : ByteArray.mk #[hd bk, byK 1 id, byK 16777216 t, byK 65536 t, byK 256 t, byK 1 t, byK 16777216 n, byK 65536 n, byK 256 n, byK 1 n] = S
    have z : S.size = 10 := by rw [← hS]; rfl
    have b0 : bAt S 0 = hd bk := by rw [← hS]; rfl
    have b1 : bAt S 1 = byK 1 id := by rw [← hS]; rfl
    have b2 : n4 (bAt S 2) (bAt S 3) (bAt S 4) (bAt S 5) = t := by rw [← ht4, ← hS]; rfl
    have b3 : n4 (bAt S 6) (bAt S 7) (bAt S 8) (bAt S 9) = n := by rw [← hn4, ← hS]; rfl
    refine ⟨?_, by first | rfl | trivial, by rw [z]; rfl, by rw [b0, hd16]⟩
    rw [dec, if_neg (by omega), if_neg (by rw [b0, hd16]; simp), if_pos z, b0, b1, b2, b3, hd2, hid]
  · obtain ⟨a0, a1, a2, a3, a4, a5, a6, a7, rfl⟩ := bytes8 m h3
    rw [he]
    simp only [if_true, if_false, Int.reduceEq, app_mk]
    rw [show (#[hd bk, byK 1 id] ++ #[a0, a1, a2, a3, a4, a5, a6, a7] ++ #[byK 16777216 n, byK 65536 n, byK 256 n, byK 1 n]) = #[hd bk, byK 1 id, a0, a1, a2, a3, a4, a5, a6, a7, byK 16777216 n, byK 65536 n, byK 256 n, byK 1 n] from by simp]
    generalize hS : ByteArray.mk #[hd bk, byK 1 id, a0, a1, a2, a3, a4, a5, a6, a7, byK 16777216 n, byK 65536 n, byK 256 n, byK 1 n] = S
    have z : S.size = 14 := by rw [← hS]; rfl
    have b0 : bAt S 0 = hd bk := by rw [← hS]; rfl
    have b1 : bAt S 1 = byK 1 id := by rw [← hS]; rfl
    have b2 : cutL S 2 8 = [a0, a1, a2, a3, a4, a5, a6, a7] := by rw [← hS]; rfl
    have b3 : n4 (bAt S 10) (bAt S 11) (bAt S 12) (bAt S 13) = n := by rw [← hn4, ← hS]; rfl
    refine ⟨?_, by first | rfl | trivial, by rw [z]; rfl, by rw [b0, hd16]⟩
    rw [dec, if_neg (by omega), if_neg (by rw [b0, hd16]; simp), if_neg (by omega), if_pos z, b0, b1, b2, b3, hd2, hid]
  · obtain ⟨a0, a1, a2, a3, a4, a5, a6, a7, a8, a9, a10, a11, a12, a13, a14, a15, a16, a17, a18, a19, rfl⟩ := bytes20 m h3
    rw [he]
    simp only [if_true, if_false, Int.reduceEq, app_mk]
    rw [show (#[hd false, byK 1 0] ++ #[a0, a1, a2, a3, a4, a5, a6, a7, a8, a9, a10, a11, a12, a13, a14, a15, a16, a17, a18, a19]) = #[hd false, byK 1 0, a0, a1, a2, a3, a4, a5, a6, a7, a8, a9, a10, a11, a12, a13, a14, a15, a16, a17, a18, a19] from by simp]
    generalize hS : ByteArray.mk #[hd false, byK 1 0, a0, a1, a2, a3, a4, a5, a6, a7, a8, a9, a10, a11, a12, a13, a14, a15, a16, a17, a18, a19] = S
    have z : S.size = 22 := by rw [← hS]; rfl
    have b0 : bAt S 0 = hd false := by rw [← hS]; rfl
    have b2 : cutL S 2 20 = [a0, a1, a2, a3, a4, a5, a6, a7, a8, a9, a10, a11, a12, a13, a14, a15, a16, a17, a18, a19] := by rw [← hS]; rfl
    refine ⟨?_, by first | rfl | trivial, by rw [z]; rfl, by rw [b0, hd16]⟩
    rw [dec, if_neg (by omega), if_neg (by rw [b0, hd16]; simp), if_neg (by omega), if_neg (by omega), if_pos z, b2]

/-- A draft's option may be. -/
theorem draft_may (d i : Int) (b : Bool) (t n : Int) (l : List Int) (hd : 0 ≤ d ∧ d < 256) (hi : 0 ≤ i ∧ i < 256) (hl : l.length = 20) : may (draft d i b t n l) := by
  unfold draft
  split
  · exact ⟨hi.1, (by omega : i ≤ 255), .inl ⟨rfl, rfl⟩⟩
  · split
    · exact ⟨hi.1, (by omega : i ≤ 255), .inr (.inl ⟨rfl, (by rw [size_mk]; simp [hl] : (ByteArray.mk ((l.take 8).map u8).toArray).size = 8), rfl⟩)⟩
    · exact ⟨Int.le_refl _, (by omega : (0 : Int) ≤ 255), .inr (.inr ⟨rfl, (by rw [size_mk]; simp [hl] : (ByteArray.mk (l.map u8).toArray).size = 20), rfl, rfl, rfl, rfl⟩)⟩
theorem draft_t (d i : Int) (b : Bool) (t n : Int) (l : List Int) (h : 0 ≤ t ∧ t < 4294967296) : 0 ≤ (draft d i b t n l).t ∧ (draft d i b t n l).t < 4294967296 := by
  unfold draft; split
  · exact h
  · split <;> exact ⟨Int.le_refl _, (by decide : (0 : Int) < 4294967296)⟩
theorem draft_n (d i : Int) (b : Bool) (t n : Int) (l : List Int) (h : 0 ≤ n ∧ n < 4294967296) : 0 ≤ (draft d i b t n l).n ∧ (draft d i b t n l).n < 4294967296 := by
  unfold draft; split
  · exact h
  · split
    · exact h
    · exact ⟨Int.le_refl _, (by decide : (0 : Int) < 4294967296)⟩
theorem may_m {x : JV} (h : may x) : x.m.size ≤ 20 := by
  obtain ⟨_, _, h⟩ := h
  rcases h with ⟨_, h⟩ | ⟨_, h, _⟩ | ⟨_, h, _⟩ <;> omega
theorem may_fo {x : JV} (h : may x) : x.fo = 0 ∨ x.fo = 1 ∨ x.fo = 2 := by
  obtain ⟨_, _, h⟩ := h
  rcases h with ⟨h, _⟩ | ⟨h, _⟩ | ⟨h, _⟩ <;> simp [h]
theorem jv_beq (x y : JV) : (x.fo == y.fo && (x.bk == y.bk && (x.id == y.id && (x.t == y.t && (x.n == y.n && (x.m == y.m && true)))))) = true ↔ x = y := by
  obtain ⟨a, b, c, d, e, f⟩ := x
  obtain ⟨a', b', c', d', e', f'⟩ := y
  simp only [Bool.and_eq_true, beq_iff_eq, ba_beq, decide_eq_true_eq, Bool.and_true, JV.mk.injEq]
/-- All that is told of a draft's body. -/
structure DV.Ok (x : DV) : Prop where
  d : 0 ≤ x.d ∧ x.d < 256
  i : 0 ≤ x.i ∧ x.i < 256
  t : 0 ≤ x.t ∧ x.t < 4294967296
  n : 0 ≤ x.n ∧ x.n < 4294967296
structure DV.All (x : DV) : Prop where
  may : may x.j
  t : 0 ≤ x.j.t ∧ x.j.t < 4294967296
  n : 0 ≤ x.j.n ∧ x.j.n < 4294967296
  m : x.j.m.size ≤ 4611686018427387904
  dec : dec (enc x.j).1 = (x.j, 0)
  ok : (enc x.j).2 = 0
  size : ((enc x.j).1.size : Int) = bytesOf x.j.fo
  head : (bAt (enc x.j).1 0).toNat / 16 = 1
  small : (enc x.j).1.size ≤ 22
  big : 10 ≤ (enc x.j).1.size
  sizes : (enc x.j).1.size = 10 ∨ (enc x.j).1.size = 14 ∨ (enc x.j).1.size = 22
theorem DV.all {x : DV} (h : x.Ok) : x.All := by
  have h1 : may x.j := draft_may _ _ _ _ _ _ h.d h.i rfl
  have h2 := draft_t x.d x.i x.b x.t x.n x.ms h.t
  have h3 := draft_n x.d x.i x.b x.t x.n x.ms h.n
  obtain ⟨g1, g2, g3, g4⟩ := back x.j h1 h2 h3
  have hs : (enc x.j).1.size = 10 ∨ (enc x.j).1.size = 14 ∨ (enc x.j).1.size = 22 := by
    rcases may_fo h1 with e | e | e <;> rw [e] at g3 <;> simp [bytesOf] at g3 <;> omega
  exact ⟨h1, h2, h3, Nat.le_trans (may_m h1) (by decide), g1, g2, g3, g4, by omega, by omega, hs⟩
end Go.Proofs.Ytmngnhbnicgjfaa
