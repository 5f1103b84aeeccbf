/-
  SHA-256 of many texts at once, one word of each in a lane of a great number: the digests of c^n, n up to 262, differ. No condition beyond what each says. By an AI agent.
-/
import Derived.Test.YtgefcokanfbpbaaDoorW07a
namespace Go.Proofs.YtgefcokanfbpbaaDoor
set_option linter.unusedVariables false
set_option maxRecDepth 1000000
def withN {α : Type} (n : Nat) (k : Nat → α) : α :=
  match n with
  | 0 => k 0
  | n + 1 => k (Nat.succ n)
/-- One in each of n lanes of 64 bits. -/
def ones : Nat → Nat
  | 0 => 0
  | n + 1 => Nat.add 1 (Nat.mul 18446744073709551616 (ones n))
def adLZ (m a b : Nat) : Nat := Nat.land (Nat.add a b) m
def roL (m x k j : Nat) : Nat := Nat.lor (Nat.land (Nat.shiftLeft x j) m) (Nat.land (Nat.shiftRight x k) m)
def s3L (m x i i' j j' k k' : Nat) : Nat := Nat.xor (Nat.xor (roL m x i i') (roL m x j j')) (roL m x k k')
def q0L (m x : Nat) : Nat := Nat.xor (Nat.xor (roL m x 7 25) (roL m x 18 14)) (Nat.land (Nat.shiftRight x 3) m)
def q1L (m x : Nat) : Nat := Nat.xor (Nat.xor (roL m x 17 15) (roL m x 19 13)) (Nat.land (Nat.shiftRight x 10) m)
def chL (m e f g : Nat) : Nat := Nat.lor (Nat.land e f) (Nat.land (Nat.xor m e) g)
def mjL (a b c : Nat) : Nat := Nat.lor (Nat.lor (Nat.land a b) (Nat.land a c)) (Nat.land b c)
def nXL (m e f g h k w : Nat) : Nat := adLZ m (adLZ m (adLZ m (adLZ m h (s3L m e 6 26 11 21 25 7)) (chL m e f g)) k) w
def nYL (m a b c : Nat) : Nat := adLZ m (s3L m a 2 30 13 19 22 10) (mjL a b c)
def goL {α : Type} (o m : Nat) : List Nat → Nat → Nat → Nat → Nat → Nat → Nat → Nat → Nat → List Nat → (List Nat → α) → α → α
  | [], a, b, c, d, e, f, g, h, _, k, _ => k [a, b, c, d, e, f, g, h]
  | kc :: ks, a, b, c, d, e, f, g, h, [w0, w1, w2, w3, w4, w5, w6, w7, w8, w9, w10, w11, w12, w13, w14, w15], k, z =>
    withN (nXL m e f g h (Nat.mul o kc) w0) fun x =>
    withN (adLZ m x (nYL m a b c)) fun a' =>
    withN (adLZ m d x) fun e' =>
    withN (adLZ m (adLZ m w0 (q0L m w1)) (adLZ m w9 (q1L m w14))) fun w' =>
    goL o m ks a' a b c e' e f g [w1, w2, w3, w4, w5, w6, w7, w8, w9, w10, w11, w12, w13, w14, w15, w'] k z
  | _ :: _, _, _, _, _, _, _, _, _, _, _, z => z
/-- Lanes that count up from c. -/
def lanes (f : Nat → Nat) : Nat → Nat → Nat
  | _, 0 => 0
  | c, n + 1 => Nat.add (f c) (Nat.mul 18446744073709551616 (lanes f (Nat.succ c) n))
def ivL (o : Nat) : List Nat := [Nat.mul o 1779033703, Nat.mul o 3144134277, Nat.mul o 1013904242, Nat.mul o 2773480762, Nat.mul o 1359893119, Nat.mul o 2600822924, Nat.mul o 528734635, Nat.mul o 1541459225]
theorem withN_eq {α : Type} (n : Nat) (k : Nat → α) : withN n k = k n := by cases n <;> rfl
/-! ### lanes: one great number for many words -/
theorem cut64 (x y i : Nat) (hx : x < 18446744073709551616) : (x + 18446744073709551616 * y).testBit i = if i < 64 then x.testBit i else y.testBit (i - 64) := by
  have h := Nat.testBit_two_pow_mul_add (i := 64) y (show x < 2 ^ 64 by omega) i
  rw [show (2 : Nat) ^ 64 = 18446744073709551616 by decide, Nat.add_comm] at h
  exact h
theorem hi_bit {x i : Nat} (hx : x < 4294967296) (hi : 32 ≤ i) : x.testBit i = false :=
  Nat.testBit_lt_two_pow (Nat.lt_of_lt_of_le (show x < 2 ^ 32 by omega) (Nat.pow_le_pow_right (by omega) hi))
theorem m32_bit (i : Nat) : (4294967295 : Nat).testBit i = decide (i < 32) := by
  have := Nat.testBit_two_pow_sub_one 32 i
  rwa [show (2 ^ 32 - 1 : Nat) = 4294967295 by decide] at this
theorem mod32_bit (x i : Nat) : (x % 4294967296).testBit i = (decide (i < 32) && x.testBit i) := by
  have := Nat.testBit_mod_two_pow x 32 i
  rwa [show (2 ^ 32 : Nat) = 4294967296 by decide] at this
def W32 (f : Nat → Nat) : Prop := ∀ c, f c < 4294967296
def W64 (f : Nat → Nat) : Prop := ∀ c, f c < 18446744073709551616
theorem W32.w {f : Nat → Nat} (h : W32 f) : W64 f := fun c => Nat.lt_trans (h c) (by decide)
theorem lanes_land {f g : Nat → Nat} (hf : W64 f) (hg : W64 g) : ∀ n c, Nat.land (lanes f c n) (lanes g c n) = lanes (fun c => f c &&& g c) c n
  | 0, c => by show Nat.land 0 0 = 0; decide
  | n + 1, c => by
    have ih := lanes_land hf hg n (c + 1)
    show ((f c + 18446744073709551616 * lanes f (c + 1) n) &&& (g c + 18446744073709551616 * lanes g (c + 1) n)) = (f c &&& g c) + 18446744073709551616 * lanes (fun c => f c &&& g c) (c + 1) n
    rw [← ih]
    refine Nat.eq_of_testBit_eq fun i => ?_
    rw [Nat.testBit_and, cut64 _ _ _ (hf c), cut64 _ _ _ (hg c), cut64 _ _ _ (Nat.lt_of_le_of_lt Nat.and_le_left (hf c))]
    split
    · rw [Nat.testBit_and]
    · exact (Nat.testBit_and _ _ _).symm
theorem lanes_lor {f g : Nat → Nat} (hf : W64 f) (hg : W64 g) : ∀ n c, Nat.lor (lanes f c n) (lanes g c n) = lanes (fun c => f c ||| g c) c n
  | 0, c => by show Nat.lor 0 0 = 0; decide
  | n + 1, c => by
    have ih := lanes_lor hf hg n (c + 1)
    show ((f c + 18446744073709551616 * lanes f (c + 1) n) ||| (g c + 18446744073709551616 * lanes g (c + 1) n)) = (f c ||| g c) + 18446744073709551616 * lanes (fun c => f c ||| g c) (c + 1) n
    rw [← ih]
    refine Nat.eq_of_testBit_eq fun i => ?_
    rw [Nat.testBit_or, cut64 _ _ _ (hf c), cut64 _ _ _ (hg c), cut64 _ _ _ (Nat.or_lt_two_pow (n := 64) (hf c) (hg c))]
    split
    · rw [Nat.testBit_or]
    · exact (Nat.testBit_or _ _ _).symm
theorem lanes_xor {f g : Nat → Nat} (hf : W64 f) (hg : W64 g) : ∀ n c, Nat.xor (lanes f c n) (lanes g c n) = lanes (fun c => f c ^^^ g c) c n
  | 0, c => by show Nat.xor 0 0 = 0; decide
  | n + 1, c => by
    have ih := lanes_xor hf hg n (c + 1)
    show ((f c + 18446744073709551616 * lanes f (c + 1) n) ^^^ (g c + 18446744073709551616 * lanes g (c + 1) n)) = (f c ^^^ g c) + 18446744073709551616 * lanes (fun c => f c ^^^ g c) (c + 1) n
    rw [← ih]
    refine Nat.eq_of_testBit_eq fun i => ?_
    rw [Nat.testBit_xor, cut64 _ _ _ (hf c), cut64 _ _ _ (hg c), cut64 _ _ _ (Nat.xor_lt_two_pow (n := 64) (hf c) (hg c))]
    split
    · rw [Nat.testBit_xor]
    · exact (Nat.testBit_xor _ _ _).symm
theorem lanes_add (f g : Nat → Nat) : ∀ n c, Nat.add (lanes f c n) (lanes g c n) = lanes (fun c => f c + g c) c n
  | 0, c => rfl
  | n + 1, c => by
    have ih := lanes_add f g n (c + 1)
    show (f c + 18446744073709551616 * lanes f (c + 1) n) + (g c + 18446744073709551616 * lanes g (c + 1) n) = (f c + g c) + 18446744073709551616 * lanes (fun c => f c + g c) (c + 1) n
    rw [← ih]
    show _ = (f c + g c) + 18446744073709551616 * (lanes f (c + 1) n + lanes g (c + 1) n)
    omega
theorem lanes_mul (f : Nat → Nat) (k : Nat) : ∀ n c, Nat.mul (lanes f c n) k = lanes (fun c => f c * k) c n
  | 0, c => by show 0 * k = 0; rw [Nat.zero_mul]
  | n + 1, c => by
    have ih := lanes_mul f k n (c + 1)
    show (f c + 18446744073709551616 * lanes f (c + 1) n) * k = f c * k + 18446744073709551616 * lanes (fun c => f c * k) (c + 1) n
    rw [← ih, Nat.add_mul, Nat.mul_assoc]; rfl
theorem lanes_congr {f g : Nat → Nat} (h : ∀ c, f c = g c) (c n : Nat) : lanes f c n = lanes g c n := by rw [show f = g from funext h]
/-- The mask of the low halves. -/
def mF : Nat → Nat := fun _ => 4294967295
theorem mF_w : W32 mF := fun _ => by show 4294967295 < 4294967296; decide
theorem lanes_shr {f : Nat → Nat} (hf : W32 f) (k : Nat) (hk : k ≤ 32) : ∀ n c, Nat.land (Nat.shiftRight (lanes f c n) k) (lanes mF c n) = lanes (fun c => f c >>> k) c n
  | 0, c => by
    show (0 >>> k) &&& 0 = 0
    simp
  | n + 1, c => by
    have ih := lanes_shr hf k hk n (c + 1)
    show ((f c + 18446744073709551616 * lanes f (c + 1) n) >>> k) &&& (4294967295 + 18446744073709551616 * lanes mF (c + 1) n) = (f c >>> k) + 18446744073709551616 * lanes (fun c => f c >>> k) (c + 1) n
    rw [← ih]
    have hs : f c >>> k < 4294967296 := Nat.lt_of_le_of_lt (by rw [Nat.shiftRight_eq_div_pow]; exact Nat.div_le_self _ _) (hf c)
    refine Nat.eq_of_testBit_eq fun i => ?_
    rw [Nat.testBit_and, Nat.testBit_shiftRight, cut64 _ _ _ (W32.w hf c), cut64 _ _ _ (by decide), cut64 _ _ _ (Nat.lt_trans hs (by decide))]
    by_cases h1 : i < 64
    · rw [if_pos h1, if_pos h1, m32_bit, Nat.testBit_shiftRight]
      by_cases h2 : i < 32
      · rw [decide_eq_true h2, Bool.and_true, if_pos (by omega)]
      · rw [decide_eq_false h2, Bool.and_false, hi_bit (hf c) (by omega)]
    · rw [if_neg h1, if_neg h1, if_neg (by omega)]
      show _ = ((lanes f (c + 1) n >>> k) &&& lanes mF (c + 1) n).testBit (i - 64)
      rw [Nat.testBit_and, Nat.testBit_shiftRight, show k + i - 64 = k + (i - 64) by omega]
theorem lanes_shl {f : Nat → Nat} (hf : W32 f) (k : Nat) (hk : k ≤ 32) : ∀ n c, Nat.land (Nat.shiftLeft (lanes f c n) k) (lanes mF c n) = lanes (fun c => nshl (f c) k) c n
  | 0, c => by
    show (0 <<< k) &&& 0 = 0
    simp
  | n + 1, c => by
    have ih := lanes_shl hf k hk n (c + 1)
    show ((f c + 18446744073709551616 * lanes f (c + 1) n) <<< k) &&& (4294967295 + 18446744073709551616 * lanes mF (c + 1) n) = nshl (f c) k + 18446744073709551616 * lanes (fun c => nshl (f c) k) (c + 1) n
    rw [← ih]
    have hs : nshl (f c) k < 4294967296 := Nat.mod_lt _ (by decide)
    refine Nat.eq_of_testBit_eq fun i => ?_
    rw [Nat.testBit_and, Nat.testBit_shiftLeft, cut64 _ _ _ (W32.w hf c), cut64 _ _ _ (by decide), cut64 _ _ _ (Nat.lt_trans hs (by decide))]
    by_cases h1 : i < 64
    · rw [if_pos h1, if_pos h1, m32_bit, if_pos (by omega)]
      unfold nshl
      rw [mod32_bit, Nat.testBit_shiftLeft]
      cases decide (i < 32) <;> cases decide (i ≥ k) <;> simp
    · rw [if_neg h1, if_neg h1]
      show _ = ((lanes f (c + 1) n <<< k) &&& lanes mF (c + 1) n).testBit (i - 64)
      rw [Nat.testBit_and, Nat.testBit_shiftLeft]
      by_cases h2 : i - k < 64
      · rw [if_pos h2, hi_bit (hf c) (by omega), decide_eq_false (show ¬ (i - 64 ≥ k) by omega)]; simp
      · rw [if_neg h2, decide_eq_true (show i - 64 ≥ k by omega), decide_eq_true (show i ≥ k by omega), show i - k - 64 = i - 64 - k by omega]
theorem nad_w (f g : Nat → Nat) : W32 (fun c => nad (f c) (g c)) := fun c => Nat.mod_lt _ (by decide)
theorem lanes_nad {f g : Nat → Nat} (hf : W32 f) (hg : W32 g) (n c : Nat) : adLZ (lanes mF c n) (lanes f c n) (lanes g c n) = lanes (fun c => nad (f c) (g c)) c n := by
  unfold adLZ
  rw [lanes_add, lanes_land (fun c => by have := hf c; have := hg c; show f c + g c < _; omega) mF_w.w]
  refine lanes_congr (fun c => ?_) _ _
  have := Nat.and_two_pow_sub_one_eq_mod (f c + g c) 32
  rw [show (2 ^ 32 - 1 : Nat) = 4294967295 by decide, show (2 ^ 32 : Nat) = 4294967296 by decide] at this
  exact this
theorem or_w {f g : Nat → Nat} (hf : W32 f) (hg : W32 g) : W32 (fun c => f c ||| g c) := fun c => Nat.or_lt_two_pow (n := 32) (hf c) (hg c)
theorem and_w {f g : Nat → Nat} (hf : W32 f) (hg : W32 g) : W32 (fun c => f c &&& g c) := fun c => Nat.lt_of_le_of_lt Nat.and_le_left (hf c)
theorem xor_w {f g : Nat → Nat} (hf : W32 f) (hg : W32 g) : W32 (fun c => f c ^^^ g c) := fun c => Nat.xor_lt_two_pow (n := 32) (hf c) (hg c)
theorem shr_w {f : Nat → Nat} (hf : W32 f) (k : Nat) : W32 (fun c => f c >>> k) := fun c => Nat.lt_of_le_of_lt (by show f c >>> k ≤ f c; rw [Nat.shiftRight_eq_div_pow]; exact Nat.div_le_self _ _) (hf c)
theorem shl_w (f : Nat → Nat) (k : Nat) : W32 (fun c => nshl (f c) k) := fun c => Nat.mod_lt _ (by decide)
theorem rot_w {f : Nat → Nat} (hf : W32 f) (k : Nat) : W32 (fun c => nrot (f c) k) := or_w (shl_w f (32 - k)) (shr_w hf k)
theorem lanes_rot {f : Nat → Nat} (hf : W32 f) (k j : Nat) (hj : j = 32 - k) (hk : k ≤ 32) (n c : Nat) : roL (lanes mF c n) (lanes f c n) k j = lanes (fun c => nrot (f c) k) c n := by
  subst hj
  unfold roL
  rw [lanes_shl hf _ (by omega), lanes_shr hf _ hk, lanes_lor (shl_w f _).w (shr_w hf _).w]; rfl
theorem tu3_w {f : Nat → Nat} (hf : W32 f) (i j k : Nat) : W32 (fun c => ntu3 (f c) i j k) := fun c => by
  show ntu3 (f c) i j k < _
  unfold ntu3 ntu2
  rw [Nat.zero_xor]
  exact xor_w (xor_w (rot_w hf i) (rot_w hf j)) (rot_w hf k) c
theorem lanes_tu3 {f : Nat → Nat} (hf : W32 f) (i j k i' j' k' : Nat) (hi : i' = 32 - i ∧ i ≤ 32) (hj : j' = 32 - j ∧ j ≤ 32) (hk : k' = 32 - k ∧ k ≤ 32) (n c : Nat) : s3L (lanes mF c n) (lanes f c n) i i' j j' k k' = lanes (fun c => ntu3 (f c) i j k) c n := by
  unfold s3L
  rw [lanes_rot hf _ _ hi.1 hi.2, lanes_rot hf _ _ hj.1 hj.2, lanes_rot hf _ _ hk.1 hk.2, lanes_xor (rot_w hf i).w (rot_w hf j).w, lanes_xor (xor_w (rot_w hf i) (rot_w hf j)).w (rot_w hf k).w]
  refine lanes_congr (fun c => ?_) _ _
  unfold ntu3 ntu2
  rw [Nat.zero_xor]
theorem s0_w {f : Nat → Nat} (hf : W32 f) : W32 (fun c => ns0 (f c)) := fun c => by
  show ns0 (f c) < _
  unfold ns0 ntu2
  rw [Nat.zero_xor]
  exact xor_w (xor_w (rot_w hf 7) (rot_w hf 18)) (shr_w hf 3) c
theorem s1_w {f : Nat → Nat} (hf : W32 f) : W32 (fun c => ns1 (f c)) := fun c => by
  show ns1 (f c) < _
  unfold ns1 ntu2
  rw [Nat.zero_xor]
  exact xor_w (xor_w (rot_w hf 17) (rot_w hf 19)) (shr_w hf 10) c
theorem lanes_s0 {f : Nat → Nat} (hf : W32 f) (n c : Nat) : q0L (lanes mF c n) (lanes f c n) = lanes (fun c => ns0 (f c)) c n := by
  unfold q0L
  rw [lanes_rot hf 7 25 rfl (by omega), lanes_rot hf 18 14 rfl (by omega), lanes_shr hf 3 (by omega), lanes_xor (rot_w hf 7).w (rot_w hf 18).w, lanes_xor (xor_w (rot_w hf 7) (rot_w hf 18)).w (shr_w hf 3).w]
  refine lanes_congr (fun c => ?_) _ _
  unfold ns0 ntu2
  rw [Nat.zero_xor]
theorem lanes_s1 {f : Nat → Nat} (hf : W32 f) (n c : Nat) : q1L (lanes mF c n) (lanes f c n) = lanes (fun c => ns1 (f c)) c n := by
  unfold q1L
  rw [lanes_rot hf 17 15 rfl (by omega), lanes_rot hf 19 13 rfl (by omega), lanes_shr hf 10 (by omega), lanes_xor (rot_w hf 17).w (rot_w hf 19).w, lanes_xor (xor_w (rot_w hf 17) (rot_w hf 19)).w (shr_w hf 10).w]
  refine lanes_congr (fun c => ?_) _ _
  unfold ns1 ntu2
  rw [Nat.zero_xor]
theorem ch_w {e f g : Nat → Nat} (he : W32 e) (hf : W32 f) (hg : W32 g) : W32 (fun c => nch (e c) (f c) (g c)) := or_w (and_w he hf) (and_w (xor_w mF_w he) hg)
theorem mj_w {a b d : Nat → Nat} (ha : W32 a) (hb : W32 b) (hd : W32 d) : W32 (fun c => nmj (a c) (b c) (d c)) := or_w (or_w (and_w ha hb) (and_w ha hd)) (and_w hb hd)
theorem lanes_ch {e f g : Nat → Nat} (he : W32 e) (hf : W32 f) (hg : W32 g) (n c : Nat) : chL (lanes mF c n) (lanes e c n) (lanes f c n) (lanes g c n) = lanes (fun c => nch (e c) (f c) (g c)) c n := by
  unfold chL
  rw [lanes_land he.w hf.w, lanes_xor mF_w.w he.w, lanes_land (xor_w mF_w he).w hg.w, lanes_lor (and_w he hf).w (and_w (xor_w mF_w he) hg).w]; rfl
theorem lanes_mj {a b d : Nat → Nat} (ha : W32 a) (hb : W32 b) (hd : W32 d) (n c : Nat) : mjL (lanes a c n) (lanes b c n) (lanes d c n) = lanes (fun c => nmj (a c) (b c) (d c)) c n := by
  unfold mjL
  rw [lanes_land ha.w hb.w, lanes_land ha.w hd.w, lanes_land hb.w hd.w, lanes_lor (and_w ha hb).w (and_w ha hd).w, lanes_lor (or_w (and_w ha hb) (and_w ha hd)).w (and_w hb hd).w]; rfl
theorem lanes_X {e f g h k w : Nat → Nat} (he : W32 e) (hf : W32 f) (hg : W32 g) (hh : W32 h) (hk : W32 k) (hw : W32 w) (n c : Nat) :
    nXL (lanes mF c n) (lanes e c n) (lanes f c n) (lanes g c n) (lanes h c n) (lanes k c n) (lanes w c n) = lanes (fun c => nX (e c) (f c) (g c) (h c) (k c) (w c)) c n := by
  unfold nXL
  rw [lanes_tu3 he 6 11 25 26 21 7 ⟨rfl, by omega⟩ ⟨rfl, by omega⟩ ⟨rfl, by omega⟩, lanes_ch he hf hg, lanes_nad hh (tu3_w he 6 11 25), lanes_nad (nad_w _ _) (ch_w he hf hg), lanes_nad (nad_w _ _) hk, lanes_nad (nad_w _ _) hw]; rfl
theorem lanes_Y {a b d : Nat → Nat} (ha : W32 a) (hb : W32 b) (hd : W32 d) (n c : Nat) : nYL (lanes mF c n) (lanes a c n) (lanes b c n) (lanes d c n) = lanes (fun c => nY (a c) (b c) (d c)) c n := by
  unfold nYL
  rw [lanes_tu3 ha 2 13 22 30 19 10 ⟨rfl, by omega⟩ ⟨rfl, by omega⟩ ⟨rfl, by omega⟩, lanes_mj ha hb hd, lanes_nad (tu3_w ha 2 13 22) (mj_w ha hb hd)]; rfl
theorem X_w (e f g h k w : Nat → Nat) : W32 (fun c => nX (e c) (f c) (g c) (h c) (k c) (w c)) := fun c => Nat.mod_lt _ (by decide)
theorem Y_w (a b d : Nat → Nat) : W32 (fun c => nY (a c) (b c) (d c)) := fun c => Nat.mod_lt _ (by decide)
theorem ones_lanes : ∀ n c, ones n = lanes (fun _ => 1) c n
  | 0, c => rfl
  | n + 1, c => by
    show Nat.add 1 (Nat.mul _ (ones n)) = _
    rw [ones_lanes n (c + 1)]; rfl
theorem lanes_const (k n c : Nat) : Nat.mul (ones n) k = lanes (fun _ => k) c n := by
  rw [ones_lanes n c, lanes_mul]
  exact lanes_congr (fun c => Nat.one_mul k) _ _
/-- **Rounds, in lanes.** -/
theorem lanes_go {α : Type} (n c : Nat) (z : α) : ∀ (ks : List Nat), (∀ k ∈ ks, k < 4294967296) → ∀ (a b d e f g h i : Nat → Nat) (w : List (Nat → Nat)) (K : List Nat → α),
    W32 a → W32 b → W32 d → W32 e → W32 f → W32 g → W32 h → W32 i → w.length = 16 → (∀ x ∈ w, W32 x) →
    goL (ones n) (lanes mF c n) ks (lanes a c n) (lanes b c n) (lanes d c n) (lanes e c n) (lanes f c n) (lanes g c n) (lanes h c n) (lanes i c n) (w.map fun x => lanes x c n) K z =
      K ((List.range 8).map fun j => lanes (fun c => (go ks (a c) (b c) (d c) (e c) (f c) (g c) (h c) (i c) (w.map fun x => x c)).getD j 0) c n)
  | [], hks, a, b, d, e, f, g, h, i, w, K, ha, hb, hd, he, hf, hg, hh, hi, hw, hW => rfl
  | k :: ks, hks, a, b, d, e, f, g, h, i, w, K, ha, hb, hd, he, hf, hg, hh, hi, hw, hW => by
    match w, hw with
    | [w0, w1, w2, w3, w4, w5, w6, w7, w8, w9, w10, w11, w12, w13, w14, w15], _ =>
      have hk : W32 (fun _ => k) := fun _ => hks k (List.mem_cons_self ..)
      have m0 : W32 w0 := hW _ (by simp)
      have m1 : W32 w1 := hW _ (by simp)
      have m9 : W32 w9 := hW _ (by simp)
      have m14 : W32 w14 := hW _ (by simp)
      show goL (ones n) (lanes mF c n) (k :: ks) _ _ _ _ _ _ _ _ [lanes w0 c n, lanes w1 c n, lanes w2 c n, lanes w3 c n, lanes w4 c n, lanes w5 c n, lanes w6 c n, lanes w7 c n, lanes w8 c n, lanes w9 c n, lanes w10 c n, lanes w11 c n, lanes w12 c n, lanes w13 c n, lanes w14 c n, lanes w15 c n] K z = _
      rw [goL]
      simp only [withN_eq]
      rw [lanes_const k n c, lanes_X hf hg hh hi hk m0, lanes_Y ha hb hd, lanes_nad (X_w f g h i (fun _ => k) w0) (Y_w a b d), lanes_nad he (X_w f g h i (fun _ => k) w0), lanes_s0 m1, lanes_s1 m14, lanes_nad m0 (s0_w m1), lanes_nad m9 (s1_w m14), lanes_nad (nad_w w0 (fun c => ns0 (w1 c))) (nad_w w9 (fun c => ns1 (w14 c)))]
      have ih := lanes_go n c z ks (fun x hx => hks x (List.mem_cons_of_mem _ hx)) (fun c => nad (nX (f c) (g c) (h c) (i c) k (w0 c)) (nY (a c) (b c) (d c))) a b d (fun c => nad (e c) (nX (f c) (g c) (h c) (i c) k (w0 c))) f g h
        [w1, w2, w3, w4, w5, w6, w7, w8, w9, w10, w11, w12, w13, w14, w15, fun c => nad (nad (w0 c) (ns0 (w1 c))) (nad (w9 c) (ns1 (w14 c)))] K (nad_w _ _) ha hb hd (nad_w _ _) hf hg hh rfl
        (fun x hx => by
          simp only [List.mem_cons, List.not_mem_nil, or_false] at hx
          rcases hx with rfl | rfl | rfl | rfl | rfl | rfl | rfl | rfl | rfl | rfl | rfl | rfl | rfl | rfl | rfl | rfl
          · exact hW _ (by simp)
          · exact hW _ (by simp)
          · exact hW _ (by simp)
          · exact hW _ (by simp)
          · exact hW _ (by simp)
          · exact hW _ (by simp)
          · exact hW _ (by simp)
          · exact hW _ (by simp)
          · exact hW _ (by simp)
          · exact hW _ (by simp)
          · exact hW _ (by simp)
          · exact hW _ (by simp)
          · exact hW _ (by simp)
          · exact hW _ (by simp)
          · exact hW _ (by simp)
          · exact nad_w _ _)
      exact ih
def forceL {α : Type} : List Nat → (List Nat → α) → α
  | [], k => k []
  | x :: l, k => withN x fun x => forceL l fun l => k (x :: l)
def laneB (o C : Nat) : Option Nat → Nat
  | none => C
  | some v => Nat.mul o v
def wdsL (o C : Nat) : List (Option Nat) → List Nat
  | a :: b :: d :: e :: r => Nat.add (Nat.add (Nat.mul (laneB o C a) 16777216) (Nat.mul (laneB o C b) 65536)) (Nat.add (Nat.mul (laneB o C d) 256) (laneB o C e)) :: wdsL o C r
  | _ => []
def zipL (m : Nat) : List Nat → List Nat → List Nat
  | a :: r, b :: s => adLZ m a b :: zipL m r s
  | _, _ => []
def tkL {α : Type} (o m C : Nat) (st : List Nat) (bs : List (Option Nat)) (K : List Nat → α) (z : α) : α :=
  match st with
  | [a, b, c, d, e, f, g, h] => forceL (wdsL o C bs) fun ws => goL o m KN a b c d e f g h ws (fun r => forceL (zipL m r [a, b, c, d, e, f, g, h]) K) z
  | _ => z
def padO (r n : Nat) : List (Option Nat) := List.replicate r none ++ some 128 :: (List.replicate ((119 - r) % 64) (some 0) ++ [some 0, some 0, some 0, some 0, some 0, some 0, some (8 * n / 256), some (8 * n % 256)])
def digKZ {α : Type} (o m C : Nat) (st : List Nat) (r n : Nat) (K : Nat → α) (z : α) : α :=
  if r < 56 then tkL o m C st (padO r n) (fun d => K (d.headD 0)) z
  else tkL o m C st ((padO r n).take 64) (fun st' => tkL o m C st' ((padO r n).drop 64) (fun d => K (d.headD 0)) z) z
def runK {α : Type} (o m C : Nat) : Nat → List Nat → Nat → List Nat → (List Nat → α) → α → α
  | 0, _, _, acc, K, _ => K acc
  | f + 1, st, n, acc, K, z => digKZ o m C st (n % 64) n (fun d =>
      if n % 64 = 63 then tkL o m C st (List.replicate 64 none) (fun st' => runK o m C f st' (Nat.succ n) (d :: acc) K z) z
      else runK o m C f st (Nat.succ n) (d :: acc) K z) z
def farL (m hi x : Nat) : List Nat → Bool
  | [] => true
  | y :: l => and (Nat.beq (Nat.land (Nat.add (Nat.xor x y) m) hi) hi) (farL m hi x l)
def allD (m hi : Nat) : List Nat → Bool
  | [] => true
  | x :: l => and (farL m hi x l) (allD m hi l)
def cF : Nat → Nat := fun c => Nat.mod c 256
def chk (c0 n N : Nat) : Bool :=
  withN (ones n) fun o => withN (Nat.mul o 4294967295) fun m => withN (Nat.mul o 4294967296) fun hi => withN (lanes cF c0 n) fun C =>
    forceL (ivL o) fun iv => runK o m C N iv 0 [] (fun acc => allD m hi acc) false
/-! ### blocks in lanes, digests, and that they differ -/
theorem forceL_eq {α : Type} : ∀ (l : List Nat) (k : List Nat → α), forceL l k = k l
  | [], k => rfl
  | x :: l, k => by rw [forceL, withN_eq, forceL_eq l]
def byF : Option Nat → Nat → Nat
  | none => cF
  | some v => fun _ => v
theorem cF_lt (c : Nat) : cF c < 256 := Nat.mod_lt _ (by decide)
theorem byF_lt {x : Option Nat} (h : ∀ v, x = some v → v < 256) (c : Nat) : byF x c < 256 := by
  cases x with
  | none => exact cF_lt c
  | some v => exact h v rfl
theorem laneB_eq (x : Option Nat) (n c : Nat) : laneB (ones n) (lanes cF c n) x = lanes (byF x) c n := by
  cases x with
  | none => rfl
  | some v => exact lanes_const v n c
def Bs (bs : List (Option Nat)) : Prop := ∀ v, some v ∈ bs → v < 256
def wdS : List (Option Nat) → Nat → List Nat
  | a :: b :: d :: e :: r, c => (byF a c * 16777216 + byF b c * 65536 + (byF d c * 256 + byF e c)) :: wdS r c
  | _, _ => []
def wdF : List (Option Nat) → List (Nat → Nat)
  | a :: b :: d :: e :: r => (fun c => byF a c * 16777216 + byF b c * 65536 + (byF d c * 256 + byF e c)) :: wdF r
  | _ => []
theorem wdF_S : ∀ (bs : List (Option Nat)) (c : Nat), (wdF bs).map (fun f => f c) = wdS bs c
  | a :: b :: d :: e :: r, c => by simp only [wdF, wdS, List.map_cons, wdF_S r c]
  | [], c | [_], c | [_, _], c | [_, _, _], c => rfl
theorem wdF_len : ∀ (k : Nat) (bs : List (Option Nat)), bs.length = 4 * k → (wdF bs).length = k
  | 0, bs, h => by
    have : bs = [] := List.length_eq_zero_iff.1 (by omega)
    subst this; rfl
  | k + 1, bs, h => by
    match bs, h with
    | a :: b :: d :: e :: r, h =>
      simp only [wdF, List.length_cons]
      rw [wdF_len k r (by simp only [List.length_cons] at h; omega)]
theorem wdF_w : ∀ (bs : List (Option Nat)), Bs bs → ∀ f ∈ wdF bs, W32 f
  | a :: b :: d :: e :: r, h, f, hf => by
    simp only [wdF, List.mem_cons] at hf
    rcases hf with rfl | hf
    · intro c
      have h1 := byF_lt (x := a) (fun v hv => h v (by simp [hv])) c
      have h2 := byF_lt (x := b) (fun v hv => h v (by simp [hv])) c
      have h3 := byF_lt (x := d) (fun v hv => h v (by simp [hv])) c
      have h4 := byF_lt (x := e) (fun v hv => h v (by simp [hv])) c
      show byF a c * 16777216 + byF b c * 65536 + (byF d c * 256 + byF e c) < 4294967296
      omega
    · exact wdF_w r (fun v hv => h v (by simp [hv])) f hf
  | [], _, f, hf | [_], _, f, hf | [_, _], _, f, hf | [_, _, _], _, f, hf => by simp [wdF] at hf
theorem wdsL_eq (n c : Nat) : ∀ (bs : List (Option Nat)), wdsL (ones n) (lanes cF c n) bs = (wdF bs).map fun f => lanes f c n
  | a :: b :: d :: e :: r => by
    simp only [wdsL, wdF, List.map_cons, wdsL_eq n c r, laneB_eq]
    rw [lanes_mul, lanes_mul, lanes_mul, lanes_add, lanes_add, lanes_add]
  | [] | [_] | [_, _] | [_, _, _] => rfl
/-- A state in lanes. -/
def Ls (S : Nat → List Nat) (c n : Nat) : List Nat := (List.range 8).map fun j => lanes (fun c => (S c).getD j 0) c n
def W8 (S : Nat → List Nat) : Prop := ∀ c, (S c).length = 8 ∧ ∀ j, (S c).getD j 0 < 4294967296
def goS (ks : List Nat) (st ws : List Nat) : List Nat := go ks (st.getD 0 0) (st.getD 1 0) (st.getD 2 0) (st.getD 3 0) (st.getD 4 0) (st.getD 5 0) (st.getD 6 0) (st.getD 7 0) ws
def tkS (st ws : List Nat) : List Nat := List.zipWith nad (goS KN st ws) st
theorem go_w : ∀ (ks : List Nat) (a b d e f g h i : Nat) (w : List Nat), w.length = 16 → a < 4294967296 → b < 4294967296 → d < 4294967296 → e < 4294967296 → f < 4294967296 → g < 4294967296 → h < 4294967296 → i < 4294967296 →
    (go ks a b d e f g h i w).length = 8 ∧ ∀ x ∈ go ks a b d e f g h i w, x < 4294967296
  | [], a, b, d, e, f, g, h, i, w, hw, h0, h1, h2, h3, h4, h5, h6, h7 => by
    refine ⟨rfl, fun x hx => ?_⟩
    simp only [go, List.mem_cons, List.not_mem_nil, or_false] at hx
    rcases hx with rfl | rfl | rfl | rfl | rfl | rfl | rfl | rfl <;> assumption
  | k :: ks, a, b, d, e, f, g, h, i, w, hw, h0, h1, h2, h3, h4, h5, h6, h7 => by
    match w, hw with
    | [w0, w1, w2, w3, w4, w5, w6, w7, w8, w9, w10, w11, w12, w13, w14, w15], _ =>
      exact go_w ks _ a b d _ f g h _ rfl (Nat.mod_lt _ (by decide)) h0 h1 h2 (Nat.mod_lt _ (by decide)) h4 h5 h6
theorem getD_lt {l : List Nat} (h : ∀ x ∈ l, x < 4294967296) (j : Nat) : l.getD j 0 < 4294967296 := by
  rw [List.getD_eq_getElem?_getD]
  cases hj : l[j]? with
  | none => exact (by decide : 0 < 4294967296)
  | some x => exact h x (List.mem_of_getElem? hj)
theorem goS_w {S : Nat → List Nat} (hS : W8 S) {bs : List (Option Nat)} (hl : bs.length = 64) : W8 (fun c => goS KN (S c) (wdS bs c)) := fun c => by
  have h := go_w KN ((S c).getD 0 0) ((S c).getD 1 0) ((S c).getD 2 0) ((S c).getD 3 0) ((S c).getD 4 0) ((S c).getD 5 0) ((S c).getD 6 0) ((S c).getD 7 0) (wdS bs c) (by rw [← wdF_S, List.length_map, wdF_len 16 bs (by omega)]) ((hS c).2 0) ((hS c).2 1) ((hS c).2 2) ((hS c).2 3) ((hS c).2 4) ((hS c).2 5) ((hS c).2 6) ((hS c).2 7)
  exact ⟨h.1, getD_lt h.2⟩
theorem zip_getD (l r : List Nat) (h : l.length = r.length) (j : Nat) (hj : j < r.length) : (List.zipWith nad l r).getD j 0 = nad (l.getD j 0) (r.getD j 0) := by
  rw [List.getD_eq_getElem?_getD, List.getD_eq_getElem?_getD, List.getD_eq_getElem?_getD, List.getElem?_eq_getElem (by simp; omega), List.getElem?_eq_getElem (by omega), List.getElem?_eq_getElem hj]
  simp
theorem zipW8 {G S : Nat → List Nat} (hG : W8 G) (hS : W8 S) : W8 (fun c => List.zipWith nad (G c) (S c)) := fun c => by
  refine ⟨by rw [List.length_zipWith, (hG c).1, (hS c).1]; rfl, fun j => ?_⟩
  refine getD_lt (fun x hx => ?_) j
  obtain ⟨i, hi, rfl⟩ := List.getElem_of_mem hx
  rw [List.getElem_zipWith]
  exact Nat.mod_lt _ (by decide)
theorem zipL_eq {G S : Nat → List Nat} (hG : W8 G) (hS : W8 S) (n c : Nat) : zipL (lanes mF c n) (Ls G c n) (Ls S c n) = Ls (fun c => List.zipWith nad (G c) (S c)) c n := by
  have e : ∀ j, j < 8 → adLZ (lanes mF c n) (lanes (fun c => (G c).getD j 0) c n) (lanes (fun c => (S c).getD j 0) c n) = lanes (fun c => (List.zipWith nad (G c) (S c)).getD j 0) c n := fun j hj => by
    rw [lanes_nad (fun c => (hG c).2 j) (fun c => (hS c).2 j)]
    exact lanes_congr (fun c => (zip_getD _ _ (by rw [(hG c).1, (hS c).1]) j (by rw [(hS c).1]; exact hj)).symm) _ _
  show [_, _, _, _, _, _, _, _] = [_, _, _, _, _, _, _, _]
  rw [e 0 (by omega), e 1 (by omega), e 2 (by omega), e 3 (by omega), e 4 (by omega), e 5 (by omega), e 6 (by omega), e 7 (by omega)]
theorem KN_lt : ∀ k ∈ KN, k < 4294967296 := by decide
theorem tkL_eq {α : Type} (n c : Nat) {S : Nat → List Nat} (hS : W8 S) {bs : List (Option Nat)} (hl : bs.length = 64) (hb : Bs bs) (K : List Nat → α) (z : α) :
    tkL (ones n) (lanes mF c n) (lanes cF c n) (Ls S c n) bs K z = K (Ls (fun c => tkS (S c) (wdS bs c)) c n) := by
  show forceL _ _ = _
  rw [forceL_eq, wdsL_eq]
  have h := lanes_go n c z KN KN_lt (fun c => (S c).getD 0 0) (fun c => (S c).getD 1 0) (fun c => (S c).getD 2 0) (fun c => (S c).getD 3 0) (fun c => (S c).getD 4 0) (fun c => (S c).getD 5 0) (fun c => (S c).getD 6 0) (fun c => (S c).getD 7 0) (wdF bs)
    (fun r => forceL (zipL (lanes mF c n) r (Ls S c n)) K) (fun c => (hS c).2 0) (fun c => (hS c).2 1) (fun c => (hS c).2 2) (fun c => (hS c).2 3) (fun c => (hS c).2 4) (fun c => (hS c).2 5) (fun c => (hS c).2 6) (fun c => (hS c).2 7) (wdF_len 16 bs (by omega)) (wdF_w bs hb)
  refine Eq.trans h ?_
  simp only [forceL_eq, wdF_S]
  exact congrArg K (zipL_eq (goS_w hS hl) hS n c)
theorem tkS_w {S : Nat → List Nat} (hS : W8 S) {bs : List (Option Nat)} (hl : bs.length = 64) : W8 (fun c => tkS (S c) (wdS bs c)) := zipW8 (goS_w hS hl) hS
def digS (st : List Nat) (r n c : Nat) : List Nat :=
  if r < 56 then tkS st (wdS (padO r n) c) else tkS (tkS st (wdS ((padO r n).take 64) c)) (wdS ((padO r n).drop 64) c)
theorem padO_len (r n : Nat) : (padO r n).length = r + 1 + (119 - r) % 64 + 8 := by
  simp [padO]; omega
theorem padO_bs (r n : Nat) (hn : n < 4096) : Bs (padO r n) := by
  intro v hv
  simp only [padO, List.mem_append, List.mem_replicate, List.mem_cons, List.not_mem_nil, or_false, Option.some.injEq, reduceCtorEq, and_false, false_or] at hv
  omega
theorem Bs.sub {a b : List (Option Nat)} (h : Bs b) (hs : ∀ x ∈ a, x ∈ b) : Bs a := fun v hv => h v (hs _ hv)
theorem digK_eq {α : Type} (n c : Nat) {S : Nat → List Nat} (hS : W8 S) (r N : Nat) (hr : r < 64) (hN : N < 4096) (K : Nat → α) (z : α) :
    digKZ (ones n) (lanes mF c n) (lanes cF c n) (Ls S c n) r N K z = K (lanes (fun c => (digS (S c) r N c).getD 0 0) c n) := by
  have hl := padO_len r N
  have hb := padO_bs r N hN
  unfold digKZ digS
  by_cases h : r < 56
  · simp only [if_pos h]
    rw [tkL_eq n c hS (by omega) hb]; rfl
  · simp only [if_neg h]
    have h1 : ((padO r N).take 64).length = 64 := by rw [List.length_take]; omega
    have h2 : ((padO r N).drop 64).length = 64 := by rw [List.length_drop]; omega
    rw [tkL_eq n c hS h1 (hb.sub fun x hx => List.mem_of_mem_take hx), tkL_eq n c (tkS_w hS h1) h2 (hb.sub fun x hx => List.mem_of_mem_drop hx)]; rfl
def runS : Nat → List Nat → Nat → List Nat → Nat → List Nat
  | 0, _, _, acc, _ => acc
  | f + 1, st, n, acc, c => if n % 64 = 63 then runS f (tkS st (wdS (List.replicate 64 none) c)) (n + 1) ((digS st (n % 64) n c).getD 0 0 :: acc) c
      else runS f st (n + 1) ((digS st (n % 64) n c).getD 0 0 :: acc) c
theorem fullB : Bs (List.replicate 64 none) := fun v hv => by simp at hv
theorem digS_w {S : Nat → List Nat} (hS : W8 S) (r N : Nat) (hr : r < 64) : W32 (fun c => (digS (S c) r N c).getD 0 0) := fun c => by
  have hl := padO_len r N
  show (digS (S c) r N c).getD 0 0 < _
  unfold digS
  split
  · exact ((tkS_w hS (bs := padO r N) (by omega)) c).2 0
  · have h1 : ((padO r N).take 64).length = 64 := by rw [List.length_take]; omega
    have h2 : ((padO r N).drop 64).length = 64 := by rw [List.length_drop]; omega
    exact ((tkS_w (tkS_w hS h1) h2) c).2 0
theorem runK_eq {α : Type} (n c : Nat) (z : α) : ∀ (f : Nat) (S : Nat → List Nat) (N : Nat) (A : List (Nat → Nat)) (K : List Nat → α), W8 S → N + f ≤ 4096 → (∀ x ∈ A, W32 x) →
    ∃ A' : List (Nat → Nat), (∀ x ∈ A', W32 x) ∧ (∀ c, A'.map (fun g => g c) = runS f (S c) N (A.map fun g => g c) c) ∧
      runK (ones n) (lanes mF c n) (lanes cF c n) f (Ls S c n) N (A.map fun g => lanes g c n) K z = K (A'.map fun g => lanes g c n)
  | 0, S, N, A, K, hS, hN, hA => ⟨A, hA, fun _ => rfl, rfl⟩
  | f + 1, S, N, A, K, hS, hN, hA => by
    have hr : N % 64 < 64 := Nat.mod_lt _ (by decide)
    have hA' : ∀ x ∈ (fun c => (digS (S c) (N % 64) N c).getD 0 0) :: A, W32 x := fun x hx => by
      rcases List.mem_cons.1 hx with rfl | hx
      · exact digS_w hS _ _ hr
      · exact hA x hx
    rw [runK, digK_eq n c hS (N % 64) N hr (by omega)]
    by_cases h : N % 64 = 63
    · obtain ⟨A', q1, q2, q3⟩ := runK_eq n c z f (fun c => tkS (S c) (wdS (List.replicate 64 none) c)) (N + 1) ((fun c => (digS (S c) (N % 64) N c).getD 0 0) :: A) K (tkS_w hS (by simp)) (by omega) hA'
      refine ⟨A', q1, fun c => ?_, ?_⟩
      · rw [q2 c, runS, if_pos h]; rfl
      · rw [if_pos h, tkL_eq n c hS (by simp) fullB]
        exact q3
    · obtain ⟨A', q1, q2, q3⟩ := runK_eq n c z f S (N + 1) ((fun c => (digS (S c) (N % 64) N c).getD 0 0) :: A) K hS (by omega) hA'
      refine ⟨A', q1, fun c => ?_, ?_⟩
      · rw [q2 c, runS, if_neg h]; rfl
      · rw [if_neg h]
        exact q3
theorem lanes_inj {f g : Nat → Nat} (hf : W64 f) (hg : W64 g) : ∀ n c, lanes f c n = lanes g c n → ∀ k, c ≤ k → k < c + n → f k = g k
  | 0, c, h, k, h1, h2 => by omega
  | n + 1, c, h, k, h1, h2 => by
    have h' : f c + 18446744073709551616 * lanes f (c + 1) n = g c + 18446744073709551616 * lanes g (c + 1) n := h
    have a := hf c
    have b := hg c
    by_cases e : k = c
    · subst e; omega
    · exact lanes_inj hf hg n (c + 1) (by omega) k (by omega) (by omega)
theorem far_one {x y : Nat → Nat} (hx : W32 x) (hy : W32 y) (n c : Nat) (h : Nat.beq (Nat.land (Nat.add (Nat.xor (lanes x c n) (lanes y c n)) (lanes mF c n)) (lanes (fun _ => 4294967296) c n)) (lanes (fun _ => 4294967296) c n) = true) (k : Nat) (h1 : c ≤ k) (h2 : k < c + n) : x k ≠ y k := by
  have h := Nat.eq_of_beq_eq_true h
  have w : W64 (fun c => (x c ^^^ y c) + mF c) := fun c => by
    have := xor_w hx hy c
    show (x c ^^^ y c) + 4294967295 < _
    have : x c ^^^ y c < 4294967296 := this
    omega
  rw [lanes_xor hx.w hy.w, lanes_add, lanes_land w (fun _ => by show 4294967296 < 18446744073709551616; decide)] at h
  have := lanes_inj (fun c => Nat.lt_of_le_of_lt Nat.and_le_right (by decide)) (fun _ => by show 4294967296 < 18446744073709551616; decide) n c h k h1 h2
  intro e
  have e2 : ((x k ^^^ y k) + 4294967295) &&& 4294967296 = 4294967296 := this
  rw [e, Nat.xor_self] at e2
  exact absurd e2 (by decide)
theorem far_ok (n c : Nat) {x : Nat → Nat} (hx : W32 x) : ∀ (A : List (Nat → Nat)), (∀ y ∈ A, W32 y) → farL (lanes mF c n) (lanes (fun _ => 4294967296) c n) (lanes x c n) (A.map fun g => lanes g c n) = true → ∀ k, c ≤ k → k < c + n → ∀ y ∈ A, x k ≠ y k
  | [], hA, h, k, h1, h2, y, hy => by simp at hy
  | y :: A, hA, h, k, h1, h2, y', hy => by
    simp only [List.map_cons, farL, Bool.and_eq_true] at h
    rcases List.mem_cons.1 hy with rfl | hy
    · exact far_one hx (hA _ (List.mem_cons_self ..)) n c h.1 k h1 h2
    · exact far_ok n c hx A (fun z hz => hA z (List.mem_cons_of_mem _ hz)) h.2 k h1 h2 y' hy
theorem all_ok (n c : Nat) : ∀ (A : List (Nat → Nat)), (∀ y ∈ A, W32 y) → allD (lanes mF c n) (lanes (fun _ => 4294967296) c n) (A.map fun g => lanes g c n) = true → ∀ k, c ≤ k → k < c + n → (A.map fun g => g k).Pairwise (· ≠ ·)
  | [], hA, h, k, h1, h2 => List.Pairwise.nil
  | x :: A, hA, h, k, h1, h2 => by
    simp only [List.map_cons, allD, Bool.and_eq_true] at h
    refine List.Pairwise.cons (fun b hb => ?_) (all_ok n c A (fun z hz => hA z (List.mem_cons_of_mem _ hz)) h.2 k h1 h2)
    obtain ⟨y, hy, rfl⟩ := List.mem_map.1 hb
    exact far_ok n c (hA _ (List.mem_cons_self ..)) A (fun z hz => hA z (List.mem_cons_of_mem _ hz)) h.1 k h1 h2 y hy
def ivS : List Nat := [1779033703, 3144134277, 1013904242, 2773480762, 1359893119, 2600822924, 528734635, 1541459225]
/-- **The digests differ, if the lanes say so.** -/
theorem chk_ok {c0 n N : Nat} (hN : N ≤ 4096) (h : chk c0 n N = true) (c : Nat) (h1 : c0 ≤ c) (h2 : c < c0 + n) : (runS N ivS 0 [] c).Pairwise (· ≠ ·) := by
  unfold chk at h
  simp only [withN_eq, forceL_eq] at h
  rw [lanes_const 4294967295 n c0, lanes_const 4294967296 n c0] at h
  have hi : ivL (ones n) = Ls (fun _ => ivS) c0 n := by
    unfold ivL
    simp only [lanes_const _ n c0]
    rfl
  have hW : W8 (fun _ => ivS) := fun _ => ⟨rfl, getD_lt (l := ivS) (by decide)⟩
  obtain ⟨A', q1, q2, q3⟩ := runK_eq n c0 false N (fun _ => ivS) 0 [] (fun acc => allD (lanes mF c0 n) (lanes (fun _ => 4294967296) c0 n) acc) hW (by omega) (fun x hx => by simp at hx)
  rw [hi] at h
  have h' := Eq.trans q3.symm h
  have := all_ok n c0 A' q1 h' c h1 h2
  rw [q2 c] at this
  exact this
end Go.Proofs.YtgefcokanfbpbaaDoor
