/-
  Walks of functions, reckoned through, and what they give (part W06sn). No condition beyond what each says. By an AI agent.
-/
import Derived.Test.YtacgamdbmllaoaaDoorW06m
namespace Go.Proofs.YtacgamdbmllaoaaDoor
open Go.Ex
open Go.RowKit (Below)
set_option linter.unusedVariables false
set_option maxRecDepth 1000000
/-! ### the digest, on plain numbers -/
def IsW (z : Int) (n : Nat) : Prop := z = (n : Int) ∧ n < 4294967296
def nad (a b : Nat) : Nat := (a + b) % 4294967296
def nshl (x k : Nat) : Nat := (x <<< k) % 4294967296
def nrot (x k : Nat) : Nat := nshl x (32 - k) ||| (x >>> k)
theorem bv32 {n : Nat} (h : n < 4294967296) : (BitVec.ofInt 32 (n : Int)).toNat = n := by
  rw [BitVec.ofInt_natCast, BitVec.toNat_ofNat]; exact Nat.mod_eq_of_lt h
theorem wr32 {n : Nat} (h : n < 4294967296) : IntKind.u32.wrap (n : Int) = n := by rw [wu32]; omega
theorem add32_w {a b : Int} {x y : Nat} (h : IsW a x) (g : IsW b y) : IsW (add32 a b) (nad x y) := by
  obtain ⟨rfl, h⟩ := h
  obtain ⟨rfl, g⟩ := g
  refine ⟨?_, by unfold nad; omega⟩
  unfold add32 nad; rw [wu32]; omega
theorem xor32_w {a b : Int} {x y : Nat} (h : IsW a x) (g : IsW b y) : IsW (xor32 a b) (x ^^^ y) := by
  obtain ⟨rfl, h⟩ := h
  obtain ⟨rfl, g⟩ := g
  have l : x ^^^ y < 4294967296 := Nat.xor_lt_two_pow (n := 32) h g
  refine ⟨?_, l⟩
  unfold xor32; rw [BitVec.toNat_xor, bv32 h, bv32 g]; exact wr32 l
theorem and32_w {a b : Int} {x y : Nat} (h : IsW a x) (g : IsW b y) : IsW (and32 a b) (x &&& y) := by
  obtain ⟨rfl, h⟩ := h
  obtain ⟨rfl, g⟩ := g
  have l : x &&& y < 4294967296 := Nat.and_lt_two_pow (n := 32) _ g
  refine ⟨?_, l⟩
  unfold and32; rw [BitVec.toNat_and, bv32 h, bv32 g]; exact wr32 l
theorem or32_w {a b : Int} {x y : Nat} (h : IsW a x) (g : IsW b y) : IsW (or32 a b) (x ||| y) := by
  obtain ⟨rfl, h⟩ := h
  obtain ⟨rfl, g⟩ := g
  have l : x ||| y < 4294967296 := Nat.or_lt_two_pow (n := 32) h g
  refine ⟨?_, l⟩
  unfold or32; rw [BitVec.toNat_or, bv32 h, bv32 g]; exact wr32 l
theorem shl32_w {a : Int} {x : Nat} (h : IsW a x) (k : Nat) : IsW (shl32 a k) (nshl x k) := by
  obtain ⟨rfl, h⟩ := h
  refine ⟨?_, by unfold nshl; omega⟩
  unfold shl32 nshl
  rw [wu32, Nat.shiftLeft_eq]
  have : ((x : Int) * 2 ^ k) = ((x * 2 ^ k : Nat) : Int) := by push_cast; rfl
  rw [this]; omega
theorem shr32_w {a : Int} {x : Nat} (h : IsW a x) (k : Nat) : IsW (shr32 a k) (x >>> k) := by
  obtain ⟨rfl, h⟩ := h
  refine ⟨?_, Nat.lt_of_le_of_lt (by rw [Nat.shiftRight_eq_div_pow]; exact Nat.div_le_self _ _) h⟩
  unfold shr32
  have : (2 : Int) ^ k = ((2 ^ k : Nat) : Int) := by push_cast; rfl
  rw [this, Int.fdiv_eq_ediv_of_nonneg _ (Int.natCast_nonneg _), Nat.shiftRight_eq_div_pow]
  exact (Int.natCast_ediv _ _).symm
theorem rotr32_w {a : Int} {x : Nat} (h : IsW a x) (k : Nat) : IsW (rotr32 a k) (nrot x k) := or32_w (shl32_w h _) (shr32_w h k)
theorem zero_w : IsW 0 0 := ⟨rfl, by decide⟩
def ntu2 (x i j : Nat) : Nat := (0 ^^^ nrot x i) ^^^ nrot x j
theorem tur2_w {a : Int} {x : Nat} (h : IsW a x) (i j : Nat) : IsW (tur2 a i j) (ntu2 x i j) := xor32_w (xor32_w zero_w (rotr32_w h i)) (rotr32_w h j)
def ntu3 (x i j k : Nat) : Nat := ntu2 x i j ^^^ nrot x k
theorem tur3_w {a : Int} {x : Nat} (h : IsW a x) (i j k : Nat) : IsW (tur3 a i j k) (ntu3 x i j k) := xor32_w (tur2_w h i j) (rotr32_w h k)
def ns0 (x : Nat) : Nat := ntu2 x 7 18 ^^^ (x >>> 3)
def ns1 (x : Nat) : Nat := ntu2 x 17 19 ^^^ (x >>> 10)
theorem sS0_w {a : Int} {x : Nat} (h : IsW a x) : IsW (sS0 a) (ns0 x) := xor32_w (tur2_w h 7 18) (shr32_w h 3)
theorem sS1_w {a : Int} {x : Nat} (h : IsW a x) : IsW (sS1 a) (ns1 x) := xor32_w (tur2_w h 17 19) (shr32_w h 10)
def nch (e f g : Nat) : Nat := (e &&& f) ||| ((4294967295 ^^^ e) &&& g)
def nmj (a b c : Nat) : Nat := (a &&& b) ||| (a &&& c) ||| (b &&& c)
theorem full_w : IsW 4294967295 4294967295 := ⟨rfl, by decide⟩
theorem ch32_w {e f g : Int} {x y z : Nat} (h : IsW e x) (h2 : IsW f y) (h3 : IsW g z) : IsW (ch32 e f g) (nch x y z) := or32_w (and32_w h h2) (and32_w (xor32_w full_w h) h3)
theorem maj32_w {e f g : Int} {x y z : Nat} (h : IsW e x) (h2 : IsW f y) (h3 : IsW g z) : IsW (maj32 e f g) (nmj x y z) := or32_w (or32_w (and32_w h h2) (and32_w h h3)) (and32_w h2 h3)
def nX (e f g h k w : Nat) : Nat := nad (nad (nad (nad h (ntu3 e 6 11 25)) (nch e f g)) k) w
def nY (a b c : Nat) : Nat := nad (ntu3 a 2 13 22) (nmj a b c)
def KN : List Nat := [1116352408, 1899447441, 3049323471, 3921009573, 961987163, 1508970993, 2453635748, 2870763221, 3624381080, 310598401, 607225278, 1426881987, 1925078388, 2162078206, 2614888103, 3248222580, 3835390401, 4022224774, 264347078, 604807628, 770255983, 1249150122, 1555081692, 1996064986, 2554220882, 2821834349, 2952996808, 3210313671, 3336571891, 3584528711, 113926993, 338241895, 666307205, 773529912, 1294757372, 1396182291, 1695183700, 1986661051, 2177026350, 2456956037, 2730485921, 2820302411, 3259730800, 3345764771, 3516065817, 3600352804, 4094571909, 275423344, 430227734, 506948616, 659060556, 883997877, 958139571, 1322822218, 1537002063, 1747873779, 1955562222, 2024104815, 2227730452, 2361852424, 2428436474, 2756734187, 3204031479, 3329325298]
theorem KL_KN : KL = KN.map Int.ofNat := by decide
/-- The words of a block. -/
noncomputable def Ws (s : ByteArray) (t : Nat) : Int :=
  if h : t < 16 then be32 s t else add32 (add32 (Ws s (t - 16)) (sS0 (Ws s (t - 15)))) (add32 (Ws s (t - 7)) (sS1 (Ws s (t - 2))))
termination_by t
decreasing_by all_goals omega
theorem xlA_la (s : ByteArray) (x0 : Nat → Int) : ∀ t j : Nat, j < t → t ≤ j + 16 → (xlA s x0 t).2 (j % 16) = Ws s j
  | 0, j, h, _ => by omega
  | t + 1, j, h, h2 => by
    have ih := xlA_la s x0 t
    show laF s t (xlA s x0 t).2 (j % 16) = _
    unfold laF
    by_cases e : j = t
    · subst e
      rw [if_pos rfl, Ws]
      unfold nwF
      by_cases h16 : j < 16
      · rw [if_pos h16, dif_pos h16]
      · rw [if_neg h16, dif_neg h16]
        rw [← ih (j - 16) (by omega) (by omega), ← ih (j - 15) (by omega) (by omega), ← ih (j - 7) (by omega) (by omega), ← ih (j - 2) (by omega) (by omega)]
        rw [show (j - 16) % 16 = j % 16 by omega, show (j - 15) % 16 = (j % 16 + 1) % 16 by omega, show (j - 7) % 16 = (j % 16 + 9) % 16 by omega, show (j - 2) % 16 = (j % 16 + 14) % 16 by omega]
    · rw [if_neg (by omega)]
      exact ih j (by omega) (by omega)
theorem nwF_Ws (s : ByteArray) (x0 : Nat → Int) (t : Nat) : nwF s t (xlA s x0 t).2 = Ws s t := by
  have := xlA_la s x0 (t + 1) t (by omega) (by omega)
  rw [← this]
  show _ = laF s t (xlA s x0 t).2 (t % 16)
  unfold laF
  rw [if_pos rfl]
/-- Rounds, one by one. -/
noncomputable def Xs (s : ByteArray) (x0 : Nat → Int) : Nat → Nat → Int
  | 0 => x0
  | t + 1 => rndF (Xs s x0 t) (KL.getD t 0) (Ws s t)
theorem xlA_Xs (s : ByteArray) (x0 : Nat → Int) : ∀ t : Nat, (xlA s x0 t).1 = Xs s x0 t
  | 0 => rfl
  | t + 1 => by
    show rndF (xlA s x0 t).1 (KL.getD t 0) (nwF s t (xlA s x0 t).2) = _
    rw [nwF_Ws, xlA_Xs s x0 t]; rfl
def nbe (s : ByteArray) (t : Nat) : Nat := ((nshl (bAt s (4 * t)).toNat 24 ||| nshl (bAt s (4 * t + 1)).toNat 16) ||| nshl (bAt s (4 * t + 2)).toNat 8) ||| (bAt s (4 * t + 3)).toNat
theorem byte_w (b : UInt8) : IsW (IntKind.u32.wrap (b.toNat : Int)) b.toNat := by
  have h : b.toNat < 256 := b.toNat_lt
  exact ⟨wr32 (by omega), by omega⟩
theorem be32_w (s : ByteArray) (t : Nat) : IsW (be32 s t) (nbe s t) :=
  or32_w (or32_w (or32_w (shl32_w (byte_w _) 24) (shl32_w (byte_w _) 16)) (shl32_w (byte_w _) 8)) (byte_w _)
/-- Rounds, with the sixteen words ahead. -/
def go : List Nat → Nat → Nat → Nat → Nat → Nat → Nat → Nat → Nat → List Nat → List Nat
  | [], a, b, c, d, e, f, g, h, _ => [a, b, c, d, e, f, g, h]
  | k :: ks, a, b, c, d, e, f, g, h, [w0, w1, w2, w3, w4, w5, w6, w7, w8, w9, w10, w11, w12, w13, w14, w15] =>
    go ks (nad (nX e f g h k w0) (nY a b c)) a b c (nad d (nX e f g h k w0)) e f g [w1, w2, w3, w4, w5, w6, w7, w8, w9, w10, w11, w12, w13, w14, w15, nad (nad w0 (ns0 w1)) (nad w9 (ns1 w14))]
  | _ :: _, _, _, _, _, _, _, _, _, _ => []
theorem go_ok (s : ByteArray) (x0 : Nat → Int) : ∀ (ks : List Nat) (t : Nat) (a b c d e f g h : Nat) (w : List Nat), ks = KN.drop t → t ≤ 64 →
    IsW (Xs s x0 t 0) a → IsW (Xs s x0 t 1) b → IsW (Xs s x0 t 2) c → IsW (Xs s x0 t 3) d → IsW (Xs s x0 t 4) e → IsW (Xs s x0 t 5) f → IsW (Xs s x0 t 6) g → IsW (Xs s x0 t 7) h →
    (w.length = 16 ∧ ∀ i, i < 16 → IsW (Ws s (t + i)) (w.getD i 0)) →
    (go ks a b c d e f g h w).length = 8 ∧ ∀ i, i < 8 → IsW (Xs s x0 64 i) ((go ks a b c d e f g h w).getD i 0)
  | [], t, a, b, c, d, e, f, g, h, w, hk, ht, h0, h1, h2, h3, h4, h5, h6, h7, hw => by
    have : t = 64 := by
      have := congrArg List.length hk
      simp only [List.length_nil, List.length_drop] at this
      have hl : KN.length = 64 := rfl
      omega
    subst this
    refine ⟨rfl, fun i hi => ?_⟩
    match i, hi with
    | 0, _ => exact h0
    | 1, _ => exact h1
    | 2, _ => exact h2
    | 3, _ => exact h3
    | 4, _ => exact h4
    | 5, _ => exact h5
    | 6, _ => exact h6
    | 7, _ => exact h7
  | k :: ks, t, a, b, c, d, e, f, g, h, w, hk, ht, h0, h1, h2, h3, h4, h5, h6, h7, hw => by
    have hl : KN.length = 64 := rfl
    have ht : t < 64 := by
      have := congrArg List.length hk
      simp only [List.length_cons, List.length_drop] at this
      omega
    have hks : ks = KN.drop (t + 1) := by
      have := congrArg List.tail hk
      simpa [List.tail_drop] using this
    have hkt : KN.getD t 0 = k := by
      have := congrArg List.head? hk
      simp only [List.head?_cons, List.head?_drop] at this
      rw [List.getD_eq_getElem?_getD, ← this]; rfl
    have kw : IsW (KL.getD t 0) k := by
      have hm : ∀ t, t < 64 → IsW (KL.getD t 0) (KN.getD t 0) := by
        intro t ht
        refine ⟨?_, ?_⟩
        · rw [KL_KN, List.getD_eq_getElem?_getD, List.getD_eq_getElem?_getD, List.getElem?_map]
          have : KN[t]? = some (KN[t]'(by omega)) := List.getElem?_eq_getElem _
          rw [this]; rfl
        · have : ∀ t, t < 64 → KN.getD t 0 < 4294967296 := by decide
          exact this t ht
      rw [← hkt]; exact hm t ht
    obtain ⟨hwl, hw⟩ := hw
    match w, hwl with
    | [w0, w1, w2, w3, w4, w5, w6, w7, w8, w9, w10, w11, w12, w13, w14, w15], _ =>
      have g0 : IsW (Ws s t) w0 := hw 0 (by omega)
      have g1 : IsW (Ws s (t + 1)) w1 := hw 1 (by omega)
      have g2 : IsW (Ws s (t + 2)) w2 := hw 2 (by omega)
      have g3 : IsW (Ws s (t + 3)) w3 := hw 3 (by omega)
      have g4 : IsW (Ws s (t + 4)) w4 := hw 4 (by omega)
      have g5 : IsW (Ws s (t + 5)) w5 := hw 5 (by omega)
      have g6 : IsW (Ws s (t + 6)) w6 := hw 6 (by omega)
      have g7 : IsW (Ws s (t + 7)) w7 := hw 7 (by omega)
      have g8 : IsW (Ws s (t + 8)) w8 := hw 8 (by omega)
      have g9 : IsW (Ws s (t + 9)) w9 := hw 9 (by omega)
      have g10 : IsW (Ws s (t + 10)) w10 := hw 10 (by omega)
      have g11 : IsW (Ws s (t + 11)) w11 := hw 11 (by omega)
      have g12 : IsW (Ws s (t + 12)) w12 := hw 12 (by omega)
      have g13 : IsW (Ws s (t + 13)) w13 := hw 13 (by omega)
      have g14 : IsW (Ws s (t + 14)) w14 := hw 14 (by omega)
      have g15 : IsW (Ws s (t + 15)) w15 := hw 15 (by omega)
      have gn : IsW (Ws s (t + 16)) (nad (nad w0 (ns0 w1)) (nad w9 (ns1 w14))) := by
        rw [Ws, dif_neg (by omega), show t + 16 - 16 = t by omega, show t + 16 - 15 = t + 1 by omega, show t + 16 - 7 = t + 9 by omega, show t + 16 - 2 = t + 14 by omega]
        exact add32_w (add32_w g0 (sS0_w g1)) (add32_w g9 (sS1_w g14))
      have hx : IsW (bX (Xs s x0 t) (KL.getD t 0) (Ws s t)) (nX e f g h k w0) := add32_w (add32_w (add32_w (add32_w h7 (tur3_w h4 6 11 25)) (ch32_w h4 h5 h6)) kw) g0
      have hy : IsW (bY (Xs s x0 t)) (nY a b c) := add32_w (tur3_w h0 2 13 22) (maj32_w h0 h1 h2)
      unfold go
      refine go_ok s x0 ks (t + 1) _ _ _ _ _ _ _ _ _ hks (by omega) (add32_w hx hy) h0 h1 h2 (add32_w h3 hx) h4 h5 h6 ⟨rfl, fun i hi => ?_⟩
      rw [show t + 1 + i = t + (i + 1) by omega]
      match i, hi with
      | 0, _ => exact g1
      | 1, _ => exact g2
      | 2, _ => exact g3
      | 3, _ => exact g4
      | 4, _ => exact g5
      | 5, _ => exact g6
      | 6, _ => exact g7
      | 7, _ => exact g8
      | 8, _ => exact g9
      | 9, _ => exact g10
      | 10, _ => exact g11
      | 11, _ => exact g12
      | 12, _ => exact g13
      | 13, _ => exact g14
      | 14, _ => exact g15
      | 15, _ => exact gn
      | i + 16, hi => exact absurd hi (by omega)
/-- A block, taken. -/
def tkN : List Nat → ByteArray → List Nat
  | [a, b, c, d, e, f, g, h], s =>
    List.zipWith nad (go KN a b c d e f g h ((List.range 16).map (nbe s))) [a, b, c, d, e, f, g, h]
  | _, _ => []
def IsWs (l : List Int) (n : List Nat) : Prop := l.length = n.length ∧ ∀ i, i < n.length → IsW (l.getD i 0) (n.getD i 0)
theorem IsWs.eq {l : List Int} {n : List Nat} (h : IsWs l n) : l = n.map Int.ofNat := by
  refine List.ext_getElem (by simp [h.1]) fun i h1 h2 => ?_
  have := (h.2 i (by rw [← h.1]; exact h1)).1
  rw [List.getD_eq_getElem?_getD, List.getElem?_eq_getElem h1] at this
  rw [List.getD_eq_getElem?_getD, List.getElem?_eq_getElem (by rw [← h.1]; exact h1)] at this
  simpa using this
theorem tkF_N {ini : List Int} {n : List Nat} (h : IsWs ini n) (h8 : n.length = 8) (s : ByteArray) : IsWs (tkF zL ini s) (tkN n s) ∧ (tkN n s).length = 8 := by
  match n, h8 with
  | [a, b, c, d, e, f, g, k], _ =>
    have q := go_ok s (fn8 ini) KN 0 a b c d e f g k ((List.range 16).map (nbe s)) rfl (by omega) (h.2 0 (show 0 < 8 by decide)) (h.2 1 (show 1 < 8 by decide)) (h.2 2 (show 2 < 8 by decide)) (h.2 3 (show 3 < 8 by decide)) (h.2 4 (show 4 < 8 by decide)) (h.2 5 (show 5 < 8 by decide)) (h.2 6 (show 6 < 8 by decide)) (h.2 7 (show 7 < 8 by decide))
      ⟨by simp, fun i hi => by
        have e1 : ((List.range 16).map (nbe s)).getD i 0 = nbe s i := by
          rw [List.getD_eq_getElem?_getD, List.getElem?_map, List.getElem?_range hi]; rfl
        rw [e1, Ws, dif_pos (by omega)]
        rw [show 0 + i = i by omega]
        exact be32_w s i⟩
    obtain ⟨q1, q2⟩ := q
    generalize hr : go KN a b c d e f g k ((List.range 16).map (nbe s)) = r at q1 q2
    have hz : zL ini s = xlA s (fn8 ini) 64 := rfl
    have hx : ∀ i, i < 8 → IsW ((zL ini s).1 i) (r.getD i 0) := fun i hi => by
      rw [hz, xlA_Xs]; exact q2 i hi
    unfold tkN
    simp only [hr]
    match r, q1 with
    | [r0, r1, r2, r3, r4, r5, r6, r7], _ =>
      refine ⟨⟨rfl, fun i hi => ?_⟩, rfl⟩
      have hi : i < 8 := hi
      match i, hi with
      | 0, _ => exact add32_w (hx 0 (by omega)) (h.2 0 (show 0 < 8 by decide))
      | 1, _ => exact add32_w (hx 1 (by omega)) (h.2 1 (show 1 < 8 by decide))
      | 2, _ => exact add32_w (hx 2 (by omega)) (h.2 2 (show 2 < 8 by decide))
      | 3, _ => exact add32_w (hx 3 (by omega)) (h.2 3 (show 3 < 8 by decide))
      | 4, _ => exact add32_w (hx 4 (by omega)) (h.2 4 (show 4 < 8 by decide))
      | 5, _ => exact add32_w (hx 5 (by omega)) (h.2 5 (show 5 < 8 by decide))
      | 6, _ => exact add32_w (hx 6 (by omega)) (h.2 6 (show 6 < 8 by decide))
      | 7, _ => exact add32_w (hx 7 (by omega)) (h.2 7 (show 7 < 8 by decide))
/-! ### told digests -/
def finN : Nat → List Nat → List UInt8 → List Nat × List UInt8
  | 0, n, l => (n, l)
  | k + 1, n, l => if 64 ≤ l.length then finN k (tkN n ⟨(l.take 64).toArray⟩) (l.drop 64) else (n, l)
theorem blkS_told (l : List UInt8) (h : 64 ≤ l.length) : blkS ⟨l.toArray⟩ = ⟨(l.take 64).toArray⟩ := by
  unfold blkS
  congr 2
  refine List.ext_getElem (by simp; omega) fun i h1 h2 => ?_
  have hi : i < 64 := by simpa using h1
  simp only [List.getElem_map, List.getElem_range, List.getElem_take]
  unfold bAt
  have : (⟨l.toArray⟩ : ByteArray).data[i]? = some (l[i]'(by omega)) := by
    show l.toArray[i]? = _
    rw [List.getElem?_toArray]; exact List.getElem?_eq_getElem _
  rw [this]; rfl
theorem rstS_told (l : List UInt8) : rstS ⟨l.toArray⟩ = ⟨(l.drop 64).toArray⟩ := by
  unfold rstS
  apply ByteArray.ext
  rw [ByteArray.data_extract]
  show (l.toArray.extract 64 l.toArray.size) = (l.drop 64).toArray
  simp only [List.extract_toArray, List.size_toArray, List.extract_eq_take_drop]
  rw [List.take_of_length_le (by simp)]
theorem ba_size (l : List UInt8) : (⟨l.toArray⟩ : ByteArray).size = l.length := by
  show l.toArray.size = _
  simp
theorem finW_told : ∀ (k : Nat) (ini : List Int) (n : List Nat) (l : List UInt8), l.length < 64 * (k + 1) → IsWs ini n → n.length = 8 →
    IsWs (finW zL ini ⟨l.toArray⟩).1 (finN k n l).1 ∧ (finN k n l).1.length = 8 ∧ (finW zL ini ⟨l.toArray⟩).2 = ⟨(finN k n l).2.toArray⟩
  | 0, ini, n, l, h, hi, h8 => by
    rw [finW, dif_neg (show ¬ 64 ≤ (⟨l.toArray⟩ : ByteArray).size by rw [ba_size]; omega)]
    exact ⟨hi, h8, rfl⟩
  | k + 1, ini, n, l, h, hi, h8 => by
    unfold finN
    by_cases h64 : 64 ≤ l.length
    · rw [finW, dif_pos (show 64 ≤ (⟨l.toArray⟩ : ByteArray).size by rw [ba_size]; exact h64), if_pos h64, blkS_told l h64, rstS_told]
      have := tkF_N hi h8 ⟨(l.take 64).toArray⟩
      exact finW_told k _ _ (l.drop 64) (by simp; omega) this.1 this.2
    · rw [finW, dif_neg (show ¬ 64 ≤ (⟨l.toArray⟩ : ByteArray).size by rw [ba_size]; exact h64), if_neg h64]
      exact ⟨hi, h8, rfl⟩
def dgN (n : List Nat) (l : List UInt8) (m : Int) : List Nat :=
  if l.length < 56 then tkN n (blkL l m 0) else tkN (tkN n (blkL l m 0)) (blkL l m 1)
theorem dgW_N {ini : List Int} {n : List Nat} (h : IsWs ini n) (h8 : n.length = 8) (l : List UInt8) (m : Int) : IsWs (dgW zL ini l m) (dgN n l m) ∧ (dgN n l m).length = 8 := by
  have q := tkF_N h h8 (blkL l m 0)
  unfold dgW dgN
  split
  · exact q
  · exact tkF_N q.1 q.2 _
def ivN : List Nat := [1779033703, 3144134277, 1013904242, 2773480762, 1359893119, 2600822924, 528734635, 1541459225]
theorem iv_N : IsWs iv ivN := ⟨rfl, fun i hi => by
  have hi : i < 8 := hi
  match i, hi with
  | 0, _ | 1, _ | 2, _ | 3, _ | 4, _ | 5, _ | 6, _ | 7, _ => exact ⟨rfl, by decide⟩⟩
noncomputable def shN (l : List UInt8) : List Nat :=
  dgN (finN (l.length / 64) ivN l).1 (finN (l.length / 64) ivN l).2 (w64 0 ⟨l.toArray⟩)
theorem shN_ok (l : List UInt8) : IsWs (shL.S ⟨l.toArray⟩) (shN l) ∧ (shN l).length = 8 := by
  have h := finW_told (l.length / 64) iv ivN l (by omega) iv_N rfl
  show IsWs (dgW zL (finW zL iv ⟨l.toArray⟩).1 (finW zL iv ⟨l.toArray⟩).2.data.toList (w64 0 ⟨l.toArray⟩)) _ ∧ _
  rw [h.2.2]
  exact dgW_N h.1 h.2.1 _ _
def bN (n : List Nat) (i : Nat) : Nat := (n.getD (i / 4) 0 >>> (24 - 8 * (i % 4))) % 256
theorem dB_N {w : List Int} {n : List Nat} (h : IsWs w n) (h8 : n.length = 8) {i : Nat} (hi : i < 32) : dB w i = (bN n i : Nat) := by
  obtain ⟨e, _⟩ := shr32_w (h.2 (i / 4) (by omega)) (24 - 8 * (i % 4))
  unfold dB bN
  unfold shr32 at e
  rw [e, wu8]; omega
noncomputable def digN (l : List UInt8) : List Nat := (List.range 32).map (bN (shN l))
end Go.Proofs.YtacgamdbmllaoaaDoor
