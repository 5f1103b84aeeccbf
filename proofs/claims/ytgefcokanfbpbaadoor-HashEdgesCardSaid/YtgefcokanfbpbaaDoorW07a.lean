/-
  Walks of functions, reckoned through, and what they give (part W07a). No condition beyond what each says. By an AI agent.
-/
import Derived.Test.YtgefcokanfbpbaaDoorW06C
namespace Go.Proofs.YtgefcokanfbpbaaDoor
open Go.Ex
open Go.RowKit (Below)
set_option linter.unusedVariables false
set_option maxRecDepth 1000000
/-! ### the digest, on plain numbers -/
def IsW (z : Int) (n : Nat) : Prop := z = (n : Int) ∧ n < 4294967296
def nad (a b : Nat) : Nat := (a + b) % 4294967296
def nshl (x k : Nat) : Nat := (x <<< k) % 4294967296
def nrot (x k : Nat) : Nat := nshl x (32 - k) ||| (x >>> k)
theorem bv32 {n : Nat} (h : n < 4294967296) : (BitVec.ofInt 32 (n : Int)).toNat = n := by
  rw [BitVec.ofInt_natCast, BitVec.toNat_ofNat]; exact Nat.mod_eq_of_lt h
theorem wr32 {n : Nat} (h : n < 4294967296) : IntKind.u32.wrap (n : Int) = n := by rw [wu32]; omega
theorem add32_w {a b : Int} {x y : Nat} (h : IsW a x) (g : IsW b y) : IsW (add32 a b) (nad x y) := by
  obtain ⟨rfl, h⟩ := h
  obtain ⟨rfl, g⟩ := g
  refine ⟨?_, by unfold nad; omega⟩
  unfold add32 nad; rw [wu32]; omega
theorem xor32_w {a b : Int} {x y : Nat} (h : IsW a x) (g : IsW b y) : IsW (xor32 a b) (x ^^^ y) := by
  obtain ⟨rfl, h⟩ := h
  obtain ⟨rfl, g⟩ := g
  have l : x ^^^ y < 4294967296 := Nat.xor_lt_two_pow (n := 32) h g
  refine ⟨?_, l⟩
  unfold xor32; rw [BitVec.toNat_xor, bv32 h, bv32 g]; exact wr32 l
theorem and32_w {a b : Int} {x y : Nat} (h : IsW a x) (g : IsW b y) : IsW (and32 a b) (x &&& y) := by
  obtain ⟨rfl, h⟩ := h
  obtain ⟨rfl, g⟩ := g
  have l : x &&& y < 4294967296 := Nat.and_lt_two_pow (n := 32) _ g
  refine ⟨?_, l⟩
  unfold and32; rw [BitVec.toNat_and, bv32 h, bv32 g]; exact wr32 l
theorem or32_w {a b : Int} {x y : Nat} (h : IsW a x) (g : IsW b y) : IsW (or32 a b) (x ||| y) := by
  obtain ⟨rfl, h⟩ := h
  obtain ⟨rfl, g⟩ := g
  have l : x ||| y < 4294967296 := Nat.or_lt_two_pow (n := 32) h g
  refine ⟨?_, l⟩
  unfold or32; rw [BitVec.toNat_or, bv32 h, bv32 g]; exact wr32 l
theorem shl32_w {a : Int} {x : Nat} (h : IsW a x) (k : Nat) : IsW (shl32 a k) (nshl x k) := by
  obtain ⟨rfl, h⟩ := h
  refine ⟨?_, by unfold nshl; omega⟩
  unfold shl32 nshl
  rw [wu32, Nat.shiftLeft_eq]
  have : ((x : Int) * 2 ^ k) = ((x * 2 ^ k : Nat) : Int) := by push_cast; rfl
  rw [this]; omega
theorem shr32_w {a : Int} {x : Nat} (h : IsW a x) (k : Nat) : IsW (shr32 a k) (x >>> k) := by
  obtain ⟨rfl, h⟩ := h
  refine ⟨?_, Nat.lt_of_le_of_lt (by rw [Nat.shiftRight_eq_div_pow]; exact Nat.div_le_self _ _) h⟩
  unfold shr32
  have : (2 : Int) ^ k = ((2 ^ k : Nat) : Int) := by push_cast; rfl
  rw [this, Int.fdiv_eq_ediv_of_nonneg _ (Int.natCast_nonneg _), Nat.shiftRight_eq_div_pow]
  exact (Int.natCast_ediv _ _).symm
theorem rotr32_w {a : Int} {x : Nat} (h : IsW a x) (k : Nat) : IsW (rotr32 a k) (nrot x k) := or32_w (shl32_w h _) (shr32_w h k)
theorem zero_w : IsW 0 0 := ⟨rfl, by decide⟩
def ntu2 (x i j : Nat) : Nat := (0 ^^^ nrot x i) ^^^ nrot x j
theorem tur2_w {a : Int} {x : Nat} (h : IsW a x) (i j : Nat) : IsW (tur2 a i j) (ntu2 x i j) := xor32_w (xor32_w zero_w (rotr32_w h i)) (rotr32_w h j)
def ntu3 (x i j k : Nat) : Nat := ntu2 x i j ^^^ nrot x k
theorem tur3_w {a : Int} {x : Nat} (h : IsW a x) (i j k : Nat) : IsW (tur3 a i j k) (ntu3 x i j k) := xor32_w (tur2_w h i j) (rotr32_w h k)
def ns0 (x : Nat) : Nat := ntu2 x 7 18 ^^^ (x >>> 3)
def ns1 (x : Nat) : Nat := ntu2 x 17 19 ^^^ (x >>> 10)
theorem sS0_w {a : Int} {x : Nat} (h : IsW a x) : IsW (sS0 a) (ns0 x) := xor32_w (tur2_w h 7 18) (shr32_w h 3)
theorem sS1_w {a : Int} {x : Nat} (h : IsW a x) : IsW (sS1 a) (ns1 x) := xor32_w (tur2_w h 17 19) (shr32_w h 10)
def nch (e f g : Nat) : Nat := (e &&& f) ||| ((4294967295 ^^^ e) &&& g)
def nmj (a b c : Nat) : Nat := (a &&& b) ||| (a &&& c) ||| (b &&& c)
theorem full_w : IsW 4294967295 4294967295 := ⟨rfl, by decide⟩
theorem ch32_w {e f g : Int} {x y z : Nat} (h : IsW e x) (h2 : IsW f y) (h3 : IsW g z) : IsW (ch32 e f g) (nch x y z) := or32_w (and32_w h h2) (and32_w (xor32_w full_w h) h3)
theorem maj32_w {e f g : Int} {x y z : Nat} (h : IsW e x) (h2 : IsW f y) (h3 : IsW g z) : IsW (maj32 e f g) (nmj x y z) := or32_w (or32_w (and32_w h h2) (and32_w h h3)) (and32_w h2 h3)
def nX (e f g h k w : Nat) : Nat := nad (nad (nad (nad h (ntu3 e 6 11 25)) (nch e f g)) k) w
def nY (a b c : Nat) : Nat := nad (ntu3 a 2 13 22) (nmj a b c)
def KN : List Nat := [1116352408, 1899447441, 3049323471, 3921009573, 961987163, 1508970993, 2453635748, 2870763221, 3624381080, 310598401, 607225278, 1426881987, 1925078388, 2162078206, 2614888103, 3248222580, 3835390401, 4022224774, 264347078, 604807628, 770255983, 1249150122, 1555081692, 1996064986, 2554220882, 2821834349, 2952996808, 3210313671, 3336571891, 3584528711, 113926993, 338241895, 666307205, 773529912, 1294757372, 1396182291, 1695183700, 1986661051, 2177026350, 2456956037, 2730485921, 2820302411, 3259730800, 3345764771, 3516065817, 3600352804, 4094571909, 275423344, 430227734, 506948616, 659060556, 883997877, 958139571, 1322822218, 1537002063, 1747873779, 1955562222, 2024104815, 2227730452, 2361852424, 2428436474, 2756734187, 3204031479, 3329325298]
theorem KL_KN : KL = KN.map Int.ofNat := by decide
/-- The words of a block. -/
noncomputable def Ws (s : ByteArray) (t : Nat) : Int :=
  if h : t < 16 then be32 s t else add32 (add32 (Ws s (t - 16)) (sS0 (Ws s (t - 15)))) (add32 (Ws s (t - 7)) (sS1 (Ws s (t - 2))))
termination_by t
decreasing_by all_goals omega
theorem xlA_la (s : ByteArray) (x0 : Nat → Int) : ∀ t j : Nat, j < t → t ≤ j + 16 → (xlA s x0 t).2 (j % 16) = Ws s j
  | 0, j, h, _ => by omega
  | t + 1, j, h, h2 => by
    have ih := xlA_la s x0 t
    show laF s t (xlA s x0 t).2 (j % 16) = _
    unfold laF
    by_cases e : j = t
    · subst e
      rw [if_pos rfl, Ws]
      unfold nwF
      by_cases h16 : j < 16
      · rw [if_pos h16, dif_pos h16]
      · rw [if_neg h16, dif_neg h16]
        rw [← ih (j - 16) (by omega) (by omega), ← ih (j - 15) (by omega) (by omega), ← ih (j - 7) (by omega) (by omega), ← ih (j - 2) (by omega) (by omega)]
        rw [show (j - 16) % 16 = j % 16 by omega, show (j - 15) % 16 = (j % 16 + 1) % 16 by omega, show (j - 7) % 16 = (j % 16 + 9) % 16 by omega, show (j - 2) % 16 = (j % 16 + 14) % 16 by omega]
    · rw [if_neg (by omega)]
      exact ih j (by omega) (by omega)
theorem nwF_Ws (s : ByteArray) (x0 : Nat → Int) (t : Nat) : nwF s t (xlA s x0 t).2 = Ws s t := by
  have := xlA_la s x0 (t + 1) t (by omega) (by omega)
  rw [← this]
  show _ = laF s t (xlA s x0 t).2 (t % 16)
  unfold laF
  rw [if_pos rfl]
/-- Rounds, one by one. -/
noncomputable def Xs (s : ByteArray) (x0 : Nat → Int) : Nat → Nat → Int
  | 0 => x0
  | t + 1 => rndF (Xs s x0 t) (KL.getD t 0) (Ws s t)
theorem xlA_Xs (s : ByteArray) (x0 : Nat → Int) : ∀ t : Nat, (xlA s x0 t).1 = Xs s x0 t
  | 0 => rfl
  | t + 1 => by
    show rndF (xlA s x0 t).1 (KL.getD t 0) (nwF s t (xlA s x0 t).2) = _
    rw [nwF_Ws, xlA_Xs s x0 t]; rfl
def nbe (s : ByteArray) (t : Nat) : Nat := ((nshl (bAt s (4 * t)).toNat 24 ||| nshl (bAt s (4 * t + 1)).toNat 16) ||| nshl (bAt s (4 * t + 2)).toNat 8) ||| (bAt s (4 * t + 3)).toNat
theorem byte_w (b : UInt8) : IsW (IntKind.u32.wrap (b.toNat : Int)) b.toNat := by
  have h : b.toNat < 256 := b.toNat_lt
  exact ⟨wr32 (by omega), by omega⟩
theorem be32_w (s : ByteArray) (t : Nat) : IsW (be32 s t) (nbe s t) :=
  or32_w (or32_w (or32_w (shl32_w (byte_w _) 24) (shl32_w (byte_w _) 16)) (shl32_w (byte_w _) 8)) (byte_w _)
/-- Rounds, with the sixteen words ahead. -/
def go : List Nat → Nat → Nat → Nat → Nat → Nat → Nat → Nat → Nat → List Nat → List Nat
  | [], a, b, c, d, e, f, g, h, _ => [a, b, c, d, e, f, g, h]
  | k :: ks, a, b, c, d, e, f, g, h, [w0, w1, w2, w3, w4, w5, w6, w7, w8, w9, w10, w11, w12, w13, w14, w15] =>
    go ks (nad (nX e f g h k w0) (nY a b c)) a b c (nad d (nX e f g h k w0)) e f g [w1, w2, w3, w4, w5, w6, w7, w8, w9, w10, w11, w12, w13, w14, w15, nad (nad w0 (ns0 w1)) (nad w9 (ns1 w14))]
  | _ :: _, _, _, _, _, _, _, _, _, _ => []
theorem go_ok (s : ByteArray) (x0 : Nat → Int) : ∀ (ks : List Nat) (t : Nat) (a b c d e f g h : Nat) (w : List Nat), ks = KN.drop t → t ≤ 64 →
    IsW (Xs s x0 t 0) a → IsW (Xs s x0 t 1) b → IsW (Xs s x0 t 2) c → IsW (Xs s x0 t 3) d → IsW (Xs s x0 t 4) e → IsW (Xs s x0 t 5) f → IsW (Xs s x0 t 6) g → IsW (Xs s x0 t 7) h →
    (w.length = 16 ∧ ∀ i, i < 16 → IsW (Ws s (t + i)) (w.getD i 0)) →
    (go ks a b c d e f g h w).length = 8 ∧ ∀ i, i < 8 → IsW (Xs s x0 64 i) ((go ks a b c d e f g h w).getD i 0)
  | [], t, a, b, c, d, e, f, g, h, w, hk, ht, h0, h1, h2, h3, h4, h5, h6, h7, hw => by
    have : t = 64 := by
      have := congrArg List.length hk
      simp only [List.length_nil, List.length_drop] at this
      have hl : KN.length = 64 := rfl
      omega
    subst this
    refine ⟨rfl, fun i hi => ?_⟩
    match i, hi with
    | 0, _ => exact h0
    | 1, _ => exact h1
    | 2, _ => exact h2
    | 3, _ => exact h3
    | 4, _ => exact h4
    | 5, _ => exact h5
    | 6, _ => exact h6
    | 7, _ => exact h7
  | k :: ks, t, a, b, c, d, e, f, g, h, w, hk, ht, h0, h1, h2, h3, h4, h5, h6, h7, hw => by
    have hl : KN.length = 64 := rfl
    have ht : t < 64 := by
      have := congrArg List.length hk
      simp only [List.length_cons, List.length_drop] at this
      omega
    have hks : ks = KN.drop (t + 1) := by
      have := congrArg List.tail hk
      simpa [List.tail_drop] using this
    have hkt : KN.getD t 0 = k := by
      have := congrArg List.head? hk
      simp only [List.head?_cons, List.head?_drop] at this
      rw [List.getD_eq_getElem?_getD, ← this]; rfl
    have kw : IsW (KL.getD t 0) k := by
      have hm : ∀ t, t < 64 → IsW (KL.getD t 0) (KN.getD t 0) := by
        intro t ht
        refine ⟨?_, ?_⟩
        · rw [KL_KN, List.getD_eq_getElem?_getD, List.getD_eq_getElem?_getD, List.getElem?_map]
          have : KN[t]? = some (KN[t]'(by omega)) := List.getElem?_eq_getElem _
          rw [this]; rfl
        · have : ∀ t, t < 64 → KN.getD t 0 < 4294967296 := by decide
          exact this t ht
      rw [← hkt]; exact hm t ht
    obtain ⟨hwl, hw⟩ := hw
    match w, hwl with
    | [w0, w1, w2, w3, w4, w5, w6, w7, w8, w9, w10, w11, w12, w13, w14, w15], _ =>
      have g0 : IsW (Ws s t) w0 := hw 0 (by omega)
      have g1 : IsW (Ws s (t + 1)) w1 := hw 1 (by omega)
      have g2 : IsW (Ws s (t + 2)) w2 := hw 2 (by omega)
      have g3 : IsW (Ws s (t + 3)) w3 := hw 3 (by omega)
      have g4 : IsW (Ws s (t + 4)) w4 := hw 4 (by omega)
      have g5 : IsW (Ws s (t + 5)) w5 := hw 5 (by omega)
      have g6 : IsW (Ws s (t + 6)) w6 := hw 6 (by omega)
      have g7 : IsW (Ws s (t + 7)) w7 := hw 7 (by omega)
      have g8 : IsW (Ws s (t + 8)) w8 := hw 8 (by omega)
      have g9 : IsW (Ws s (t + 9)) w9 := hw 9 (by omega)
      have g10 : IsW (Ws s (t + 10)) w10 := hw 10 (by omega)
      have g11 : IsW (Ws s (t + 11)) w11 := hw 11 (by omega)
      have g12 : IsW (Ws s (t + 12)) w12 := hw 12 (by omega)
      have g13 : IsW (Ws s (t + 13)) w13 := hw 13 (by omega)
      have g14 : IsW (Ws s (t + 14)) w14 := hw 14 (by omega)
      have g15 : IsW (Ws s (t + 15)) w15 := hw 15 (by omega)
      have gn : IsW (Ws s (t + 16)) (nad (nad w0 (ns0 w1)) (nad w9 (ns1 w14))) := by
        rw [Ws, dif_neg (by omega), show t + 16 - 16 = t by omega, show t + 16 - 15 = t + 1 by omega, show t + 16 - 7 = t + 9 by omega, show t + 16 - 2 = t + 14 by omega]
        exact add32_w (add32_w g0 (sS0_w g1)) (add32_w g9 (sS1_w g14))
      have hx : IsW (bX (Xs s x0 t) (KL.getD t 0) (Ws s t)) (nX e f g h k w0) := add32_w (add32_w (add32_w (add32_w h7 (tur3_w h4 6 11 25)) (ch32_w h4 h5 h6)) kw) g0
      have hy : IsW (bY (Xs s x0 t)) (nY a b c) := add32_w (tur3_w h0 2 13 22) (maj32_w h0 h1 h2)
      unfold go
      refine go_ok s x0 ks (t + 1) _ _ _ _ _ _ _ _ _ hks (by omega) (add32_w hx hy) h0 h1 h2 (add32_w h3 hx) h4 h5 h6 ⟨rfl, fun i hi => ?_⟩
      rw [show t + 1 + i = t + (i + 1) by omega]
      match i, hi with
      | 0, _ => exact g1
      | 1, _ => exact g2
      | 2, _ => exact g3
      | 3, _ => exact g4
      | 4, _ => exact g5
      | 5, _ => exact g6
      | 6, _ => exact g7
      | 7, _ => exact g8
      | 8, _ => exact g9
      | 9, _ => exact g10
      | 10, _ => exact g11
      | 11, _ => exact g12
      | 12, _ => exact g13
      | 13, _ => exact g14
      | 14, _ => exact g15
      | 15, _ => exact gn
      | i + 16, hi => exact absurd hi (by omega)
/-! ### temporaries forgotten, and numbers said as values -/
def unN : SV → SV
  | .num k z => .val (.int k z)
  | .bol b => .val (.bool b)
  | s => s
theorem unN_R {η : Env} {s : SV} {v : Value} (h : R η s v) : R η (unN s) v := by
  cases s <;> first | exact h | (simp only [unN, R] at h ⊢; exact h)
def fgU (d : Nat → Value) (fg : List Nat) : Nat → List SV → List SV
  | _, [] => []
  | i, s :: l => (if fg.contains i then .val (d i) else unN s) :: fgU d fg (i + 1) l
theorem fgU_R {η : Env} {d : Nat → Value} {fg : List Nat} : ∀ {l : List SV} {vs : List Value} {i : Nat}, Rs η l vs → (∀ (j : Nat) (v : Value), vs[j]? = some v → d (i + j) = v) → Rs η (fgU d fg i l) vs
  | [], vs, i, h, _ => by simpa only [fgU, Rs] using h
  | s :: l, vs, i, h, hd => by
    obtain ⟨v, r, rfl, h1, h2⟩ := h
    refine Rs.cons ?_ (fgU_R h2 fun j x hx => ?_)
    · split
      · simp only [R]
        exact (hd 0 v rfl).symm
      · exact unN_R h1
    · have := hd (j + 1) x (by simpa using hx)
      rwa [show i + 1 + j = i + (j + 1) by omega]
theorem weakF_fu {n0 : Nat} (fg : List Nat) (s : St) : WeakF n0 s (fun d => ⟨fgU d fg 0 s.tm, s.hp⟩) := fun {ds B w₀ η μ a w} hn hs =>
  ⟨fun i => (a.tmps.toList[i]?).getD undef, μ, fgU_R hs.tm fun j v hv => by simp only [Nat.zero_add]; rw [hv]; rfl, hs.df, hs.hr, hs.below, hs.hB⟩
def outU (fg : List Nat) (r : Rr Fin) (e : XE) (T : St) (L : List Prop) (d : Nat → Value) : Option (XE × St × List Prop × List SV) × Option (XE × St × List Prop × List SV) :=
  match r with
  | .ok f [] c => (some (f.e, ⟨fgU d fg 0 f.tm, f.hp⟩, c.props [], c.lefts []), some (e, T, L, c.rights []))
  | _ => (none, some (e, T, L, []))
def givesU (fg : List Nat) (r : Rr Fin) (e : XE) (T : St) (L : List Prop) (d : Nat → Value) : Prop := (outU fg r e T L d).1 = (outU fg r e T L d).2
theorem wpE_fu {P : Program} {X : Cx} (hX : X.P = P) (hct : CtOk X) (hlp : LpOk X) {n n0 : Nat} {fg : List Nat} {c : Code} {s : St} {ans : List Bool} {e : XE} {T : (Nat → Value) → St} {L : List Prop} (h : ∀ d, givesU fg (run X n c s.tm s.hp ans) e (T d) L d) (hL : AllP L) :
    WpE P c n0 s (fun r => r.e = e ∧ WeakF n0 r.st T ∧ r.hp = (T (fun _ => undef)).hp) := by
  subst hX
  generalize hq : run X n c s.tm s.hp ans = r at h
  unfold givesU outU at h
  split at h
  · rename_i f c'
    simp only [Option.some.injEq, Prod.mk.injEq] at h
    have h0 := h (fun _ => undef)
    have hc := (Cnd.is_of c' [] [] [] (by rw [h0.2.2.1]; exact hL) h0.2.2.2 rfl).1
    refine WpE.of_wp (run_ok hct hlp n c _ _ _ _ _ _ hq hc) ⟨h0.1, ?_, congrArg St.hp h0.2.1⟩
    have e : T = fun d => ⟨fgU d fg 0 f.tm, f.hp⟩ := funext fun d => ((h d).2.1).symm
    rw [e]
    exact fun {_ _ _ _ _ _ _} hn hs => weakF_fu fg f.st hn hs
  · have := h (fun _ => undef); simp at this
/-! ### two -/
theorem X0_ct : CtOk X0 := plain_ct Tryd.prog
theorem X0_lp : LpOk X0 := plain_lp Tryd.prog
noncomputable def fnN (f : Nat) : Func := (Tryd.prog.funcs[f]?).getD default
noncomputable def LB20 : Code := cLp (cB (cR (cL (cR (cR (code 20))))))
noncomputable def id20 : Nat := bId (cR (cL (cR (cR (code 20)))))
theorem code20 : code 20 = .seq (cL (code 20)) (.seq (cL (cR (code 20))) (.seq (.seq (cL (cL (cR (cR (code 20))))) (.block id20 (.loop LB20))) (cR (cR (cR (code 20)))))) := by kernel_rfl
def fg20 : List Nat := [1, 2] ++ List.range' 5 8
def s20 (k n i : Int) (d : Nat → Value) : St := ⟨[.val (.int .i64 k), .val (d 1), .val (d 2), .val (.int .u64 n), .val (.int .i64 i)] ++ (List.range' 5 8).map (fun i => .val (d i)), []⟩
noncomputable def s20a (k : Int) : St := ⟨[.val (.int .i64 k)] ++ List.replicate 12 (.val undef), []⟩
noncomputable def s20b (k : Int) : St := (finOf (run X0 60 (cL (code 20)) (s20a k).tm (s20a k).hp [])).st
noncomputable def s20c (k : Int) : St := (finOf (run X0 60 (cL (cR (code 20))) (s20b k).tm (s20b k).hp [])).st
theorem t20_a (k : Int) : goodR (run X0 60 (cL (code 20)) (s20a k).tm (s20a k).hp []) .normal [] := by unfold goodR; kernel_rfl
theorem t20_b (k : Int) : goodR (run X0 60 (cL (cR (code 20))) (s20b k).tm (s20b k).hp []) .normal [] := by unfold goodR; kernel_rfl
theorem t20_c (k : Int) (d : Nat → Value) : givesU fg20 (run X0 60 (cL (cL (cR (cR (code 20))))) (s20c k).tm (s20c k).hp []) .normal (s20 k 1 0 d) [] d := by unfold givesU; kernel_rfl
theorem t20_round (k n i : Int) (d d' : Nat → Value) : givesU fg20 (run X0 60 LB20 (s20 k n i d).tm (s20 k n i d).hp [true]) .normal (s20 k (IntKind.u64.wrap (2 * n)) (IntKind.i64.wrap (i + 1)) d') [decide (i < k) = true] d' := by unfold givesU; kernel_rfl
theorem t20_end (k n i : Int) (d d' : Nat → Value) : givesU fg20 (run X0 60 LB20 (s20 k n i d).tm (s20 k n i d).hp [false]) (.exit id20) (s20 k n i d') [decide (i < k) = false] d' := by unfold givesU; kernel_rfl
noncomputable def rs20 : Code := cR (cR (cR (code 20)))
noncomputable def f20 (k n i : Int) (d : Nat → Value) : Fin := finOf (run X0 60 rs20 (s20 k n i d).tm (s20 k n i d).hp [])
theorem t20_ret (k n i : Int) (d : Nat → Value) : goodR (run X0 60 rs20 (s20 k n i d).tm (s20 k n i d).hp []) .ret [] := by unfold goodR; kernel_rfl
theorem t20_res (k n i : Int) (d : Nat → Value) : resultsS Tryd.prog (fnN 20) (f20 k n i d).tm (f20 k n i d).hp = some (.val (.int .u64 n)) := by kernel_rfl
theorem fn20_at : Tryd.prog.funcs[20]? = some (fnN 20) := by kernel_rfl
theorem fn20_body : (fnN 20).body = some (code 20) := by kernel_rfl
theorem fn20_tm (k : Int) : ([.val (.int .i64 k)] ++ List.replicate ((fnN 20).ntmps - [SV.val (.int .i64 k)].length) (.val undef) : List SV) = [.val (.int .i64 k)] ++ List.replicate 12 (.val undef) := by kernel_rfl
theorem loop20 (k : Nat) (hk : k < 64) (d : Nat → Value) (n0 : Nat) : WpE Tryd.prog (.loop LB20) n0 (s20 k 1 0 d) (fun r => r.e = .exit id20 ∧ WeakF n0 r.st (fun d => s20 k (2 ^ k : Nat) k d)) := by
  refine WpE.loopF (γ := {i : Nat // i ≤ k} × (Nat → Value)) (S := fun g => s20 k (2 ^ g.1.1 : Nat) g.1.1 g.2) (m := fun g => k - g.1.1) (fun g => ?_) (⟨0, by omega⟩, d)
  obtain ⟨⟨i, hi⟩, d⟩ := g
  by_cases h : i < k
  · refine (wpE_fu (X := X0) rfl X0_ct X0_lp (n := 60) (fg := fg20) (ans := [true]) (t20_round k (2 ^ i : Nat) i d) ⟨by simp; omega, trivial⟩).mono fun r hr => .inl ⟨hr.1, _, hr.2.1, fun d' => ⟨(⟨i + 1, by omega⟩, d'), by show k - (i + 1) < k - i; omega, ?_⟩⟩
    have e1 : IntKind.u64.wrap (2 * ((2 ^ i : Nat) : Int)) = ((2 ^ (i + 1) : Nat) : Int) := by
      have : 2 ^ (i + 1) ≤ 2 ^ 63 := Nat.pow_le_pow_right (by omega) (by omega)
      rw [wu64, Nat.pow_succ] at *
      omega
    have e2 : IntKind.i64.wrap ((i : Int) + 1) = ((i + 1 : Nat) : Int) := by rw [wi64]; omega
    rw [e1, e2]
  · have : i = k := by omega
    subst this
    refine (wpE_fu (X := X0) rfl X0_ct X0_lp (n := 60) (fg := fg20) (ans := [false]) (t20_end i (2 ^ i : Nat) i d) ⟨by simp, trivial⟩).mono fun r hr => .inr ⟨by rw [hr.1]; exact (fun e => by cases e), hr.1, hr.2.1⟩
theorem body20 (k : Nat) (hk : k < 64) (n0 : Nat) : WpE Tryd.prog (code 20) n0 (s20a k) (fun f => f.e = .ret ∧ ∃ d, f = f20 k (2 ^ k : Nat) k d) := by
  rw [code20]
  refine WpE.seq (wpE_run (X := X0) rfl X0_ct X0_lp (t20_a k) trivial) (fun f hf hn => ?_) (fun f hf hne => absurd hf.1 hne)
  obtain ⟨_, rfl⟩ := hf
  refine WpE.seq (wpE_run (X := X0) rfl X0_ct X0_lp (s := s20b k) (t20_b k) trivial) (fun f hf hn => ?_) (fun f hf hne => absurd hf.1 hne)
  obtain ⟨_, rfl⟩ := hf
  refine WpE.seq (F := fun f => f.e = .normal ∧ WeakF n0 f.st (fun d => s20 k (2 ^ k : Nat) k d)) (WpE.seq (wpE_fu (X := X0) rfl X0_ct X0_lp (s := s20c k) (T := fun d => s20 k 1 0 d) (fg := fg20) (ans := []) (t20_c k) trivial) (fun f hf hn => ?_) (fun f hf hne => absurd hf.1 hne)) (fun f hf hn => ?_) (fun f hf hne => absurd hf.1 hne)
  · refine wpE_weakF hf.2.1 fun d => WpE.block (loop20 k hk d n0) fun f hf => ?_
    obtain ⟨h1, h2⟩ := hf
    unfold Fin.unblock
    rw [h1]
    simp only [if_true]
    exact ⟨trivial, h2⟩
  · refine wpE_weakF hf.2 fun d => (wpE_run (X := X0) rfl X0_ct X0_lp (s := s20 k (2 ^ k : Nat) k d) (t20_ret k (2 ^ k : Nat) k d) trivial).mono fun f hf => ⟨hf.1, d, hf.2⟩
theorem call20 (k : Nat) (hk : k < 64) {w : World} {vs : List Value} (hargs : Rs [] [.val (.int .i64 k)] vs) :
    Calls Tryd.prog 20 vs.toArray w (fun e w' => ∃ v, e = .returned v ∧ R [] (.val (.int .u64 (2 ^ k : Nat))) v ∧ Below w.heap.size w w') := by
  have hb := body20 k hk 0
  unfold s20a at hb
  rw [← fn20_tm] at hb
  refine (calls_of_wpE fn20_at fn20_body (args := [.val (.int .i64 k)]) (hp := []) (F := fun f => f.e = .ret ∧ ∃ d, f = f20 k (2 ^ k : Nat) k d) (G := fun s' _ => s' = .val (.int .u64 (2 ^ k : Nat))) hb (fun f hf => ⟨.inr hf.1, _, by obtain ⟨d, e⟩ := hf.2; rw [e]; exact t20_res _ _ _ d, rfl⟩) (B := w.heap.size) (HR.none w) (Nat.le_refl _) hargs).mono fun e w' hq => ?_
  obtain ⟨v, μ, s', hp', e1, e2, e3, e4, rfl⟩ := hq
  exact ⟨v, e1, R.free _ _ rfl e2, e4⟩
def twoG (args : List SV) : Option (SV × Cnd) :=
  match args with
  | [.num .i64 (.ofNat k)] => if k < 64 then some (.num .u64 (Int.ofNat (2 ^ k)), .tt) else none
  | [.val (.int .i64 k)] => some (.val (.int .u64 ((2 ^ k.toNat : Nat) : Int)), .pr (0 ≤ k ∧ k < 64))
  | _ => none
theorem twoG_ok : ∀ args s c, twoG args = some (s, c) → c.Is → ∀ (w : World) (vs : List Value), Rs [] args vs →
    Calls Tryd.prog 20 vs.toArray w (fun e w' => ∃ v, e = .returned v ∧ R [] s v ∧ Below w.heap.size w w') := by
  intro args s c h hc w vs hargs
  unfold twoG at h
  split at h
  · rename_i k
    split at h
    · rename_i hk
      simp only [Option.some.injEq, Prod.mk.injEq] at h
      obtain ⟨rfl, rfl⟩ := h
      refine (call20 k hk (w := w) (vs := vs) ?_).mono fun e w' hq => ?_
      · obtain ⟨a, x, rfl, g1, g2⟩ := hargs.cons_inv
        exact Rs.cons (by simp only [R] at g1 ⊢; exact g1) g2
      · obtain ⟨v, rfl, hR, hb⟩ := hq
        exact ⟨v, rfl, by simp only [R] at hR ⊢; exact hR, hb⟩
    · simp at h
  · rename_i k
    simp only [Option.some.injEq, Prod.mk.injEq] at h
    obtain ⟨rfl, rfl⟩ := h
    obtain ⟨h0, h1⟩ := hc
    have e : k = ((k.toNat : Nat) : Int) := by omega
    rw [e] at hargs
    exact call20 k.toNat (by omega) hargs
  · simp at h
noncomputable def twoC : Con Tryd.prog := Con.one 20 twoG twoG_ok
noncomputable def X5 : Cx := conned twoC
/-! ### bits -/
theorem X5_ct : CtOk X5 := conned_ct twoC
theorem X5_lp : LpOk X5 := conned_lp twoC
noncomputable def LB34 : Code := cLp (cB (cR (cL (cR (cR (code 34))))))
noncomputable def id34 : Nat := bId (cR (cL (cR (cR (code 34)))))
theorem code34 : code 34 = .seq (cL (code 34)) (.seq (cL (cR (code 34))) (.seq (.seq (cL (cL (cR (cR (code 34))))) (.block id34 (.loop LB34))) (cR (cR (cR (code 34)))))) := by kernel_rfl
def fg34 : List Nat := List.range' 4 5 ++ List.range' 11 48
noncomputable def sB (a b c h n k : Int) (d : Nat → Value) : St := ⟨[.val (.int .u64 a), .val (.int .u64 b), .val (.int .u64 c), .val (.int .i64 h)] ++ (List.range' 4 5).map (fun i => .val (d i)) ++ [.val (.int .u64 n), .val (.int .i64 k)] ++ (List.range' 11 48).map (fun i => .val (d i)), []⟩
def xk (a k : Int) : Int := (IntKind.u64.wrap (a.tdiv ((2 ^ k.toNat : Nat) : Int))).tmod 2
def s3 (a b c k : Int) : Int := IntKind.u64.wrap (IntKind.u64.wrap (xk a k + xk b k) + xk c k)
def nx (n bit : Int) : Int := IntKind.u64.wrap (IntKind.u64.wrap (2 * n) + bit)
def LkP (k : Int) : List Prop := [decide (k ≥ 0) = true, 0 ≤ k ∧ k < 64, ((2 ^ k.toNat : Nat) : Int) ≠ 0, 0 ≤ k ∧ k < 64, ((2 ^ k.toNat : Nat) : Int) ≠ 0, 0 ≤ k ∧ k < 64, ((2 ^ k.toNat : Nat) : Int) ≠ 0]
theorem b34_0 (a b c h n k : Int) (d d' : Nat → Value) : givesU fg34 (run X5 60 LB34 (sB a b c h n k d).tm (sB a b c h n k d).hp [true, false, false]) .normal (sB a b c h (nx n ((s3 a b c k).tmod 2)) (IntKind.i64.wrap (k - 1)) d') (LkP k ++ [(h == 1) = false, (h == 2) = false]) d' := by unfold givesU; kernel_rfl
theorem b34_1 (a b c h n k : Int) (d d' : Nat → Value) : givesU fg34 (run X5 60 LB34 (sB a b c h n k d).tm (sB a b c h n k d).hp [true, true, false]) .normal (sB a b c h (nx n (IntKind.u64.wrap ((s3 a b c k).tdiv 2))) (IntKind.i64.wrap (k - 1)) d') (LkP k ++ [(h == 1) = true, (h == 2) = false]) d' := by unfold givesU; kernel_rfl
theorem b34_2 (a b c h n k : Int) (d d' : Nat → Value) : givesU fg34 (run X5 60 LB34 (sB a b c h n k d).tm (sB a b c h n k d).hp [true, false, true, true]) .normal (sB a b c h (nx n (xk b k)) (IntKind.i64.wrap (k - 1)) d') (LkP k ++ [(h == 1) = false, (h == 2) = true, (xk a k == 1) = true]) d' := by unfold givesU; kernel_rfl
theorem b34_3 (a b c h n k : Int) (d d' : Nat → Value) : givesU fg34 (run X5 60 LB34 (sB a b c h n k d).tm (sB a b c h n k d).hp [true, false, true, false]) .normal (sB a b c h (nx n (xk c k)) (IntKind.i64.wrap (k - 1)) d') (LkP k ++ [(h == 1) = false, (h == 2) = true, (xk a k == 1) = false]) d' := by unfold givesU; kernel_rfl
theorem b34_end (a b c h n k : Int) (d d' : Nat → Value) : givesU fg34 (run X5 60 LB34 (sB a b c h n k d).tm (sB a b c h n k d).hp [false]) (.exit id34) (sB a b c h n k d') [decide (k ≥ 0) = false] d' := by unfold givesU; kernel_rfl
/-! on plain numbers -/
def bitN (h a b c k : Nat) : Nat :=
  if h = 0 then (a / 2 ^ k % 2 + b / 2 ^ k % 2 + c / 2 ^ k % 2) % 2
  else if h = 1 then (a / 2 ^ k % 2 + b / 2 ^ k % 2 + c / 2 ^ k % 2) / 2
  else if a / 2 ^ k % 2 = 1 then b / 2 ^ k % 2 else c / 2 ^ k % 2
theorem bitN_lt (h a b c k : Nat) : bitN h a b c k < 2 := by
  unfold bitN
  split
  · omega
  · split
    · omega
    · split <;> omega
def accN (h a b c : Nat) : Nat → Nat
  | 0 => 0
  | m + 1 => 2 * accN h a b c m + bitN h a b c (31 - m)
theorem accN_lt (h a b c : Nat) : ∀ m, accN h a b c m < 2 ^ m
  | 0 => by simp [accN]
  | m + 1 => by
    have := accN_lt h a b c m
    have := bitN_lt h a b c (31 - m)
    rw [accN, Nat.pow_succ]; omega
theorem xk_N (a k : Nat) (h : a < 4294967296) (hk : k < 64) : xk a k = ((a / 2 ^ k % 2 : Nat) : Int) := by
  unfold xk
  have e1 : ((a : Int).tdiv ((2 ^ (k : Int).toNat : Nat) : Int)) = ((a / 2 ^ k : Nat) : Int) := by
    rw [Int.toNat_natCast, Int.tdiv_eq_ediv_of_nonneg (Int.natCast_nonneg _)]
    exact (Int.natCast_ediv _ _).symm
  have e2 : a / 2 ^ k ≤ a := Nat.div_le_self _ _
  rw [e1]
  generalize a / 2 ^ k = q at e2 ⊢
  rw [wu64, show (q : Int) % 18446744073709551616 = (q : Int) by omega, Int.tmod_eq_emod_of_nonneg (Int.natCast_nonneg _)]
  omega
theorem LkP_ok (k : Nat) (hk : k < 64) {r : List Prop} (hr : AllP r) : AllP (LkP k ++ r) := by
  have a : decide ((k : Int) ≥ 0) = true := by simp
  have b : (0 : Int) ≤ k ∧ (k : Int) < 64 := by omega
  have c : ((2 ^ (k : Int).toNat : Nat) : Int) ≠ 0 := by
    have : 0 < 2 ^ (k : Int).toNat := Nat.two_pow_pos _
    omega
  exact ⟨a, b, c, b, c, b, c, hr⟩
theorem loop34 (h a b c : Nat) (hh : h = 0 ∨ h = 1 ∨ h = 2) (ha : a < 4294967296) (hb : b < 4294967296) (hc : c < 4294967296) (d : Nat → Value) (n0 : Nat) :
    WpE Tryd.prog (.loop LB34) n0 (sB a b c h 0 31 d) (fun r => r.e = .exit id34 ∧ WeakF n0 r.st (fun d => sB a b c h (accN h a b c 32 : Nat) (-1) d)) := by
  refine WpE.loopF (γ := {m : Nat // m ≤ 32} × (Nat → Value)) (S := fun g => sB a b c h (accN h a b c g.1.1 : Nat) (31 - (g.1.1 : Int)) g.2) (m := fun g => 32 - g.1.1) (fun g => ?_) (⟨0, by omega⟩, d)
  obtain ⟨⟨m, hm⟩, d⟩ := g
  by_cases hlt : m < 32
  · have ek : (31 - (m : Int)) = ((31 - m : Nat) : Int) := by omega
    have ekk : IntKind.i64.wrap (((31 - m : Nat) : Int) - 1) = 31 - ((m + 1 : Nat) : Int) := by rw [wi64]; omega
    have hn := accN_lt h a b c m
    have hp : 2 ^ m ≤ 2 ^ 31 := Nat.pow_le_pow_right (by omega) (by omega)
    have hbt := bitN_lt h a b c (31 - m)
    have hx := xk_N a (31 - m) ha (by omega)
    have hy := xk_N b (31 - m) hb (by omega)
    have hz := xk_N c (31 - m) hc (by omega)
    have fin : ∀ bit : Int, bit = (bitN h a b c (31 - m) : Nat) → nx (accN h a b c m : Nat) bit = (accN h a b c (m + 1) : Nat) := by
      intro bit e
      subst e
      unfold nx
      rw [wu64, wu64, accN]; omega
    have go : ∀ {ans : List Bool} {bit : Int} {L : List Prop}, (∀ d', givesU fg34 (run X5 60 LB34 (sB a b c h (accN h a b c m : Nat) ((31 - m : Nat) : Int) d).tm (sB a b c h (accN h a b c m : Nat) ((31 - m : Nat) : Int) d).hp ans) .normal (sB a b c h (nx (accN h a b c m : Nat) bit) (IntKind.i64.wrap (((31 - m : Nat) : Int) - 1)) d') L d') → AllP L → bit = (bitN h a b c (31 - m) : Nat) →
        WpE Tryd.prog LB34 n0 (sB a b c h (accN h a b c m : Nat) ((31 - m : Nat) : Int) d) (fun r => (r.e = .normal ∧ ∃ T, WeakF n0 r.st T ∧ ∀ d', ∃ g' : {m : Nat // m ≤ 32} × (Nat → Value), 32 - g'.1.1 < 32 - m ∧ T d' = sB a b c h (accN h a b c g'.1.1 : Nat) (31 - (g'.1.1 : Int)) g'.2) ∨ (r.e ≠ .normal ∧ r.e = .exit id34 ∧ WeakF n0 r.st (fun d => sB a b c h (accN h a b c 32 : Nat) (-1) d))) := fun {ans bit L} hg hL hbit =>
      (wpE_fu (P := Tryd.prog) (X := X5) rfl X5_ct X5_lp (n := 60) (fg := fg34) (ans := ans) hg hL).mono fun r hr => .inl ⟨hr.1, _, hr.2.1, fun d' => ⟨(⟨m + 1, by omega⟩, d'), by show 32 - (m + 1) < 32 - m; omega, by rw [fin bit hbit, ekk]⟩⟩
    show WpE Tryd.prog LB34 n0 (sB a b c h (accN h a b c m : Nat) (31 - (m : Int)) d) _
    rw [ek]
    have e3 : s3 a b c ((31 - m : Nat) : Int) = ((a / 2 ^ (31 - m) % 2 + b / 2 ^ (31 - m) % 2 + c / 2 ^ (31 - m) % 2 : Nat) : Int) := by
      unfold s3
      rw [hx, hy, hz, wu64, wu64]; omega
    rcases hh with rfl | rfl | rfl
    · refine go (b34_0 a b c (0 : Nat) _ ((31 - m : Nat) : Int) d) (LkP_ok _ (by omega) ⟨rfl, rfl, trivial⟩) ?_
      rw [e3, Int.tmod_eq_emod_of_nonneg (Int.natCast_nonneg _)]
      unfold bitN; rw [if_pos rfl]; omega
    · refine go (b34_1 a b c (1 : Nat) _ ((31 - m : Nat) : Int) d) (LkP_ok _ (by omega) ⟨rfl, rfl, trivial⟩) ?_
      rw [e3, Int.tdiv_eq_ediv_of_nonneg (Int.natCast_nonneg _), wu64]
      unfold bitN; rw [if_neg (by decide), if_pos rfl]; omega
    · by_cases h1 : a / 2 ^ (31 - m) % 2 = 1
      · refine go (b34_2 a b c (2 : Nat) _ ((31 - m : Nat) : Int) d) (LkP_ok _ (by omega) ⟨rfl, rfl, by rw [hx, h1]; rfl, trivial⟩) ?_
        rw [hy]
        unfold bitN; rw [if_neg (by decide), if_neg (by decide), if_pos h1]
      · refine go (b34_3 a b c (2 : Nat) _ ((31 - m : Nat) : Int) d) (LkP_ok _ (by omega) ⟨rfl, rfl, by rw [hx, show a / 2 ^ (31 - m) % 2 = 0 by omega]; rfl, trivial⟩) ?_
        rw [hz]
        unfold bitN; rw [if_neg (by decide), if_neg (by decide), if_neg h1]
  · have : m = 32 := by omega
    subst this
    refine (wpE_fu (X := X5) rfl X5_ct X5_lp (n := 60) (fg := fg34) (ans := [false]) (b34_end a b c h (accN h a b c 32 : Nat) (31 - ((32 : Nat) : Int)) d) ⟨by decide, trivial⟩).mono fun r hr => .inr ⟨by rw [hr.1]; exact (fun e => by cases e), hr.1, hr.2.1⟩
noncomputable def s34a (a b c h : Int) : St := ⟨[.val (.int .u64 a), .val (.int .u64 b), .val (.int .u64 c), .val (.int .i64 h)] ++ List.replicate 55 (.val undef), []⟩
noncomputable def s34b (a b c h : Int) : St := (finOf (run X5 60 (cL (code 34)) (s34a a b c h).tm (s34a a b c h).hp [])).st
noncomputable def s34c (a b c h : Int) : St := (finOf (run X5 60 (cL (cR (code 34))) (s34b a b c h).tm (s34b a b c h).hp [])).st
theorem t34_a (a b c h : Int) : goodR (run X5 60 (cL (code 34)) (s34a a b c h).tm (s34a a b c h).hp []) .normal [] := by unfold goodR; kernel_rfl
theorem t34_b (a b c h : Int) : goodR (run X5 60 (cL (cR (code 34))) (s34b a b c h).tm (s34b a b c h).hp []) .normal [] := by unfold goodR; kernel_rfl
theorem t34_c (a b c h : Int) (d : Nat → Value) : givesU fg34 (run X5 60 (cL (cL (cR (cR (code 34))))) (s34c a b c h).tm (s34c a b c h).hp []) .normal (sB a b c h 0 31 d) [] d := by unfold givesU; kernel_rfl
noncomputable def rs34 : Code := cR (cR (cR (code 34)))
noncomputable def f34 (a b c h n k : Int) (d : Nat → Value) : Fin := finOf (run X5 60 rs34 (sB a b c h n k d).tm (sB a b c h n k d).hp [])
theorem t34_ret (a b c h n k : Int) (d : Nat → Value) : goodR (run X5 60 rs34 (sB a b c h n k d).tm (sB a b c h n k d).hp []) .ret [] := by unfold goodR; kernel_rfl
theorem t34_res (a b c h n k : Int) (d : Nat → Value) : resultsS Tryd.prog (fnN 34) (f34 a b c h n k d).tm (f34 a b c h n k d).hp = some (.val (.int .u64 n)) := by kernel_rfl
theorem fn34_at : Tryd.prog.funcs[34]? = some (fnN 34) := by kernel_rfl
theorem fn34_body : (fnN 34).body = some (code 34) := by kernel_rfl
def args34 (a b c h : Int) : List SV := [.val (.int .u64 a), .val (.int .u64 b), .val (.int .u64 c), .val (.int .i64 h)]
theorem fn34_tm (a b c h : Int) : (args34 a b c h ++ List.replicate ((fnN 34).ntmps - (args34 a b c h).length) (.val undef) : List SV) = args34 a b c h ++ List.replicate 55 (.val undef) := by kernel_rfl
theorem body34 (h a b c : Nat) (hh : h = 0 ∨ h = 1 ∨ h = 2) (ha : a < 4294967296) (hb : b < 4294967296) (hc : c < 4294967296) (n0 : Nat) : WpE Tryd.prog (code 34) n0 (s34a a b c h) (fun f => f.e = .ret ∧ ∃ d, f = f34 a b c h (accN h a b c 32 : Nat) (-1) d) := by
  rw [code34]
  refine WpE.seq (wpE_run (X := X5) rfl X5_ct X5_lp (t34_a a b c h) trivial) (fun f hf hn => ?_) (fun f hf hne => absurd hf.1 hne)
  obtain ⟨_, rfl⟩ := hf
  refine WpE.seq (wpE_run (X := X5) rfl X5_ct X5_lp (s := s34b a b c h) (t34_b a b c h) trivial) (fun f hf hn => ?_) (fun f hf hne => absurd hf.1 hne)
  obtain ⟨_, rfl⟩ := hf
  refine WpE.seq (F := fun f => f.e = .normal ∧ WeakF n0 f.st (fun d => sB a b c h (accN h a b c 32 : Nat) (-1) d)) (WpE.seq (wpE_fu (X := X5) rfl X5_ct X5_lp (s := s34c a b c h) (T := fun d => sB a b c h 0 31 d) (fg := fg34) (ans := []) (t34_c a b c h) trivial) (fun f hf hn => ?_) (fun f hf hne => absurd hf.1 hne)) (fun f hf hn => ?_) (fun f hf hne => absurd hf.1 hne)
  · refine wpE_weakF hf.2.1 fun d => WpE.block (loop34 h a b c hh ha hb hc d n0) fun f hf => ?_
    obtain ⟨h1, h2⟩ := hf
    unfold Fin.unblock
    rw [h1]
    simp only [if_true]
    exact ⟨trivial, h2⟩
  · refine wpE_weakF hf.2 fun d => (wpE_run (X := X5) rfl X5_ct X5_lp (s := sB a b c h (accN h a b c 32 : Nat) (-1) d) (t34_ret a b c h (accN h a b c 32 : Nat) (-1) d) trivial).mono fun f hf => ⟨hf.1, d, hf.2⟩
theorem call34 (h a b c : Nat) (hh : h = 0 ∨ h = 1 ∨ h = 2) (ha : a < 4294967296) (hb : b < 4294967296) (hc : c < 4294967296) {w : World} {vs : List Value} (hargs : Rs [] (args34 a b c h) vs) :
    Calls Tryd.prog 34 vs.toArray w (fun e w' => ∃ v, e = .returned v ∧ R [] (.val (.int .u64 (accN h a b c 32 : Nat))) v ∧ Below w.heap.size w w') := by
  have hb := body34 h a b c hh ha hb hc 0
  have e : s34a a b c h = ⟨args34 a b c h ++ List.replicate 55 (.val undef), []⟩ := rfl
  rw [e, ← fn34_tm] at hb
  refine (calls_of_wpE fn34_at fn34_body (args := args34 a b c h) (hp := []) (F := fun f => f.e = .ret ∧ ∃ d, f = f34 a b c h (accN h a b c 32 : Nat) (-1) d) (G := fun s' _ => s' = .val (.int .u64 (accN h a b c 32 : Nat))) hb (fun f hf => ⟨.inr hf.1, _, by obtain ⟨d, e⟩ := hf.2; rw [e]; exact t34_res _ _ _ _ _ _ d, rfl⟩) (B := w.heap.size) (HR.none w) (Nat.le_refl _) hargs).mono fun e w' hq => ?_
  obtain ⟨v, μ, s', hp', e1, e2, e3, e4, rfl⟩ := hq
  exact ⟨v, e1, R.free _ _ rfl e2, e4⟩
/-! ### what it is, bit by bit -/
theorem accN_of {h a b c F : Nat} (hF : F < 4294967296) (hb : ∀ k, k < 32 → F / 2 ^ k % 2 = bitN h a b c k) : accN h a b c 32 = F := by
  have key : ∀ m, m ≤ 32 → accN h a b c m = F / 2 ^ (32 - m) := by
    intro m
    induction m with
    | zero => intro _; rw [accN]; exact (Nat.div_eq_of_lt hF).symm
    | succ m ih =>
      intro hm
      rw [accN, ih (by omega), ← hb (31 - m) (by omega)]
      have : F / 2 ^ (32 - m) = F / 2 ^ (31 - m) / 2 := by
        rw [Nat.div_div_eq_div_mul, ← Nat.pow_succ]
        congr 2
        omega
      rw [this, show 32 - (m + 1) = 31 - m by omega]
      omega
  have := key 32 (by omega)
  simpa using this
theorem tb (x k : Nat) : x / 2 ^ k % 2 = (x.testBit k).toNat := (Nat.toNat_testBit x k).symm
theorem acc_xor {a b c : Nat} (ha : a < 4294967296) (hb : b < 4294967296) (hc : c < 4294967296) : accN 0 a b c 32 = (a ^^^ b) ^^^ c := by
  refine accN_of (Nat.xor_lt_two_pow (n := 32) (Nat.xor_lt_two_pow (n := 32) ha hb) hc) fun k hk => ?_
  unfold bitN
  rw [if_pos rfl, tb, tb a, tb b, tb c, Nat.testBit_xor, Nat.testBit_xor]
  cases a.testBit k <;> cases b.testBit k <;> cases c.testBit k <;> rfl
theorem acc_maj {a b c : Nat} (ha : a < 4294967296) (hb : b < 4294967296) (hc : c < 4294967296) : accN 1 a b c 32 = nmj a b c := by
  refine accN_of ?_ fun k hk => ?_
  · exact Nat.or_lt_two_pow (n := 32) (Nat.or_lt_two_pow (n := 32) (Nat.and_lt_two_pow (n := 32) _ hb) (Nat.and_lt_two_pow (n := 32) _ hc)) (Nat.and_lt_two_pow (n := 32) _ hc)
  · unfold bitN nmj
    rw [if_neg (by decide), if_pos rfl, tb, tb a, tb b, tb c, Nat.testBit_or, Nat.testBit_or, Nat.testBit_and, Nat.testBit_and, Nat.testBit_and]
    cases a.testBit k <;> cases b.testBit k <;> cases c.testBit k <;> rfl
theorem acc_ch {a b c : Nat} (ha : a < 4294967296) (hb : b < 4294967296) (hc : c < 4294967296) : accN 2 a b c 32 = nch a b c := by
  refine accN_of ?_ fun k hk => ?_
  · exact Nat.or_lt_two_pow (n := 32) (Nat.and_lt_two_pow (n := 32) _ hb) (Nat.and_lt_two_pow (n := 32) _ hc)
  · unfold bitN nch
    have e : (4294967295 : Nat).testBit k = true := by
      have := Nat.testBit_two_pow_sub_one 32 k
      rw [show (2 ^ 32 - 1 : Nat) = 4294967295 by rfl] at this
      rw [this]; simpa using hk
    rw [if_neg (by decide), if_neg (by decide), tb, tb a, tb b, tb c, Nat.testBit_or, Nat.testBit_and, Nat.testBit_and, Nat.testBit_xor, e]
    cases a.testBit k <;> cases b.testBit k <;> cases c.testBit k <;> rfl
noncomputable def rawP (g : Raw) : Cx :=
  ⟨Tryd.prog, fun f args hp => match g f args hp with
    | some (s, c) => if s.free then some (s, none, c) else none
    | none => none, fun _ _ _ _ => none⟩
theorem rawP_lp (g : Raw) : LpOk (rawP g) := fun _ _ _ _ _ _ _ h => by simp [rawP] at h
theorem rawP_ct {g : Raw} (hg : g.Ok) : CtOk (rawP g) := by
  intro f args hp s ho c h hc B η w vs hr hB hargs
  simp only [rawP] at h
  split at h
  · rename_i s1 c1 h1
    split at h
    · rename_i hs
      simp only [Option.some.injEq, Prod.mk.injEq] at h
      obtain ⟨rfl, rfl, rfl⟩ := h
      refine (hg f args hp _ _ h1 hc B η w vs hr hargs).mono fun e w' hq => ?_
      obtain ⟨v, rfl, hR, hb⟩ := hq
      exact ⟨v, [], rfl, R.free _ _ hs hR, by simpa using hr.below hb, hb.mono hB⟩
    · simp at h
  · simp at h
noncomputable def twoR : Raw := fun f args _ => if f = 20 then twoG args else none
theorem twoG_free {args : List SV} {s : SV} {c : Cnd} (h : twoG args = some (s, c)) : frees args = true := by
  unfold twoG at h
  split at h
  · rfl
  · rfl
  · simp at h
theorem twoR_ok : twoR.Ok := by
  intro f args hp s c h hc B η w vs hr hargs
  unfold twoR at h
  split at h
  · rename_i hf; subst hf
    exact twoG_ok args s c h hc w vs (Rs.free _ _ (twoG_free h) hargs)
  · simp at h
abbrev BI := Int → Int → Int → Int → Int
def P34 (h a b c : Int) : Prop := (h = 0 ∨ h = 1 ∨ h = 2) ∧ (0 ≤ a ∧ a < 4294967296) ∧ (0 ≤ b ∧ b < 4294967296) ∧ (0 ≤ c ∧ c < 4294967296)
noncomputable def bitsR (bI : BI) : Raw := fun f args _ =>
  if f = 34 then
    match args with
    | [.val (.int .u64 a), .val (.int .u64 b), .val (.int .u64 c), .num .i64 h] => some (.val (.int .u64 (bI h a b c)), .pr (P34 h a b c))
    | _ => none
  else none
def bL : BI := fun h a b c => (accN h.toNat a.toNat b.toNat c.toNat 32 : Nat)
theorem bitsR_ok : (bitsR bL).Ok := by
  intro f args hp s c h hc B η w vs hr hargs
  unfold bitsR at h
  split at h
  · rename_i hf; subst hf
    split at h
    · rename_i a b c' h'
      simp only [Option.some.injEq, Prod.mk.injEq] at h
      obtain ⟨rfl, rfl⟩ := h
      obtain ⟨hh, ha, hb, hc⟩ := hc
      obtain ⟨a, rfl⟩ := Int.eq_ofNat_of_zero_le ha.1
      obtain ⟨b, rfl⟩ := Int.eq_ofNat_of_zero_le hb.1
      obtain ⟨c, rfl⟩ := Int.eq_ofNat_of_zero_le hc.1
      obtain ⟨h, rfl⟩ : ∃ h : Nat, h' = h := by
        rcases hh with rfl | rfl | rfl
        · exact ⟨0, rfl⟩
        · exact ⟨1, rfl⟩
        · exact ⟨2, rfl⟩
      refine call34 h a b c (by omega) (by omega) (by omega) (by omega) (Rs.free (η := η) _ _ rfl ?_)
      obtain ⟨x0, r0, rfl, g0, k0⟩ := hargs.cons_inv
      obtain ⟨x1, r1, rfl, g1, k1⟩ := k0.cons_inv
      obtain ⟨x2, r2, rfl, g2, k2⟩ := k1.cons_inv
      obtain ⟨x3, r3, rfl, g3, k3⟩ := k2.cons_inv
      exact Rs.cons g0 (Rs.cons g1 (Rs.cons g2 (Rs.cons (by simp only [R] at g3 ⊢; exact g3) k3)))
    · simp at h
  · simp at h
noncomputable def refG (bI : BI) : Raw := twoR.or (bitsR bI)
theorem refG_ok : (refG bL).Ok := Raw.or_ok twoR_ok bitsR_ok
/-! ### the reference's small functions, named -/
structure Rf where
  A : List Int → Int
  U : Int → Int → Int
  V : Int → Int → Int
  B : BI
def pw (k : Int) : Int := ((2 ^ k.toNat : Nat) : Int)
def tnL (x k : Int) : Int := IntKind.u64.wrap (IntKind.u64.wrap (x.tdiv (pw k)) + IntKind.u64.wrap (x.tmod (pw k) * pw (32 - k)))
def mvL (x k : Int) : Int := IntKind.u64.wrap (x.tdiv (pw k))
def adL (l : List Int) : Int := l.foldl (fun n x => (IntKind.u64.wrap (n + x)).tmod 4294967296) 0
def rfL : Rf := ⟨adL, tnL, mvL, bL⟩
def u64s : List SV → Option (List Int)
  | [] => some []
  | .val (.int .u64 z) :: r => match u64s r with
    | some l => some (z :: l)
    | none => none
  | _ => none
theorem u64s_eq : ∀ {l : List SV} {zs : List Int}, u64s l = some zs → l = zs.map fun z => .val (.int .u64 z)
  | [], zs, h => by simp only [u64s, Option.some.injEq] at h; subst h; rfl
  | s :: l, zs, h => by
    unfold u64s at h
    split at h
    · simp at *
    · rename_i z r heq
      simp only [List.cons.injEq] at heq
      obtain ⟨rfl, rfl⟩ := heq
      split at h
      · rename_i m hm
        simp only [Option.some.injEq] at h; subst h
        rw [List.map_cons, ← u64s_eq hm]
      · simp at h
    · simp at h
def kT : List Int := [7, 18, 17, 19, 6, 11, 25, 2, 13, 22]
def kM : List Int := [3, 10]
def smR (q : Rf) : Raw := fun f args hp =>
  if f = 26 then
    match args with
    | [.slc k 0 n m] =>
      match hp[k]? with
      | some (.cells _ l) =>
        match u64s l with
        | some zs => if n = zs.length ∧ m = zs.length ∧ (zs.length = 2 ∨ zs.length = 4 ∨ zs.length = 5) then some (.val (.int .u64 (q.A zs)), .pr (q.A = adL)) else none
        | none => none
      | _ => none
    | _ => none
  else if f = 28 then
    match args with
    | [.val (.int .u64 x), .num .i64 k] => if kT.contains k then some (.val (.int .u64 (q.U x k)), .pr (q.U = tnL)) else none
    | _ => none
  else if f = 33 then
    match args with
    | [.val (.int .u64 x), .num .i64 k] => if kM.contains k then some (.val (.int .u64 (q.V x k)), .pr (q.V = mvL)) else none
    | _ => none
  else if f = 27 ∨ f = 29 ∨ f = 30 then
    match args with
    | [.val (.int .u64 a), .val (.int .u64 b), .val (.int .u64 c)] => some (.val (.int .u64 (q.B (if f = 27 then 0 else if f = 30 then 1 else 2) a b c)), .pr (q.B = bL ∧ P34 (if f = 27 then 0 else if f = 30 then 1 else 2) a b c))
    | _ => none
  else if f = 20 then twoG args
  else none
theorem ad_2 (x y : Int) : givesV (topR (rawP twoR) (run (rawP twoR) 80) 26 [.slc 0 0 2 2] [.cells false [.val (.int .u64 x), .val (.int .u64 y)]] []) (.val (.int .u64 (adL [x, y]))) [] := by unfold givesV; kernel_rfl
theorem ad_4 (x y z v : Int) : givesV (topR (rawP twoR) (run (rawP twoR) 80) 26 [.slc 0 0 4 4] [.cells false [.val (.int .u64 x), .val (.int .u64 y), .val (.int .u64 z), .val (.int .u64 v)]] []) (.val (.int .u64 (adL [x, y, z, v]))) [] := by unfold givesV; kernel_rfl
theorem ad_5 (x y z v u : Int) : givesV (topR (rawP twoR) (run (rawP twoR) 80) 26 [.slc 0 0 5 5] [.cells false [.val (.int .u64 x), .val (.int .u64 y), .val (.int .u64 z), .val (.int .u64 v), .val (.int .u64 u)]] []) (.val (.int .u64 (adL [x, y, z, v, u]))) [] := by unfold givesV; kernel_rfl
theorem tn_7 (x : Int) : givesV (topR (rawP twoR) (run (rawP twoR) 80) 28 [.val (.int .u64 x), .num .i64 7] [] []) (.val (.int .u64 (tnL x 7))) [] := by unfold givesV; kernel_rfl
theorem tn_18 (x : Int) : givesV (topR (rawP twoR) (run (rawP twoR) 80) 28 [.val (.int .u64 x), .num .i64 18] [] []) (.val (.int .u64 (tnL x 18))) [] := by unfold givesV; kernel_rfl
theorem tn_17 (x : Int) : givesV (topR (rawP twoR) (run (rawP twoR) 80) 28 [.val (.int .u64 x), .num .i64 17] [] []) (.val (.int .u64 (tnL x 17))) [] := by unfold givesV; kernel_rfl
theorem tn_19 (x : Int) : givesV (topR (rawP twoR) (run (rawP twoR) 80) 28 [.val (.int .u64 x), .num .i64 19] [] []) (.val (.int .u64 (tnL x 19))) [] := by unfold givesV; kernel_rfl
theorem tn_6 (x : Int) : givesV (topR (rawP twoR) (run (rawP twoR) 80) 28 [.val (.int .u64 x), .num .i64 6] [] []) (.val (.int .u64 (tnL x 6))) [] := by unfold givesV; kernel_rfl
theorem tn_11 (x : Int) : givesV (topR (rawP twoR) (run (rawP twoR) 80) 28 [.val (.int .u64 x), .num .i64 11] [] []) (.val (.int .u64 (tnL x 11))) [] := by unfold givesV; kernel_rfl
theorem tn_25 (x : Int) : givesV (topR (rawP twoR) (run (rawP twoR) 80) 28 [.val (.int .u64 x), .num .i64 25] [] []) (.val (.int .u64 (tnL x 25))) [] := by unfold givesV; kernel_rfl
theorem tn_2 (x : Int) : givesV (topR (rawP twoR) (run (rawP twoR) 80) 28 [.val (.int .u64 x), .num .i64 2] [] []) (.val (.int .u64 (tnL x 2))) [] := by unfold givesV; kernel_rfl
theorem tn_13 (x : Int) : givesV (topR (rawP twoR) (run (rawP twoR) 80) 28 [.val (.int .u64 x), .num .i64 13] [] []) (.val (.int .u64 (tnL x 13))) [] := by unfold givesV; kernel_rfl
theorem tn_22 (x : Int) : givesV (topR (rawP twoR) (run (rawP twoR) 80) 28 [.val (.int .u64 x), .num .i64 22] [] []) (.val (.int .u64 (tnL x 22))) [] := by unfold givesV; kernel_rfl
theorem mv_3 (x : Int) : givesV (topR (rawP twoR) (run (rawP twoR) 80) 33 [.val (.int .u64 x), .num .i64 3] [] []) (.val (.int .u64 (mvL x 3))) [] := by unfold givesV; kernel_rfl
theorem mv_10 (x : Int) : givesV (topR (rawP twoR) (run (rawP twoR) 80) 33 [.val (.int .u64 x), .num .i64 10] [] []) (.val (.int .u64 (mvL x 10))) [] := by unfold givesV; kernel_rfl
theorem bt_71 (bI : BI) (a b c : Int) : givesV (topR (rawP (refG bI)) (run (rawP (refG bI)) 80) 27 [.val (.int .u64 a), .val (.int .u64 b), .val (.int .u64 c)] [] []) (.val (.int .u64 (bI 0 a b c))) [P34 0 a b c] := by unfold givesV; kernel_rfl
theorem bt_74 (bI : BI) (a b c : Int) : givesV (topR (rawP (refG bI)) (run (rawP (refG bI)) 80) 30 [.val (.int .u64 a), .val (.int .u64 b), .val (.int .u64 c)] [] []) (.val (.int .u64 (bI 1 a b c))) [P34 1 a b c] := by unfold givesV; kernel_rfl
theorem bt_73 (bI : BI) (a b c : Int) : givesV (topR (rawP (refG bI)) (run (rawP (refG bI)) 80) 29 [.val (.int .u64 a), .val (.int .u64 b), .val (.int .u64 c)] [] []) (.val (.int .u64 (bI 2 a b c))) [P34 2 a b c] := by unfold givesV; kernel_rfl
theorem u64s_free : ∀ zs : List Int, frees (zs.map fun z => SV.val (.int .u64 z)) = true
  | [] => rfl
  | z :: l => by simp only [List.map_cons, frees, Bool.and_eq_true]; exact ⟨rfl, u64s_free l⟩
theorem smR_ok (q : Rf) : (smR q).Ok := by
  intro f args hp s c h hc B η w vs hr hargs
  have h0 : HR w.heap.size [] [] w := HR.none w
  unfold smR at h
  split at h
  · rename_i hf; subst hf
    split at h
    · rename_i k n m
      split at h
      · rename_i wr l hk
        split at h
        · rename_i zs hz
          split at h
          · rename_i hcase
            simp only [Option.some.injEq, Prod.mk.injEq] at h
            obtain ⟨rfl, rfl⟩ := h
            have hc : q.A = adL := hc
            have hl := u64s_eq hz
            obtain ⟨rfl, rfl, hlen⟩ := hcase
            obtain ⟨v, e1, hs⟩ := HR.single hr hk (by rw [hl]; exact u64s_free zs)
            rw [hc]
            have ha : Rs [v] [.slc 0 0 zs.length zs.length] vs := by
              obtain ⟨a, x, rfl, g1, g2⟩ := hargs.cons_inv
              simp only [Rs] at g2; subst g2
              obtain ⟨b, o, x1, x2⟩ := g1
              rw [e1] at x1
              simp only [Option.some.injEq] at x1
              subst x1
              exact Rs.cons ⟨b, o, rfl, x2⟩ Rs.nil
            subst hl
            rcases hlen with h2 | h4 | h5
            · match zs, h2 with
              | [x, y], _ => exact callsV (X := rawP twoR) rfl (rawP_ct twoR_ok) (rawP_lp _) 80 (ad_2 x y) trivial rfl (hs _) ha
            · match zs, h4 with
              | [x, y, z, t], _ => exact callsV (X := rawP twoR) rfl (rawP_ct twoR_ok) (rawP_lp _) 80 (ad_4 x y z t) trivial rfl (hs _) ha
            · match zs, h5 with
              | [x, y, z, t, u], _ => exact callsV (X := rawP twoR) rfl (rawP_ct twoR_ok) (rawP_lp _) 80 (ad_5 x y z t u) trivial rfl (hs _) ha
          · simp at h
        · simp at h
      · simp at h
    · simp at h
  · split at h
    · rename_i hf; subst hf
      split at h
      · rename_i x k
        split at h
        · rename_i hk
          simp only [Option.some.injEq, Prod.mk.injEq] at h
          obtain ⟨rfl, rfl⟩ := h
          have hc : q.U = tnL := hc
          rw [hc]
          have ha : Rs [] [.val (.int .u64 x), .num .i64 k] vs := Rs.free _ _ rfl hargs
          have hm : k ∈ kT := by simpa using hk
          unfold kT at hm
          simp only [List.mem_cons, List.not_mem_nil, or_false] at hm
          rcases hm with rfl | rfl | rfl | rfl | rfl | rfl | rfl | rfl | rfl | rfl
          · exact callsV (X := rawP twoR) rfl (rawP_ct twoR_ok) (rawP_lp _) 80 (tn_7 x) trivial rfl h0 ha
          · exact callsV (X := rawP twoR) rfl (rawP_ct twoR_ok) (rawP_lp _) 80 (tn_18 x) trivial rfl h0 ha
          · exact callsV (X := rawP twoR) rfl (rawP_ct twoR_ok) (rawP_lp _) 80 (tn_17 x) trivial rfl h0 ha
          · exact callsV (X := rawP twoR) rfl (rawP_ct twoR_ok) (rawP_lp _) 80 (tn_19 x) trivial rfl h0 ha
          · exact callsV (X := rawP twoR) rfl (rawP_ct twoR_ok) (rawP_lp _) 80 (tn_6 x) trivial rfl h0 ha
          · exact callsV (X := rawP twoR) rfl (rawP_ct twoR_ok) (rawP_lp _) 80 (tn_11 x) trivial rfl h0 ha
          · exact callsV (X := rawP twoR) rfl (rawP_ct twoR_ok) (rawP_lp _) 80 (tn_25 x) trivial rfl h0 ha
          · exact callsV (X := rawP twoR) rfl (rawP_ct twoR_ok) (rawP_lp _) 80 (tn_2 x) trivial rfl h0 ha
          · exact callsV (X := rawP twoR) rfl (rawP_ct twoR_ok) (rawP_lp _) 80 (tn_13 x) trivial rfl h0 ha
          · exact callsV (X := rawP twoR) rfl (rawP_ct twoR_ok) (rawP_lp _) 80 (tn_22 x) trivial rfl h0 ha
        · simp at h
      · simp at h
    · split at h
      · rename_i hf; subst hf
        split at h
        · rename_i x k
          split at h
          · rename_i hk
            simp only [Option.some.injEq, Prod.mk.injEq] at h
            obtain ⟨rfl, rfl⟩ := h
            have hc : q.V = mvL := hc
            rw [hc]
            have ha : Rs [] [.val (.int .u64 x), .num .i64 k] vs := Rs.free _ _ rfl hargs
            have hm : k ∈ kM := by simpa using hk
            unfold kM at hm
            simp only [List.mem_cons, List.not_mem_nil, or_false] at hm
            rcases hm with rfl | rfl
            · exact callsV (X := rawP twoR) rfl (rawP_ct twoR_ok) (rawP_lp _) 80 (mv_3 x) trivial rfl h0 ha
            · exact callsV (X := rawP twoR) rfl (rawP_ct twoR_ok) (rawP_lp _) 80 (mv_10 x) trivial rfl h0 ha
          · simp at h
        · simp at h
      · split at h
        · rename_i hf
          split at h
          · rename_i a b c'
            simp only [Option.some.injEq, Prod.mk.injEq] at h
            obtain ⟨rfl, rfl⟩ := h
            have hc : q.B = bL ∧ P34 (if f = 27 then 0 else if f = 30 then 1 else 2) a b c' := hc
            obtain ⟨hb, hp⟩ := hc
            rw [hb]
            have ha : Rs [] [.val (.int .u64 a), .val (.int .u64 b), .val (.int .u64 c')] vs := Rs.free _ _ rfl hargs
            rcases hf with rfl | rfl | rfl
            · exact callsV (X := rawP (refG bL)) rfl (rawP_ct refG_ok) (rawP_lp _) 80 (bt_71 bL a b c') ⟨hp, trivial⟩ rfl h0 ha
            · exact callsV (X := rawP (refG bL)) rfl (rawP_ct refG_ok) (rawP_lp _) 80 (bt_73 bL a b c') ⟨hp, trivial⟩ rfl h0 ha
            · exact callsV (X := rawP (refG bL)) rfl (rawP_ct refG_ok) (rawP_lp _) 80 (bt_74 bL a b c') ⟨hp, trivial⟩ rfl h0 ha
          · simp at h
        · split at h
          · rename_i hf; subst hf
            exact twoG_ok args s c h hc w vs (Rs.free _ _ (twoG_free h) hargs)
          · simp at h
end Go.Proofs.YtgefcokanfbpbaaDoor
