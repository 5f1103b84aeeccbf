/-
  Walks of functions, reckoned through, and what they give (part W07c). No condition beyond what each says. By an AI agent.
-/
import Derived.Test.YtacgamdbmllaoaaDoorW07b
import Derived.Test.YtacgamdbmllaoaaDoorW07a
import Derived.Test.YtacgamdbmllaoaaDoorW07v0
import Derived.Test.YtacgamdbmllaoaaDoorW07v1
import Derived.Test.YtacgamdbmllaoaaDoorW07w0
import Derived.Test.YtacgamdbmllaoaaDoorW07w1
import Derived.Test.YtacgamdbmllaoaaDoorW07w2
import Derived.Test.YtacgamdbmllaoaaDoorW07w3
import Derived.Test.YtacgamdbmllaoaaDoorW07k0
import Derived.Test.YtacgamdbmllaoaaDoorW07k1
import Derived.Test.YtacgamdbmllaoaaDoorW07k2
import Derived.Test.YtacgamdbmllaoaaDoorW07k3
import Derived.Test.YtacgamdbmllaoaaDoorW07k4
import Derived.Test.YtacgamdbmllaoaaDoorW07k5
import Derived.Test.YtacgamdbmllaoaaDoorW07k6
import Derived.Test.YtacgamdbmllaoaaDoorW07k7
namespace Go.Proofs.YtacgamdbmllaoaaDoor
open Go.Ex
open Go.RowKit (Below)
set_option linter.unusedVariables false
set_option linter.unusedSimpArgs false
set_option maxRecDepth 1000000
/-! ### the reference's small functions, on plain numbers -/
theorem pw_nat (k : Nat) : pw (k : Int) = ((2 ^ k : Nat) : Int) := by unfold pw; rw [Int.toNat_natCast]
theorem nrot_sum (x k : Nat) (hx : x < 4294967296) (h0 : 0 < k) (hk : k < 32) : nrot x k = x / 2 ^ k + x % 2 ^ k * 2 ^ (32 - k) := by
  have e32 : 2 ^ k * 2 ^ (32 - k) = 4294967296 := by rw [← Nat.pow_add, show k + (32 - k) = 32 by omega]
  have h1 : nshl x (32 - k) = (x % 2 ^ k) <<< (32 - k) := by
    unfold nshl
    rw [Nat.shiftLeft_eq, Nat.shiftLeft_eq, ← e32, Nat.mul_mod_mul_right]
  have h2 : x >>> k < 2 ^ (32 - k) := by
    rw [Nat.shiftRight_eq_div_pow]
    exact Nat.div_lt_of_lt_mul (by rw [e32]; exact hx)
  unfold nrot
  rw [h1, ← Nat.shiftLeft_add_eq_or_of_lt h2, Nat.shiftLeft_eq, Nat.shiftRight_eq_div_pow, Nat.add_comm]
theorem nrot_lt (x k : Nat) (hx : x < 4294967296) : nrot x k < 4294967296 := by
  unfold nrot
  refine Nat.or_lt_two_pow (n := 32) ?_ ?_
  · unfold nshl; omega
  · rw [Nat.shiftRight_eq_div_pow]; exact Nat.lt_of_le_of_lt (Nat.div_le_self _ _) hx
theorem tnL_w {a : Int} {x : Nat} (h : IsW a x) (k : Nat) (h0 : 0 < k) (hk : k < 32) : IsW (tnL a k) (nrot x k) := by
  obtain ⟨rfl, hx⟩ := h
  have hl := nrot_lt x k hx
  refine ⟨?_, hl⟩
  rw [nrot_sum x k hx h0 hk] at hl ⊢
  have ek : (32 : Int) - (k : Int) = ((32 - k : Nat) : Int) := by omega
  unfold tnL
  rw [ek, pw_nat, pw_nat, Int.tdiv_eq_ediv_of_nonneg (Int.natCast_nonneg _), Int.tmod_eq_emod_of_nonneg (Int.natCast_nonneg _), ← Int.natCast_ediv, ← Int.natCast_emod, ← Int.natCast_mul]
  generalize x / 2 ^ k = p at hl ⊢
  generalize x % 2 ^ k * 2 ^ (32 - k) = r at hl ⊢
  rw [wu64, wu64, wu64]; omega
theorem mvL_w {a : Int} {x : Nat} (h : IsW a x) (k : Nat) : IsW (mvL a k) (x >>> k) := by
  obtain ⟨rfl, hx⟩ := h
  have hl : x / 2 ^ k < 4294967296 := Nat.lt_of_le_of_lt (Nat.div_le_self _ _) hx
  rw [Nat.shiftRight_eq_div_pow]
  refine ⟨?_, hl⟩
  unfold mvL
  rw [pw_nat, Int.tdiv_eq_ediv_of_nonneg (Int.natCast_nonneg _), ← Int.natCast_ediv]
  generalize x / 2 ^ k = p at hl ⊢
  rw [wu64]; omega
theorem ad1_w {n a : Int} {x y : Nat} (h : IsW n x) (g : IsW a y) : IsW ((IntKind.u64.wrap (n + a)).tmod 4294967296) (nad x y) := by
  obtain ⟨rfl, h⟩ := h
  obtain ⟨rfl, g⟩ := g
  refine ⟨?_, by unfold nad; omega⟩
  rw [wu64, show ((x : Int) + (y : Int)) % 18446744073709551616 = ((x + y : Nat) : Int) by omega, Int.tmod_eq_emod_of_nonneg (Int.natCast_nonneg _)]
  unfold nad; omega
theorem nad0 {x : Nat} (h : x < 4294967296) : nad 0 x = x := by unfold nad; omega
theorem ad2_w {a b : Int} {x y : Nat} (h : IsW a x) (g : IsW b y) : IsW (adL [a, b]) (nad x y) := by
  have := ad1_w (ad1_w zero_w h) g
  rw [nad0 h.2] at this
  exact this
theorem ad4_w {a b c d : Int} {x y z v : Nat} (h : IsW a x) (g : IsW b y) (i : IsW c z) (j : IsW d v) : IsW (adL [a, b, c, d]) (nad (nad (nad x y) z) v) := by
  have := ad1_w (ad1_w (ad1_w (ad1_w zero_w h) g) i) j
  rw [nad0 h.2] at this
  exact this
theorem ad5_w {a b c d e : Int} {x y z v u : Nat} (h : IsW a x) (g : IsW b y) (i : IsW c z) (j : IsW d v) (k : IsW e u) : IsW (adL [a, b, c, d, e]) (nad (nad (nad (nad x y) z) v) u) := by
  have := ad1_w (ad1_w (ad1_w (ad1_w (ad1_w zero_w h) g) i) j) k
  rw [nad0 h.2] at this
  exact this
theorem bx_w {a b c : Int} {x y z : Nat} (h : IsW a x) (g : IsW b y) (i : IsW c z) : IsW (bL 0 a b c) ((x ^^^ y) ^^^ z) := by
  obtain ⟨rfl, h⟩ := h
  obtain ⟨rfl, g⟩ := g
  obtain ⟨rfl, i⟩ := i
  have e : bL 0 x y z = ((accN 0 x y z 32 : Nat) : Int) := rfl
  rw [e, acc_xor h g i]
  exact ⟨rfl, Nat.xor_lt_two_pow (n := 32) (Nat.xor_lt_two_pow (n := 32) h g) i⟩
theorem bm_w {a b c : Int} {x y z : Nat} (h : IsW a x) (g : IsW b y) (i : IsW c z) : IsW (bL 1 a b c) (nmj x y z) := by
  obtain ⟨rfl, h⟩ := h
  obtain ⟨rfl, g⟩ := g
  obtain ⟨rfl, i⟩ := i
  have e : bL 1 x y z = ((accN 1 x y z 32 : Nat) : Int) := rfl
  rw [e, acc_maj h g i]
  exact ⟨rfl, (maj32_w ⟨rfl, h⟩ ⟨rfl, g⟩ ⟨rfl, i⟩).2⟩
theorem bc_w {a b c : Int} {x y z : Nat} (h : IsW a x) (g : IsW b y) (i : IsW c z) : IsW (bL 2 a b c) (nch x y z) := by
  obtain ⟨rfl, h⟩ := h
  obtain ⟨rfl, g⟩ := g
  obtain ⟨rfl, i⟩ := i
  have e : bL 2 x y z = ((accN 2 x y z 32 : Nat) : Int) := rfl
  rw [e, acc_ch h g i]
  exact ⟨rfl, (ch32_w ⟨rfl, h⟩ ⟨rfl, g⟩ ⟨rfl, i⟩).2⟩
theorem IsW.rng {a : Int} {x : Nat} (h : IsW a x) : 0 ≤ a ∧ a < 4294967296 := by
  obtain ⟨rfl, h⟩ := h; omega
/-! words -/
noncomputable def wdF (q : Rf) (b : Nat → Int) (t : Nat) : Int :=
  if h : t < 16 then wvW b t else
    q.A [wdF q b (t - 16), q.B 0 (q.U (wdF q b (t - 15)) 7) (q.U (wdF q b (t - 15)) 18) (q.V (wdF q b (t - 15)) 3), wdF q b (t - 7), q.B 0 (q.U (wdF q b (t - 2)) 17) (q.U (wdF q b (t - 2)) 19) (q.V (wdF q b (t - 2)) 10)]
termination_by t
decreasing_by all_goals omega
theorem upV_wd (q : Rf) (b : Nat → Int) (t : Nat) (ht : t < 16) : upV b (wdF q b) t = wdF q b := by
  funext i
  unfold upV
  split
  · rename_i e; subst e; rw [wdF, dif_pos ht]
  · rfl
theorem upW_wd (q : Rf) (b : Nat → Int) (t : Nat) (ht : 16 ≤ t) : upW q (wdF q b) t = wdF q b := by
  funext i
  unfold upW
  split
  · rename_i e; subst e
    have := wdF.eq_def q b i
    rw [dif_neg (by omega)] at this
    rw [this]; rfl
  · rfl
theorem or4 {a b c d : Nat} (ha : a < 256) (hb : b < 256) (hc : c < 256) (hd : d < 256) : ((nshl a 24 ||| nshl b 16) ||| nshl c 8) ||| d = a * 16777216 + b * 65536 + c * 256 + d := by
  have e1 : nshl a 24 = a <<< 24 := by unfold nshl; rw [Nat.shiftLeft_eq]; omega
  have e2 : nshl b 16 = b <<< 16 := by unfold nshl; rw [Nat.shiftLeft_eq]; omega
  have e3 : nshl c 8 = c <<< 8 := by unfold nshl; rw [Nat.shiftLeft_eq]; omega
  rw [e1, e2, e3, Nat.or_assoc, Nat.or_assoc]
  have s3 : c <<< 8 ||| d = c * 256 + d := by rw [← Nat.shiftLeft_add_eq_or_of_lt (by omega), Nat.shiftLeft_eq]
  rw [s3]
  have s2 : b <<< 16 ||| (c * 256 + d) = b * 65536 + (c * 256 + d) := by rw [← Nat.shiftLeft_add_eq_or_of_lt (by omega), Nat.shiftLeft_eq]
  rw [s2]
  have s1 : a <<< 24 ||| (b * 65536 + (c * 256 + d)) = a * 16777216 + (b * 65536 + (c * 256 + d)) := by rw [← Nat.shiftLeft_add_eq_or_of_lt (by omega), Nat.shiftLeft_eq]
  rw [s1]; omega
theorem wvW_w (s : ByteArray) (b : Nat → Int) (hb : ∀ i, i < 64 → b i = ((bAt s i).toNat : Int)) (t : Nat) (ht : t < 16) : IsW (wvW b t) (nbe s t) := by
  have r : ∀ i, (bAt s i).toNat < 256 := fun i => (bAt s i).toNat_lt
  have r0 := r (4 * t); have r1 := r (4 * t + 1); have r2 := r (4 * t + 2); have r3 := r (4 * t + 3)
  have e : nbe s t = (bAt s (4 * t)).toNat * 16777216 + (bAt s (4 * t + 1)).toNat * 65536 + (bAt s (4 * t + 2)).toNat * 256 + (bAt s (4 * t + 3)).toNat := or4 r0 r1 r2 r3
  rw [e]
  unfold wvW wU
  rw [hb _ (by omega), hb _ (by omega), hb _ (by omega), hb _ (by omega)]
  generalize (bAt s (4 * t)).toNat = p0 at *
  generalize (bAt s (4 * t + 1)).toNat = p1 at *
  generalize (bAt s (4 * t + 2)).toNat = p2 at *
  generalize (bAt s (4 * t + 3)).toNat = p3 at *
  refine ⟨?_, by omega⟩
  simp only [wu64]; omega
theorem rs0_w {a : Int} {x : Nat} (h : IsW a x) : IsW (bL 0 (tnL a 7) (tnL a 18) (mvL a 3)) (ns0 x) := by
  have := bx_w (tnL_w h 7 (by omega) (by omega)) (tnL_w h 18 (by omega) (by omega)) (mvL_w h 3)
  unfold ns0 ntu2; rw [Nat.zero_xor]; exact this
theorem rs1_w {a : Int} {x : Nat} (h : IsW a x) : IsW (bL 0 (tnL a 17) (tnL a 19) (mvL a 10)) (ns1 x) := by
  have := bx_w (tnL_w h 17 (by omega) (by omega)) (tnL_w h 19 (by omega) (by omega)) (mvL_w h 10)
  unfold ns1 ntu2; rw [Nat.zero_xor]; exact this
theorem wdF_w (s : ByteArray) (b : Nat → Int) (hb : ∀ i, i < 64 → b i = ((bAt s i).toNat : Int)) : ∀ t, t < 64 → ∃ n, IsW (wdF rfL b t) n ∧ IsW (Ws s t) n := by
  intro t
  induction t using Nat.strongRecOn with
  | _ t ih =>
    intro ht
    rw [wdF, Ws]
    by_cases h : t < 16
    · rw [dif_pos h, dif_pos h]
      exact ⟨_, wvW_w s b hb t h, be32_w s t⟩
    · rw [dif_neg h, dif_neg h]
      obtain ⟨n1, a1, b1⟩ := ih (t - 16) (by omega) (by omega)
      obtain ⟨n2, a2, b2⟩ := ih (t - 15) (by omega) (by omega)
      obtain ⟨n3, a3, b3⟩ := ih (t - 7) (by omega) (by omega)
      obtain ⟨n4, a4, b4⟩ := ih (t - 2) (by omega) (by omega)
      refine ⟨_, ad4_w a1 (rs0_w a2) a3 (rs1_w a4), ?_⟩
      have := add32_w (add32_w b1 (sS0_w b2)) (add32_w b3 (sS1_w b4))
      have e : nad (nad n1 (ns0 n2)) (nad n3 (ns1 n4)) = nad (nad (nad n1 (ns0 n2)) n3) (ns1 n4) := by unfold nad; omega
      rw [e] at this
      exact this
theorem LWd_ok (s : ByteArray) (b : Nat → Int) (hb : ∀ i, i < 64 → b i = ((bAt s i).toNat : Int)) (t : Nat) (h16 : 16 ≤ t) (ht : t < 64) : AllP (LWd rfL (wdF rfL b) t) := by
  obtain ⟨n2, a2, _⟩ := wdF_w s b hb (t - 15) (by omega)
  obtain ⟨n4, a4, _⟩ := wdF_w s b hb (t - 2) (by omega)
  have p1 : PB rfL (rfL.U (wdF rfL b (t - 15)) 7) (rfL.U (wdF rfL b (t - 15)) 18) (rfL.V (wdF rfL b (t - 15)) 3) := ⟨rfl, .inl rfl, (tnL_w a2 7 (by omega) (by omega)).rng, (tnL_w a2 18 (by omega) (by omega)).rng, (mvL_w a2 3).rng⟩
  have p2 : PB rfL (rfL.U (wdF rfL b (t - 2)) 17) (rfL.U (wdF rfL b (t - 2)) 19) (rfL.V (wdF rfL b (t - 2)) 10) := ⟨rfl, .inl rfl, (tnL_w a4 17 (by omega) (by omega)).rng, (tnL_w a4 19 (by omega) (by omega)).rng, (mvL_w a4 10).rng⟩
  exact ⟨rfl, rfl, rfl, p1, rfl, rfl, rfl, p2, rfl, trivial⟩
/-! ### words, whole -/
def outX (n0 : Nat) (keep fg : List Nat) (r : Rr Fin) (e : XE) (T : St) (L : List Prop) (d : Nat → Value) : Option (XE × Bool × St × List Prop × List SV) × Option (XE × Bool × St × List Prop × List SV) :=
  match r with
  | .ok f [] c => (some (f.e, cutB n0 keep fg f.st, cutV keep fg f.st d, c.props [], c.lefts []), some (e, true, T, L, c.rights []))
  | _ => (none, some (e, true, T, L, []))
def givesX (n0 : Nat) (keep fg : List Nat) (r : Rr Fin) (e : XE) (T : St) (L : List Prop) (d : Nat → Value) : Prop := (outX n0 keep fg r e T L d).1 = (outX n0 keep fg r e T L d).2
theorem wpE_X {P : Program} {X : Cx} (hX : X.P = P) (hct : CtOk X) (hlp : LpOk X) {n n0 : Nat} {keep fg : List Nat} {c : Code} {s : St} {ans : List Bool} {e : XE} {T : (Nat → Value) → St} {L : List Prop} (h : ∀ d, givesX n0 keep fg (run X n c s.tm s.hp ans) e (T d) L d) (hL : AllP L) :
    WpE P c n0 s (fun r => r.e = e ∧ WeakF n0 r.st T) := by
  subst hX
  generalize hq : run X n c s.tm s.hp ans = r at h
  unfold givesX outX at h
  split at h
  · rename_i f c'
    simp only [Option.some.injEq, Prod.mk.injEq] at h
    have h0 := h (fun _ => undef)
    have hc := (Cnd.is_of c' [] [] [] (by rw [h0.2.2.2.1]; exact hL) h0.2.2.2.2 rfl).1
    refine WpE.of_wp (run_ok hct hlp n c _ _ _ _ _ _ hq hc) ⟨h0.1, ?_⟩
    have e : T = cutV keep fg f.st := funext fun d => ((h d).2.2.1).symm
    rw [e]
    exact fun {_ _ _ _ _ _ _} hl hs => WeakF.cut h0.2.1 hl hs
  · have := h (fun _ => undef); simp at this
theorem XR_ct : CtOk (XR rfL) := rawP_ct (smR_ok rfL)
theorem XR_lp (q : Rf) : LpOk (XR q) := rawP_lp _
noncomputable def wA68 : Code := cL (code 68)
noncomputable def wB68 : Code := cL (cR (code 68))
noncomputable def wR68 : Code := cR (cR (cR (cR (code 68))))
noncomputable def idV : Nat := bId (cR WB1)
noncomputable def idW : Nat := bId (cR WB2)
theorem code68 : code 68 = .seq wA68 (.seq wB68 (.seq (.seq (cL WB1) (.block idV (.loop WL1))) (.seq (.seq (cL WB2) (.block idW (.loop WL2))) wR68))) := by kernel_rfl
def keep00 : List Nat := [0, 1, 2]
noncomputable def s68 (b : Nat → Int) : St := ⟨[.sle 0 0 64 1] ++ List.replicate 94 (.val undef), [bts64 b, .dead, .cells false []]⟩
noncomputable def s68b (q : Rf) (b : Nat → Int) : St := (finOf (run (XR q) 80 wA68 (s68 b).tm (s68 b).hp [])).st
noncomputable def s68c (q : Rf) (b : Nat → Int) : St := (finOf (run (XR q) 80 wB68 (s68b q b).tm (s68b q b).hp [])).st
theorem t68_a (q : Rf) (b : Nat → Int) : goodR (run (XR q) 80 wA68 (s68 b).tm (s68 b).hp []) .normal [] := by unfold goodR; kernel_rfl
theorem t68_b (q : Rf) (b : Nat → Int) : goodR (run (XR q) 80 wB68 (s68b q b).tm (s68b q b).hp []) .normal [] := by unfold goodR; kernel_rfl
theorem t68_c (q : Rf) (b : Nat → Int) (d : Nat → Value) : givesX 3 keep00 fgV (run (XR q) 80 (cL WB1) (s68c q b).tm (s68c q b).hp []) .normal (stV0 b d) [] d := by unfold givesX; kernel_rfl
theorem t68_v (q : Rf) (b ws : Nat → Int) (d d' : Nat → Value) : givesX 3 keepV0 fgV (run (XR q) 80 WL1 (stV b ws 16 d).tm (stV b ws 16 d).hp []) (.exit idV) (stV b ws 16 d') [] d' := by unfold givesX; kernel_rfl
theorem t68_i (q : Rf) (b ws : Nat → Int) (d d' : Nat → Value) : givesX 3 keepV0 fgWd (run (XR q) 80 (cL WB2) (stV b ws 16 d).tm (stV b ws 16 d).hp []) .normal (stW b ws 16 d') [] d' := by unfold givesX; kernel_rfl
theorem t68_w (q : Rf) (b ws : Nat → Int) (d d' : Nat → Value) : givesX 3 keepV0 fgWd (run (XR q) 80 WL2 (stW b ws 64 d).tm (stW b ws 64 d).hp []) (.exit idW) (stW b ws 64 d') [] d' := by unfold givesX; kernel_rfl
noncomputable def f68 (q : Rf) (b ws : Nat → Int) (d : Nat → Value) : Fin := finOf (run (XR q) 80 wR68 (stW b ws 64 d).tm (stW b ws 64 d).hp [])
theorem t68_ret (q : Rf) (b ws : Nat → Int) (d : Nat → Value) : goodR (run (XR q) 80 wR68 (stW b ws 64 d).tm (stW b ws 64 d).hp []) .ret [] := by unfold goodR; kernel_rfl
theorem fn68_at : Tryd.prog.funcs[68]? = some (fnN 68) := by kernel_rfl
theorem fn68_body : (fnN 68).body = some (code 68) := by kernel_rfl
theorem t68_res (q : Rf) (b ws : Nat → Int) (d : Nat → Value) : resultsS Tryd.prog (fnN 68) (f68 q b ws d).tm (f68 q b ws d).hp = some (.sle 3 0 64 4) := by kernel_rfl
theorem t68_hp (q : Rf) (b ws : Nat → Int) (d : Nat → Value) : (f68 q b ws d).hp = bts64 b :: rowW ws 64 := by kernel_rfl
theorem fn68_tm : ([.sle 0 0 64 1] ++ List.replicate ((fnN 68).ntmps - [SV.sle 0 0 64 1].length) (.val undef) : List SV) = [.sle 0 0 64 1] ++ List.replicate 94 (.val undef) := by kernel_rfl
theorem vrnd_t (q : Rf) (b ws : Nat → Int) (d d' : Nat → Value) : ∀ t : Nat, 1 ≤ t → t < 16 → vrnd q b ws t d d'
  | 0, h, _ => absurd h (by omega)
  | 1, _, _ => vrnd_1 _ _ _ _ _
  | 2, _, _ => vrnd_2 _ _ _ _ _
  | 3, _, _ => vrnd_3 _ _ _ _ _
  | 4, _, _ => vrnd_4 _ _ _ _ _
  | 5, _, _ => vrnd_5 _ _ _ _ _
  | 6, _, _ => vrnd_6 _ _ _ _ _
  | 7, _, _ => vrnd_7 _ _ _ _ _
  | 8, _, _ => vrnd_8 _ _ _ _ _
  | 9, _, _ => vrnd_9 _ _ _ _ _
  | 10, _, _ => vrnd_10 _ _ _ _ _
  | 11, _, _ => vrnd_11 _ _ _ _ _
  | 12, _, _ => vrnd_12 _ _ _ _ _
  | 13, _, _ => vrnd_13 _ _ _ _ _
  | 14, _, _ => vrnd_14 _ _ _ _ _
  | 15, _, _ => vrnd_15 _ _ _ _ _
  | t + 16, _, h => absurd h (by omega)
theorem wrnd_t (q : Rf) (b ws : Nat → Int) (d d' : Nat → Value) : ∀ t : Nat, 16 ≤ t → t < 64 → wrnd q b ws t d d'
  | 0, h, _ => absurd h (by omega)
  | 1, h, _ => absurd h (by omega)
  | 2, h, _ => absurd h (by omega)
  | 3, h, _ => absurd h (by omega)
  | 4, h, _ => absurd h (by omega)
  | 5, h, _ => absurd h (by omega)
  | 6, h, _ => absurd h (by omega)
  | 7, h, _ => absurd h (by omega)
  | 8, h, _ => absurd h (by omega)
  | 9, h, _ => absurd h (by omega)
  | 10, h, _ => absurd h (by omega)
  | 11, h, _ => absurd h (by omega)
  | 12, h, _ => absurd h (by omega)
  | 13, h, _ => absurd h (by omega)
  | 14, h, _ => absurd h (by omega)
  | 15, h, _ => absurd h (by omega)
  | 16, _, _ => wrnd_16 _ _ _ _ _
  | 17, _, _ => wrnd_17 _ _ _ _ _
  | 18, _, _ => wrnd_18 _ _ _ _ _
  | 19, _, _ => wrnd_19 _ _ _ _ _
  | 20, _, _ => wrnd_20 _ _ _ _ _
  | 21, _, _ => wrnd_21 _ _ _ _ _
  | 22, _, _ => wrnd_22 _ _ _ _ _
  | 23, _, _ => wrnd_23 _ _ _ _ _
  | 24, _, _ => wrnd_24 _ _ _ _ _
  | 25, _, _ => wrnd_25 _ _ _ _ _
  | 26, _, _ => wrnd_26 _ _ _ _ _
  | 27, _, _ => wrnd_27 _ _ _ _ _
  | 28, _, _ => wrnd_28 _ _ _ _ _
  | 29, _, _ => wrnd_29 _ _ _ _ _
  | 30, _, _ => wrnd_30 _ _ _ _ _
  | 31, _, _ => wrnd_31 _ _ _ _ _
  | 32, _, _ => wrnd_32 _ _ _ _ _
  | 33, _, _ => wrnd_33 _ _ _ _ _
  | 34, _, _ => wrnd_34 _ _ _ _ _
  | 35, _, _ => wrnd_35 _ _ _ _ _
  | 36, _, _ => wrnd_36 _ _ _ _ _
  | 37, _, _ => wrnd_37 _ _ _ _ _
  | 38, _, _ => wrnd_38 _ _ _ _ _
  | 39, _, _ => wrnd_39 _ _ _ _ _
  | 40, _, _ => wrnd_40 _ _ _ _ _
  | 41, _, _ => wrnd_41 _ _ _ _ _
  | 42, _, _ => wrnd_42 _ _ _ _ _
  | 43, _, _ => wrnd_43 _ _ _ _ _
  | 44, _, _ => wrnd_44 _ _ _ _ _
  | 45, _, _ => wrnd_45 _ _ _ _ _
  | 46, _, _ => wrnd_46 _ _ _ _ _
  | 47, _, _ => wrnd_47 _ _ _ _ _
  | 48, _, _ => wrnd_48 _ _ _ _ _
  | 49, _, _ => wrnd_49 _ _ _ _ _
  | 50, _, _ => wrnd_50 _ _ _ _ _
  | 51, _, _ => wrnd_51 _ _ _ _ _
  | 52, _, _ => wrnd_52 _ _ _ _ _
  | 53, _, _ => wrnd_53 _ _ _ _ _
  | 54, _, _ => wrnd_54 _ _ _ _ _
  | 55, _, _ => wrnd_55 _ _ _ _ _
  | 56, _, _ => wrnd_56 _ _ _ _ _
  | 57, _, _ => wrnd_57 _ _ _ _ _
  | 58, _, _ => wrnd_58 _ _ _ _ _
  | 59, _, _ => wrnd_59 _ _ _ _ _
  | 60, _, _ => wrnd_60 _ _ _ _ _
  | 61, _, _ => wrnd_61 _ _ _ _ _
  | 62, _, _ => wrnd_62 _ _ _ _ _
  | 63, _, _ => wrnd_63 _ _ _ _ _
  | t + 64, _, h => absurd h (by omega)
/-- The first loop's state. -/
noncomputable def stVV (b : Nat → Int) (t : Nat) (d : Nat → Value) : St := if t = 0 then stV0 b d else stV b (wdF rfL b) t d
theorem loop68a (b : Nat → Int) (d : Nat → Value) : WpE Tryd.prog (.loop WL1) 3 (stV0 b d) (fun r => r.e = .exit idV ∧ WeakF 3 r.st (fun d => stV b (wdF rfL b) 16 d)) := by
  have go := WpE.loopF (P := Tryd.prog) (c := WL1) (n0 := 3) (γ := {t : Nat // t ≤ 16} × (Nat → Value)) (S := fun g => stVV b g.1.1 g.2) (m := fun g => 16 - g.1.1) (F := fun r => r.e = .exit idV ∧ WeakF 3 r.st (fun d => stV b (wdF rfL b) 16 d)) (fun g => ?_) (⟨0, Nat.zero_le _⟩, d)
  · exact go
  obtain ⟨⟨t, ht⟩, d⟩ := g
  show WpE Tryd.prog WL1 3 (stVV b t d) _
  by_cases h : t < 16
  · have nx : WpE Tryd.prog WL1 3 (stVV b t d) (fun r => r.e = .normal ∧ WeakF 3 r.st (fun d' => stVV b (t + 1) d')) := by
      by_cases h0 : t = 0
      · subst h0
        have e : (fun d' => stVV b (0 + 1) d') = fun d' => stV b (upV b (wdF rfL b) 0) 1 d' := by funext d'; rw [upV_wd rfL b 0 (by omega)]; rfl
        rw [e]
        exact wpE_round (X := XR rfL) rfl XR_ct (XR_lp _) (s := stV0 b d) (L := fun _ => []) (fun d' => vrnd_0 rfL b (wdF rfL b) d d') trivial
      · have e : (fun d' => stVV b (t + 1) d') = fun d' => stV b (upV b (wdF rfL b) t) (t + 1) d' := by funext d'; rw [upV_wd rfL b t h]; rfl
        have e2 : stVV b t d = stV b (wdF rfL b) t d := by unfold stVV; rw [if_neg h0]
        rw [e, e2]
        exact wpE_round (X := XR rfL) rfl XR_ct (XR_lp _) (L := fun _ => []) (fun d' => vrnd_t rfL b (wdF rfL b) d d' t (by omega) h) trivial
    refine nx.mono fun r hr => .inl ⟨hr.1, _, hr.2, fun d' => ⟨(⟨t + 1, h⟩, d'), ?_, rfl⟩⟩
    show 16 - (t + 1) < 16 - t
    omega
  · have e : t = 16 := by omega
    subst e
    exact (wpE_X (X := XR rfL) rfl XR_ct (XR_lp _) (t68_v rfL b (wdF rfL b) d) trivial).mono fun r hr => .inr ⟨by rw [hr.1]; exact (fun e => by cases e), hr⟩
theorem loop68b (s : ByteArray) (b : Nat → Int) (hb : ∀ i, i < 64 → b i = ((bAt s i).toNat : Int)) (d : Nat → Value) : WpE Tryd.prog (.loop WL2) 3 (stW b (wdF rfL b) 16 d) (fun r => r.e = .exit idW ∧ WeakF 3 r.st (fun d => stW b (wdF rfL b) 64 d)) := by
  have go := WpE.loopF (P := Tryd.prog) (c := WL2) (n0 := 3) (γ := {t : Nat // 16 ≤ t ∧ t ≤ 64} × (Nat → Value)) (S := fun g => stW b (wdF rfL b) g.1.1 g.2) (m := fun g => 64 - g.1.1) (F := fun r => r.e = .exit idW ∧ WeakF 3 r.st (fun d => stW b (wdF rfL b) 64 d)) (fun g => ?_) (⟨16, by omega⟩, d)
  · exact go
  obtain ⟨⟨t, h16, ht⟩, d⟩ := g
  show WpE Tryd.prog WL2 3 (stW b (wdF rfL b) t d) _
  by_cases h : t < 64
  · have nx : WpE Tryd.prog WL2 3 (stW b (wdF rfL b) t d) (fun r => r.e = .normal ∧ WeakF 3 r.st (fun d' => stW b (wdF rfL b) (t + 1) d')) := by
      have e : (fun d' => stW b (wdF rfL b) (t + 1) d') = fun d' => stW b (upW rfL (wdF rfL b) t) (t + 1) d' := by funext d'; rw [upW_wd rfL b t h16]
      rw [e]
      exact wpE_round (X := XR rfL) rfl XR_ct (XR_lp _) (L := fun _ => LWd rfL (wdF rfL b) t) (fun d' => wrnd_t rfL b (wdF rfL b) d d' t h16 h) (LWd_ok s b hb t h16 h)
    refine nx.mono fun r hr => .inl ⟨hr.1, _, hr.2, fun d' => ⟨(⟨t + 1, by omega⟩, d'), ?_, rfl⟩⟩
    show 64 - (t + 1) < 64 - t
    omega
  · have e : t = 64 := by omega
    subst e
    exact (wpE_X (X := XR rfL) rfl XR_ct (XR_lp _) (t68_w rfL b (wdF rfL b) d) trivial).mono fun r hr => .inr ⟨by rw [hr.1]; exact (fun e => by cases e), hr⟩
theorem unblk {n0 id : Nat} {r : Fin} {T : (Nat → Value) → St} (h : r.e = .exit id ∧ WeakF n0 r.st T) : (r.unblock id).e = .normal ∧ WeakF n0 (r.unblock id).st T := by
  obtain ⟨h1, h2⟩ := h
  unfold Fin.unblock
  rw [h1]
  simp only [if_true]
  exact ⟨trivial, fun {_ _ _ _ _ _ _} hn hs => h2 hn hs⟩
theorem body68 (s : ByteArray) (b : Nat → Int) (hb : ∀ i, i < 64 → b i = ((bAt s i).toNat : Int)) : WpE Tryd.prog (code 68) 3 (s68 b) (fun f => f.e = .ret ∧ ∃ d, f = f68 rfL b (wdF rfL b) d) := by
  rw [code68]
  refine WpE.seq (wpE_run (X := XR rfL) rfl XR_ct (XR_lp _) (t68_a rfL b) trivial) (fun r hr hn => ?_) (fun r hr hne => absurd hr.1 hne)
  obtain ⟨_, rfl⟩ := hr
  refine WpE.seq (wpE_run (X := XR rfL) rfl XR_ct (XR_lp _) (s := s68b rfL b) (t68_b rfL b) trivial) (fun r hr hn => ?_) (fun r hr hne => absurd hr.1 hne)
  obtain ⟨_, rfl⟩ := hr
  refine WpE.seq (F := fun f => f.e = .normal ∧ WeakF 3 f.st (fun d => stV b (wdF rfL b) 16 d)) (WpE.seq (wpE_X (X := XR rfL) rfl XR_ct (XR_lp _) (s := s68c rfL b) (t68_c rfL b) trivial) (fun r hr hn => ?_) (fun r hr hne => absurd hr.1 hne)) (fun r hr hn => ?_) (fun r hr hne => absurd hr.1 hne)
  · exact wpE_weakF hr.2 fun d => WpE.block (loop68a b d) fun f hf => unblk hf
  refine wpE_weakF hr.2 fun d => ?_
  refine WpE.seq (F := fun f => f.e = .normal ∧ WeakF 3 f.st (fun d => stW b (wdF rfL b) 64 d)) (WpE.seq (wpE_X (X := XR rfL) rfl XR_ct (XR_lp _) (t68_i rfL b (wdF rfL b) d) trivial) (fun r hr hn => ?_) (fun r hr hne => absurd hr.1 hne)) (fun r hr hn => ?_) (fun r hr hne => absurd hr.1 hne)
  · exact wpE_weakF hr.2 fun d => WpE.block (loop68b s b hb d) fun f hf => unblk hf
  exact wpE_weakF hr.2 fun d => (wpE_run (X := XR rfL) rfl XR_ct (XR_lp _) (s := stW b (wdF rfL b) 64 d) (t68_ret rfL b (wdF rfL b) d) trivial).mono fun f hf => ⟨hf.1, d, hf.2⟩
theorem call68 (s : ByteArray) (b : Nat → Int) (hb : ∀ i, i < 64 → b i = ((bAt s i).toNat : Int)) {B : Nat} {η : Env} {w : World} {vs : List Value} (hr : HR B η [bts64 b, .dead, .cells false []] w) (hB : B ≤ w.heap.size) (hargs : Rs η [.sle 0 0 64 1] vs) :
    Calls Tryd.prog 68 vs.toArray w (fun e w' => ∃ v μ, e = .returned v ∧ R (η ++ μ) (.sle 3 0 64 4) v ∧ HR B (η ++ μ) (bts64 b :: rowW (wdF rfL b) 64) w' ∧ Below B w w') := by
  have hb0 := body68 s b hb
  unfold s68 at hb0
  rw [← fn68_tm] at hb0
  refine (calls_of_wpE fn68_at fn68_body (args := [.sle 0 0 64 1]) (hp := [bts64 b, .dead, .cells false []]) (F := fun f => f.e = .ret ∧ ∃ d, f = f68 rfL b (wdF rfL b) d) (G := fun s' hp' => s' = .sle 3 0 64 4 ∧ hp' = bts64 b :: rowW (wdF rfL b) 64) hb0 (fun f hf => ⟨.inr hf.1, _, by obtain ⟨d, e⟩ := hf.2; rw [e]; exact t68_res _ _ _ d, rfl, by obtain ⟨d, e⟩ := hf.2; rw [e]; exact t68_hp _ _ _ d⟩) hr hB hargs).mono fun e w' hq => ?_
  obtain ⟨v, μ, s', hp', e1, e2, e3, e4, rfl, rfl⟩ := hq
  exact ⟨v, μ, e1, e2, e3, e4⟩
/-! ### words and rounds, as take comes to them -/
theorem u8s_eq : ∀ {l : List SV} {zs : List Int}, u8s l = some zs → l = zs.map fun z => .val (.int .u8 z)
  | [], zs, h => by simp only [u8s, Option.some.injEq] at h; subst h; rfl
  | s :: l, zs, h => by
    unfold u8s at h
    split at h
    · simp at *
    · rename_i z r heq
      simp only [List.cons.injEq] at heq
      obtain ⟨rfl, rfl⟩ := heq
      split at h
      · rename_i m hm
        simp only [Option.some.injEq] at h; subst h
        rw [List.map_cons, ← u8s_eq hm]
      · simp at h
    · simp at h
theorem bts64_of {l : List SV} {zs : List Int} (h : u8s l = some zs) (hl : zs.length = 64) : SO.cells false l = bts64 (fnz zs) := by
  unfold bts64
  rw [u8s_eq h]
  congr 1
  refine List.ext_getElem (by simp [hl]) fun i h1 h2 => ?_
  have hi : i < zs.length := by simpa using h1
  simp [fnz, List.getD_eq_getElem?_getD, List.getElem?_eq_getElem hi]
theorem bts64_free (b : Nat → Int) : frees ((List.range 64).map fun i => SV.val (.int .u8 (b i))) = true := by rfl
/-- The first three blocks. -/
theorem HR.front {B : Nat} {η : Env} {l : List SV} {r : List SO} {w : World} (h : HR B η (.cells false l :: .dead :: .cells false [] :: r) w) (hf : frees l = true) :
    ∃ e0 e1 e2, η[0]? = some e0 ∧ η[1]? = some e1 ∧ ∀ B', HR B' [e0, e1, e2] [.cells false l, .dead, .cells false []] w := by
  have hl := h.len
  simp only [List.length_cons] at hl
  match η, hl with
  | e0 :: e1 :: e2 :: η', _ =>
    refine ⟨e0, e1, e2, rfl, rfl, fun B' => ⟨rfl, fun j o hj => ?_, ?_⟩⟩
    · match j, hj with
      | 0, hj =>
        simp at hj; subst hj
        obtain ⟨b, p, q1, q2, q3, q4⟩ := (h.blk 0 _ rfl).1 false l rfl
        refine ⟨fun wr' l' hro => ?_, trivial⟩
        simp only [SO.row, Option.some.injEq, Prod.mk.injEq] at hro
        obtain ⟨rfl, rfl⟩ := hro
        refine ⟨b, p, by simpa using q1, q2, (fun e => by cases e), fun i s hi => ?_⟩
        obtain ⟨⟨v, v1, v2, v3⟩, v4⟩ := q4 i s hi
        exact ⟨⟨v, v1, (R.free s v (frees_get hf hi) v2).ext (η := []), v3⟩, v4⟩
      | 1, hj => simp at hj; subst hj; exact ⟨fun wr l hr => by simp [SO.row] at hr, trivial⟩
      | 2, hj =>
        simp at hj; subst hj
        obtain ⟨b, p, q1, q2, q3, q4⟩ := (h.blk 2 _ rfl).1 false [] rfl
        refine ⟨fun wr' l' hro => ?_, trivial⟩
        simp only [SO.row, Option.some.injEq, Prod.mk.injEq] at hro
        obtain ⟨rfl, rfl⟩ := hro
        exact ⟨b, p, by simpa using q1, q2, (fun e => by cases e), fun i s hi => by simp at hi⟩
      | j + 3, hj => simp at hj
    · intro k₁ k₂ s₁ s₂ l₁ wr₂ l₂ b₁ o₁ b₂ o₂ h1 r1 h2 r2 hne q1 q2
      match k₁, h1 with
      | 0, h1 => simp at h1; subst h1; simp [SO.row] at r1
      | 1, h1 => simp at h1; subst h1; simp [SO.row] at r1
      | 2, h1 => simp at h1; subst h1; simp [SO.row] at r1
      | j + 3, h1 => simp at h1
def wdP (W : WF) (b : Nat → Int) : Prop := W = wdF rfL ∧ ∃ s : ByteArray, ∀ i, i < 64 → b i = ((bAt s i).toNat : Int)
def wdG (W : WF) (args : List SV) (hp : List SO) : Option (SV × Option (List SO) × Cnd) :=
  match args with
  | [.sle 0 0 64 1] =>
    match hp with
    | .cells false l :: .dead :: .cells false [] :: r =>
      match u8s l with
      | some zs => if zs.length = 64 then some (.sle hp.length 0 64 (hp.length + 1), some (hp ++ [row64 (W (fnz zs)), .dead]), .pr (wdP W (fnz zs))) else none
      | none => none
    | _ => none
  | _ => none
def rdG (K : Nat → Int) (args : List SV) : Option (SV × Option (List SO) × Cnd) := match args with | [] => some (kAgg K, none, .pr (K = KLf)) | _ => none
noncomputable def XK (q : Rf) (W : WF) (K : Nat → Int) : Cx :=
  ⟨Tryd.prog, fun f args hp => if f = 68 then wdG W args hp else if f = 69 then rdG K args else (XR q).ct f args hp, fun _ _ _ _ => none⟩
theorem XK_lp (q : Rf) (W : WF) (K : Nat → Int) : LpOk (XK q W K) := fun _ _ _ _ _ _ _ h => by simp [XK] at h
theorem rounds_gives : givesV (topR (XR rfL) (run (XR rfL) 80) 69 [] [] []) (.agg (KL.map fun z => .num .u64 z)) [] := by unfold givesV; kernel_rfl
theorem kAgg_eq : (KL.map fun z => SV.num .u64 z).map unN = (List.range 64).map fun i => .val (.int .u64 (KLf i)) := by rfl
theorem Rs_unN {η : Env} : ∀ {l : List SV} {vs : List Value}, Rs η l vs → Rs η (l.map unN) vs
  | [], vs, h => h
  | s :: l, vs, h => by
    obtain ⟨v, r, rfl, h1, h2⟩ := h
    exact Rs.cons (unN_R h1) (Rs_unN h2)
theorem XK_ct (W : WF) (K : Nat → Int) : CtOk (XK rfL W K) := by
  intro f args hp s ho c h hc B η w vs hr hB hargs
  have h' : (if f = 68 then wdG W args hp else if f = 69 then rdG K args else (XR rfL).ct f args hp) = some (s, ho, c) := h
  split at h'
  · rename_i hf; subst hf
    unfold wdG at h'
    split at h'
    · split at h'
      · rename_i l r
        split at h'
        · rename_i zs hz
          split at h'
          · rename_i hlen
            simp only [Option.some.injEq, Prod.mk.injEq] at h'
            obtain ⟨rfl, rfl, rfl⟩ := h'
            obtain ⟨rfl, s, hs⟩ := hc
            have hbt := bts64_of hz hlen
            have hf : frees l = true := by
              have := bts64_free (fnz zs)
              unfold bts64 at hbt
              simp only [SO.cells.injEq, true_and] at hbt
              rw [hbt]; exact this
            obtain ⟨e0, e1, e2, g0, g1, hh⟩ := HR.front hr hf
            have ha : Rs [e0, e1, e2] [.sle 0 0 64 1] vs := by
              obtain ⟨a, x, rfl, k1, k2⟩ := hargs.cons_inv
              simp only [Rs] at k2; subst k2
              obtain ⟨b, o, c, x1, x2, x3, x4⟩ := k1
              refine Rs.cons ⟨b, o, c, ?_, ?_, x3, x4⟩ Rs.nil
              · rw [g0] at x1; simpa using x1
              · rw [g1] at x2; simpa using x2
            have hh0 := hh w.heap.size
            rw [hbt] at hh0
            refine (call68 s (fnz zs) hs hh0 (Nat.le_refl _) ha).mono fun e w' hq => ?_
            obtain ⟨v, μ, rfl, hR, hr2, hb⟩ := hq
            obtain ⟨b, c, p1, p2, hr3⟩ := HR.grow2 hr rfl hb hr2 (k := 3) (kc := 4) rfl (by rfl)
            refine ⟨v, _, rfl, ?_, by rw [← hbt] at *; exact hr3, hb.mono hB⟩
            obtain ⟨b', o', c', y1, y2, y3, y4⟩ := hR
            rw [p1] at y1; rw [p2] at y2
            simp only [Option.some.injEq, Value.pointer.injEq, Addr.mk.injEq, and_true, Value.slice.injEq, true_and] at y1 y2
            obtain ⟨rfl, rfl⟩ := y1
            subst y2
            exact ⟨b, 0, c, by rw [← hr.len]; simp, by rw [← hr.len]; simp, y3, y4⟩
          · simp at h'
        · simp at h'
      · simp at h'
    · simp at h'
  · split at h'
    · rename_i hf; subst hf
      unfold rdG at h'
      split at h'
      · simp only [Option.some.injEq, Prod.mk.injEq] at h'
        obtain ⟨rfl, rfl, rfl⟩ := h'
        have hc : K = KLf := hc
        subst hc
        have hv : vs = [] := by simpa only [Rs] using hargs
        subst hv
        refine (callsV (X := XR rfL) (args := []) rfl XR_ct (XR_lp _) 80 rounds_gives trivial rfl (HR.none w) (by simp only [Rs])).mono fun e w' hq => ?_
        obtain ⟨v, rfl, hR, hb⟩ := hq
        refine ⟨v, [], rfl, ?_, by simpa using hr.below hb, hb.mono hB⟩
        obtain ⟨x, hx, hxs⟩ := hR
        refine R.free (η := []) _ _ (by rfl) ⟨x, hx, ?_⟩
        have := Rs_unN hxs
        rw [kAgg_eq] at this
        exact this
      · simp at h'
    · exact XR_ct f args hp s ho c h' hc B η w vs hr hB hargs
/-! ### take, whole -/
noncomputable def s57 (x b : Nat → Int) : St := ⟨[.agg (u64r 8 x), .sle 0 0 64 1] ++ List.replicate 102 (.val undef), [bts64 b, .dead, .cells false []]⟩
noncomputable def nx57 (q : Rf) (W : WF) (K : Nat → Int) (c : Code) (s : St) : St := (finOf (run (XK q W K) 80 c s.tm s.hp [])).st
noncomputable def k57a : Code := cL (code 54)
noncomputable def k57b : Code := cL (cR (code 54))
noncomputable def k57c : Code := cL (cR (cR (code 54)))
noncomputable def k57d : Code := cL (cR (cR (cR (code 54))))
noncomputable def k57e : Code := cL (cL (cR (cR (cR (cR (code 54))))))
noncomputable def k57r : Code := cR (cR (cR (cR (cR (code 54)))))
noncomputable def s57a (q : Rf) (W : WF) (K x b : Nat → Int) : St := nx57 q W K k57a (s57 x b)
noncomputable def s57b (q : Rf) (W : WF) (K x b : Nat → Int) : St := nx57 q W K k57b (s57a q W K x b)
noncomputable def s57c (q : Rf) (W : WF) (K x b : Nat → Int) : St := nx57 q W K k57c (s57b q W K x b)
noncomputable def s57d (q : Rf) (W : WF) (K x b : Nat → Int) : St := nx57 q W K k57d (s57c q W K x b)
noncomputable def idT : Nat := bId (cR (cL (cR (cR (cR (cR (code 54)))))))
theorem code57 : code 54 = .seq k57a (.seq k57b (.seq k57c (.seq k57d (.seq (.seq k57e (.block idT (.loop TL1))) k57r)))) := by kernel_rfl
def b64 (b : Nat → Int) : Nat → Int := fnz ((List.range 64).map b)
theorem t57_a (q : Rf) (W : WF) (K x b : Nat → Int) : goodR (run (XK q W K) 80 k57a (s57 x b).tm (s57 x b).hp []) .normal [] := by unfold goodR; kernel_rfl
theorem t57_b (q : Rf) (W : WF) (K x b : Nat → Int) : goodR (run (XK q W K) 80 k57b (s57a q W K x b).tm (s57a q W K x b).hp []) .normal [wdP W (b64 b)] := by unfold goodR; kernel_rfl
theorem t57_c (q : Rf) (W : WF) (K x b : Nat → Int) : goodR (run (XK q W K) 80 k57c (s57b q W K x b).tm (s57b q W K x b).hp []) .normal [K = KLf] := by unfold goodR; kernel_rfl
theorem t57_d (q : Rf) (W : WF) (K x b : Nat → Int) : goodR (run (XK q W K) 80 k57d (s57c q W K x b).tm (s57c q W K x b).hp []) .normal [] := by unfold goodR; kernel_rfl
theorem t57_e (q : Rf) (W : WF) (K x b : Nat → Int) (d : Nat → Value) : givesX 3 keepK fgK (run (XK q W K) 80 k57e (s57d q W K x b).tm (s57d q W K x b).hp []) .normal (stK b x (W (b64 b)) K x 0 d) [] d := by unfold givesX; kernel_rfl
theorem t57_x (q : Rf) (b x0 ws K x : Nat → Int) (d d' : Nat → Value) : givesX 3 keepK fgK (run (XR q) 80 TL1 (stK b x0 ws K x 64 d).tm (stK b x0 ws K x 64 d).hp []) (.exit idT) (stK b x0 ws K x 64 d') [] d' := by unfold givesX; kernel_rfl
noncomputable def f57 (q : Rf) (b x0 ws K x : Nat → Int) (d : Nat → Value) : Fin := finOf (run (XR q) 80 k57r (stK b x0 ws K x 64 d).tm (stK b x0 ws K x 64 d).hp [])
theorem t57_ret (q : Rf) (b x0 ws K x : Nat → Int) (d : Nat → Value) : goodR (run (XR q) 80 k57r (stK b x0 ws K x 64 d).tm (stK b x0 ws K x 64 d).hp []) .ret (List.replicate 8 (q.A = adL)) := by unfold goodR; kernel_rfl
theorem fn57_at : Tryd.prog.funcs[54]? = some (fnN 54) := by kernel_rfl
theorem fn57_body : (fnN 54).body = some (code 54) := by kernel_rfl
def sumK (q : Rf) (x x0 : Nat → Int) : Nat → Int := fun i => q.A [x i, x0 i]
theorem t57_res (q : Rf) (b x0 ws K x : Nat → Int) (d : Nat → Value) : resultsS Tryd.prog (fnN 54) (f57 q b x0 ws K x d).tm (f57 q b x0 ws K x d).hp = some (.agg (u64r 8 (sumK q x x0))) := by kernel_rfl
theorem fn57_tm (x : Nat → Int) : ([.agg (u64r 8 x), .sle 0 0 64 1] ++ List.replicate ((fnN 54).ntmps - [SV.agg (u64r 8 x), SV.sle 0 0 64 1].length) (.val undef) : List SV) = [.agg (u64r 8 x), .sle 0 0 64 1] ++ List.replicate 102 (.val undef) := by kernel_rfl
theorem trnd_t (q : Rf) (b x0 ws K x : Nat → Int) (d d' : Nat → Value) : ∀ t : Nat, t < 64 → trnd q b x0 ws K x t d d'
  | 0, _ => trnd_0 _ _ _ _ _ _ _ _
  | 1, _ => trnd_1 _ _ _ _ _ _ _ _
  | 2, _ => trnd_2 _ _ _ _ _ _ _ _
  | 3, _ => trnd_3 _ _ _ _ _ _ _ _
  | 4, _ => trnd_4 _ _ _ _ _ _ _ _
  | 5, _ => trnd_5 _ _ _ _ _ _ _ _
  | 6, _ => trnd_6 _ _ _ _ _ _ _ _
  | 7, _ => trnd_7 _ _ _ _ _ _ _ _
  | 8, _ => trnd_8 _ _ _ _ _ _ _ _
  | 9, _ => trnd_9 _ _ _ _ _ _ _ _
  | 10, _ => trnd_10 _ _ _ _ _ _ _ _
  | 11, _ => trnd_11 _ _ _ _ _ _ _ _
  | 12, _ => trnd_12 _ _ _ _ _ _ _ _
  | 13, _ => trnd_13 _ _ _ _ _ _ _ _
  | 14, _ => trnd_14 _ _ _ _ _ _ _ _
  | 15, _ => trnd_15 _ _ _ _ _ _ _ _
  | 16, _ => trnd_16 _ _ _ _ _ _ _ _
  | 17, _ => trnd_17 _ _ _ _ _ _ _ _
  | 18, _ => trnd_18 _ _ _ _ _ _ _ _
  | 19, _ => trnd_19 _ _ _ _ _ _ _ _
  | 20, _ => trnd_20 _ _ _ _ _ _ _ _
  | 21, _ => trnd_21 _ _ _ _ _ _ _ _
  | 22, _ => trnd_22 _ _ _ _ _ _ _ _
  | 23, _ => trnd_23 _ _ _ _ _ _ _ _
  | 24, _ => trnd_24 _ _ _ _ _ _ _ _
  | 25, _ => trnd_25 _ _ _ _ _ _ _ _
  | 26, _ => trnd_26 _ _ _ _ _ _ _ _
  | 27, _ => trnd_27 _ _ _ _ _ _ _ _
  | 28, _ => trnd_28 _ _ _ _ _ _ _ _
  | 29, _ => trnd_29 _ _ _ _ _ _ _ _
  | 30, _ => trnd_30 _ _ _ _ _ _ _ _
  | 31, _ => trnd_31 _ _ _ _ _ _ _ _
  | 32, _ => trnd_32 _ _ _ _ _ _ _ _
  | 33, _ => trnd_33 _ _ _ _ _ _ _ _
  | 34, _ => trnd_34 _ _ _ _ _ _ _ _
  | 35, _ => trnd_35 _ _ _ _ _ _ _ _
  | 36, _ => trnd_36 _ _ _ _ _ _ _ _
  | 37, _ => trnd_37 _ _ _ _ _ _ _ _
  | 38, _ => trnd_38 _ _ _ _ _ _ _ _
  | 39, _ => trnd_39 _ _ _ _ _ _ _ _
  | 40, _ => trnd_40 _ _ _ _ _ _ _ _
  | 41, _ => trnd_41 _ _ _ _ _ _ _ _
  | 42, _ => trnd_42 _ _ _ _ _ _ _ _
  | 43, _ => trnd_43 _ _ _ _ _ _ _ _
  | 44, _ => trnd_44 _ _ _ _ _ _ _ _
  | 45, _ => trnd_45 _ _ _ _ _ _ _ _
  | 46, _ => trnd_46 _ _ _ _ _ _ _ _
  | 47, _ => trnd_47 _ _ _ _ _ _ _ _
  | 48, _ => trnd_48 _ _ _ _ _ _ _ _
  | 49, _ => trnd_49 _ _ _ _ _ _ _ _
  | 50, _ => trnd_50 _ _ _ _ _ _ _ _
  | 51, _ => trnd_51 _ _ _ _ _ _ _ _
  | 52, _ => trnd_52 _ _ _ _ _ _ _ _
  | 53, _ => trnd_53 _ _ _ _ _ _ _ _
  | 54, _ => trnd_54 _ _ _ _ _ _ _ _
  | 55, _ => trnd_55 _ _ _ _ _ _ _ _
  | 56, _ => trnd_56 _ _ _ _ _ _ _ _
  | 57, _ => trnd_57 _ _ _ _ _ _ _ _
  | 58, _ => trnd_58 _ _ _ _ _ _ _ _
  | 59, _ => trnd_59 _ _ _ _ _ _ _ _
  | 60, _ => trnd_60 _ _ _ _ _ _ _ _
  | 61, _ => trnd_61 _ _ _ _ _ _ _ _
  | 62, _ => trnd_62 _ _ _ _ _ _ _ _
  | 63, _ => trnd_63 _ _ _ _ _ _ _ _
  | t + 64, h => absurd h (by omega)
/-- The eight words behind t rounds. -/
def tkX (q : Rf) (K ws x0 : Nat → Int) : Nat → Nat → Int
  | 0 => x0
  | t + 1 => upK q K ws (tkX q K ws x0 t) t
theorem KL_w (t : Nat) (ht : t < 64) : IsW (KLf t) (KN.getD t 0) := by
  refine ⟨?_, ?_⟩
  · unfold KLf fnz
    rw [KL_KN, List.getD_eq_getElem?_getD, List.getD_eq_getElem?_getD, List.getElem?_map]
    have : KN[t]? = some (KN[t]'ht) := List.getElem?_eq_getElem _
    rw [this]; rfl
  · have : ∀ t, t < 64 → KN.getD t 0 < 4294967296 := by decide
    exact this t ht
theorem b3_w {a : Int} {x : Nat} (h : IsW a x) (i j k : Nat) (hi : 0 < i ∧ i < 32) (hj : 0 < j ∧ j < 32) (hk : 0 < k ∧ k < 32) : IsW (bL 0 (tnL a i) (tnL a j) (tnL a k)) (ntu3 x i j k) := by
  have := bx_w (tnL_w h i hi.1 hi.2) (tnL_w h j hj.1 hj.2) (tnL_w h k hk.1 hk.2)
  unfold ntu3 ntu2; rw [Nat.zero_xor]; exact this
theorem tkX_w (s : ByteArray) (b : Nat → Int) (hb : ∀ i, i < 64 → b i = ((bAt s i).toNat : Int)) (x0 : Nat → Int) (hx : ∀ i, i < 8 → ∃ n, IsW (x0 i) n) : ∀ t, t ≤ 64 → ∀ i, i < 8 → ∃ n, IsW (tkX rfL KLf (wdF rfL b) x0 t i) n ∧ IsW (Xs s x0 t i) n
  | 0, _, i, hi => by obtain ⟨n, hn⟩ := hx i hi; exact ⟨n, hn, hn⟩
  | t + 1, ht, i, hi => by
    have ih := tkX_w s b hb x0 hx t (by omega)
    obtain ⟨n0, a0, c0⟩ := ih 0 (by omega)
    obtain ⟨n1, a1, c1⟩ := ih 1 (by omega)
    obtain ⟨n2, a2, c2⟩ := ih 2 (by omega)
    obtain ⟨n3, a3, c3⟩ := ih 3 (by omega)
    obtain ⟨n4, a4, c4⟩ := ih 4 (by omega)
    obtain ⟨n5, a5, c5⟩ := ih 5 (by omega)
    obtain ⟨n6, a6, c6⟩ := ih 6 (by omega)
    obtain ⟨n7, a7, c7⟩ := ih 7 (by omega)
    obtain ⟨nw, aw, cw⟩ := wdF_w s b hb t (by omega)
    have kw := KL_w t (by omega)
    have hX : IsW (xK rfL KLf (wdF rfL b) (tkX rfL KLf (wdF rfL b) x0 t) t) (nX n4 n5 n6 n7 (KN.getD t 0) nw) := ad5_w a7 (b3_w a4 6 11 25 (by omega) (by omega) (by omega)) (bc_w a4 a5 a6) kw aw
    have hY : IsW (yK rfL (tkX rfL KLf (wdF rfL b) x0 t)) (nY n0 n1 n2) := ad2_w (b3_w a0 2 13 22 (by omega) (by omega) (by omega)) (bm_w a0 a1 a2)
    have gx : IsW (bX (Xs s x0 t) (KL.getD t 0) (Ws s t)) (nX n4 n5 n6 n7 (KN.getD t 0) nw) := add32_w (add32_w (add32_w (add32_w c7 (tur3_w c4 6 11 25)) (ch32_w c4 c5 c6)) kw) cw
    have gy : IsW (bY (Xs s x0 t)) (nY n0 n1 n2) := add32_w (tur3_w c0 2 13 22) (maj32_w c0 c1 c2)
    show ∃ n, IsW (upK rfL KLf (wdF rfL b) (tkX rfL KLf (wdF rfL b) x0 t) t i) n ∧ IsW (rndF (Xs s x0 t) (KL.getD t 0) (Ws s t) i) n
    match i, hi with
    | 0, _ => exact ⟨_, ad2_w hX hY, add32_w gx gy⟩
    | 1, _ => exact ⟨_, a0, c0⟩
    | 2, _ => exact ⟨_, a1, c1⟩
    | 3, _ => exact ⟨_, a2, c2⟩
    | 4, _ => exact ⟨_, ad2_w a3 hX, add32_w c3 gx⟩
    | 5, _ => exact ⟨_, a4, c4⟩
    | 6, _ => exact ⟨_, a5, c5⟩
    | 7, _ => exact ⟨_, a6, c6⟩
    | i + 8, h => exact absurd h (by omega)
theorem LKn_ok (s : ByteArray) (b : Nat → Int) (hb : ∀ i, i < 64 → b i = ((bAt s i).toNat : Int)) (x0 : Nat → Int) (hx : ∀ i, i < 8 → ∃ n, IsW (x0 i) n) (t : Nat) (ht : t ≤ 64) : AllP (LKn rfL (tkX rfL KLf (wdF rfL b) x0 t)) := by
  have ih := tkX_w s b hb x0 hx t ht
  obtain ⟨n0, a0, _⟩ := ih 0 (by omega)
  obtain ⟨n1, a1, _⟩ := ih 1 (by omega)
  obtain ⟨n2, a2, _⟩ := ih 2 (by omega)
  obtain ⟨n4, a4, _⟩ := ih 4 (by omega)
  obtain ⟨n5, a5, _⟩ := ih 5 (by omega)
  obtain ⟨n6, a6, _⟩ := ih 6 (by omega)
  exact ⟨rfl, rfl, rfl, ⟨rfl, .inl rfl, (tnL_w a4 6 (by omega) (by omega)).rng, (tnL_w a4 11 (by omega) (by omega)).rng, (tnL_w a4 25 (by omega) (by omega)).rng⟩, ⟨rfl, .inr (.inr rfl), a4.rng, a5.rng, a6.rng⟩, rfl,
    rfl, rfl, rfl, ⟨rfl, .inl rfl, (tnL_w a0 2 (by omega) (by omega)).rng, (tnL_w a0 13 (by omega) (by omega)).rng, (tnL_w a0 22 (by omega) (by omega)).rng⟩, ⟨rfl, .inr (.inl rfl), a0.rng, a1.rng, a2.rng⟩, rfl, rfl, rfl, rfl, rfl, rfl, rfl, trivial⟩
theorem loop57 (s : ByteArray) (b : Nat → Int) (hb : ∀ i, i < 64 → b i = ((bAt s i).toNat : Int)) (x0 : Nat → Int) (hx : ∀ i, i < 8 → ∃ n, IsW (x0 i) n) (d : Nat → Value) :
    WpE Tryd.prog (.loop TL1) 3 (stK b x0 (wdF rfL b) KLf x0 0 d) (fun r => r.e = .exit idT ∧ WeakF 3 r.st (fun d => stK b x0 (wdF rfL b) KLf (tkX rfL KLf (wdF rfL b) x0 64) 64 d)) := by
  have go := WpE.loopF (P := Tryd.prog) (c := TL1) (n0 := 3) (γ := {t : Nat // t ≤ 64} × (Nat → Value)) (S := fun g => stK b x0 (wdF rfL b) KLf (tkX rfL KLf (wdF rfL b) x0 g.1.1) g.1.1 g.2) (m := fun g => 64 - g.1.1) (F := fun r => r.e = .exit idT ∧ WeakF 3 r.st (fun d => stK b x0 (wdF rfL b) KLf (tkX rfL KLf (wdF rfL b) x0 64) 64 d)) (fun g => ?_) (⟨0, by omega⟩, d)
  · exact go
  obtain ⟨⟨t, ht⟩, d⟩ := g
  show WpE Tryd.prog TL1 3 (stK b x0 (wdF rfL b) KLf (tkX rfL KLf (wdF rfL b) x0 t) t d) _
  by_cases h : t < 64
  · have nx : WpE Tryd.prog TL1 3 (stK b x0 (wdF rfL b) KLf (tkX rfL KLf (wdF rfL b) x0 t) t d) (fun r => r.e = .normal ∧ WeakF 3 r.st (fun d' => stK b x0 (wdF rfL b) KLf (tkX rfL KLf (wdF rfL b) x0 (t + 1)) (t + 1) d')) :=
      wpE_round (X := XR rfL) rfl XR_ct (XR_lp _) (L := fun _ => LKn rfL (tkX rfL KLf (wdF rfL b) x0 t)) (fun d' => trnd_t rfL b x0 (wdF rfL b) KLf (tkX rfL KLf (wdF rfL b) x0 t) d d' t h) (LKn_ok s b hb x0 hx t ht)
    refine nx.mono fun r hr => .inl ⟨hr.1, _, hr.2, fun d' => ⟨(⟨t + 1, h⟩, d'), ?_, rfl⟩⟩
    show 64 - (t + 1) < 64 - t
    omega
  · have e : t = 64 := by omega
    subst e
    exact (wpE_X (X := XR rfL) rfl XR_ct (XR_lp _) (t57_x rfL b x0 (wdF rfL b) KLf (tkX rfL KLf (wdF rfL b) x0 64) d) trivial).mono fun r hr => .inr ⟨by rw [hr.1]; exact (fun e => by cases e), hr⟩
theorem b64_eq (b : Nat → Int) (i : Nat) (hi : i < 64) : b64 b i = b i := by
  simp [b64, fnz, List.getD_eq_getElem?_getD, List.getElem?_map, List.getElem?_range, hi]
theorem wdF_b64 (b : Nat → Int) (t : Nat) (ht : t < 64) : wdF rfL (b64 b) t = wdF rfL b t := by
  induction t using Nat.strongRecOn with
  | _ t ih =>
    rw [wdF.eq_def rfL (b64 b) t, wdF.eq_def rfL b t]
    by_cases h : t < 16
    · rw [dif_pos h, dif_pos h]
      unfold wvW
      rw [b64_eq b _ (by omega), b64_eq b _ (by omega), b64_eq b _ (by omega), b64_eq b _ (by omega)]
    · rw [dif_neg h, dif_neg h, ih (t - 16) (by omega) (by omega), ih (t - 15) (by omega) (by omega), ih (t - 7) (by omega) (by omega), ih (t - 2) (by omega) (by omega)]
theorem stK_b64 (b x0 K x : Nat → Int) (t : Nat) (d : Nat → Value) : stK b x0 (wdF rfL (b64 b)) K x t d = stK b x0 (wdF rfL b) K x t d := by
  have e : row64 (wdF rfL (b64 b)) = row64 (wdF rfL b) := by
    unfold row64
    congr 1
    refine List.map_congr_left fun i hi => ?_
    rw [wdF_b64 b i (by simpa using hi)]
  unfold stK hpK
  rw [e]
theorem wpE_to {X : Cx} (hX : X.P = Tryd.prog) (hct : CtOk X) (hlp : LpOk X) {c : Code} {s t : St} {L : List Prop} (h : goodR (run X 80 c s.tm s.hp []) .normal L) (hL : AllP L) (ht : t = (finOf (run X 80 c s.tm s.hp [])).st) : WpE Tryd.prog c 3 s (fun r => r.e = .normal ∧ r.st = t) :=
  (wpE_run hX hct hlp h hL).mono fun r hr => ⟨hr.1, by rw [hr.2, ht]⟩
theorem seq_to {x y : Code} {s t : St} {G : Fin → Prop} (h : WpE Tryd.prog x 3 s (fun r => r.e = .normal ∧ r.st = t)) (k : WpE Tryd.prog y 3 t G) : WpE Tryd.prog (.seq x y) 3 s G :=
  WpE.seq h (fun r hr _ => by rw [hr.2]; exact k) (fun r hr hne => absurd hr.1 hne)
theorem e57_a (x0 b : Nat → Int) : WpE Tryd.prog k57a 3 (s57 x0 b) (fun r => r.e = .normal ∧ r.st = s57a rfL (wdF rfL) KLf x0 b) := wpE_to (X := XK rfL (wdF rfL) KLf) rfl (XK_ct _ _) (XK_lp _ _ _) (t57_a rfL (wdF rfL) KLf x0 b) trivial rfl
theorem e57_b (s : ByteArray) (b : Nat → Int) (hb : ∀ i, i < 64 → b i = ((bAt s i).toNat : Int)) (x0 : Nat → Int) : WpE Tryd.prog k57b 3 (s57a rfL (wdF rfL) KLf x0 b) (fun r => r.e = .normal ∧ r.st = s57b rfL (wdF rfL) KLf x0 b) := wpE_to (X := XK rfL (wdF rfL) KLf) rfl (XK_ct _ _) (XK_lp _ _ _) (t57_b rfL (wdF rfL) KLf x0 b) ⟨⟨rfl, s, fun i hi => by rw [b64_eq b i hi]; exact hb i hi⟩, trivial⟩ rfl
theorem e57_c (x0 b : Nat → Int) : WpE Tryd.prog k57c 3 (s57b rfL (wdF rfL) KLf x0 b) (fun r => r.e = .normal ∧ r.st = s57c rfL (wdF rfL) KLf x0 b) := wpE_to (X := XK rfL (wdF rfL) KLf) rfl (XK_ct _ _) (XK_lp _ _ _) (t57_c rfL (wdF rfL) KLf x0 b) ⟨rfl, trivial⟩ rfl
theorem e57_d (x0 b : Nat → Int) : WpE Tryd.prog k57d 3 (s57c rfL (wdF rfL) KLf x0 b) (fun r => r.e = .normal ∧ r.st = s57d rfL (wdF rfL) KLf x0 b) := wpE_to (X := XK rfL (wdF rfL) KLf) rfl (XK_ct _ _) (XK_lp _ _ _) (t57_d rfL (wdF rfL) KLf x0 b) trivial rfl
theorem e57_e (x0 b : Nat → Int) : WpE Tryd.prog k57e 3 (s57d rfL (wdF rfL) KLf x0 b) (fun r => r.e = .normal ∧ WeakF 3 r.st (fun d => stK b x0 (wdF rfL (b64 b)) KLf x0 0 d)) := wpE_X (X := XK rfL (wdF rfL) KLf) rfl (XK_ct _ _) (XK_lp _ _ _) (t57_e rfL (wdF rfL) KLf x0 b) trivial
theorem e57_r (b x0 ws x : Nat → Int) (d : Nat → Value) : WpE Tryd.prog k57r 3 (stK b x0 ws KLf x 64 d) (fun f => f.e = .ret ∧ f = f57 rfL b x0 ws KLf x d) := wpE_run (X := XR rfL) rfl XR_ct (XR_lp _) (s := stK b x0 ws KLf x 64 d) (t57_ret rfL b x0 ws KLf x d) ⟨rfl, rfl, rfl, rfl, rfl, rfl, rfl, rfl, trivial⟩
theorem body57 (s : ByteArray) (b : Nat → Int) (hb : ∀ i, i < 64 → b i = ((bAt s i).toNat : Int)) (x0 : Nat → Int) (hx : ∀ i, i < 8 → ∃ n, IsW (x0 i) n) :
    WpE Tryd.prog (code 54) 3 (s57 x0 b) (fun f => f.e = .ret ∧ ∃ d, f = f57 rfL b x0 (wdF rfL b) KLf (tkX rfL KLf (wdF rfL b) x0 64) d) := by
  rw [code57]
  refine seq_to (e57_a x0 b) (seq_to (e57_b s b hb x0) (seq_to (e57_c x0 b) (seq_to (e57_d x0 b) ?_)))
  refine WpE.seq (F := fun f => f.e = .normal ∧ WeakF 3 f.st (fun d => stK b x0 (wdF rfL b) KLf (tkX rfL KLf (wdF rfL b) x0 64) 64 d)) (WpE.seq (e57_e x0 b) (fun r hr hn => ?_) (fun r hr hne => absurd hr.1 hne)) (fun r hr hn => ?_) (fun r hr hne => absurd hr.1 hne)
  · refine wpE_weakF hr.2 fun d => ?_
    rw [stK_b64]
    exact WpE.block (loop57 s b hb x0 hx d) fun f hf => unblk hf
  exact wpE_weakF hr.2 fun d => (e57_r b x0 (wdF rfL b) (tkX rfL KLf (wdF rfL b) x0 64) d).mono fun f hf => ⟨hf.1, d, hf.2⟩
/-- What take gives. -/
noncomputable def tkB (x0 b : Nat → Int) : Nat → Int := sumK rfL (tkX rfL KLf (wdF rfL b) x0 64) x0
theorem call57 (s : ByteArray) (b : Nat → Int) (hb : ∀ i, i < 64 → b i = ((bAt s i).toNat : Int)) (x0 : Nat → Int) (hx : ∀ i, i < 8 → ∃ n, IsW (x0 i) n) {η : Env} {w : World} {vs : List Value} (hr : HR w.heap.size η [bts64 b, .dead, .cells false []] w) (hargs : Rs η [.agg (u64r 8 x0), .sle 0 0 64 1] vs) :
    Calls Tryd.prog 54 vs.toArray w (fun e w' => ∃ v, e = .returned v ∧ R [] (.agg (u64r 8 (tkB x0 b))) v ∧ Below w.heap.size w w') := by
  have hb0 := body57 s b hb x0 hx
  unfold s57 at hb0
  rw [← fn57_tm] at hb0
  refine (calls_of_wpE fn57_at fn57_body (args := [.agg (u64r 8 x0), .sle 0 0 64 1]) (hp := [bts64 b, .dead, .cells false []]) (F := fun f => f.e = .ret ∧ ∃ d, f = f57 rfL b x0 (wdF rfL b) KLf (tkX rfL KLf (wdF rfL b) x0 64) d) (G := fun s' _ => s' = .agg (u64r 8 (tkB x0 b))) hb0 (fun f hf => ⟨.inr hf.1, _, by obtain ⟨d, e⟩ := hf.2; rw [e]; exact t57_res _ _ _ _ _ _ d, rfl⟩) hr (Nat.le_refl _) hargs).mono fun e w' hq => ?_
  obtain ⟨v, μ, s', hp', e1, e2, e3, e4, rfl⟩ := hq
  exact ⟨v, e1, R.free _ _ (by rfl) e2, e4⟩
/-- As the sum says it. -/
theorem tkB_w (s : ByteArray) (b : Nat → Int) (hb : ∀ i, i < 64 → b i = ((bAt s i).toNat : Int)) (x0 : Nat → Int) (hx : ∀ i, i < 8 → ∃ n, IsW (x0 i) n) (i : Nat) (hi : i < 8) : ∃ n, IsW (tkB x0 b i) n ∧ IsW (add32 (Xs s x0 64 i) (x0 i)) n := by
  obtain ⟨n, a, c⟩ := tkX_w s b hb x0 hx 64 (by omega) i hi
  obtain ⟨m, hm⟩ := hx i hi
  exact ⟨_, ad2_w a hm, add32_w c hm⟩
/-! ### a callee's row of bytes, as a new block; take wherever the bytes lie -/
theorem textCells_free (t : ByteArray) : frees (textCells t) = true := by
  unfold textCells
  induction t.data.toList with
  | nil => rfl
  | cons b l ih => simp only [List.map_cons, frees, ih, Bool.and_true]; rfl
/-- A callee's row of bytes, as a new frozen block. -/
theorem HR.grow3 {B Bc : Nat} {η ε : Env} {hp hc : List SO} {w w' : World} (h : HR B η hp w) (hBc : Bc = w.heap.size) (hb : Below w.heap.size w w') (h' : HR Bc ε hc w') {k kc : Nat} {e : TypeId} {t : ByteArray} (hk : hc[k]? = some (.otx e kc t)) :
    ∃ b c, ε[k]? = some (.pointer (some ⟨b, 0, none⟩)) ∧ ε[kc]? = some (.slice none 0 c) ∧ HR B (η ++ [.pointer (some ⟨b, 0, none⟩), .slice none 0 c]) (hp ++ [.cells false (textCells t), .dead]) w' := by
  subst hBc
  have hbr := h'.blk k _ hk
  obtain ⟨g, c, o1, o2, o3⟩ := hbr.2
  obtain ⟨b, o, e1, e2, e3, e4⟩ := hbr.1 true (textCells t) rfl
  have hgo : b = g ∧ o = 0 := by
    rw [o1] at e1
    simp only [Option.some.injEq, Value.pointer.injEq, Addr.mk.injEq, and_true] at e1
    exact ⟨e1.1.symm, e1.2.symm⟩
  obtain ⟨rfl, rfl⟩ := hgo
  have hB' : w.heap.size ≤ b := e3 rfl
  refine ⟨b, c, o1, o2, ?_⟩
  have split : ∀ {j : Nat} {x : SO}, (hp ++ [SO.cells false (textCells t), SO.dead])[j]? = some x → (j < hp.length ∧ hp[j]? = some x) ∨ (j = hp.length ∧ x = .cells false (textCells t)) ∨ (j = hp.length + 1 ∧ x = .dead) := by
    intro j x hj
    by_cases hlt : j < hp.length
    · rw [List.getElem?_append_left hlt] at hj; exact .inl ⟨hlt, hj⟩
    · rw [List.getElem?_append_right (by omega)] at hj
      match hq : j - hp.length, hj with
      | 0, hj => simp at hj; exact .inr (.inl ⟨by omega, hj.symm⟩)
      | 1, hj => simp at hj; exact .inr (.inr ⟨by omega, hj.symm⟩)
      | i + 2, hj => simp at hj
  refine ⟨by simp [h.len], fun j x hj => ?_, ?_⟩
  · rcases split hj with ⟨_, hj⟩ | ⟨rfl, rfl⟩ | ⟨rfl, rfl⟩
    · exact ((h.blk j x hj).below hb).ext
    · refine ⟨fun wr m hrow => ?_, trivial⟩
      simp only [SO.row, Option.some.injEq, Prod.mk.injEq] at hrow
      obtain ⟨rfl, rfl⟩ := hrow
      refine ⟨b, 0, by rw [← h.len]; simp, e2, (fun e => by cases e), fun i s hi => ?_⟩
      obtain ⟨⟨v, v1, v2, v3⟩, v4⟩ := e4 i s hi
      exact ⟨⟨v, v1, (R.free s v (frees_get (textCells_free t) hi) v2).ext (η := []), v3⟩, fun e => by cases e⟩
    · exact ⟨fun wr m hrow => by simp [SO.row] at hrow, trivial⟩
  · intro k₁ k₂ s₁ s₂ l₁ wr₂ l₂ b₁ o₁ b₂ o₂ h1 r1 h2 r2 hne q1 q2
    rcases split h1 with ⟨p1, h1⟩ | ⟨rfl, rfl⟩ | ⟨rfl, rfl⟩
    · have g1 : η[k₁]? = some (Value.pointer (some ⟨b₁, o₁, none⟩)) := by
        rw [List.getElem?_append_left (by rw [h.len]; exact p1)] at q1; exact q1
      rcases split h2 with ⟨p2, h2⟩ | ⟨rfl, rfl⟩ | ⟨rfl, rfl⟩
      · have g2 : η[k₂]? = some (Value.pointer (some ⟨b₂, o₂, none⟩)) := by
          rw [List.getElem?_append_left (by rw [h.len]; exact p2)] at q2; exact q2
        exact h.apart k₁ k₂ s₁ s₂ l₁ wr₂ l₂ b₁ o₁ b₂ o₂ h1 r1 h2 r2 hne g1 g2
      · have hb2 : b₂ = b := by
          rw [← h.len] at q2
          simp at q2
          exact q2.1.symm
        obtain ⟨x, y, z1, z2, _, _⟩ := (h.blk k₁ s₁ h1).1 true l₁ r1
        rw [g1] at z1
        simp only [Option.some.injEq, Value.pointer.injEq, Addr.mk.injEq, and_true] at z1
        omega
      · simp [SO.row] at r2
    · simp [SO.row] at r1
    · simp [SO.row] at r1
abbrev TF := List Int → (Nat → Int) → Nat → Int
noncomputable def tkL : TF := fun zs b => tkB (fnz zs) b
def tkP (G : TF) (zs bs : List Int) : Prop := G = tkL ∧ (∃ s : ByteArray, ∀ i, i < 64 → fnz bs i = ((bAt s i).toNat : Int)) ∧ ∀ i, i < 8 → 0 ≤ fnz zs i ∧ fnz zs i < 4294967296
def tkG (G : TF) : Raw := fun f args hp =>
  if f = 54 then
    match args with
    | [.agg l, .sle k o 64 kc] =>
      match hp[k]? with
      | some (.cells false m) =>
        match u64s (l.map unN), u8s ((m.drop o).take 64) with
        | some zs, some bs => if zs.length = 8 ∧ bs.length = 64 then some (.agg (u64r 8 (G zs (fnz bs))), .pr (tkP G zs bs)) else none
        | _, _ => none
      | _ => none
    | _ => none
  else none
theorem u64r_of {l : List SV} {zs : List Int} (h : u64s l = some zs) (h8 : zs.length = 8) : l = u64r 8 (fnz zs) := by
  rw [u64s_eq h]
  refine List.ext_getElem (by simp [h8, u64r]) fun i h1 h2 => ?_
  have hi : i < zs.length := by simpa using h1
  simp [u64r, fnz, List.getD_eq_getElem?_getD, List.getElem?_eq_getElem hi]
theorem tkG_ok (G : TF) : (tkG G).Ok := by
  intro f args hp s c h hc B η w vs hr hargs
  unfold tkG at h
  split at h
  · rename_i hf; subst hf
    split at h
    · rename_i l k o kc
      split at h
      · rename_i m hk
        split at h
        · rename_i zs bs hz hb8
          split at h
          · rename_i hlen
            obtain ⟨h8, h64⟩ := hlen
            simp only [Option.some.injEq, Prod.mk.injEq] at h
            obtain ⟨rfl, rfl⟩ := h
            obtain ⟨rfl, ⟨s, hs⟩, hx⟩ := hc
            obtain ⟨v0, r0, rfl, g0, k0⟩ := hargs.cons_inv
            obtain ⟨v1, r1, rfl, g1, k1⟩ := k0.cons_inv
            simp only [Rs] at k1; subst k1
            obtain ⟨b', o', c', x1, x2, x3, rfl⟩ := g1
            obtain ⟨b, p, e1, e2, e3, e4⟩ := (hr.blk k _ hk).1 false m rfl
            rw [x1] at e1
            simp only [Option.some.injEq, Value.pointer.injEq, Addr.mk.injEq, and_true] at e1
            obtain ⟨rfl, rfl⟩ := e1
            have hbt : SO.cells false ((m.drop o).take 64) = bts64 (fnz bs) := bts64_of hb8 h64
            have hfr : frees ((m.drop o).take 64) = true := by
              have := bts64_free (fnz bs)
              unfold bts64 at hbt
              simp only [SO.cells.injEq, true_and] at hbt
              rw [hbt]; exact this
            have hh : HR w.heap.size [.pointer (some ⟨b', o' + o, none⟩), .slice none 0 c', .pointer (some ⟨b', o' + o, none⟩)] [bts64 (fnz bs), .dead, .cells false []] w := by
              rw [← hbt]
              refine ⟨rfl, fun j x hj => ?_, ?_⟩
              · match j, hj with
                | 0, hj =>
                  simp at hj; subst hj
                  refine ⟨fun wr m' hrow => ?_, trivial⟩
                  simp only [SO.row, Option.some.injEq, Prod.mk.injEq] at hrow
                  obtain ⟨rfl, rfl⟩ := hrow
                  refine ⟨b', o' + o, rfl, e2, (fun e => by cases e), fun i s hi => ?_⟩
                  have hf := frees_get hfr hi
                  rw [List.getElem?_take] at hi
                  split at hi
                  · rw [List.getElem?_drop] at hi
                    obtain ⟨⟨v, v1, v2, v3⟩, v4⟩ := e4 (o + i) _ hi
                    refine ⟨⟨v, ?_, R.free _ _ hf v2, v3⟩, fun e => by cases e⟩
                    rw [show o' + o + i = o' + (o + i) by omega]; exact v1
                  · simp at hi
                | 1, hj => simp at hj; subst hj; exact ⟨fun wr m hrow => by simp [SO.row] at hrow, trivial⟩
                | 2, hj =>
                  simp at hj; subst hj
                  refine ⟨fun wr m hrow => ?_, trivial⟩
                  simp only [SO.row, Option.some.injEq, Prod.mk.injEq] at hrow
                  obtain ⟨rfl, rfl⟩ := hrow
                  exact ⟨b', o' + o, rfl, e2, (fun e => by cases e), fun i s hi => by simp at hi⟩
                | j + 3, hj => simp at hj
              · intro k₁ k₂ s₁ s₂ l₁ wr₂ l₂ b₁ o₁ b₂ o₂ h1 r1 h2 r2 hne q1 q2
                match k₁, h1 with
                | 0, h1 => simp at h1; subst h1; simp [SO.row] at r1
                | 1, h1 => simp at h1; subst h1; simp [SO.row] at r1
                | 2, h1 => simp at h1; subst h1; simp [SO.row] at r1
                | j + 3, h1 => simp at h1
            have hfree : (SV.agg (l.map unN)).free = true := by rw [u64r_of hz h8]; rfl
            have g0' : R η (.agg (l.map unN)) v0 := by
              obtain ⟨x, hx, hxs⟩ := g0
              exact ⟨x, hx, Rs_unN hxs⟩
            have ha : Rs [.pointer (some ⟨b', o' + o, none⟩), .slice none 0 c', .pointer (some ⟨b', o' + o, none⟩)] [.agg (u64r 8 (fnz zs)), .sle 0 0 64 1] [v0, .slice (some ⟨b', o' + o, none⟩) 64 c'] := by
              refine Rs.cons ?_ (Rs.cons ⟨b', o' + o, c', rfl, rfl, x3, by simp⟩ Rs.nil)
              rw [← u64r_of hz h8]
              exact R.free _ _ hfree g0'
            exact call57 s (fnz bs) hs (fnz zs) (fun i hi => ⟨(fnz zs i).toNat, by have := hx i hi; exact ⟨by omega, by omega⟩⟩) hh ha
          · simp at h
        · simp at h
      · simp at h
    · simp at h
  · simp at h
/-! ### Padded -/
/-- uint8 -/
def tU8 : TypeId := 5
noncomputable def pA56 : Code := cL (code 53)
noncomputable def pB56 : Code := cL (cR (code 53))
noncomputable def pL56 : Code := cLp (cB (cL (cR (cR (code 53)))))
noncomputable def pC56 : Code := cL (cR (cR (cR (code 53))))
noncomputable def pD56 : Code := cR (cR (cR (cR (code 53))))
noncomputable def idP : Nat := bId (cL (cR (cR (code 53))))
theorem code56 : code 53 = .seq pA56 (.seq pB56 (.seq (.block idP (.loop pL56)) (.seq pC56 pD56))) := by kernel_rfl
def ba1 (z : Int) : ByteArray := ⟨[UInt8.ofNat z.toNat].toArray⟩
def stP (s T : ByteArray) (n : Nat) (d : Nat → Value) : St := ⟨[.val (.string s), .val (d 1), .val (.slice none 0 0), .slo 2 n 3] ++ (List.range' 4 32).map (fun i => .val (d i)), [.dead, .dead, .otx tU8 3 T, .dead]⟩
def fgP : List Nat := [1] ++ List.range' 4 32
def keepP0 : List Nat := [0, 1, 5, 6]
def apP (T : ByteArray) (n : Nat) (z : Int) : Prop := (T.size = n ∧ n + 1 ≤ 1000000000 ∧ (n + 1) * 1 ≤ 1000000000) ∧ (0 ≤ z ∧ z < 256) ∧ True
noncomputable def s56 (s : ByteArray) : St := ⟨[.val (.string s)] ++ List.replicate 35 (.val undef), [.dead, .dead]⟩
noncomputable def s56b (q : Rf) (s : ByteArray) : St := (finOf (run (XR q) 80 pA56 (s56 s).tm (s56 s).hp [])).st
theorem t56_a (q : Rf) (s : ByteArray) : goodR (run (XR q) 80 pA56 (s56 s).tm (s56 s).hp []) .normal [] := by unfold goodR; kernel_rfl
theorem t56_b (q : Rf) (s : ByteArray) (d : Nat → Value) : givesX 2 keepP0 fgP (run (XR q) 80 pB56 (s56b q s).tm (s56b q s).hp []) .normal (stP s (s ++ ba1 128) (s.size + 1) d) [s.size ≤ 1000000000, apP s s.size 128] d := by unfold givesX; kernel_rfl
theorem t56_rnd (q : Rf) (s T : ByteArray) (n : Nat) (d d' : Nat → Value) : givesX 2 keepP0 fgP (run (XR q) 80 pL56 (stP s T n d).tm (stP s T n d).hp [true]) .normal (stP s (T ++ ba1 0) (n + 1) d') [((n : Int).tmod 64 != 56) = true, apP T n 0] d' := by unfold givesX; kernel_rfl
theorem t56_end (q : Rf) (s T : ByteArray) (n : Nat) (d d' : Nat → Value) : givesX 2 [0, 1, 2, 3] fgP (run (XR q) 80 pL56 (stP s T n d).tm (stP s T n d).hp [false]) (.exit idP) (stP s T n d') [((n : Int).tmod 64 != 56) = false] d' := by unfold givesX; kernel_rfl
/-- The last eight bytes. -/
def lnB (s : ByteArray) (p : Int) : Int := IntKind.u8.wrap ((IntKind.u64.wrap ((IntKind.u64.wrap (8 * IntKind.u64.wrap (s.size : Int))).tdiv p)).tmod 256)
def pd8 (s T : ByteArray) : ByteArray := T ++ ba1 (lnB s 72057594037927936) ++ ba1 (lnB s 281474976710656) ++ ba1 (lnB s 1099511627776) ++ ba1 (lnB s 4294967296) ++ ba1 (lnB s 16777216) ++ ba1 (lnB s 65536) ++ ba1 (lnB s 256) ++ ba1 (lnB s 1)
def LP8 (s T : ByteArray) (n : Nat) : List Prop :=
  [apP T n (lnB s 72057594037927936), apP (T ++ ba1 (lnB s 72057594037927936)) (n + 1) (lnB s 281474976710656),
   apP (T ++ ba1 (lnB s 72057594037927936) ++ ba1 (lnB s 281474976710656)) (n + 1 + 1) (lnB s 1099511627776),
   apP (T ++ ba1 (lnB s 72057594037927936) ++ ba1 (lnB s 281474976710656) ++ ba1 (lnB s 1099511627776)) (n + 1 + 1 + 1) (lnB s 4294967296),
   apP (T ++ ba1 (lnB s 72057594037927936) ++ ba1 (lnB s 281474976710656) ++ ba1 (lnB s 1099511627776) ++ ba1 (lnB s 4294967296)) (n + 1 + 1 + 1 + 1) (lnB s 16777216),
   apP (T ++ ba1 (lnB s 72057594037927936) ++ ba1 (lnB s 281474976710656) ++ ba1 (lnB s 1099511627776) ++ ba1 (lnB s 4294967296) ++ ba1 (lnB s 16777216)) (n + 1 + 1 + 1 + 1 + 1) (lnB s 65536),
   apP (T ++ ba1 (lnB s 72057594037927936) ++ ba1 (lnB s 281474976710656) ++ ba1 (lnB s 1099511627776) ++ ba1 (lnB s 4294967296) ++ ba1 (lnB s 16777216) ++ ba1 (lnB s 65536)) (n + 1 + 1 + 1 + 1 + 1 + 1) (lnB s 256),
   apP (T ++ ba1 (lnB s 72057594037927936) ++ ba1 (lnB s 281474976710656) ++ ba1 (lnB s 1099511627776) ++ ba1 (lnB s 4294967296) ++ ba1 (lnB s 16777216) ++ ba1 (lnB s 65536) ++ ba1 (lnB s 256)) (n + 1 + 1 + 1 + 1 + 1 + 1 + 1) (lnB s 1)]
noncomputable def f56 (q : Rf) (s T : ByteArray) (n : Nat) (d : Nat → Value) : Fin := finOf (run (XR q) 80 (.seq pC56 pD56) (stP s T n d).tm (stP s T n d).hp [])
theorem t56_ret (q : Rf) (s T : ByteArray) (n : Nat) (d : Nat → Value) : goodR (run (XR q) 80 (.seq pC56 pD56) (stP s T n d).tm (stP s T n d).hp []) .ret (LP8 s T n) := by unfold goodR; kernel_rfl
theorem fn56_at : Tryd.prog.funcs[53]? = some (fnN 53) := by kernel_rfl
theorem fn56_body : (fnN 53).body = some (code 53) := by kernel_rfl
theorem fn56_tm (s : ByteArray) : ([.val (.string s)] ++ List.replicate ((fnN 53).ntmps - [SV.val (.string s)].length) (.val undef) : List SV) = [.val (.string s)] ++ List.replicate 35 (.val undef) := by kernel_rfl
theorem t56_res (q : Rf) (s T : ByteArray) (n : Nat) (d : Nat → Value) : resultsS Tryd.prog (fnN 53) (f56 q s T n d).tm (f56 q s T n d).hp = some (.slo 26 (n + 1 + 1 + 1 + 1 + 1 + 1 + 1 + 1) 27) := by kernel_rfl
theorem t56_hp (q : Rf) (s T : ByteArray) (n : Nat) (d : Nat → Value) : (f56 q s T n d).hp[26]? = some (.otx tU8 27 (pd8 s T)) := by kernel_rfl
/-! ### Padded, whole -/
theorem ba1_size (z : Int) : (ba1 z).size = 1 := rfl
def zT (s : ByteArray) : Nat → ByteArray
  | 0 => s ++ ba1 128
  | m + 1 => zT s m ++ ba1 0
theorem zT_size (s : ByteArray) : ∀ m, (zT s m).size = s.size + 1 + m
  | 0 => by rw [zT, ByteArray.size_append, ba1_size]
  | m + 1 => by rw [zT, ByteArray.size_append, zT_size s m, ba1_size]; omega
def nz (s : ByteArray) : Nat := (119 - s.size % 64) % 64
def pdL (s : ByteArray) : ByteArray := pd8 s (zT s (nz s))
theorem pd8_size (s T : ByteArray) : (pd8 s T).size = T.size + 8 := by
  unfold pd8
  simp only [ByteArray.size_append, ba1_size]
theorem pdL_size (s : ByteArray) : (pdL s).size = s.size + 1 + nz s + 8 := by
  unfold pdL; rw [pd8_size, zT_size]
theorem lnB_rng (s : ByteArray) (p : Int) : 0 ≤ lnB s p ∧ lnB s p < 256 := by
  unfold lnB; rw [wu8]; omega
theorem tmod_nat (n : Nat) : (n : Int).tmod 64 = ((n % 64 : Nat) : Int) := by
  rw [Int.tmod_eq_emod_of_nonneg (Int.natCast_nonneg _)]; omega
theorem loop56 (s : ByteArray) (hs : s.size ≤ 999999000) (d : Nat → Value) :
    WpE Tryd.prog (.loop pL56) 2 (stP s (zT s 0) (s.size + 1) d) (fun r => r.e = .exit idP ∧ WeakF 2 r.st (fun d => stP s (zT s (nz s)) (s.size + 1 + nz s) d)) := by
  have go := WpE.loopF (P := Tryd.prog) (c := pL56) (n0 := 2) (γ := {m : Nat // m ≤ nz s} × (Nat → Value)) (S := fun g => stP s (zT s g.1.1) (s.size + 1 + g.1.1) g.2) (m := fun g => nz s - g.1.1) (F := fun r => r.e = .exit idP ∧ WeakF 2 r.st (fun d => stP s (zT s (nz s)) (s.size + 1 + nz s) d)) (fun g => ?_) (⟨0, by omega⟩, d)
  · exact go
  obtain ⟨⟨m, hm⟩, d⟩ := g
  show WpE Tryd.prog pL56 2 (stP s (zT s m) (s.size + 1 + m) d) _
  have hz : nz s < 64 := Nat.mod_lt _ (by omega)
  by_cases h : m < nz s
  · have hc : ((((s.size + 1 + m : Nat) : Int).tmod 64) != 56) = true := by
      rw [tmod_nat]
      simp only [bne_iff_ne, ne_eq]
      unfold nz at h
      omega
    refine (wpE_X (X := XR rfL) rfl XR_ct (XR_lp _) (ans := [true]) (T := fun d' => stP s (zT s m ++ ba1 0) (s.size + 1 + m + 1) d') (t56_rnd rfL s (zT s m) (s.size + 1 + m) d) ⟨hc, ⟨⟨zT_size s m, by omega, by omega⟩, ⟨by omega, by omega⟩, trivial⟩, trivial⟩).mono fun r hr => .inl ⟨hr.1, _, hr.2, fun d' => ⟨(⟨m + 1, h⟩, d'), ?_, rfl⟩⟩
    show nz s - (m + 1) < nz s - m
    omega
  · have e : m = nz s := by omega
    subst e
    have hc : ((((s.size + 1 + nz s : Nat) : Int).tmod 64) != 56) = false := by
      rw [tmod_nat]
      simp only [bne_eq_false_iff_eq]
      unfold nz
      omega
    exact (wpE_X (X := XR rfL) rfl XR_ct (XR_lp _) (ans := [false]) (t56_end rfL s (zT s (nz s)) (s.size + 1 + nz s) d) ⟨hc, trivial⟩).mono fun r hr => .inr ⟨by rw [hr.1]; exact (fun e => by cases e), hr⟩
theorem LP8_ok (s T : ByteArray) (n : Nat) (hT : T.size = n) (hn : n ≤ 999999900) : AllP (LP8 s T n) := by
  have go : ∀ (U : ByteArray) (m : Nat) (z : Int), U.size = m → m ≤ 999999990 → 0 ≤ z ∧ z < 256 → apP U m z := fun U m z h1 h2 h3 => ⟨⟨h1, by omega, by omega⟩, h3, trivial⟩
  refine ⟨go _ _ _ hT (by omega) (lnB_rng _ _), go _ _ _ ?_ (by omega) (lnB_rng _ _), go _ _ _ ?_ (by omega) (lnB_rng _ _), go _ _ _ ?_ (by omega) (lnB_rng _ _), go _ _ _ ?_ (by omega) (lnB_rng _ _), go _ _ _ ?_ (by omega) (lnB_rng _ _), go _ _ _ ?_ (by omega) (lnB_rng _ _), go _ _ _ ?_ (by omega) (lnB_rng _ _), trivial⟩ <;> simp only [ByteArray.size_append, ba1_size, hT]
theorem body56 (s : ByteArray) (hs : s.size ≤ 999999000) : WpE Tryd.prog (code 53) 2 (s56 s) (fun f => f.e = .ret ∧ ∃ d, f = f56 rfL s (zT s (nz s)) (s.size + 1 + nz s) d) := by
  rw [code56]
  have hz : nz s < 64 := Nat.mod_lt _ (by omega)
  refine WpE.seq (wpE_run (X := XR rfL) rfl XR_ct (XR_lp _) (t56_a rfL s) trivial) (fun r hr hn => ?_) (fun r hr hne => absurd hr.1 hne)
  have hr2 := hr.2; subst hr2
  refine WpE.seq (wpE_X (X := XR rfL) rfl XR_ct (XR_lp _) (s := s56b rfL s) (t56_b rfL s) ⟨by omega, ⟨⟨rfl, by omega, by omega⟩, ⟨by omega, by omega⟩, trivial⟩, trivial⟩) (fun r hr hn => ?_) (fun r hr hne => absurd hr.1 hne)
  refine wpE_weakF hr.2 fun d => ?_
  refine WpE.seq (F := fun f => f.e = .normal ∧ WeakF 2 f.st (fun d => stP s (zT s (nz s)) (s.size + 1 + nz s) d)) (WpE.block (loop56 s hs d) fun f hf => unblk hf) (fun r hr hn => ?_) (fun r hr hne => absurd hr.1 hne)
  exact wpE_weakF hr.2 fun d => (wpE_run (X := XR rfL) rfl XR_ct (XR_lp _) (s := stP s (zT s (nz s)) (s.size + 1 + nz s) d) (t56_ret rfL s (zT s (nz s)) (s.size + 1 + nz s) d) (LP8_ok s _ _ (zT_size s _) (by omega))).mono fun f hf => ⟨hf.1, d, hf.2⟩
theorem HR.dead2 (w : World) : HR w.heap.size [undef, undef] [.dead, .dead] w := by
  refine ⟨rfl, fun k o hk => ?_, ?_⟩
  · have : o = .dead := by
      match k, hk with
      | 0, hk => simpa using hk.symm
      | 1, hk => simpa using hk.symm
      | k + 2, hk => simp at hk
    subst this
    exact ⟨fun wr l hr => by simp [SO.row] at hr, trivial⟩
  · intro k₁ k₂ s₁ s₂ l₁ wr₂ l₂ b₁ o₁ b₂ o₂ h1 r1 h2 r2 hne q1 q2
    have : s₁ = .dead := by
      match k₁, h1 with
      | 0, hk => simpa using hk.symm
      | 1, hk => simpa using hk.symm
      | k + 2, hk => simp at hk
    subst this
    simp [SO.row] at r1
theorem call56 (s : ByteArray) (hs : s.size ≤ 999999000) {w : World} {vs : List Value} (hargs : Rs [] [.val (.string s)] vs) :
    Calls Tryd.prog 53 vs.toArray w (fun e w' => ∃ v μ hc, e = .returned v ∧ R ([undef, undef] ++ μ) (.slo 26 (pdL s).size 27) v ∧ HR w.heap.size ([undef, undef] ++ μ) hc w' ∧ hc[26]? = some (.otx tU8 27 (pdL s)) ∧ Below w.heap.size w w') := by
  have hb0 := body56 s hs
  unfold s56 at hb0
  rw [← fn56_tm] at hb0
  refine (calls_of_wpE fn56_at fn56_body (args := [.val (.string s)]) (hp := [.dead, .dead]) (F := fun f => f.e = .ret ∧ ∃ d, f = f56 rfL s (zT s (nz s)) (s.size + 1 + nz s) d) (G := fun s' hp' => s' = .slo 26 (pdL s).size 27 ∧ hp'[26]? = some (.otx tU8 27 (pdL s))) hb0 (fun f hf => ⟨.inr hf.1, .slo 26 (pdL s).size 27, by obtain ⟨d, e⟩ := hf.2; rw [e, pdL_size]; exact t56_res _ _ _ _ d, rfl, by obtain ⟨d, e⟩ := hf.2; rw [e]; exact t56_hp _ _ _ _ d⟩) (HR.dead2 w) (Nat.le_refl _) (Rs.free _ _ rfl hargs)).mono fun e w' hq => ?_
  obtain ⟨v, μ, s', hp', e1, e2, e3, e4, rfl, e5⟩ := hq
  exact ⟨v, μ, hp', e1, e2, e3, e5, e4⟩
def byC (T : ByteArray) (n : Nat) : List SV := (List.range n).map fun i : Nat => .val (.int .u8 (byteAt T (i : Int)))
theorem byC_eq (T : ByteArray) {n : Nat} (h : T.size = n) : byC T n = textCells T := by
  subst h
  refine List.ext_getElem? fun i => ?_
  unfold byC
  rw [List.getElem?_map]
  by_cases hi : i < T.size
  · rw [List.getElem?_range hi]
    have := textCells_get T (i : Int) (by rw [Int.toNat_natCast]; exact hi)
    rw [Int.toNat_natCast] at this
    rw [this]; rfl
  · rw [List.getElem?_eq_none (by simp; omega), List.getElem?_eq_none (by rw [textCells_length]; omega)]; rfl
def paP (N : Nat) (PD : ByteArray → ByteArray) (s : ByteArray) : Prop := PD = pdL ∧ (PD s).size = N ∧ s.size ≤ 999999000
def paG (N : Nat) (PD : ByteArray → ByteArray) (args : List SV) (hp : List SO) : Option (SV × Option (List SO) × Cnd) :=
  match args with
  | [.val (.string s)] => some (.sle hp.length 0 N (hp.length + 1), some (hp ++ [.cells false (byC (PD s) N), .dead]), .pr (paP N PD s))
  | _ => none
noncomputable def XS (q : Rf) (G : TF) (N : Nat) (PD : ByteArray → ByteArray) : Cx :=
  ⟨Tryd.prog, fun f args hp => if f = 53 then paG N PD args hp else (rawP ((tkG G).or (smR q))).ct f args hp, fun _ _ _ _ => none⟩
theorem XS_lp (q : Rf) (G : TF) (N : Nat) (PD : ByteArray → ByteArray) : LpOk (XS q G N PD) := fun _ _ _ _ _ _ _ h => by simp [XS] at h
theorem XS_ct (q : Rf) (G : TF) (N : Nat) (PD : ByteArray → ByteArray) : CtOk (XS q G N PD) := by
  intro f args hp s ho c h hc B η w vs hr hB hargs
  have h' : (if f = 53 then paG N PD args hp else (rawP ((tkG G).or (smR q))).ct f args hp) = some (s, ho, c) := h
  split at h'
  · rename_i hf; subst hf
    unfold paG at h'
    split at h'
    · rename_i t
      simp only [Option.some.injEq, Prod.mk.injEq] at h'
      obtain ⟨rfl, rfl, rfl⟩ := h'
      obtain ⟨rfl, hN, hs⟩ := hc
      refine (call56 t hs (Rs.free _ _ rfl hargs)).mono fun e w' hq => ?_
      obtain ⟨v, μ, hcc, rfl, hR, hr2, hk, hb⟩ := hq
      obtain ⟨b, c, p1, p2, hr3⟩ := HR.grow3 hr rfl hb hr2 hk
      rw [← byC_eq (pdL t) hN] at hr3
      refine ⟨v, _, rfl, ?_, hr3, hb.mono hB⟩
      obtain ⟨b', o', c', y1, y2, y3, y4⟩ := hR
      rw [p1] at y1; rw [p2] at y2
      simp only [Option.some.injEq, Value.pointer.injEq, Addr.mk.injEq, and_true, Value.slice.injEq, true_and] at y1 y2
      obtain ⟨rfl, rfl⟩ := y1
      subst y2
      rw [hN] at y3 y4
      exact ⟨b, 0, c, by rw [← hr.len]; simp, by rw [← hr.len]; simp, y3, by simpa using y4⟩
    · simp at h'
  · exact rawP_ct (Raw.or_ok (tkG_ok G) (smR_ok q)) f args hp s ho c h' hc B η w vs hr hB hargs
set_option linter.unusedSimpArgs false
/-! ### Sum, by the number of blocks -/
def iv8 : List Int := [1779033703, 3144134277, 1013904242, 2773480762, 1359893119, 2600822924, 528734635, 1541459225]
def blkZ (T : ByteArray) (j : Nat) : List Int := (List.range 64).map fun i : Nat => byteAt T ((64 * j + i : Nat) : Int)
def chZ (G : TF) (T : ByteArray) : Nat → List Int
  | 0 => iv8
  | j + 1 => (List.range 8).map (G (chZ G T j) (fnz (blkZ T j)))
def dR (x : Nat → Int) (i : Nat) : Int := IntKind.u8.wrap ((IntKind.u64.wrap ((x (i / 4)).tdiv ((2 ^ (24 - 8 * (i % 4)) : Nat) : Int))).tmod 256)
def dgR (zs : List Int) : SV := .agg ((List.range 32).map fun i => .val (.int .u8 (dR (fnz zs) i)))
def LZ (G : TF) (T : ByteArray) (nb : Nat) : List Prop := (List.range nb).map fun j => tkP G (chZ G T j) (blkZ T j)
def sumP (q : Rf) (G : TF) (PD : ByteArray → ByteArray) (s : ByteArray) (nb : Nat) : Prop :=
  givesV (topR (XS q G (64 * nb) PD) (run (XS q G (64 * nb) PD) 80) 42 [.val (.string s)] [.dead, .dead] []) (dgR (chZ G (PD s) nb)) (paP (64 * nb) PD s :: LZ G (PD s) nb)
theorem sum_1 (q : Rf) (G : TF) (PD : ByteArray → ByteArray) (s : ByteArray) : sumP q G PD s 1 := by unfold sumP givesV; kernel_rfl
theorem sum_2 (q : Rf) (G : TF) (PD : ByteArray → ByteArray) (s : ByteArray) : sumP q G PD s 2 := by unfold sumP givesV; kernel_rfl
theorem sum_3 (q : Rf) (G : TF) (PD : ByteArray → ByteArray) (s : ByteArray) : sumP q G PD s 3 := by unfold sumP givesV; kernel_rfl
theorem sum_4 (q : Rf) (G : TF) (PD : ByteArray → ByteArray) (s : ByteArray) : sumP q G PD s 4 := by unfold sumP givesV; kernel_rfl
end Go.Proofs.YtacgamdbmllaoaaDoor
