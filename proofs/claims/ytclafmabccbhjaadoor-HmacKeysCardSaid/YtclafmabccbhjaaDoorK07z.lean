/-
  Walks of functions, reckoned through, and what they give (part K07z). No condition beyond what each says. By an AI agent.
-/
import Derived.Test.YtclafmabccbhjaaDoorK07x
namespace Go.Proofs.YtclafmabccbhjaaDoor
open Go.Ex
open Go.RowKit (Below)
set_option linter.unusedVariables false
set_option maxRecDepth 1000000
theorem kt_t (O : OfF) (q : Sh) (k t : ByteArray) (w : List Int) (a b : Nat → Int) (d d' : Nat → Value) : ∀ i, i < 64 → krt O q k t w a b i d d'
  | 0, _ => kt_0 _ _ _ _ _ _ _ _ _
  | 1, _ => kt_1 _ _ _ _ _ _ _ _ _
  | 2, _ => kt_2 _ _ _ _ _ _ _ _ _
  | 3, _ => kt_3 _ _ _ _ _ _ _ _ _
  | 4, _ => kt_4 _ _ _ _ _ _ _ _ _
  | 5, _ => kt_5 _ _ _ _ _ _ _ _ _
  | 6, _ => kt_6 _ _ _ _ _ _ _ _ _
  | 7, _ => kt_7 _ _ _ _ _ _ _ _ _
  | 8, _ => kt_8 _ _ _ _ _ _ _ _ _
  | 9, _ => kt_9 _ _ _ _ _ _ _ _ _
  | 10, _ => kt_10 _ _ _ _ _ _ _ _ _
  | 11, _ => kt_11 _ _ _ _ _ _ _ _ _
  | 12, _ => kt_12 _ _ _ _ _ _ _ _ _
  | 13, _ => kt_13 _ _ _ _ _ _ _ _ _
  | 14, _ => kt_14 _ _ _ _ _ _ _ _ _
  | 15, _ => kt_15 _ _ _ _ _ _ _ _ _
  | 16, _ => kt_16 _ _ _ _ _ _ _ _ _
  | 17, _ => kt_17 _ _ _ _ _ _ _ _ _
  | 18, _ => kt_18 _ _ _ _ _ _ _ _ _
  | 19, _ => kt_19 _ _ _ _ _ _ _ _ _
  | 20, _ => kt_20 _ _ _ _ _ _ _ _ _
  | 21, _ => kt_21 _ _ _ _ _ _ _ _ _
  | 22, _ => kt_22 _ _ _ _ _ _ _ _ _
  | 23, _ => kt_23 _ _ _ _ _ _ _ _ _
  | 24, _ => kt_24 _ _ _ _ _ _ _ _ _
  | 25, _ => kt_25 _ _ _ _ _ _ _ _ _
  | 26, _ => kt_26 _ _ _ _ _ _ _ _ _
  | 27, _ => kt_27 _ _ _ _ _ _ _ _ _
  | 28, _ => kt_28 _ _ _ _ _ _ _ _ _
  | 29, _ => kt_29 _ _ _ _ _ _ _ _ _
  | 30, _ => kt_30 _ _ _ _ _ _ _ _ _
  | 31, _ => kt_31 _ _ _ _ _ _ _ _ _
  | 32, _ => kt_32 _ _ _ _ _ _ _ _ _
  | 33, _ => kt_33 _ _ _ _ _ _ _ _ _
  | 34, _ => kt_34 _ _ _ _ _ _ _ _ _
  | 35, _ => kt_35 _ _ _ _ _ _ _ _ _
  | 36, _ => kt_36 _ _ _ _ _ _ _ _ _
  | 37, _ => kt_37 _ _ _ _ _ _ _ _ _
  | 38, _ => kt_38 _ _ _ _ _ _ _ _ _
  | 39, _ => kt_39 _ _ _ _ _ _ _ _ _
  | 40, _ => kt_40 _ _ _ _ _ _ _ _ _
  | 41, _ => kt_41 _ _ _ _ _ _ _ _ _
  | 42, _ => kt_42 _ _ _ _ _ _ _ _ _
  | 43, _ => kt_43 _ _ _ _ _ _ _ _ _
  | 44, _ => kt_44 _ _ _ _ _ _ _ _ _
  | 45, _ => kt_45 _ _ _ _ _ _ _ _ _
  | 46, _ => kt_46 _ _ _ _ _ _ _ _ _
  | 47, _ => kt_47 _ _ _ _ _ _ _ _ _
  | 48, _ => kt_48 _ _ _ _ _ _ _ _ _
  | 49, _ => kt_49 _ _ _ _ _ _ _ _ _
  | 50, _ => kt_50 _ _ _ _ _ _ _ _ _
  | 51, _ => kt_51 _ _ _ _ _ _ _ _ _
  | 52, _ => kt_52 _ _ _ _ _ _ _ _ _
  | 53, _ => kt_53 _ _ _ _ _ _ _ _ _
  | 54, _ => kt_54 _ _ _ _ _ _ _ _ _
  | 55, _ => kt_55 _ _ _ _ _ _ _ _ _
  | 56, _ => kt_56 _ _ _ _ _ _ _ _ _
  | 57, _ => kt_57 _ _ _ _ _ _ _ _ _
  | 58, _ => kt_58 _ _ _ _ _ _ _ _ _
  | 59, _ => kt_59 _ _ _ _ _ _ _ _ _
  | 60, _ => kt_60 _ _ _ _ _ _ _ _ _
  | 61, _ => kt_61 _ _ _ _ _ _ _ _ _
  | 62, _ => kt_62 _ _ _ _ _ _ _ _ _
  | 63, _ => kt_63 _ _ _ _ _ _ _ _ _
  | i + 64, h => absurd h (by omega)
theorem kf_t (O : OfF) (q : Sh) (k t : ByteArray) (w : List Int) (a b : Nat → Int) (d d' : Nat → Value) : ∀ i, i < 64 → krf O q k t w a b i d d'
  | 0, _ => kf_0 _ _ _ _ _ _ _ _ _
  | 1, _ => kf_1 _ _ _ _ _ _ _ _ _
  | 2, _ => kf_2 _ _ _ _ _ _ _ _ _
  | 3, _ => kf_3 _ _ _ _ _ _ _ _ _
  | 4, _ => kf_4 _ _ _ _ _ _ _ _ _
  | 5, _ => kf_5 _ _ _ _ _ _ _ _ _
  | 6, _ => kf_6 _ _ _ _ _ _ _ _ _
  | 7, _ => kf_7 _ _ _ _ _ _ _ _ _
  | 8, _ => kf_8 _ _ _ _ _ _ _ _ _
  | 9, _ => kf_9 _ _ _ _ _ _ _ _ _
  | 10, _ => kf_10 _ _ _ _ _ _ _ _ _
  | 11, _ => kf_11 _ _ _ _ _ _ _ _ _
  | 12, _ => kf_12 _ _ _ _ _ _ _ _ _
  | 13, _ => kf_13 _ _ _ _ _ _ _ _ _
  | 14, _ => kf_14 _ _ _ _ _ _ _ _ _
  | 15, _ => kf_15 _ _ _ _ _ _ _ _ _
  | 16, _ => kf_16 _ _ _ _ _ _ _ _ _
  | 17, _ => kf_17 _ _ _ _ _ _ _ _ _
  | 18, _ => kf_18 _ _ _ _ _ _ _ _ _
  | 19, _ => kf_19 _ _ _ _ _ _ _ _ _
  | 20, _ => kf_20 _ _ _ _ _ _ _ _ _
  | 21, _ => kf_21 _ _ _ _ _ _ _ _ _
  | 22, _ => kf_22 _ _ _ _ _ _ _ _ _
  | 23, _ => kf_23 _ _ _ _ _ _ _ _ _
  | 24, _ => kf_24 _ _ _ _ _ _ _ _ _
  | 25, _ => kf_25 _ _ _ _ _ _ _ _ _
  | 26, _ => kf_26 _ _ _ _ _ _ _ _ _
  | 27, _ => kf_27 _ _ _ _ _ _ _ _ _
  | 28, _ => kf_28 _ _ _ _ _ _ _ _ _
  | 29, _ => kf_29 _ _ _ _ _ _ _ _ _
  | 30, _ => kf_30 _ _ _ _ _ _ _ _ _
  | 31, _ => kf_31 _ _ _ _ _ _ _ _ _
  | 32, _ => kf_32 _ _ _ _ _ _ _ _ _
  | 33, _ => kf_33 _ _ _ _ _ _ _ _ _
  | 34, _ => kf_34 _ _ _ _ _ _ _ _ _
  | 35, _ => kf_35 _ _ _ _ _ _ _ _ _
  | 36, _ => kf_36 _ _ _ _ _ _ _ _ _
  | 37, _ => kf_37 _ _ _ _ _ _ _ _ _
  | 38, _ => kf_38 _ _ _ _ _ _ _ _ _
  | 39, _ => kf_39 _ _ _ _ _ _ _ _ _
  | 40, _ => kf_40 _ _ _ _ _ _ _ _ _
  | 41, _ => kf_41 _ _ _ _ _ _ _ _ _
  | 42, _ => kf_42 _ _ _ _ _ _ _ _ _
  | 43, _ => kf_43 _ _ _ _ _ _ _ _ _
  | 44, _ => kf_44 _ _ _ _ _ _ _ _ _
  | 45, _ => kf_45 _ _ _ _ _ _ _ _ _
  | 46, _ => kf_46 _ _ _ _ _ _ _ _ _
  | 47, _ => kf_47 _ _ _ _ _ _ _ _ _
  | 48, _ => kf_48 _ _ _ _ _ _ _ _ _
  | 49, _ => kf_49 _ _ _ _ _ _ _ _ _
  | 50, _ => kf_50 _ _ _ _ _ _ _ _ _
  | 51, _ => kf_51 _ _ _ _ _ _ _ _ _
  | 52, _ => kf_52 _ _ _ _ _ _ _ _ _
  | 53, _ => kf_53 _ _ _ _ _ _ _ _ _
  | 54, _ => kf_54 _ _ _ _ _ _ _ _ _
  | 55, _ => kf_55 _ _ _ _ _ _ _ _ _
  | 56, _ => kf_56 _ _ _ _ _ _ _ _ _
  | 57, _ => kf_57 _ _ _ _ _ _ _ _ _
  | 58, _ => kf_58 _ _ _ _ _ _ _ _ _
  | 59, _ => kf_59 _ _ _ _ _ _ _ _ _
  | 60, _ => kf_60 _ _ _ _ _ _ _ _ _
  | 61, _ => kf_61 _ _ _ _ _ _ _ _ _
  | 62, _ => kf_62 _ _ _ _ _ _ _ _ _
  | 63, _ => kf_63 _ _ _ _ _ _ _ _ _
  | i + 64, h => absurd h (by omega)
/-- Cells, said otherwise. -/
theorem Weak.cells {n0 : Nat} {s : St} {k : Nat} {wr : Bool} {l l' : List SV} (hk : s.hp[k]? = some (.cells wr l)) (hl : l'.length = l.length) (hR : ∀ (i : Nat) (a a' : SV), l[i]? = some a → l'[i]? = some a' → a.alike a') : Weak n0 s ⟨s.tm, s.hp.set k (.cells wr l')⟩ := by
  intro ds B w₀ η μ a w hn hs
  exact ⟨μ, hs.tm, hs.df, hr_cells hs.hr hk hl fun i x y hx hy v hv => hR i x y hx hy _ v hv, hs.below, hs.hB⟩
theorem cellsL_alike (a : Nat → Int) (i : Nat) (hi : i < 64) (z : Int) : ∀ (j : Nat) (x y : SV), ((cellsL a i).set i (.num .u8 z))[j]? = some x → (cellsL (upd a i z) (i + 1))[j]? = some y → x.alike y := by
  intro j x y hx hy
  have hlen : (cellsL a i).length = 64 := by unfold cellsL; simp
  have hj : j < 64 := by
    have := (List.getElem?_eq_some_iff.1 hy).1
    unfold cellsL at this; simpa using this
  have gy : (cellsL (upd a i z) (i + 1))[j]? = some (if j < i + 1 then .val (.int .u8 (upd a i z j)) else .num .u8 0) := by
    unfold cellsL; rw [List.getElem?_map, List.getElem?_range hj]; rfl
  rw [gy] at hy
  have hy := (Option.some.inj hy).symm
  subst hy
  by_cases e : i = j
  · subst e
    rw [List.getElem?_set_self (by omega)] at hx
    have hx := (Option.some.inj hx).symm
    subst hx
    rw [if_pos (by omega)]
    unfold upd
    rw [if_pos rfl]
    exact fun η v hv => by simp only [R] at hv ⊢; exact hv
  · rw [List.getElem?_set_ne e] at hx
    have gx : (cellsL a i)[j]? = some (if j < i then .val (.int .u8 (a j)) else .num .u8 0) := by
      unfold cellsL; rw [List.getElem?_map, List.getElem?_range hj]; rfl
    rw [gx] at hx
    have hx := (Option.some.inj hx).symm
    subst hx
    have eu : upd a i z j = a j := by unfold upd; rw [if_neg (fun h => e h.symm)]
    rw [eu]
    by_cases h1 : j < i
    · rw [if_pos h1, if_pos (by omega)]; exact fun η v hv => hv
    · rw [if_neg h1, if_neg (by omega)]; exact fun η v hv => hv
theorem stLx_weak (k t : ByteArray) (w : List Int) (a b : Nat → Int) (i : Nat) (hi : i < 64) (d : Nat → Value) : Weak 1 (stLx k t w ((cellsL a i).set i (.num .u8 54)) ((cellsL b i).set i (.num .u8 92)) (i + 1) d) (stL k t w (upd a i 54) (upd b i 92) (i + 1) d) := by
  have hl : ∀ (a : Nat → Int) (i : Nat), (cellsL a i).length = 64 := fun a i => by unfold cellsL; simp
  intro ds B w₀ η μ x w' hn hs
  obtain ⟨μ1, h1⟩ := Weak.cells (n0 := 1) (k := 2) (l' := cellsL (upd a i 54) (i + 1)) (s := stLx k t w ((cellsL a i).set i (.num .u8 54)) ((cellsL b i).set i (.num .u8 92)) (i + 1) d) rfl (by rw [List.length_set, hl, hl]) (cellsL_alike a i hi 54) hn hs
  exact Weak.cells (n0 := 1) (k := 3) (l' := cellsL (upd b i 92) (i + 1)) (s := stLx k t w (cellsL (upd a i 54) (i + 1)) ((cellsL b i).set i (.num .u8 92)) (i + 1) d) rfl (by rw [List.length_set, hl, hl]) (cellsL_alike b i hi 92) hn h1
def KB (k : ByteArray) (y : Int) (i : Nat) (a : Nat → Int) : Prop := ∀ j, j < i → a j = yB y (byteAt k (j : Int))
theorem KB.next {k : ByteArray} {y : Int} {i : Nat} {a : Nat → Int} (h : KB k y i a) {v : Int} (hv : v = yB y (byteAt k (i : Int))) : KB k y (i + 1) (upd a i v) := fun j hj => by
  unfold upd
  by_cases e : j = i
  · subst e; rw [if_pos rfl, hv]
  · rw [if_neg e]; exact h j (by omega)
theorem yB_0 (y : Nat) (hy : y < 256) : (y : Int) = yB (y : Int) 0 := by
  unfold yB
  have bv : ∀ n : Nat, n < 256 → (BitVec.ofInt IntKind.u8.bits (n : Int)).toNat = n := fun n hn => by
    show (BitVec.ofInt 8 (n : Int)).toNat = n
    rw [BitVec.ofInt_natCast, BitVec.toNat_ofNat]; exact Nat.mod_eq_of_lt hn
  have e : (BitVec.ofInt IntKind.u8.bits (y : Int) ^^^ BitVec.ofInt IntKind.u8.bits (0 : Int)).toNat = y := by
    rw [BitVec.toNat_xor, bv y hy]
    have : (BitVec.ofInt IntKind.u8.bits (0 : Int)).toNat = 0 := bv 0 (by omega)
    rw [this, Nat.xor_zero]
  rw [e, wu8]; omega
theorem loop5 (k t : ByteArray) (w : List Int) (d : Nat → Value) : WpE Tryd.prog (.loop cL5) 1 (stL k t w (fun _ => 0) (fun _ => 0) 0 d) (fun r => r.e = .exit id5 ∧ ∃ a b, (KB k 54 64 a ∧ KB k 92 64 b) ∧ WeakF 1 r.st (fun d => stL k t w a b 64 d)) := by
  have go := WpE.loopF (P := Tryd.prog) (c := cL5) (n0 := 1) (γ := {p : Nat × (Nat → Int) × (Nat → Int) // p.1 ≤ 64 ∧ KB k 54 p.1 p.2.1 ∧ KB k 92 p.1 p.2.2} × (Nat → Value)) (S := fun g => stL k t w g.1.1.2.1 g.1.1.2.2 g.1.1.1 g.2) (m := fun g => 64 - g.1.1.1) (F := fun r => r.e = .exit id5 ∧ ∃ a b, (KB k 54 64 a ∧ KB k 92 64 b) ∧ WeakF 1 r.st (fun d => stL k t w a b 64 d)) (fun g => ?_) (⟨(0, fun _ => 0, fun _ => 0), Nat.zero_le _, fun j hj => absurd hj (Nat.not_lt_zero _), fun j hj => absurd hj (Nat.not_lt_zero _)⟩, d)
  · exact go
  obtain ⟨⟨⟨i, a, b⟩, hi, ha, hb⟩, d⟩ := g
  show WpE Tryd.prog cL5 1 (stL k t w a b i d) _
  simp only at hi ha hb
  by_cases h : i < 64
  · have nx : ∃ a' b', KB k 54 (i + 1) a' ∧ KB k 92 (i + 1) b' ∧ WpE Tryd.prog cL5 1 (stL k t w a b i d) (fun r => r.e = .normal ∧ WeakF 1 r.st (fun d' => stL k t w a' b' (i + 1) d')) := by
      by_cases hs : (i : Int) < (k.size : Int)
      · exact ⟨_, _, ha.next rfl, hb.next rfl, wpE_X (X := XQ ofW shL) rfl XQ_ct (XQ_lp _ _) (T := fun d' => stL k t w (upd a i (yB 54 (byteAt k (i : Int)))) (upd b i (yB 92 (byteAt k (i : Int)))) (i + 1) d') (fun d' => kt_t ofW shL k t w a b d d' i h) ⟨by simpa using hs, ⟨by omega, hs⟩, ⟨by omega, hs⟩, trivial⟩⟩
      · have e0 : byteAt k (i : Int) = 0 := (byteAt_out hs).symm
        refine ⟨upd a i 54, upd b i 92, ha.next (by rw [e0]; exact yB_0 54 (by omega)), hb.next (by rw [e0]; exact yB_0 92 (by omega)), ?_⟩
        exact (wpE_X (X := XQ ofW shL) rfl XQ_ct (XQ_lp _ _) (T := fun d' => stLx k t w ((cellsL a i).set i (.num .u8 54)) ((cellsL b i).set i (.num .u8 92)) (i + 1) d') (fun d' => kf_t ofW shL k t w a b d d' i h) ⟨by simpa using hs, trivial⟩).mono fun r hr => ⟨hr.1, by
          intro ds B w₀ η μ x w' hn hs
          obtain ⟨d', μ', h'⟩ := hr.2 hn hs
          obtain ⟨μ'', h''⟩ := stLx_weak k t w a b i h d' hn h'
          exact ⟨d', μ'', h''⟩⟩
    obtain ⟨a', b', ha', hb', hw⟩ := nx
    refine hw.mono fun r hr => .inl ⟨hr.1, _, hr.2, fun d' => ⟨(⟨(i + 1, a', b'), h, ha', hb'⟩, d'), ?_, rfl⟩⟩
    show 64 - (i + 1) < 64 - i
    omega
  · have e : i = 64 := by omega
    subst e
    exact (wpE_X (X := XQ ofW shL) rfl XQ_ct (XQ_lp _ _) (u5x ofW shL k t w a b d) trivial).mono fun r hr => .inr ⟨by rw [hr.1]; exact (fun e => by cases e), hr.1, a, b, ⟨ha, hb⟩, hr.2⟩
theorem wpE_to5 {X : Cx} (hX : X.P = Tryd.prog) (hct : CtOk X) (hlp : LpOk X) {c : Code} {s t : St} {L : List Prop} (h : goodR (run X 80 c s.tm s.hp []) .normal L) (hL : AllP L) (ht : t = (finOf (run X 80 c s.tm s.hp [])).st) : WpE Tryd.prog c 1 s (fun r => r.e = .normal ∧ r.st = t) :=
  (wpE_run hX hct hlp h hL).mono fun r hr => ⟨hr.1, by rw [hr.2, ht]⟩
theorem seq_to5 {x y : Code} {s t : St} {G : Fin → Prop} (h : WpE Tryd.prog x 1 s (fun r => r.e = .normal ∧ r.st = t)) (k : WpE Tryd.prog y 1 t G) : WpE Tryd.prog (.seq x y) 1 s G :=
  WpE.seq h (fun r hr _ => by rw [hr.2]; exact k) (fun r hr hne => absurd hr.1 hne)
theorem byK5_eq {k : ByteArray} {y : Int} {a : Nat → Int} (h : KB k y 64 a) : byK5 a = mixT y k :=
  List.map_congr_left fun j hj => by rw [h j (by simpa using hj)]; unfold yB xorB; rw [BitVec.xor_comm]
theorem zeroT_get (n i : Nat) (h : i < (zeroT n).size) : (zeroT n)[i]'h = 0 := by
  have h' : i < (Array.replicate n (0 : UInt8)).size := h
  show (Array.replicate n (0 : UInt8))[i]'h' = 0
  simp
theorem byteAt_zeros (k : ByteArray) (n j : Nat) : byteAt (k ++ zeroT n) (j : Int) = byteAt k (j : Int) := by
  have hz : (zeroT n).size = n := by show (Array.replicate n (0 : UInt8)).size = n; simp
  by_cases h : j < k.size
  · unfold byteAt
    rw [dif_pos (by rw [ByteArray.size_append]; simp; omega), dif_pos (by simpa using h)]
    congr 2
    show (k ++ zeroT n)[j]'_ = k[j]'_
    rw [ByteArray.getElem_append_left h]
  · have e : byteAt k (j : Int) = 0 := by unfold byteAt; rw [dif_neg (by simpa using h)]
    rw [e]
    by_cases h2 : j < k.size + n
    · unfold byteAt
      rw [dif_pos (by rw [ByteArray.size_append, hz]; simpa using h2)]
      have e2 : (k ++ zeroT n)[j]'(by rw [ByteArray.size_append, hz]; exact h2) = 0 := by
        rw [ByteArray.getElem_append_right (by omega)]
        exact zeroT_get _ _ _
      show (((k ++ zeroT n)[j]'_).toNat : Int) = 0
      rw [e2]; rfl
    · unfold byteAt; rw [dif_neg (by rw [ByteArray.size_append, hz]; simpa using h2)]
theorem lng_of (k t : ByteArray) (z : Int) (hk : k.size ≤ 64) (h : (lng k z).size ≤ 64) : ofW (lng k z) t = ofW k t := by
  have e : ∀ y, mixT y (lng k z) = mixT y k := fun y => List.map_congr_left fun j _ => by unfold lng; rw [byteAt_zeros]
  unfold ofW keyN
  rw [if_pos h, if_pos hk]
  unfold hmU hmO hmJ
  rw [e, e]
theorem tail5 (k t : ByteArray) (hk : k.size ≤ 64) (ht : t.size ≤ 200) (z : Int) (hz : 0 ≤ z ∧ z < 256) (d : Nat → Value) : WpE Tryd.prog (.seq cE5 (.seq cF5 (.seq cG5 (.seq (.seq cH5 (.block id5 (.loop cL5))) cr5)))) 1 (stD k t z (ofW k t) d)
    (fun f => f.e = .ret ∧ ∃ a b d, (KB k 54 64 a ∧ KB k 92 64 b) ∧ f = f5 ofW shL k t (ofW k t) a b d) := by
  have e1 : IntKind.i64.wrap (65 - (k.size : Int)) = 65 - (k.size : Int) := by rw [wi64]; omega
  have e2 : IntKind.i64.wrap z = z := by rw [wi64]; omega
  have e3 : nz5 k z = z % (65 - (k.size : Int)) := by unfold nz5; rw [e1, e2, Int.tmod_eq_emod_of_nonneg hz.1]
  have n0 : 0 ≤ nz5 k z := by rw [e3]; exact Int.emod_nonneg _ (by omega)
  have n1 : nz5 k z < 65 - (k.size : Int) := by rw [e3]; exact Int.emod_lt_of_pos _ (by omega)
  have hzs : (zeroT (nz5 k z).toNat).size = (nz5 k z).toNat := by show (Array.replicate _ (0 : UInt8)).size = _; simp
  have hls : (lng k z).size ≤ 64 := by unfold lng; rw [ByteArray.size_append, hzs]; omega
  have eo := lng_of k t z hk hls
  refine seq_to5 (t := s5e ofW shL k t z (ofW k t) d) (wpE_to5 (X := XQ ofW shL) rfl XQ_ct (XQ_lp _ _) (u5e ofW shL k t z (ofW k t) d) ⟨by rw [e1]; omega, ⟨n0, by omega, by omega, by omega⟩, hzs.symm, by rw [hzs]; omega, trivial⟩ rfl) ?_
  refine WpE.seq (wpE_X (X := XQ ofW shL) rfl XQ_ct (XQ_lp _ _) (s := s5e ofW shL k t z (ofW k t) d) (T := fun d' => stD k t z (ofW k t) d') (u5f ofW shL k t z (ofW k t) d) ⟨⟨rfl, by omega, by omega, rfl, rfl⟩, by rw [eo, eqDg_self]; rfl, trivial⟩) (fun r hr hn => ?_) (fun r hr hne => absurd hr.1 hne)
  refine wpE_weakF hr.2 fun d => ?_
  refine seq_to5 (t := s5h ofW shL k t z (ofW k t) d) (wpE_to5 (X := XQ ofW shL) rfl XQ_ct (XQ_lp _ _) (u5g ofW shL k t z (ofW k t) d) trivial rfl) ?_
  refine WpE.seq (F := fun f => f.e = .normal ∧ ∃ a b, (KB k 54 64 a ∧ KB k 92 64 b) ∧ WeakF 1 f.st (fun d => stL k t (ofW k t) a b 64 d)) (WpE.seq (wpE_X (X := XQ ofW shL) rfl XQ_ct (XQ_lp _ _) (s := s5h ofW shL k t z (ofW k t) d) (T := fun d' => stL k t (ofW k t) (fun _ => 0) (fun _ => 0) 0 d') (u5h ofW shL k t z (ofW k t) (fun _ => 0) (fun _ => 0) d) trivial) (fun r hr hn => ?_) (fun r hr hne => absurd hr.1 hne)) (fun r hr hn => ?_) (fun r hr hne => absurd hr.1 hne)
  · refine wpE_weakF hr.2 fun d => WpE.block (loop5 k t (ofW k t) d) fun f hf => ?_
    obtain ⟨h1, a, b, h2, h3⟩ := hf
    have := unblk (T := fun d => stL k t (ofW k t) a b 64 d) ⟨h1, h3⟩
    exact ⟨this.1, a, b, h2, this.2⟩
  · obtain ⟨_, a, b, hab, hw⟩ := hr
    have sa : ∀ a : Nat → Int, (byK5 a).length = 64 := fun a => by unfold byK5; simp
    exact wpE_weakF hw fun d => (wpE_run (X := XQ ofW shL) rfl XQ_ct (XQ_lp _ _) (s := stL k t (ofW k t) a b 64 d) (u5ret ofW shL k t (ofW k t) a b d) ⟨by rw [baL_size, sa]; omega, ⟨by rw [ByteArray.size_append, baL_size, sa]; omega, rfl, rfl⟩, ⟨by rw [baL_size, List.length_append, sa]; unfold dgB; simp, rfl, rfl⟩, trivial⟩).mono fun f hf => ⟨hf.1, a, b, d, hab, hf.2⟩
theorem keyN_size (k : ByteArray) : (keyN k).size ≤ 64 := by
  unfold keyN
  split
  · assumption
  · show (dgB _).toArray.size ≤ 64
    unfold dgB; simp
theorem ofW_keyN (k t : ByteArray) : ofW (keyN k) t = ofW k t := by
  have h := keyN_size k
  unfold ofW
  have e : keyN (keyN k) = keyN k := by rw [keyN, if_pos h]
  rw [e]
theorem stDx_weak (k : ByteArray) (h : ¬ k.size ≤ 64) (t : ByteArray) (z : Int) (w : List Int) (d : Nat → Value) : Weak 1 (stDx (.bts false (dgB (shL.S k))) t z w d) (stD (keyN k) t z w d) := by
  have e : keyN k = ba (dgB (shL.S k)) := by unfold keyN; rw [if_neg h]; rfl
  intro ds B w₀ η μ x w' hn hs
  refine Weak.tm (n0 := 1) (s := stDx (.bts false (dgB (shL.S k))) t z w d) (t := stD (keyN k) t z w d) rfl rfl (fun i a b ha hb => ?_) hn hs
  match i with
  | 0 =>
    simp only [stDx, List.cons_append, List.getElem?_cons_zero, Option.some.injEq] at ha
    simp only [stD, stDx, List.cons_append, List.getElem?_cons_zero, Option.some.injEq] at hb
    subst ha; subst hb
    rw [e]
    exact fun η v hv => by simp only [R] at hv ⊢; exact hv
  | i + 1 =>
    have : a = b := by
      simp only [stDx, List.cons_append, List.getElem?_cons_succ] at ha
      simp only [stD, stDx, List.cons_append, List.getElem?_cons_succ] at hb
      rw [ha] at hb; exact Option.some.inj hb
    subst this
    exact fun η v hv => hv
theorem body5 (k t : ByteArray) (z : Int) (hz : 0 ≤ z ∧ z < 256) : WpE Tryd.prog (code 5) 1 (s5 k t z) (fun f => f.e = .ret ∧ ∃ kk tt a b d, (kk.size ≤ 64 ∧ KB kk 54 64 a ∧ KB kk 92 64 b) ∧ f = f5 ofW shL kk tt (ofW kk tt) a b d) := by
  have sk := (cutK_size 200 (by omega) k).1
  have st := (cutK_size 200 (by omega) t).1
  rw [code5]
  refine seq_to5 (t := s5b ofW shL k t z) (wpE_to5 (X := XQ ofW shL) rfl XQ_ct (XQ_lp _ _) (u5a ofW shL k t z) trivial rfl) ?_
  refine seq_to5 (t := s5c ofW shL k t z) (wpE_to5 (X := XQ ofW shL) rfl XQ_ct (XQ_lp _ _) (u5b ofW shL k t z) ⟨⟨rfl, rfl⟩, trivial⟩ rfl) ?_
  refine seq_to5 (t := s5w ofW shL k t z) (wpE_to5 (X := XQ ofW shL) rfl XQ_ct (XQ_lp _ _) (u5c ofW shL k t z) ⟨cutP_ok 200 (by omega) k, cutP_ok 200 (by omega) t, trivial⟩ rfl) ?_
  refine seq_to5 (t := s5d ofW shL k t z) (wpE_to5 (X := XQ ofW shL) rfl XQ_ct (XQ_lp _ _) (u5w ofW shL k t z) ⟨⟨rfl, by omega, by omega, rfl, rfl⟩, trivial⟩ rfl) ?_
  by_cases h : (cutK 200 k).size ≤ 64
  · refine WpE.seq (wpE_X (X := XQ ofW shL) rfl XQ_ct (XQ_lp _ _) (s := s5d ofW shL k t z) (T := fun d => stD (cutK 200 k) (cutK 200 t) z (ofW (cutK 200 k) (cutK 200 t)) d) (u5df ofW shL k t z) ⟨by simp; omega, trivial⟩) (fun r hr hn => ?_) (fun r hr hne => absurd hr.1 hne)
    exact wpE_weakF hr.2 fun d => (tail5 _ _ h (by omega) z hz d).mono fun f hf => ⟨hf.1, cutK 200 k, cutK 200 t, by obtain ⟨_, a, b, d, hab, e⟩ := hf; exact ⟨a, b, d, ⟨h, hab⟩, e⟩⟩
  · have e : keyN (cutK 200 k) = ba (dgB (shL.S (cutK 200 k))) := by unfold keyN; rw [if_neg h]; rfl
    have hs := keyN_size (cutK 200 k)
    have eo := ofW_keyN (cutK 200 k) (cutK 200 t)
    refine WpE.seq (wpE_X (X := XQ ofW shL) rfl XQ_ct (XQ_lp _ _) (s := s5d ofW shL k t z) (T := fun d => stDx (.bts false (dgB (shL.S (cutK 200 k)))) (cutK 200 t) z (ofW (cutK 200 k) (cutK 200 t)) d) (u5dt ofW shL k t z) ⟨by simp; omega, ⟨by omega, rfl, rfl⟩, ⟨rfl, by rw [← e]; omega, by omega, rfl, rfl⟩, by rw [← e, eo, eqDg_self]; rfl, trivial⟩) (fun r hr hn => ?_) (fun r hr hne => absurd hr.1 hne)
    refine wpE_weakF hr.2 fun d => WpE.weak (stDx_weak (cutK 200 k) h (cutK 200 t) z (ofW (cutK 200 k) (cutK 200 t)) d) ?_
    rw [← eo]
    exact (tail5 _ _ hs (by omega) z hz d).mono fun f hf => ⟨hf.1, keyN (cutK 200 k), cutK 200 t, by obtain ⟨_, a, b, d, hab, e⟩ := hf; exact ⟨a, b, d, ⟨hs, hab⟩, e⟩⟩
theorem keys_call (k t : ByteArray) (z : Int) (hz : 0 ≤ z ∧ z < 256) {η : Env} {W : World} {vs : List Value} (hr : HR W.heap.size η [.glob 0 glL] W) (hargs : Rs η [.val (.string k), .val (.string t), .val (.int .u8 z)] vs) :
    Calls Tryd.prog 5 vs.toArray W (fun e w' => ∃ v, e = .returned v ∧ v = .bool true ∧ Below W.heap.size W w') := by
  have hb0 := body5 k t z hz
  unfold s5 at hb0
  rw [← fn5_tm] at hb0
  have hF : ∀ f : Fin, (f.e = .ret ∧ ∃ kk tt a b d, (kk.size ≤ 64 ∧ KB kk 54 64 a ∧ KB kk 92 64 b) ∧ f = f5 ofW shL kk tt (ofW kk tt) a b d) → (f.e = .normal ∨ f.e = .ret) ∧ ∃ s, resultsS Tryd.prog (fnN 5) f.tm f.hp = some s ∧ s = .val (.bool true) := by
    intro f hf
    obtain ⟨he, kk, tt, a, b, d, ⟨hk, ha, hb⟩, e⟩ := hf
    refine ⟨.inr he, _, by rw [e]; exact u5res ofW shL kk tt (ofW kk tt) a b d, ?_⟩
    rw [byK5_eq ha, byK5_eq hb]
    have e : shL.S (ba (mixT 92 kk ++ dgB (shL.S (ba (mixT 54 kk) ++ tt)))) = ofW kk tt := by
      unfold ofW keyN
      rw [if_pos hk]
      unfold hmU hmO hmJ
      rw [map_idB]; rfl
    rw [e, eqDg_self]
  have hc := calls_of_wpE (args := [.val (.string k), .val (.string t), .val (.int .u8 z)]) (hp := [.glob 0 glL]) (F := fun f => f.e = .ret ∧ ∃ kk tt a b d, (kk.size ≤ 64 ∧ KB kk 54 64 a ∧ KB kk 92 64 b) ∧ f = f5 ofW shL kk tt (ofW kk tt) a b d) (G := fun s' _ => s' = .val (.bool true)) fn5_at fn5_body hb0 hF hr (Nat.le_refl _) hargs
  refine hc.mono fun e w' hq => ?_
  obtain ⟨v, μ, s', hp', e1, e2, e3, e4, rfl⟩ := hq
  simp only [R] at e2
  exact ⟨v, e1, e2, e4⟩
end Go.Proofs.YtclafmabccbhjaaDoor
