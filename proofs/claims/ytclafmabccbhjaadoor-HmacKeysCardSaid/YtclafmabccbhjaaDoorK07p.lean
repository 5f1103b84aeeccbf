/-
  Walks of functions, reckoned through, and what they give (part K07p). No condition beyond what each says. By an AI agent.
-/
import Derived.Test.YtclafmabccbhjaaDoorK07d
namespace Go.Proofs.YtclafmabccbhjaaDoor
open Go.Ex
open Go.RowKit (Below)
set_option linter.unusedVariables false
set_option maxRecDepth 1000000
/-! ### codes (hmac), under keys of untold length -/
noncomputable def Xo (q : Sh) : Cx := guardX [16] (rawP (sumG q))
theorem Xo_ct : CtOk (Xo shL) := guardX_ct (rawP_ct sumG_ok)
theorem Xo_lp (q : Sh) : LpOk (Xo q) := guardX_lp (rawP_lp _)
def xorB (k c : Int) : Int := IntKind.u8.wrap ((BitVec.ofInt IntKind.u8.bits c ^^^ BitVec.ofInt IntKind.u8.bits k).toNat : Int)
def mixV (k : Int) (s : ByteArray) : List SV := (List.range 64).map fun i : Nat => .val (.int .u8 (xorB k (byteAt s (i : Int))))
def mixT (k : Int) (s : ByteArray) : List UInt8 := (List.range 64).map fun i : Nat => UInt8.ofNat (xorB k (byteAt s (i : Int))).toNat
def ba (l : List UInt8) : ByteArray := ⟨l.toArray⟩
def idB (b : UInt8) : UInt8 := UInt8.ofNat (Int.toNat (b.toNat : Int))
def dgL (w : List Int) : List UInt8 := dgB w
def hmJ (s t : ByteArray) : ByteArray := ba (mixT 54 s) ++ t
def hmO (s : ByteArray) (w : List Int) : ByteArray := ba (mixT 92 s ++ (dgL w).map idB)
def hmU (S : ByteArray → List Int) (s t : ByteArray) : List Int := S (hmO s (S (hmJ s t)))
def cpP (t : ByteArray) : Prop := 64 ≤ IntKind.i64.wrap (64 + (t.size : Int)) ∧ ((1 : Nat) : Int) * IntKind.i64.wrap (64 + (t.size : Int)) ≤ 281474976710656 ∧ IntKind.i64.wrap (64 + (t.size : Int)) ≤ 1000000000
noncomputable def LU (S : ByteArray → List Int) (s t : ByteArray) : List Prop :=
  [decide ((s.size : Int) > 64) = false, cpP t, s.size ≤ 64, (64 + t.size ≤ 1000000000 ∧ (64 + t.size) * 1 ≤ 1000000000) ∧ inBs (mixV 54 s), 64 + t.size = (hmJ s t).size, P9 (hmJ s t) 0 glL, s.size ≤ 64, P9 (hmO s (S (hmJ s t))) 0 glL]
theorem of_u (q : Sh) (s t : ByteArray) :
    givesV (topR (Xo q) (run (Xo q) 80) 8 [.val (.string s), .val (.string t)] [globS] [false]) (dgS (hmU q.S s t)) (LU q.S s t) := by
  unfold givesV; kernel_rfl
/-- with a key of thirty-two told bytes -/
def mixC (k : Int) (c : UInt8) : SV := .val (.int .u8 (xorB k (c.toNat : Int)))
def mixCs (k : Int) (l : List UInt8) : List SV := l.map (mixC k) ++ List.replicate (64 - l.length) (.num .u8 k)
def mixL (k : Int) (l : List UInt8) : List UInt8 := l.map (fun c => UInt8.ofNat (xorB k (c.toNat : Int)).toNat) ++ List.replicate (64 - l.length) (UInt8.ofNat (Int.toNat k))
def hmJL (l : List UInt8) (t : ByteArray) : ByteArray := ba (mixL 54 l) ++ t
def hmOL (l : List UInt8) (w : List Int) : ByteArray := ba (mixL 92 l ++ (dgL w).map idB)
def hmL (S : ByteArray → List Int) (l : List UInt8) (t : ByteArray) : List Int := S (hmOL l (S (hmJL l t)))
noncomputable def LB (S : ByteArray → List Int) (s t : ByteArray) : List Prop :=
  [decide ((s.size : Int) > 64) = true, P9 s 0 glL, cpP t, (64 + t.size ≤ 1000000000 ∧ (64 + t.size) * 1 ≤ 1000000000) ∧ inBs (mixCs 54 (dgL (S s))), 64 + t.size = (hmJL (dgL (S s)) t).size, P9 (hmJL (dgL (S s)) t) 0 glL, P9 (hmOL (dgL (S s)) (S (hmJL (dgL (S s)) t))) 0 glL]
theorem of_b (q : Sh) (s t : ByteArray) :
    givesV (topR (Xo q) (run (Xo q) 80) 8 [.val (.string s), .val (.string t)] [globS] [true]) (dgS (hmL q.S (dgL (q.S s)) t)) (LB q.S s t) := by
  unfold givesV; kernel_rfl
theorem xorB_rng (k c : Int) : 0 ≤ xorB k c ∧ xorB k c < 256 := by unfold xorB; rw [wu8]; omega
theorem mixT_len (k : Int) (s : ByteArray) : (mixT k s).length = 64 := by unfold mixT; simp
theorem mixL_len (k : Int) (l : List UInt8) (h : l.length ≤ 64) : (mixL k l).length = 64 := by
  unfold mixL; simp only [List.length_append, List.length_map, List.length_replicate]; omega
theorem baL_size (l : List UInt8) : (ba l).size = l.length := by show l.toArray.size = _; simp
theorem byteAt_ba (l : List UInt8) (i : Nat) (h : i < l.length) : byteAt (ba l) (i : Int) = ((l[i]'h).toNat : Int) := by
  unfold byteAt
  have h2 : ((i : Int)).toNat < (ba l).size := by rw [baL_size]; simpa using h
  rw [dif_pos h2]
  congr 2
theorem mixL_T (l : List UInt8) (hl : l.length ≤ 64) (k : Nat) (hk : k < 256) : mixL (k : Int) l = mixT (k : Int) (ba l) := by
  unfold mixL mixT
  refine List.ext_getElem (by simp only [List.length_append, List.length_map, List.length_replicate, List.length_range]; omega) fun i h1 h2 => ?_
  have hi : i < 64 := by simpa using h2
  rw [List.getElem_map, List.getElem_range]
  by_cases h : i < l.length
  · rw [List.getElem_append_left (by rw [List.length_map]; exact h), List.getElem_map, byteAt_ba l i h]
  · rw [List.getElem_append_right (by rw [List.length_map]; omega), List.getElem_replicate]
    have e : byteAt (ba l) (i : Int) = 0 := by unfold byteAt; rw [dif_neg (by rw [baL_size]; simpa using h)]
    rw [e]
    unfold xorB
    have bv : ∀ n : Nat, n < 256 → (BitVec.ofInt IntKind.u8.bits (n : Int)).toNat = n := fun n hn => by
      show (BitVec.ofInt 8 (n : Int)).toNat = n
      rw [BitVec.ofInt_natCast, BitVec.toNat_ofNat]; exact Nat.mod_eq_of_lt hn
    have e : (BitVec.ofInt IntKind.u8.bits (0 : Int) ^^^ BitVec.ofInt IntKind.u8.bits (k : Int)).toNat = k := by
      rw [BitVec.toNat_xor, bv k hk]
      have : (BitVec.ofInt IntKind.u8.bits (0 : Int)).toNat = 0 := bv 0 (by omega)
      rw [this, Nat.zero_xor]
    rw [e, wu8]
    congr 1
    omega
theorem dgL_len (w : List Int) : (dgL w).length = 32 := by unfold dgL dgB; simp
theorem hmL_U (S : ByteArray → List Int) (w : List Int) (t : ByteArray) : hmL S (dgL w) t = hmU S (ba (dgL w)) t := by
  unfold hmL hmU hmJL hmOL hmJ hmO
  have h := dgL_len w
  have e1 : mixL 54 (dgL w) = mixT 54 (ba (dgL w)) := mixL_T _ (by omega) 54 (by omega)
  have e2 : mixL 92 (dgL w) = mixT 92 (ba (dgL w)) := mixL_T _ (by omega) 92 (by omega)
  rw [e1, e2]
theorem inBs_fn {α : Type} (f : α → Int) (h : ∀ i, 0 ≤ f i ∧ f i < 256) (r : List SV) (hr : inBs r) : ∀ l : List α, inBs ((l.map fun i => .val (.int .u8 (f i))) ++ r)
  | [] => hr
  | i :: l => ⟨h i, inBs_fn f h r hr l⟩
theorem inBs_rep (n : Nat) : inBs (List.replicate n (.num .u8 54)) := by
  induction n with
  | zero => exact trivial
  | succ n ih => exact ⟨by decide, ih⟩
theorem inBs_V (s : ByteArray) : inBs (mixV 54 s) := by
  have := inBs_fn (fun i : Nat => xorB 54 (byteAt s (i : Int))) (fun i => xorB_rng _ _) [] trivial (List.range 64)
  rw [List.append_nil] at this
  exact this
theorem inBs_C (l : List UInt8) : inBs (mixCs 54 l) := inBs_fn (fun c : UInt8 => xorB 54 (c.toNat : Int)) (fun c => xorB_rng _ _) _ (inBs_rep _) l
theorem hmJ_size (s t : ByteArray) : (hmJ s t).size = 64 + t.size := by unfold hmJ; rw [ByteArray.size_append, baL_size, mixT_len]
theorem hmJL_size (l : List UInt8) (hl : l.length ≤ 64) (t : ByteArray) : (hmJL l t).size = 64 + t.size := by unfold hmJL; rw [ByteArray.size_append, baL_size, mixL_len _ _ hl]
theorem hmO_size (s : ByteArray) (w : List Int) : (hmO s w).size = 96 := by unfold hmO; rw [baL_size, List.length_append, mixT_len, List.length_map, dgL_len]
theorem hmOL_size (l : List UInt8) (hl : l.length ≤ 64) (w : List Int) : (hmOL l w).size = 96 := by unfold hmOL; rw [baL_size, List.length_append, mixL_len _ _ hl, List.length_map, dgL_len]
theorem cpP_ok (t : ByteArray) (h : t.size ≤ 100000) : cpP t := by
  unfold cpP
  have e : IntKind.i64.wrap (64 + (t.size : Int)) = 64 + (t.size : Int) := by rw [wi64]; omega
  rw [e]; omega
theorem LU_all (S : ByteArray → List Int) (s t : ByteArray) (hs : s.size ≤ 64) (ht : t.size ≤ 100000) : AllP (LU S s t) :=
  ⟨by simp; omega, cpP_ok t ht, hs, ⟨⟨by omega, by omega⟩, inBs_V s⟩, (hmJ_size s t).symm, ⟨by rw [hmJ_size]; omega, rfl, rfl⟩, hs, ⟨by rw [hmO_size]; omega, rfl, rfl⟩, trivial⟩
theorem LB_all (S : ByteArray → List Int) (s t : ByteArray) (hs : ¬ s.size ≤ 64) (hs2 : s.size ≤ 100000) (ht : t.size ≤ 100000) : AllP (LB S s t) := by
  have hl : (dgL (S s)).length ≤ 64 := by rw [dgL_len]; omega
  exact ⟨by simp; omega, ⟨by omega, rfl, rfl⟩, cpP_ok t ht, ⟨⟨by omega, by omega⟩, inBs_C _⟩, (hmJL_size _ hl t).symm, ⟨by rw [hmJL_size _ hl]; omega, rfl, rfl⟩, ⟨by rw [hmOL_size _ hl]; omega, rfl, rfl⟩, trivial⟩
abbrev OfF := ByteArray → ByteArray → List Int
/-- The code of a text under a key. -/
noncomputable def ofW : OfF := fun s t => hmU shL.S (keyN s) t
theorem call8 (s t : ByteArray) (hs : s.size ≤ 100000) (ht : t.size ≤ 100000) {B : Nat} {η : Env} {hp : List SO} {k : Nat} {w : World} {vs : List Value} (hr : HR B η hp w) (hk : hp[k]? = some globS) (hargs : Rs [] [.val (.string s), .val (.string t)] vs) :
    Calls Tryd.prog 8 vs.toArray w (fun e w' => ∃ v, e = .returned v ∧ R [] (dgS (ofW s t)) v ∧ Below w.heap.size w w') := by
  obtain ⟨v, hv⟩ := HR.glob hr hk (by decide)
  by_cases h : s.size ≤ 64
  · have e : ofW s t = hmU shL.S s t := by unfold ofW keyN; rw [if_pos h]
    rw [e]
    exact callsV (X := Xo shL) rfl Xo_ct (Xo_lp _) 80 (of_u shL s t) (LU_all _ s t h ht) (dgS_free _) (hv _) (Rs.free _ _ rfl hargs)
  · have e : ofW s t = hmL shL.S (dgL (shL.S s)) t := by
      unfold ofW keyN; rw [if_neg h, hmL_U]; rfl
    rw [e]
    exact callsV (X := Xo shL) rfl Xo_ct (Xo_lp _) 80 (of_b shL s t) (LB_all _ s t h hs ht) (dgS_free _) (hv _) (Rs.free _ _ rfl hargs)
def POf (O : OfF) (s t : ByteArray) (g : Nat) (gl : List SV) : Prop := O = ofW ∧ s.size ≤ 100000 ∧ t.size ≤ 100000 ∧ g = 0 ∧ gl = glL
noncomputable def ofN (O : OfF) : Raw := fun f args hp =>
  if f = 8 then
    match args, hp with
    | [x, y], .glob g gl :: _ =>
      match x.val?, y.val? with
      | some (.string s), some (.string t) => some (dgS (O s t), .pr (POf O s t g gl))
      | _, _ => none
    | _, _ => none
  else none
theorem ofN_ok (O : OfF) : (ofN O).Ok := by
  intro f args hp s c h hc B η w vs hr hargs
  unfold ofN at h
  split at h
  · rename_i hf; subst hf
    split at h
    · rename_i x y g gl r
      split at h
      · rename_i s t h1 h2
        simp only [Option.some.injEq, Prod.mk.injEq] at h
        obtain ⟨rfl, rfl⟩ := h
        obtain ⟨rfl, q1, q2, rfl, rfl⟩ := hc
        refine call8 s t q1 q2 hr (k := 0) rfl ?_
        obtain ⟨v0, r0, rfl, g0, k0⟩ := hargs.cons_inv
        obtain ⟨v1, r1, rfl, g1, k1⟩ := k0.cons_inv
        simp only [Rs] at k1; subst k1
        exact Rs.cons (by simp only [R]; exact SV.val?_R h1 g0) (Rs.cons (by simp only [R]; exact SV.val?_R h2 g1) Rs.nil)
      · simp at h
    · simp at h
  · simp at h
theorem idB_eq (b : UInt8) : idB b = b := by unfold idB; simp
theorem map_idB (l : List UInt8) : l.map idB = l := by
  conv => rhs; rw [← List.map_id l]
  exact List.map_congr_left fun b _ => idB_eq b
def cutK (k : Int) (f : ByteArray) : ByteArray := f.extract (Int.toNat 0) (if k < (f.size : Int) then k else (f.size : Int)).toNat
def cutP (k : Int) (f : ByteArray) : Prop := (0 : Int) ≤ 0 ∧ (0 : Int) ≤ (if k < (f.size : Int) then k else (f.size : Int)) ∧ (if k < (f.size : Int) then k else (f.size : Int)) ≤ (f.size : Int)
theorem cutP_ok (k : Int) (h : 0 ≤ k) (f : ByteArray) : cutP k f := by unfold cutP; split <;> omega
theorem cutK_size (k : Int) (h : 0 ≤ k) (f : ByteArray) : ((cutK k f).size : Int) ≤ k ∧ (cutK k f).size ≤ f.size := by
  unfold cutK; rw [ByteArray.size_extract]; split <;> omega
end Go.Proofs.YtclafmabccbhjaaDoor
