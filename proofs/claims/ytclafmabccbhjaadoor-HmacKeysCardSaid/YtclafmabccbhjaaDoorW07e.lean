/-
  Walks of functions, reckoned through, and what they give (part W07e). No condition beyond what each says. By an AI agent.
-/
import Derived.Test.YtclafmabccbhjaaDoorW07c
import Derived.Test.YtclafmabccbhjaaDoorW07d2
import Derived.Test.YtclafmabccbhjaaDoorW07d3
import Derived.Test.YtclafmabccbhjaaDoorW06J
namespace Go.Proofs.YtclafmabccbhjaaDoor
open Go.Ex
open Go.RowKit (Below)
set_option linter.unusedVariables false
set_option linter.unusedSimpArgs false
set_option maxRecDepth 1000000
/-! ### the reference's sum is the sum -/
def Wds (zs : List Int) : Prop := zs.length = 8 ∧ ∀ i, i < 8 → ∃ n, IsW (fnz zs i) n
theorem tk_eq {zs : List Int} (hz : Wds zs) (s : ByteArray) (b : Nat → Int) (hb : ∀ i, i < 64 → b i = ((bAt s i).toNat : Int)) : (List.range 8).map (tkL zs b) = tkF zL zs s := by
  unfold tkF
  refine List.map_congr_left fun i hi => ?_
  have hi : i < 8 := by simpa using hi
  obtain ⟨n, a, c⟩ := tkB_w s b hb (fnz zs) hz.2 i hi
  have e : (zL zs s).1 = Xs s (fnz zs) 64 := xlA_Xs s (fn8 zs) 64
  rw [e]
  exact a.1.trans c.1.symm
theorem tk_wds {zs : List Int} (hz : Wds zs) (s : ByteArray) (b : Nat → Int) (hb : ∀ i, i < 64 → b i = ((bAt s i).toNat : Int)) : Wds ((List.range 8).map (tkL zs b)) := by
  refine ⟨by simp, fun i hi => ?_⟩
  obtain ⟨n, a, _⟩ := tkB_w s b hb (fnz zs) hz.2 i hi
  refine ⟨n, ?_⟩
  have : fnz ((List.range 8).map (tkL zs b)) i = tkL zs b i := by
    simp [fnz, List.getD_eq_getElem?_getD, List.getElem?_map, List.getElem?_range, hi]
  rw [this]; exact a
noncomputable def wZ (T : ByteArray) : Nat → List Int
  | 0 => iv
  | j + 1 => tkF zL (wZ T j) (T.extract (64 * j) (64 * j + 64))
theorem bAt_ext (T : ByteArray) (a e i : Nat) (hi : a + i < e) (he : e ≤ T.size) : bAt (T.extract a e) i = bAt T (a + i) := by
  unfold bAt
  have hd : T.data.size = T.size := rfl
  rw [ByteArray.data_extract, Array.getElem?_extract]
  rw [if_pos (by omega)]
theorem byteAt_bAt (T : ByteArray) (i : Nat) (hi : i < T.size) : byteAt T (i : Int) = ((bAt T i).toNat : Int) := by
  unfold byteAt bAt
  have hd : i < T.data.size := hi
  rw [dif_pos (show ((i : Nat) : Int).toNat < T.size by rw [Int.toNat_natCast]; exact hi), Array.getElem?_eq_getElem hd]
  rfl
theorem blkZ_b (T : ByteArray) (j : Nat) (hj : 64 * j + 64 ≤ T.size) : ∀ i, i < 64 → fnz (blkZ T j) i = ((bAt (T.extract (64 * j) (64 * j + 64)) i).toNat : Int) := fun i hi => by
  have : fnz (blkZ T j) i = byteAt T ((64 * j + i : Nat) : Int) := by
    simp only [fnz, blkZ, List.getD_eq_getElem?_getD, List.getElem?_map, List.getElem?_range hi, Option.map_some, Option.getD_some]
  rw [this, byteAt_bAt T _ (by omega), bAt_ext T _ _ i (by omega) hj]
theorem iv_wds : Wds iv8 := ⟨rfl, fun i hi => by
  match i, hi with
  | 0, _ | 1, _ | 2, _ | 3, _ | 4, _ | 5, _ | 6, _ | 7, _ => exact ⟨_, rfl, by decide⟩⟩
theorem chZ_wZ (T : ByteArray) : ∀ j, 64 * j ≤ T.size → chZ tkL T j = wZ T j ∧ Wds (chZ tkL T j)
  | 0, _ => ⟨rfl, iv_wds⟩
  | j + 1, h => by
    obtain ⟨e, hw⟩ := chZ_wZ T j (by omega)
    have hb := blkZ_b T j (by omega)
    refine ⟨?_, tk_wds hw _ _ hb⟩
    show (List.range 8).map (tkL (chZ tkL T j) (fnz (blkZ T j))) = tkF zL (wZ T j) _
    rw [tk_eq hw _ _ hb, e]
theorem rst_ext (T : ByteArray) (a : Nat) (ha : a + 64 ≤ T.size) : rstS (T.extract a T.size) = T.extract (a + 64) T.size := by
  apply ByteArray.ext
  unfold rstS
  rw [ByteArray.data_extract, ByteArray.data_extract, ByteArray.data_extract, ByteArray.size_extract]
  have hd : T.data.size = T.size := rfl
  rw [Array.extract_extract]
  congr 1
  omega
theorem finW_wZ (T : ByteArray) : ∀ j, 64 * j ≤ T.size → finW zL iv T = finW zL (wZ T j) (T.extract (64 * j) T.size)
  | 0, _ => by
    have : T.extract (64 * 0) T.size = T := by
      apply ByteArray.ext
      rw [ByteArray.data_extract]
      show T.data.extract 0 T.data.size = T.data
      simp
    rw [this]; rfl
  | j + 1, h => by
    rw [finW_wZ T j (by omega)]
    obtain ⟨e, hw⟩ := chZ_wZ T j (by omega)
    have hsz : 64 ≤ (T.extract (64 * j) T.size).size := by rw [ByteArray.size_extract]; omega
    have hb := blkZ_b T j (by omega)
    have hb2 : ∀ i, i < 64 → fnz (blkZ T j) i = ((bAt (blkS (T.extract (64 * j) T.size)) i).toNat : Int) := fun i hi => by
      rw [hb i hi]
      congr 2
      have e1 : bAt (blkS (T.extract (64 * j) T.size)) i = bAt (T.extract (64 * j) T.size) i := by
        conv => lhs; unfold bAt blkS
        simp [List.getElem?_toArray, List.getElem?_map, List.getElem?_range hi]
      rw [e1, bAt_ext T _ _ i (by omega) (by omega), bAt_ext T _ _ i (by omega) (Nat.le_refl _)]
    conv => lhs; rw [finW]
    rw [dif_pos hsz, rst_ext T _ (by omega)]
    have e2 : tkF zL (wZ T j) (blkS (T.extract (64 * j) T.size)) = wZ T (j + 1) := by
      show _ = tkF zL (wZ T j) (T.extract (64 * j) (64 * j + 64))
      rw [← e, ← tk_eq hw _ _ hb2, ← tk_eq hw _ _ hb]
    rw [e2, show 64 * j + 64 = 64 * (j + 1) by omega]
theorem finW_blocks (T : ByteArray) (nb : Nat) (h : T.size = 64 * nb) : (finW zL iv T).1 = chZ tkL T nb := by
  rw [finW_wZ T nb (by omega), finW, dif_neg (by rw [ByteArray.size_extract]; omega)]
  exact (chZ_wZ T nb (by omega)).1.symm
/-! the padding -/
def ptL (t : ByteArray) : List UInt8 :=
  UInt8.ofNat (Int.toNat 128) :: (List.replicate (nz t) (UInt8.ofNat (Int.toNat 0)) ++ [UInt8.ofNat (lnB t 72057594037927936).toNat, UInt8.ofNat (lnB t 281474976710656).toNat, UInt8.ofNat (lnB t 1099511627776).toNat, UInt8.ofNat (lnB t 4294967296).toNat, UInt8.ofNat (lnB t 16777216).toNat, UInt8.ofNat (lnB t 65536).toNat, UInt8.ofNat (lnB t 256).toNat, UInt8.ofNat (lnB t 1).toNat])
theorem app_ba1 (T : ByteArray) (z : Int) : (T ++ ba1 z).data.toList = T.data.toList ++ [UInt8.ofNat z.toNat] := by
  rw [ByteArray.data_append, Array.toList_append]; rfl
theorem zT_list (t : ByteArray) : ∀ m, (zT t m).data.toList = t.data.toList ++ UInt8.ofNat (Int.toNat 128) :: List.replicate m (UInt8.ofNat (Int.toNat 0))
  | 0 => by rw [zT, app_ba1]; rfl
  | m + 1 => by
    rw [zT, app_ba1, zT_list t m, List.replicate_succ', List.append_assoc, List.cons_append]
theorem pdL_list (t : ByteArray) : (pdL t).data.toList = t.data.toList ++ ptL t := by
  unfold pdL pd8
  simp only [app_ba1, zT_list]
  unfold ptL
  simp only [List.append_assoc, List.cons_append, List.nil_append]
theorem pdL_app (t : ByteArray) : pdL t = t ++ ⟨(ptL t).toArray⟩ := by
  apply ByteArray.ext
  apply Array.ext'
  rw [pdL_list, ByteArray.data_append, Array.toList_append]
theorem lnB_eq (t : ByteArray) (ht : t.size ≤ 999999000) (k : Nat) (p : Int) (hp : p = 2 ^ k) (h0 : 0 < p) : lnB t p = IntKind.u8.wrap ((IntKind.u64.wrap (w64 0 t * 8)).fdiv (2 ^ k)) := by
  have e1 : IntKind.u64.wrap (8 * IntKind.u64.wrap (t.size : Int)) = 8 * (t.size : Int) := by rw [wu64, wu64]; omega
  have e2 : IntKind.u64.wrap (w64 0 t * 8) = 8 * (t.size : Int) := by unfold w64; rw [wu64, wu64, wu64]; omega
  unfold lnB
  rw [e1, e2, ← hp, Int.tdiv_eq_ediv_of_nonneg (by omega), Int.fdiv_eq_ediv_of_nonneg _ (by omega)]
  have hq0 : 0 ≤ 8 * (t.size : Int) / p := Int.ediv_nonneg (by omega) (by omega)
  have hq1 : 8 * (t.size : Int) / p ≤ 8 * (t.size : Int) := Int.ediv_le_self _ (by omega)
  generalize 8 * (t.size : Int) / p = q at *
  rw [wu64, show q % 18446744073709551616 = q by omega, Int.tmod_eq_emod_of_nonneg hq0, wu8, wu8]
  omega
theorem ptL_pad (t : ByteArray) (ht : t.size ≤ 999999000) (l : List UInt8) (hl : l.length = t.size % 64) : l ++ ptL t = padB l (w64 0 t) := by
  unfold ptL padB lenB nz
  rw [hl, lnB_eq t ht 56 _ (by decide) (by decide), lnB_eq t ht 48 _ (by decide) (by decide), lnB_eq t ht 40 _ (by decide) (by decide), lnB_eq t ht 32 _ (by decide) (by decide), lnB_eq t ht 24 _ (by decide) (by decide), lnB_eq t ht 16 _ (by decide) (by decide), lnB_eq t ht 8 _ (by decide) (by decide), lnB_eq t ht 0 _ (by decide) (by decide)]
  congr 1
  conv => lhs; rw [← List.map_id l]
  refine List.map_congr_left fun b _ => ?_
  simp
theorem finW_mod (s : ByteArray) : ∀ ini : List Int, (finW zL ini s).2.size = s.size % 64 := by
  induction hn : s.size using Nat.strongRecOn generalizing s with
  | _ n ih =>
    intro ini
    rw [finW]
    split
    · rename_i h
      rw [ih (rstS s).size (by rw [rstS_size]; omega) (rstS s) rfl, rstS_size]; omega
    · show s.size = n % 64
      omega
theorem blkS_l (l : List UInt8) (h : 64 ≤ l.length) : blkS ⟨l.toArray⟩ = ⟨(l.take 64).toArray⟩ := by
  unfold blkS
  congr 2
  refine List.ext_getElem (by simp; omega) fun i h1 h2 => ?_
  have hi : i < 64 := by simpa using h1
  simp only [List.getElem_map, List.getElem_range, List.getElem_take]
  unfold bAt
  have : (⟨l.toArray⟩ : ByteArray).data[i]? = some (l[i]'(by omega)) := by
    show l.toArray[i]? = _
    rw [List.getElem?_toArray]; exact List.getElem?_eq_getElem _
  rw [this]; rfl
theorem rstS_l (l : List UInt8) : rstS ⟨l.toArray⟩ = ⟨(l.drop 64).toArray⟩ := by
  unfold rstS
  apply ByteArray.ext
  rw [ByteArray.data_extract]
  show (l.toArray.extract 64 l.toArray.size) = (l.drop 64).toArray
  simp only [List.extract_toArray, List.size_toArray, List.extract_eq_take_drop]
  rw [List.take_of_length_le (by simp)]
theorem finW_l (w : List Int) (l : List UInt8) : finW zL w ⟨l.toArray⟩ = if 64 ≤ l.length then finW zL (tkF zL w ⟨(l.take 64).toArray⟩) ⟨(l.drop 64).toArray⟩ else (w, ⟨l.toArray⟩) := by
  have hs : (⟨l.toArray⟩ : ByteArray).size = l.length := by show l.toArray.size = _; simp
  rw [finW]
  by_cases h : 64 ≤ l.length
  · rw [dif_pos (by rw [hs]; exact h), if_pos h, blkS_l l h, rstS_l]
  · rw [dif_neg (by rw [hs]; exact h), if_neg h]
theorem ba_eta (s : ByteArray) : s = ⟨s.data.toList.toArray⟩ := by
  apply ByteArray.ext; simp
theorem rstS_apQ (s t : ByteArray) (h : 64 ≤ s.size) : rstS (s ++ t) = rstS s ++ t := by
  apply ByteArray.ext
  unfold rstS
  rw [ByteArray.data_extract, ByteArray.data_append, ByteArray.data_append, ByteArray.data_extract, ByteArray.size_append]
  have h' : 64 ≤ s.data.size := h
  have e : (s.size + t.size) = s.data.size + t.data.size := rfl
  rw [e]
  apply Array.ext'
  simp only [Array.toList_extract, Array.toList_append, List.extract_eq_take_drop]
  rw [List.drop_append, List.take_of_length_le (by simp; omega)]
  rw [List.take_of_length_le (by simp)]
  rw [show 64 - s.data.toList.length = 0 by simp; omega]
  rfl
theorem blkS_apQ (s t : ByteArray) (h : 64 ≤ s.size) : blkS (s ++ t) = blkS s := by
  unfold blkS
  congr 2
  refine List.map_congr_left fun i hi => ?_
  unfold bAt
  rw [ByteArray.data_append, Array.getElem?_append_left]
  have : i < 64 := by simpa using hi
  have h' : 64 ≤ s.data.size := h
  omega
/-- What is written in two pieces is as what is written at once. -/
theorem finW_apQ (z : Z) (ini : List Int) (s t : ByteArray) : finW z (finW z ini s).1 ((finW z ini s).2 ++ t) = finW z ini (s ++ t) := by
  by_cases h : 64 ≤ s.size
  · have e1 : finW z ini s = finW z (tkF z ini (blkS s)) (rstS s) := by
      conv => lhs; rw [finW]
      rw [dif_pos h]
    have e2 : finW z ini (s ++ t) = finW z (tkF z ini (blkS s)) (rstS s ++ t) := by
      conv => lhs; rw [finW]
      rw [dif_pos (by rw [ByteArray.size_append]; omega), rstS_apQ s t h, blkS_apQ s t h]
    rw [e1, e2]
    exact finW_apQ z _ _ t
  · have e1 : finW z ini s = (ini, s) := by
      conv => lhs; rw [finW]
      rw [dif_neg h]
    rw [e1]
termination_by s.size
decreasing_by rw [rstS_size]; omega
theorem sum_eq (t : ByteArray) (ht : t.size ≤ 999999000) : shL.S t = (finW zL iv (pdL t)).1 := by
  rw [pdL_app, ← finW_apQ]
  show dgW zL (finW zL iv t).1 (finW zL iv t).2.data.toList (w64 0 t) = _
  have hr : (finW zL iv t).2.data.toList.length = t.size % 64 := by rw [Array.length_toList]; exact finW_mod t iv
  have hL : (finW zL iv t).2 ++ ⟨(ptL t).toArray⟩ = ⟨(padB (finW zL iv t).2.data.toList (w64 0 t)).toArray⟩ := by
    rw [← ptL_pad t ht _ hr]
    apply ByteArray.ext
    apply Array.ext'
    rw [ByteArray.data_append, Array.toList_append]
  rw [hL]
  generalize (finW zL iv t).1 = w
  generalize (finW zL iv t).2.data.toList = l at hr ⊢
  have hlen : (padB l (w64 0 t)).length = l.length + 1 + (119 - l.length) % 64 + 8 := by
    unfold padB; simp; omega
  have h64 : l.length < 64 := by omega
  unfold dgW
  by_cases h : l.length < 56
  · have e1 : (padB l (w64 0 t)).length = 64 := by rw [hlen]; omega
    rw [if_pos h, finW_l, if_pos (by omega), finW_l, if_neg (by rw [List.length_drop]; omega)]
    unfold blkL
    rw [show 64 * 0 = 0 by rfl, List.drop_zero]
  · have e1 : (padB l (w64 0 t)).length = 128 := by rw [hlen]; omega
    rw [if_neg h, finW_l, if_pos (by omega), finW_l, if_pos (by rw [List.length_drop]; omega), finW_l, if_neg (by rw [List.length_drop, List.length_drop]; omega)]
    unfold blkL
    rw [show 64 * 0 = 0 by rfl, List.drop_zero, show 64 * 1 = 64 by rfl]
theorem dg_eq {zs : List Int} (hz : Wds zs) : dgR zs = dgS zs := by
  unfold dgR dgS
  congr 1
  refine List.map_congr_left fun i hi => ?_
  have hi : i < 32 := by simpa using hi
  obtain ⟨n, e, hn⟩ := hz.2 (i / 4) (by omega)
  have e2 : zs.getD (i / 4) 0 = (n : Int) := e
  unfold dR dB
  rw [e, e2]
  have hp : ((2 ^ (24 - 8 * (i % 4)) : Nat) : Int) = (2 : Int) ^ (24 - 8 * (i % 4)) := by push_cast; rfl
  rw [hp]
  have hpos : (0 : Int) < 2 ^ (24 - 8 * (i % 4)) := Int.pow_pos (by decide)
  rw [Int.tdiv_eq_ediv_of_nonneg (by omega), Int.fdiv_eq_ediv_of_nonneg _ (by omega)]
  have hq0 : 0 ≤ (n : Int) / 2 ^ (24 - 8 * (i % 4)) := Int.ediv_nonneg (by omega) (by omega)
  have hq1 : (n : Int) / 2 ^ (24 - 8 * (i % 4)) ≤ n := Int.ediv_le_self _ (by omega)
  generalize (n : Int) / 2 ^ (24 - 8 * (i % 4)) = q at *
  have e3 : IntKind.u8.wrap ((IntKind.u64.wrap q).tmod 256) = IntKind.u8.wrap q := by
    rw [wu64, show q % 18446744073709551616 = q by omega, Int.tmod_eq_emod_of_nonneg hq0, wu8, wu8]
    omega
  rw [e3]
theorem LZ_ok (T : ByteArray) (nb : Nat) (h : T.size = 64 * nb) : AllP (LZ tkL T nb) := by
  unfold LZ
  have go : ∀ l : List Nat, (∀ j ∈ l, j < nb) → AllP (l.map fun j => tkP tkL (chZ tkL T j) (blkZ T j)) := by
    intro l
    induction l with
    | nil => intro _; trivial
    | cons j r ih =>
      intro hl
      have hj := hl j (by simp)
      have hw := (chZ_wZ T j (by omega)).2
      exact ⟨⟨rfl, ⟨_, blkZ_b T j (by omega)⟩, fun i hi => by obtain ⟨n, hn⟩ := hw.2 i hi; exact hn.rng⟩, ih fun k hk => hl k (by simp [hk])⟩
  exact go _ fun j hj => by simpa using hj
theorem sum_any (q : Rf) (G : TF) (PD : ByteArray → ByteArray) (s : ByteArray) : ∀ nb, 1 ≤ nb → nb ≤ 4 → sumP q G PD s nb
  | 0, h, _ => absurd h (by omega)
  | 1, _, _ => sum_1 q G PD s
  | 2, _, _ => sum_2 q G PD s
  | 3, _, _ => sum_3 q G PD s
  | 4, _, _ => sum_4 q G PD s
  | nb + 5, _, h => absurd h (by omega)
theorem call36 (t : ByteArray) (ht : t.size ≤ 247) {w : World} {vs : List Value} (hargs : Rs [] [.val (.string t)] vs) :
    Calls Tryd.prog 20 vs.toArray w (fun e w' => ∃ v, e = .returned v ∧ R [] (dgS (shL.S t)) v ∧ Below w.heap.size w w') := by
  have hz : nz t < 64 := Nat.mod_lt _ (by omega)
  obtain ⟨nb, h1, h4, hT⟩ : ∃ nb, 1 ≤ nb ∧ nb ≤ 4 ∧ (pdL t).size = 64 * nb := by
    refine ⟨(pdL t).size / 64, ?_, ?_, ?_⟩ <;> rw [pdL_size] <;> unfold nz <;> omega
  have h := sum_any rfL tkL pdL t nb h1 h4
  unfold sumP at h
  have hc := callsV (X := XS rfL tkL (64 * nb) pdL) rfl (XS_ct _ _ _ _) (XS_lp _ _ _ _) 80 h ⟨⟨rfl, hT, by omega⟩, LZ_ok _ nb hT⟩ (by rw [dg_eq (chZ_wZ _ nb (by omega)).2]; exact dgS_free _) (HR.dead2 w) (Rs.free _ _ rfl hargs)
  rw [dg_eq (chZ_wZ _ nb (by omega)).2, ← finW_blocks _ nb hT, ← sum_eq t (by omega)] at hc
  exact hc
def rsG (S : ByteArray → List Int) : Raw := fun f args hp =>
  if f = 20 then
    match args with
    | [x] =>
      match x.val? with
      | some (.string t) => some (dgS (S t), .pr (S = shL.S ∧ t.size ≤ 247))
      | _ => none
    | _ => none
  else none
theorem rsG_ok (S : ByteArray → List Int) : (rsG S).Ok := by
  intro f args hp s c h hc B η w vs hr hargs
  unfold rsG at h
  split at h
  · rename_i hf; subst hf
    split at h
    · rename_i x
      split at h
      · rename_i t ht
        simp only [Option.some.injEq, Prod.mk.injEq] at h
        obtain ⟨rfl, rfl⟩ := h
        obtain ⟨rfl, hs⟩ := hc
        refine call36 t hs ?_
        obtain ⟨v0, r0, rfl, g0, k0⟩ := hargs.cons_inv
        simp only [Rs] at k0; subst k0
        exact Rs.cons (by simp only [R]; exact SV.val?_R ht g0) Rs.nil
      · simp at h
    · simp at h
  · simp at h
/-! ### the reference's sum, for texts of up to ten blocks -/
theorem sum_any2 (q : Rf) (G : TF) (PD : ByteArray → ByteArray) (s : ByteArray) : ∀ nb, 1 ≤ nb → nb ≤ 10 → sumP q G PD s nb
  | 0, h, _ => absurd h (by omega)
  | 1, _, _ => sum_1 q G PD s
  | 2, _, _ => sum_2 q G PD s
  | 3, _, _ => sum_3 q G PD s
  | 4, _, _ => sum_4 q G PD s
  | 5, _, _ => sum_5 q G PD s
  | 6, _, _ => sum_6 q G PD s
  | 7, _, _ => sum_7 q G PD s
  | 8, _, _ => sum_8 q G PD s
  | 9, _, _ => sum_9 q G PD s
  | 10, _, _ => sum_10 q G PD s
  | nb + 11, _, h => absurd h (by omega)
theorem call36b (t : ByteArray) (ht : t.size ≤ 631) {w : World} {vs : List Value} (hargs : Rs [] [.val (.string t)] vs) :
    Calls Tryd.prog 20 vs.toArray w (fun e w' => ∃ v, e = .returned v ∧ R [] (dgS (shL.S t)) v ∧ Below w.heap.size w w') := by
  have hz : nz t < 64 := Nat.mod_lt _ (by omega)
  obtain ⟨nb, h1, h4, hT⟩ : ∃ nb, 1 ≤ nb ∧ nb ≤ 10 ∧ (pdL t).size = 64 * nb := by
    refine ⟨(pdL t).size / 64, ?_, ?_, ?_⟩ <;> rw [pdL_size] <;> unfold nz <;> omega
  have h := sum_any2 rfL tkL pdL t nb h1 h4
  unfold sumP at h
  have hc := callsV (X := XS rfL tkL (64 * nb) pdL) rfl (XS_ct _ _ _ _) (XS_lp _ _ _ _) 80 h ⟨⟨rfl, hT, by omega⟩, LZ_ok _ nb hT⟩ (by rw [dg_eq (chZ_wZ _ nb (by omega)).2]; exact dgS_free _) (HR.dead2 w) (Rs.free _ _ rfl hargs)
  rw [dg_eq (chZ_wZ _ nb (by omega)).2, ← finW_blocks _ nb hT, ← sum_eq t (by omega)] at hc
  exact hc
def rsB (S : ByteArray → List Int) : Raw := fun f args hp =>
  if f = 20 then
    match args with
    | [x] =>
      match x.val? with
      | some (.string t) => some (dgS (S t), .pr (S = shL.S ∧ t.size ≤ 631))
      | _ => none
    | _ => none
  else none
theorem rsB_ok (S : ByteArray → List Int) : (rsB S).Ok := by
  intro f args hp s c h hc B η w vs hr hargs
  unfold rsB at h
  split at h
  · rename_i hf; subst hf
    split at h
    · rename_i x
      split at h
      · rename_i t ht
        simp only [Option.some.injEq, Prod.mk.injEq] at h
        obtain ⟨rfl, rfl⟩ := h
        obtain ⟨rfl, hs⟩ := hc
        refine call36b t hs ?_
        obtain ⟨v0, r0, rfl, g0, k0⟩ := hargs.cons_inv
        simp only [Rs] at k0; subst k0
        exact Rs.cons (by simp only [R]; exact SV.val?_R ht g0) Rs.nil
      · simp at h
    · simp at h
  · simp at h
end Go.Proofs.YtclafmabccbhjaaDoor
