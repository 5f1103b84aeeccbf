/-
  Walks of functions, reckoned through, and what they give (part W06S). No condition beyond what each says. By an AI agent.
-/
import Derived.Test.YtgefcokanfbpbaaDoorW06J
import Derived.Test.YtgefcokanfbpbaaDoorW07a
namespace Go.Proofs.YtgefcokanfbpbaaDoor
open Go.Ex
open Go.RowKit (Below)
set_option linter.unusedVariables false
set_option maxRecDepth 1000000
/-- A block, taken. -/
def tkN : List Nat → ByteArray → List Nat
  | [a, b, c, d, e, f, g, h], s =>
    List.zipWith nad (go KN a b c d e f g h ((List.range 16).map (nbe s))) [a, b, c, d, e, f, g, h]
  | _, _ => []
def IsWs (l : List Int) (n : List Nat) : Prop := l.length = n.length ∧ ∀ i, i < n.length → IsW (l.getD i 0) (n.getD i 0)
theorem IsWs.eq {l : List Int} {n : List Nat} (h : IsWs l n) : l = n.map Int.ofNat := by
  refine List.ext_getElem (by simp [h.1]) fun i h1 h2 => ?_
  have := (h.2 i (by rw [← h.1]; exact h1)).1
  rw [List.getD_eq_getElem?_getD, List.getElem?_eq_getElem h1] at this
  rw [List.getD_eq_getElem?_getD, List.getElem?_eq_getElem (by rw [← h.1]; exact h1)] at this
  simpa using this
theorem tkF_N {ini : List Int} {n : List Nat} (h : IsWs ini n) (h8 : n.length = 8) (s : ByteArray) : IsWs (tkF zL ini s) (tkN n s) ∧ (tkN n s).length = 8 := by
  match n, h8 with
  | [a, b, c, d, e, f, g, k], _ =>
    have q := go_ok s (fn8 ini) KN 0 a b c d e f g k ((List.range 16).map (nbe s)) rfl (by omega) (h.2 0 (show 0 < 8 by decide)) (h.2 1 (show 1 < 8 by decide)) (h.2 2 (show 2 < 8 by decide)) (h.2 3 (show 3 < 8 by decide)) (h.2 4 (show 4 < 8 by decide)) (h.2 5 (show 5 < 8 by decide)) (h.2 6 (show 6 < 8 by decide)) (h.2 7 (show 7 < 8 by decide))
      ⟨by simp, fun i hi => by
        have e1 : ((List.range 16).map (nbe s)).getD i 0 = nbe s i := by
          rw [List.getD_eq_getElem?_getD, List.getElem?_map, List.getElem?_range hi]; rfl
        rw [e1, Ws, dif_pos (by omega)]
        rw [show 0 + i = i by omega]
        exact be32_w s i⟩
    obtain ⟨q1, q2⟩ := q
    generalize hr : go KN a b c d e f g k ((List.range 16).map (nbe s)) = r at q1 q2
    have hz : zL ini s = xlA s (fn8 ini) 64 := rfl
    have hx : ∀ i, i < 8 → IsW ((zL ini s).1 i) (r.getD i 0) := fun i hi => by
      rw [hz, xlA_Xs]; exact q2 i hi
    unfold tkN
    simp only [hr]
    match r, q1 with
    | [r0, r1, r2, r3, r4, r5, r6, r7], _ =>
      refine ⟨⟨rfl, fun i hi => ?_⟩, rfl⟩
      have hi : i < 8 := hi
      match i, hi with
      | 0, _ => exact add32_w (hx 0 (by omega)) (h.2 0 (show 0 < 8 by decide))
      | 1, _ => exact add32_w (hx 1 (by omega)) (h.2 1 (show 1 < 8 by decide))
      | 2, _ => exact add32_w (hx 2 (by omega)) (h.2 2 (show 2 < 8 by decide))
      | 3, _ => exact add32_w (hx 3 (by omega)) (h.2 3 (show 3 < 8 by decide))
      | 4, _ => exact add32_w (hx 4 (by omega)) (h.2 4 (show 4 < 8 by decide))
      | 5, _ => exact add32_w (hx 5 (by omega)) (h.2 5 (show 5 < 8 by decide))
      | 6, _ => exact add32_w (hx 6 (by omega)) (h.2 6 (show 6 < 8 by decide))
      | 7, _ => exact add32_w (hx 7 (by omega)) (h.2 7 (show 7 < 8 by decide))
/-! ### told digests -/
def finN : Nat → List Nat → List UInt8 → List Nat × List UInt8
  | 0, n, l => (n, l)
  | k + 1, n, l => if 64 ≤ l.length then finN k (tkN n ⟨(l.take 64).toArray⟩) (l.drop 64) else (n, l)
theorem blkS_told (l : List UInt8) (h : 64 ≤ l.length) : blkS ⟨l.toArray⟩ = ⟨(l.take 64).toArray⟩ := by
  unfold blkS
  congr 2
  refine List.ext_getElem (by simp; omega) fun i h1 h2 => ?_
  have hi : i < 64 := by simpa using h1
  simp only [List.getElem_map, List.getElem_range, List.getElem_take]
  unfold bAt
  have : (⟨l.toArray⟩ : ByteArray).data[i]? = some (l[i]'(by omega)) := by
    show l.toArray[i]? = _
    rw [List.getElem?_toArray]; exact List.getElem?_eq_getElem _
  rw [this]; rfl
theorem rstS_told (l : List UInt8) : rstS ⟨l.toArray⟩ = ⟨(l.drop 64).toArray⟩ := by
  unfold rstS
  apply ByteArray.ext
  rw [ByteArray.data_extract]
  show (l.toArray.extract 64 l.toArray.size) = (l.drop 64).toArray
  simp only [List.extract_toArray, List.size_toArray, List.extract_eq_take_drop]
  rw [List.take_of_length_le (by simp)]
theorem ba_size (l : List UInt8) : (⟨l.toArray⟩ : ByteArray).size = l.length := by
  show l.toArray.size = _
  simp
theorem finW_told : ∀ (k : Nat) (ini : List Int) (n : List Nat) (l : List UInt8), l.length < 64 * (k + 1) → IsWs ini n → n.length = 8 →
    IsWs (finW zL ini ⟨l.toArray⟩).1 (finN k n l).1 ∧ (finN k n l).1.length = 8 ∧ (finW zL ini ⟨l.toArray⟩).2 = ⟨(finN k n l).2.toArray⟩
  | 0, ini, n, l, h, hi, h8 => by
    rw [finW, dif_neg (show ¬ 64 ≤ (⟨l.toArray⟩ : ByteArray).size by rw [ba_size]; omega)]
    exact ⟨hi, h8, rfl⟩
  | k + 1, ini, n, l, h, hi, h8 => by
    unfold finN
    by_cases h64 : 64 ≤ l.length
    · rw [finW, dif_pos (show 64 ≤ (⟨l.toArray⟩ : ByteArray).size by rw [ba_size]; exact h64), if_pos h64, blkS_told l h64, rstS_told]
      have := tkF_N hi h8 ⟨(l.take 64).toArray⟩
      exact finW_told k _ _ (l.drop 64) (by simp; omega) this.1 this.2
    · rw [finW, dif_neg (show ¬ 64 ≤ (⟨l.toArray⟩ : ByteArray).size by rw [ba_size]; exact h64), if_neg h64]
      exact ⟨hi, h8, rfl⟩
def dgN (n : List Nat) (l : List UInt8) (m : Int) : List Nat :=
  if l.length < 56 then tkN n (blkL l m 0) else tkN (tkN n (blkL l m 0)) (blkL l m 1)
theorem dgW_N {ini : List Int} {n : List Nat} (h : IsWs ini n) (h8 : n.length = 8) (l : List UInt8) (m : Int) : IsWs (dgW zL ini l m) (dgN n l m) ∧ (dgN n l m).length = 8 := by
  have q := tkF_N h h8 (blkL l m 0)
  unfold dgW dgN
  split
  · exact q
  · exact tkF_N q.1 q.2 _
def ivN : List Nat := [1779033703, 3144134277, 1013904242, 2773480762, 1359893119, 2600822924, 528734635, 1541459225]
theorem iv_N : IsWs iv ivN := ⟨rfl, fun i hi => by
  have hi : i < 8 := hi
  match i, hi with
  | 0, _ | 1, _ | 2, _ | 3, _ | 4, _ | 5, _ | 6, _ | 7, _ => exact ⟨rfl, by decide⟩⟩
noncomputable def shN (l : List UInt8) : List Nat :=
  dgN (finN (l.length / 64) ivN l).1 (finN (l.length / 64) ivN l).2 (w64 0 ⟨l.toArray⟩)
theorem shN_ok (l : List UInt8) : IsWs (shL.S ⟨l.toArray⟩) (shN l) ∧ (shN l).length = 8 := by
  have h := finW_told (l.length / 64) iv ivN l (by omega) iv_N rfl
  show IsWs (dgW zL (finW zL iv ⟨l.toArray⟩).1 (finW zL iv ⟨l.toArray⟩).2.data.toList (w64 0 ⟨l.toArray⟩)) _ ∧ _
  rw [h.2.2]
  exact dgW_N h.1 h.2.1 _ _
def bN (n : List Nat) (i : Nat) : Nat := (n.getD (i / 4) 0 >>> (24 - 8 * (i % 4))) % 256
theorem dB_N {w : List Int} {n : List Nat} (h : IsWs w n) (h8 : n.length = 8) {i : Nat} (hi : i < 32) : dB w i = (bN n i : Nat) := by
  obtain ⟨e, _⟩ := shr32_w (h.2 (i / 4) (by omega)) (24 - 8 * (i % 4))
  unfold dB bN
  unfold shr32 at e
  rw [e, wu8]; omega
noncomputable def digN (l : List UInt8) : List Nat := (List.range 32).map (bN (shN l))
/-- Told digests, and what they are. -/
def TK : List (List UInt8 × List Nat) := [
  ([], [227, 176, 196, 66, 152, 252, 28, 20, 154, 251, 244, 200, 153, 111, 185, 36, 39, 174, 65, 228, 100, 155, 147, 76, 164, 149, 153, 27, 120, 82, 184, 85]), ([97, 98, 99], [186, 120, 22, 191, 143, 1, 207, 234, 65, 65, 64, 222, 93, 174, 34, 35, 176, 3, 97, 163, 150, 23, 122, 156, 180, 16, 255, 97, 242, 0, 21, 173]), ([97, 98, 99, 100, 98, 99, 100, 101, 99, 100, 101, 102, 100, 101, 102, 103, 101, 102, 103, 104, 102, 103, 104, 105, 103, 104, 105, 106, 104, 105, 106, 107, 105, 106, 107, 108, 106, 107, 108, 109, 107, 108, 109, 110, 108, 109, 110, 111, 109, 110, 111, 112, 110, 111, 112, 113], [36, 141, 106, 97, 210, 6, 56, 184, 229, 192, 38, 147, 12, 62, 96, 57, 163, 60, 228, 89, 100, 255, 33, 103, 246, 236, 237, 212, 25, 219, 6, 193]), ([84, 104, 101, 32, 113, 117, 105, 99, 107, 32, 98, 114, 111, 119, 110, 32, 102, 111, 120, 32, 106, 117, 109, 112, 115, 32, 111, 118, 101, 114, 32, 116, 104, 101, 32, 108, 97, 122, 121, 32, 100, 111, 103], [215, 168, 251, 179, 7, 215, 128, 148, 105, 202, 154, 188, 176, 8, 46, 79, 141, 86, 81, 228, 109, 60, 219, 118, 45, 2, 208, 191, 55, 201, 229, 146])]
theorem TK_ok : ∀ e ∈ TK, digN e.1 = e.2 := by
  intro e he
  unfold TK at he
  simp only [List.mem_cons, List.not_mem_nil, or_false] at he
  rcases he with rfl | rfl | rfl | rfl
  · kernel_rfl
  · kernel_rfl
  · kernel_rfl
  · kernel_rfl
def toldG : Raw := fun f args hp =>
  if f = 9 then
    match args, hp with
    | [.bts _ l], .glob g gl :: _ =>
      match TK.find? (fun e => e.1 == l) with
      | some e => some (.agg (e.2.map fun b => .num .u8 (Int.ofNat b)), .pr (g = 0 ∧ gl = glL))
      | none => none
    | _, _ => none
  else none
theorem nums_R : ∀ {η : Env} (l : List Nat) (vs : List Value), Rs η (l.map fun b => SV.val (.int .u8 (Int.ofNat b))) vs → Rs η (l.map fun b => .num .u8 (Int.ofNat b)) vs
  | η, [], vs, h => h
  | η, b :: l, vs, h => by
    obtain ⟨v, r, rfl, h1, h2⟩ := h
    exact Rs.cons (by simpa only [R] using h1) (nums_R l r h2)
theorem toldG_ok : toldG.Ok := by
  intro f args hp s c h hc B η w vs hr hargs
  unfold toldG at h
  split at h
  · rename_i hf; subst hf
    split at h
    · rename_i td l g gl r
      split at h
      · rename_i e he
        simp only [Option.some.injEq, Prod.mk.injEq] at h
        obtain ⟨rfl, rfl⟩ := h
        obtain ⟨rfl, rfl⟩ := hc
        have hm := List.mem_of_find?_eq_some he
        have hl : e.1 = l := by simpa using List.find?_some he
        have hlen : ∀ e ∈ TK, e.1.length ≤ 9223372036854775807 := by decide
        have hsz : (⟨l.toArray⟩ : ByteArray).size ≤ 9223372036854775807 := by
          show l.toArray.size ≤ _
          rw [List.size_toArray, ← hl]; exact hlen e hm
        refine (call9 ⟨l.toArray⟩ hsz hr (k := 0) rfl ?_).mono fun en w' hq => ?_
        · obtain ⟨a, x, rfl, g1, g2⟩ := hargs.cons_inv
          simp only [Rs] at g2; subst g2
          exact Rs.cons (by simpa only [R] using g1) Rs.nil
        · obtain ⟨v, rfl, hR, hb⟩ := hq
          refine ⟨v, rfl, ?_, hb⟩
          have ht := TK_ok e hm
          rw [hl] at ht
          have q := shN_ok l
          have hd : dgS (shL.S ⟨l.toArray⟩) = .agg (e.2.map fun b => SV.val (.int .u8 (Int.ofNat b))) := by
            rw [← ht]
            unfold dgS digN
            rw [List.map_map]
            congr 1
            refine List.map_congr_left fun i hi => ?_
            rw [dB_N q.1 q.2 (by simpa using hi)]; rfl
          rw [hd] at hR
          obtain ⟨x, x1, x2⟩ := hR
          exact ⟨x, x1, nums_R _ _ x2⟩
      · simp at h
    · simp at h
  · simp at h
/-! ### works -/
def Pg (g : Nat) (gl : List SV) : Prop := g = 0 ∧ gl = glL
theorem works_gives (q : Sh) : givesV (topR (rawX q toldG) (run (rawX q toldG) 60) 11 [] [globS] []) (.bol true) [Pg 0 glL, Pg 0 glL] := by
  unfold givesV; kernel_rfl
theorem call11 {B : Nat} {η : Env} {hp : List SO} {k : Nat} {w : World} {vs : List Value} (hr : HR B η hp w) (hk : hp[k]? = some globS) (hargs : Rs [] [] vs) :
    Calls Tryd.prog 11 vs.toArray w (fun e w' => ∃ v, e = .returned v ∧ R [] (.bol true) v ∧ Below w.heap.size w w') := by
  obtain ⟨v, hv⟩ := HR.glob hr hk (by decide)
  exact callsV (X := rawX shL toldG) rfl (rawX_ct shL_F toldG_ok) (rawX_lp _ _) 60 (works_gives shL) ⟨⟨rfl, rfl⟩, ⟨rfl, rfl⟩, trivial⟩ rfl (hv _) (Rs.free _ _ rfl hargs)
def worksG : Raw := fun f args hp =>
  if f = 11 then
    match args, hp with
    | [], .glob g gl :: _ => some (.bol true, .pr (Pg g gl))
    | _, _ => none
  else none
theorem worksG_ok : worksG.Ok := by
  intro f args hp s c h hc B η w vs hr hargs
  unfold worksG at h
  split at h
  · rename_i hf; subst hf
    split at h
    · rename_i g gl r
      simp only [Option.some.injEq, Prod.mk.injEq] at h
      obtain ⟨rfl, rfl⟩ := h
      obtain ⟨rfl, rfl⟩ := hc
      exact call11 hr (k := 0) rfl (by simp only [Rs] at hargs; subst hargs; exact Rs.nil)
    · simp at h
  · simp at h
/-- The digest of a hash to which nothing was written. -/
noncomputable def digK : Raw := fun f args hp =>
  if f = 13 then
    match args, hp with
    | [.ptr k 0], .glob g gl :: _ =>
      match hp[k]? with
      | some (.cells _ [a, b, c, d, e, f, g', h, .bts true [], .num .u64 (.ofNat 0)]) =>
        some (.agg ((List.map (bN (shN [])) (List.range 32)).map fun b => .num .u8 (Int.ofNat b)), .pr (hshOf [a, b, c, d, e, f, g', h, .bts true [], .num .u64 (.ofNat 0)] = some (iv, emp, 0) ∧ Pg g gl))
      | _ => none
    | _, _ => none
  else none
theorem dgS_told (l : List UInt8) : dgS (shL.S ⟨l.toArray⟩) = .agg ((digN l).map fun b => SV.val (.int .u8 (Int.ofNat b))) := by
  have q := shN_ok l
  unfold dgS digN
  rw [List.map_map]
  congr 1
  refine List.map_congr_left fun i hi => ?_
  rw [dB_N q.1 q.2 (by simpa using hi)]; rfl
theorem emp_S : shL.S emp = shL.D iv emp 0 := by
  show dgW zL (finW zL iv emp).1 (finW zL iv emp).2.data.toList (w64 0 emp) = dgW zL iv emp.data.toList 0
  have e : finW zL iv emp = (iv, emp) := by rw [finW, dif_neg (by decide)]
  rw [e]; rfl
theorem digK_ok : digK.Ok := by
  intro f args hp s c h hc B η w vs hr hargs
  unfold digK at h
  split at h
  · rename_i hf; subst hf
    split at h
    · rename_i k g gl r
      split at h
      · rename_i wr a b c d e f g' k' hk
        simp only [Option.some.injEq, Prod.mk.injEq] at h
        obtain ⟨rfl, rfl⟩ := h
        obtain ⟨hh, rfl, rfl⟩ := hc
        have hg : digG shL [.ptr k 0] (SO.glob 0 glL :: r) = some (dgS (shL.D iv emp 0), .pr (P13 emp 0 glL)) := by
          unfold digG
          simp only [hk, hh]
        refine (digG_ok shL_F hg ⟨by decide, rfl, rfl⟩ hr hargs).mono fun en w' hq => ?_
        obtain ⟨v, rfl, hR, hb⟩ := hq
        refine ⟨v, rfl, ?_, hb⟩
        rw [← emp_S] at hR
        rw [show shL.S emp = shL.S ⟨([] : List UInt8).toArray⟩ from rfl, dgS_told] at hR
        obtain ⟨x, x1, x2⟩ := hR
        exact ⟨x, x1, nums_R _ _ x2⟩
      · simp at h
    · simp at h
  · simp at h
/-- works, told digests, and digests. -/
noncomputable def allG (q : Sh) : Raw := worksG.or (toldG.or (digK.or (sumG q)))
theorem allG_ok : (allG shL).Ok := Raw.or_ok worksG_ok (Raw.or_ok toldG_ok (Raw.or_ok digK_ok sumG_ok))
/-! ### the plain law of Write -/
def cutK (k : Int) (f : ByteArray) : ByteArray := f.extract (Int.toNat 0) (if k < (f.size : Int) then k else (f.size : Int)).toNat
def cutP (k : Int) (f : ByteArray) : Prop := (0 : Int) ≤ 0 ∧ (0 : Int) ≤ (if k < (f.size : Int) then k else (f.size : Int)) ∧ (if k < (f.size : Int) then k else (f.size : Int)) ≤ (f.size : Int)
theorem cutP_ok (k : Int) (h : 0 ≤ k) (f : ByteArray) : cutP k f := by unfold cutP; split <;> omega
theorem cutK_size (k : Int) (h : 0 ≤ k) (f : ByteArray) : ((cutK k f).size : Int) ≤ k ∧ (cutK k f).size ≤ f.size := by
  unfold cutK; rw [ByteArray.size_extract]; split <;> omega
def eqDg (a b : List Int) : Bool := (List.range 32).foldr (fun i r => (dB a i == dB b i) && r) true
theorem eqDg_self (a : List Int) : eqDg a a = true := by
  unfold eqDg
  generalize List.range 32 = l
  induction l with
  | nil => rfl
  | cons x l ih => simp only [List.foldr_cons, ih]; simp
theorem rstS_app (s t : ByteArray) (h : 64 ≤ s.size) : rstS (s ++ t) = rstS s ++ t := by
  apply ByteArray.ext
  unfold rstS
  rw [ByteArray.data_extract, ByteArray.data_append, ByteArray.data_append, ByteArray.data_extract, ByteArray.size_append]
  have h' : 64 ≤ s.data.size := h
  have e : (s.size + t.size) = s.data.size + t.data.size := rfl
  rw [e]
  apply Array.ext'
  simp only [Array.toList_extract, Array.toList_append, List.extract_eq_take_drop]
  rw [List.drop_append, List.take_of_length_le (by simp; omega)]
  rw [List.take_of_length_le (by simp)]
  rw [show 64 - s.data.toList.length = 0 by simp; omega]
  rfl
theorem blkS_app (s t : ByteArray) (h : 64 ≤ s.size) : blkS (s ++ t) = blkS s := by
  unfold blkS
  congr 2
  refine List.map_congr_left fun i hi => ?_
  unfold bAt
  rw [ByteArray.data_append, Array.getElem?_append_left]
  have : i < 64 := by simpa using hi
  have h' : 64 ≤ s.data.size := h
  omega
/-- What is written in two pieces is as what is written at once. -/
theorem finW_app (z : Z) (ini : List Int) (s t : ByteArray) : finW z (finW z ini s).1 ((finW z ini s).2 ++ t) = finW z ini (s ++ t) := by
  by_cases h : 64 ≤ s.size
  · have e1 : finW z ini s = finW z (tkF z ini (blkS s)) (rstS s) := by
      conv => lhs; rw [finW]
      rw [dif_pos h]
    have e2 : finW z ini (s ++ t) = finW z (tkF z ini (blkS s)) (rstS s ++ t) := by
      conv => lhs; rw [finW]
      rw [dif_pos (by rw [ByteArray.size_append]; omega), rstS_app s t h, blkS_app s t h]
    rw [e1, e2]
    exact finW_app z _ _ t
  · have e1 : finW z ini s = (ini, s) := by
      conv => lhs; rw [finW]
      rw [dif_neg h]
    rw [e1]
termination_by s.size
decreasing_by rw [rstS_size]; omega
theorem w64_eq (m : Nat) (t : ByteArray) (h : m + t.size < 18446744073709551616) : w64 (m : Int) t = ((m + t.size : Nat) : Int) := by
  unfold w64; rw [wu64, wu64]; omega
/-- A hash to which a text was written. -/
noncomputable def hs (q : Sh) (t : ByteArray) : List Int × ByteArray := q.F iv t
theorem hs_write (t a : ByteArray) : shL.F (oct (hs shL t)) ((hs shL t).2 ++ a) = hs shL (t ++ a) := by
  show finW zL (oct (finW zL iv t)) ((finW zL iv t).2 ++ a) = finW zL iv (t ++ a)
  rw [oct_eq (finW_len zL _ _ rfl)]
  exact finW_app zL iv t a
theorem hs_dig (t : ByteArray) (ht : t.size < 18446744073709551616) : shL.D (oct (hs shL t)) (hs shL t).2 (t.size : Int) = shL.S t := by
  show dgW zL (oct (finW zL iv t)) (finW zL iv t).2.data.toList (t.size : Int) = dgW zL (finW zL iv t).1 (finW zL iv t).2.data.toList (w64 0 t)
  rw [oct_eq (finW_len zL _ _ rfl)]
  have := w64_eq 0 t (by omega)
  rw [show w64 0 t = ((0 + t.size : Nat) : Int) from this]
  simp
theorem hs_rest (t : ByteArray) : (hs shL t).2.size < 64 := finW_rest zL iv t
/-! ### HashForks -/
section
variable (q : Sh) (f a b : ByteArray)
noncomputable def h0 : List Int × ByteArray := q.F iv (emp ++ cutK 150 f)
noncomputable def h1 (c : ByteArray) : List Int × ByteArray := q.F (oct (h0 q f)) ((h0 q f).2 ++ cutK 150 c)
noncomputable def h2 : List Int × ByteArray := q.F (oct (h1 q f a)) ((h1 q f a).2 ++ cutK 150 b)
noncomputable def m0 : Int := w64 (Int.ofNat 0) (cutK 150 f)
noncomputable def LF (t : Bool) : List Prop :=
  [Pg 0 glL, cutP 150 f, cutP 150 a, cutP 150 b, P14 iv emp (cutK 150 f) 0 glL] ++
  (if t then [P14 (oct (h0 q f)) (h0 q f).2 (cutK 150 b) 0 glL, P14 (oct (h0 q f)) (h0 q f).2 (cutK 150 a) 0 glL] else [P14 (oct (h0 q f)) (h0 q f).2 (cutK 150 a) 0 glL, P14 (oct (h0 q f)) (h0 q f).2 (cutK 150 b) 0 glL]) ++
  [P14 (oct (h1 q f a)) (h1 q f a).2 (cutK 150 b) 0 glL,
   P13 (h0 q f).2 0 glL, P9 (cutK 150 f) 0 glL, eqDg (q.D (oct (h0 q f)) (h0 q f).2 (m0 f)) (q.S (cutK 150 f)) = true,
   P13 (h1 q f a).2 0 glL, (cutK 150 f).size + (cutK 150 a).size ≤ 9223372036854775807, P9 (cutK 150 f ++ cutK 150 a) 0 glL, eqDg (q.D (oct (h1 q f a)) (h1 q f a).2 (w64 (m0 f) (cutK 150 a))) (q.S (cutK 150 f ++ cutK 150 a)) = true,
   P13 (h1 q f b).2 0 glL, (cutK 150 f).size + (cutK 150 b).size ≤ 9223372036854775807, P9 (cutK 150 f ++ cutK 150 b) 0 glL, eqDg (q.D (oct (h1 q f b)) (h1 q f b).2 (w64 (m0 f) (cutK 150 b))) (q.S (cutK 150 f ++ cutK 150 b)) = true,
   P13 (h2 q f a b).2 0 glL, (cutK 150 f).size + (cutK 150 a).size ≤ 9223372036854775807, (cutK 150 f ++ cutK 150 a).size + (cutK 150 b).size ≤ 9223372036854775807, P9 (cutK 150 f ++ cutK 150 a ++ cutK 150 b) 0 glL,
   eqDg (q.D (oct (h2 q f a b)) (h2 q f a b).2 (w64 (w64 (m0 f) (cutK 150 a)) (cutK 150 b))) (q.S (cutK 150 f ++ cutK 150 a ++ cutK 150 b)) = true,
   (m0 f == IntKind.u64.wrap ((cutK 150 f).size : Int)) = true]
noncomputable def lenF : Bool := w64 (w64 (m0 f) (cutK 150 a)) (cutK 150 b) == IntKind.u64.wrap (IntKind.i64.wrap (IntKind.i64.wrap (((cutK 150 f).size : Int) + ((cutK 150 a).size : Int)) + ((cutK 150 b).size : Int)))
theorem forks_t : givesV (topR (rawX q (allG q)) (run (rawX q (allG q)) 60) 7 [.val (.string f), .agg [.val (.string a), .val (.string b)], .bol true] [globS] [true, true, true, true, true]) (.val (.bool (lenF f a b))) (LF q f a b true) := by
  unfold givesV; kernel_rfl
theorem forks_f : givesV (topR (rawX q (allG q)) (run (rawX q (allG q)) 60) 7 [.val (.string f), .agg [.val (.string a), .val (.string b)], .bol false] [globS] [true, true, true, true, true]) (.val (.bool (lenF f a b))) (LF q f a b false) := by
  unfold givesV; kernel_rfl
end
end Go.Proofs.YtgefcokanfbpbaaDoor
