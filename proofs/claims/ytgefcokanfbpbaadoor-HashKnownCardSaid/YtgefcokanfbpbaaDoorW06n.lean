/-
  Walks of functions, reckoned through, and what they give (part W06n). No condition beyond what each says. By an AI agent.
-/
import Derived.Test.YtgefcokanfbpbaaDoorW06s
namespace Go.Proofs.YtgefcokanfbpbaaDoor
open Go.Ex
open Go.RowKit (Below)
set_option linter.unusedVariables false
set_option maxRecDepth 100000
/-! ### told digests -/
def finN : Nat → List Nat → List UInt8 → List Nat × List UInt8
  | 0, n, l => (n, l)
  | k + 1, n, l => if 64 ≤ l.length then finN k (tkN n ⟨(l.take 64).toArray⟩) (l.drop 64) else (n, l)
theorem blkS_told (l : List UInt8) (h : 64 ≤ l.length) : blkS ⟨l.toArray⟩ = ⟨(l.take 64).toArray⟩ := by
  unfold blkS
  congr 2
  refine List.ext_getElem (by simp; omega) fun i h1 h2 => ?_
  have hi : i < 64 := by simpa using h1
  simp only [List.getElem_map, List.getElem_range, List.getElem_take]
  unfold bAt
  have : (⟨l.toArray⟩ : ByteArray).data[i]? = some (l[i]'(by omega)) := by
    show l.toArray[i]? = _
    rw [List.getElem?_toArray]; exact List.getElem?_eq_getElem _
  rw [this]; rfl
theorem rstS_told (l : List UInt8) : rstS ⟨l.toArray⟩ = ⟨(l.drop 64).toArray⟩ := by
  unfold rstS
  apply ByteArray.ext
  rw [ByteArray.data_extract]
  show (l.toArray.extract 64 l.toArray.size) = (l.drop 64).toArray
  simp only [List.extract_toArray, List.size_toArray, List.extract_eq_take_drop]
  rw [List.take_of_length_le (by simp)]
theorem ba_size (l : List UInt8) : (⟨l.toArray⟩ : ByteArray).size = l.length := by
  show l.toArray.size = _
  simp
theorem finW_told : ∀ (k : Nat) (ini : List Int) (n : List Nat) (l : List UInt8), l.length < 64 * (k + 1) → IsWs ini n → n.length = 8 →
    IsWs (finW zL ini ⟨l.toArray⟩).1 (finN k n l).1 ∧ (finN k n l).1.length = 8 ∧ (finW zL ini ⟨l.toArray⟩).2 = ⟨(finN k n l).2.toArray⟩
  | 0, ini, n, l, h, hi, h8 => by
    rw [finW, dif_neg (show ¬ 64 ≤ (⟨l.toArray⟩ : ByteArray).size by rw [ba_size]; omega)]
    exact ⟨hi, h8, rfl⟩
  | k + 1, ini, n, l, h, hi, h8 => by
    unfold finN
    by_cases h64 : 64 ≤ l.length
    · rw [finW, dif_pos (show 64 ≤ (⟨l.toArray⟩ : ByteArray).size by rw [ba_size]; exact h64), if_pos h64, blkS_told l h64, rstS_told]
      have := tkF_N hi h8 ⟨(l.take 64).toArray⟩
      exact finW_told k _ _ (l.drop 64) (by simp; omega) this.1 this.2
    · rw [finW, dif_neg (show ¬ 64 ≤ (⟨l.toArray⟩ : ByteArray).size by rw [ba_size]; exact h64), if_neg h64]
      exact ⟨hi, h8, rfl⟩
def dgN (n : List Nat) (l : List UInt8) (m : Int) : List Nat :=
  if l.length < 56 then tkN n (blkL l m 0) else tkN (tkN n (blkL l m 0)) (blkL l m 1)
theorem dgW_N {ini : List Int} {n : List Nat} (h : IsWs ini n) (h8 : n.length = 8) (l : List UInt8) (m : Int) : IsWs (dgW zL ini l m) (dgN n l m) ∧ (dgN n l m).length = 8 := by
  have q := tkF_N h h8 (blkL l m 0)
  unfold dgW dgN
  split
  · exact q
  · exact tkF_N q.1 q.2 _
def ivN : List Nat := [1779033703, 3144134277, 1013904242, 2773480762, 1359893119, 2600822924, 528734635, 1541459225]
theorem iv_N : IsWs iv ivN := ⟨rfl, fun i hi => by
  have hi : i < 8 := hi
  match i, hi with
  | 0, _ | 1, _ | 2, _ | 3, _ | 4, _ | 5, _ | 6, _ | 7, _ => exact ⟨rfl, by decide⟩⟩
noncomputable def shN (l : List UInt8) : List Nat :=
  dgN (finN (l.length / 64) ivN l).1 (finN (l.length / 64) ivN l).2 (w64 0 ⟨l.toArray⟩)
theorem shN_ok (l : List UInt8) : IsWs (shL.S ⟨l.toArray⟩) (shN l) ∧ (shN l).length = 8 := by
  have h := finW_told (l.length / 64) iv ivN l (by omega) iv_N rfl
  show IsWs (dgW zL (finW zL iv ⟨l.toArray⟩).1 (finW zL iv ⟨l.toArray⟩).2.data.toList (w64 0 ⟨l.toArray⟩)) _ ∧ _
  rw [h.2.2]
  exact dgW_N h.1 h.2.1 _ _
def bN (n : List Nat) (i : Nat) : Nat := (n.getD (i / 4) 0 >>> (24 - 8 * (i % 4))) % 256
theorem dB_N {w : List Int} {n : List Nat} (h : IsWs w n) (h8 : n.length = 8) {i : Nat} (hi : i < 32) : dB w i = (bN n i : Nat) := by
  obtain ⟨e, _⟩ := shr32_w (h.2 (i / 4) (by omega)) (24 - 8 * (i % 4))
  unfold dB bN
  unfold shr32 at e
  rw [e, wu8]; omega
noncomputable def digN (l : List UInt8) : List Nat := (List.range 32).map (bN (shN l))
/-- Told digests, and what they are. -/
def TK : List (List UInt8 × List Nat) := [
  ([], [227, 176, 196, 66, 152, 252, 28, 20, 154, 251, 244, 200, 153, 111, 185, 36, 39, 174, 65, 228, 100, 155, 147, 76, 164, 149, 153, 27, 120, 82, 184, 85]), ([97, 98, 99], [186, 120, 22, 191, 143, 1, 207, 234, 65, 65, 64, 222, 93, 174, 34, 35, 176, 3, 97, 163, 150, 23, 122, 156, 180, 16, 255, 97, 242, 0, 21, 173]), ([97, 98, 99, 100, 98, 99, 100, 101, 99, 100, 101, 102, 100, 101, 102, 103, 101, 102, 103, 104, 102, 103, 104, 105, 103, 104, 105, 106, 104, 105, 106, 107, 105, 106, 107, 108, 106, 107, 108, 109, 107, 108, 109, 110, 108, 109, 110, 111, 109, 110, 111, 112, 110, 111, 112, 113], [36, 141, 106, 97, 210, 6, 56, 184, 229, 192, 38, 147, 12, 62, 96, 57, 163, 60, 228, 89, 100, 255, 33, 103, 246, 236, 237, 212, 25, 219, 6, 193]), ([84, 104, 101, 32, 113, 117, 105, 99, 107, 32, 98, 114, 111, 119, 110, 32, 102, 111, 120, 32, 106, 117, 109, 112, 115, 32, 111, 118, 101, 114, 32, 116, 104, 101, 32, 108, 97, 122, 121, 32, 100, 111, 103], [215, 168, 251, 179, 7, 215, 128, 148, 105, 202, 154, 188, 176, 8, 46, 79, 141, 86, 81, 228, 109, 60, 219, 118, 45, 2, 208, 191, 55, 201, 229, 146])]
theorem TK_ok : ∀ e ∈ TK, digN e.1 = e.2 := by
  intro e he
  unfold TK at he
  simp only [List.mem_cons, List.not_mem_nil, or_false] at he
  rcases he with rfl | rfl | rfl | rfl
  · kernel_rfl
  · kernel_rfl
  · kernel_rfl
  · kernel_rfl
def toldG : Raw := fun f args hp =>
  if f = 9 then
    match args, hp with
    | [.bts _ l], .glob g gl :: _ =>
      match TK.find? (fun e => e.1 == l) with
      | some e => some (.agg (e.2.map fun b => .num .u8 (Int.ofNat b)), .pr (g = 0 ∧ gl = glL))
      | none => none
    | _, _ => none
  else none
theorem nums_R : ∀ {η : Env} (l : List Nat) (vs : List Value), Rs η (l.map fun b => SV.val (.int .u8 (Int.ofNat b))) vs → Rs η (l.map fun b => .num .u8 (Int.ofNat b)) vs
  | η, [], vs, h => h
  | η, b :: l, vs, h => by
    obtain ⟨v, r, rfl, h1, h2⟩ := h
    exact Rs.cons (by simpa only [R] using h1) (nums_R l r h2)
theorem toldG_ok : toldG.Ok := by
  intro f args hp s c h hc B η w vs hr hargs
  unfold toldG at h
  split at h
  · rename_i hf; subst hf
    split at h
    · rename_i td l g gl r
      split at h
      · rename_i e he
        simp only [Option.some.injEq, Prod.mk.injEq] at h
        obtain ⟨rfl, rfl⟩ := h
        obtain ⟨rfl, rfl⟩ := hc
        have hm := List.mem_of_find?_eq_some he
        have hl : e.1 = l := by simpa using List.find?_some he
        have hlen : ∀ e ∈ TK, e.1.length ≤ 9223372036854775807 := by decide
        have hsz : (⟨l.toArray⟩ : ByteArray).size ≤ 9223372036854775807 := by
          show l.toArray.size ≤ _
          rw [List.size_toArray, ← hl]; exact hlen e hm
        refine (call9 ⟨l.toArray⟩ hsz hr (k := 0) rfl ?_).mono fun en w' hq => ?_
        · obtain ⟨a, x, rfl, g1, g2⟩ := hargs.cons_inv
          simp only [Rs] at g2; subst g2
          exact Rs.cons (by simpa only [R] using g1) Rs.nil
        · obtain ⟨v, rfl, hR, hb⟩ := hq
          refine ⟨v, rfl, ?_, hb⟩
          have ht := TK_ok e hm
          rw [hl] at ht
          have q := shN_ok l
          have hd : dgS (shL.S ⟨l.toArray⟩) = .agg (e.2.map fun b => SV.val (.int .u8 (Int.ofNat b))) := by
            rw [← ht]
            unfold dgS digN
            rw [List.map_map]
            congr 1
            refine List.map_congr_left fun i hi => ?_
            rw [dB_N q.1 q.2 (by simpa using hi)]; rfl
          rw [hd] at hR
          obtain ⟨x, x1, x2⟩ := hR
          exact ⟨x, x1, nums_R _ _ x2⟩
      · simp at h
    · simp at h
  · simp at h
end Go.Proofs.YtgefcokanfbpbaaDoor
