/-
  Walks of functions, reckoned through, and what they give (part K07B). No condition beyond what each says. By an AI agent.
-/
import Derived.Test.YtclafmabccbhjaaDoorW06J
import Derived.Test.YtclafmabccbhjaaDoorW07a
import Derived.Test.YtclafmabccbhjaaDoorShelf
namespace Go.Proofs.YtclafmabccbhjaaDoor
open Go.Ex
open Go.RowKit (Below)
set_option linter.unusedVariables false
set_option maxRecDepth 1000000
/-- strings.Repeat, of told texts and counts. -/
def repG (args : List SV) : Option (SV × Cnd) :=
  match args with
  | [.bts c l, .num .i64 z] => if 0 ≤ z ∧ z ≤ 1000000 ∧ l.length * z.toNat ≤ 1000000 then some (.bts c (Lib.repeatL l z.toNat), .tt) else none
  | _ => none
theorem repG_ok : ∀ args s c, repG args = some (s, c) → c.Is → ∀ (w : World) (vs : List Value), Rs [] args vs →
    Calls Tryd.prog 18 vs.toArray w (fun e w' => ∃ v, e = .returned v ∧ R [] s v ∧ Below w.heap.size w w') := by
  intro args s c hg _ w vs hv
  unfold repG at hg
  split at hg
  · rename_i t l z
    split at hg
    · rename_i hz
      simp only [Option.some.injEq, Prod.mk.injEq] at hg
      obtain ⟨rfl, rfl⟩ := hg
      obtain ⟨v, r, rfl, h1, hr⟩ := hv.cons_inv
      obtain ⟨v2, r2, rfl, h2, hr2⟩ := hr.cons_inv
      simp only [Rs] at hr2; subst hr2
      simp only [R] at h1 h2
      subst h1; subst h2
      obtain ⟨n, rfl⟩ := Int.eq_ofNat_of_zero_le hz.1
      refine (Tryd.strings_Repeat ⟨l.toArray⟩ n w (by omega) (by rw [size_mk]; simp only [Int.toNat_natCast] at hz; omega)).mono fun e w' hq => ?_
      obtain ⟨rfl, hb⟩ := hq
      exact ⟨_, rfl, by simp only [R, Int.toNat_natCast], hb⟩
    · simp at hg
  · simp at hg
/-! ### contracts of the package's own -/
def globHead : List SO → Bool
  | .glob _ _ :: _ => true
  | _ => false
/-- These are not reckoned without the package's variable. -/
noncomputable def guardX (fs : List FuncId) (X : Cx) : Cx :=
  ⟨X.P, fun f args hp => if fs.contains f && !globHead hp then some (.hdl 0, none, .pr False) else X.ct f args hp, X.lp⟩
theorem guardX_ct {fs : List FuncId} {X : Cx} (h : CtOk X) : CtOk (guardX fs X) := by
  intro f args hp s ho c hh hc
  simp only [guardX] at hh
  split at hh
  · simp only [Option.some.injEq, Prod.mk.injEq] at hh
    obtain ⟨_, _, rfl⟩ := hh
    exact absurd hc (by intro h; exact h)
  · exact h f args hp s ho c hh hc
theorem guardX_lp {fs : List FuncId} {X : Cx} (h : LpOk X) : LpOk (guardX fs X) := h
def eqDg (a b : List Int) : Bool := (List.range 32).foldr (fun i r => (dB a i == dB b i) && r) true
theorem eqDg_self (a : List Int) : eqDg a a = true := by
  unfold eqDg
  generalize List.range 32 = l
  induction l with
  | nil => rfl
  | cons x l ih => simp only [List.foldr_cons, ih]; simp

def tkN : List Nat → ByteArray → List Nat
  | [a, b, c, d, e, f, g, h], s =>
    List.zipWith nad (go KN a b c d e f g h ((List.range 16).map (nbe s))) [a, b, c, d, e, f, g, h]
  | _, _ => []
def IsWs (l : List Int) (n : List Nat) : Prop := l.length = n.length ∧ ∀ i, i < n.length → IsW (l.getD i 0) (n.getD i 0)
theorem IsWs.eq {l : List Int} {n : List Nat} (h : IsWs l n) : l = n.map Int.ofNat := by
  refine List.ext_getElem (by simp [h.1]) fun i h1 h2 => ?_
  have := (h.2 i (by rw [← h.1]; exact h1)).1
  rw [List.getD_eq_getElem?_getD, List.getElem?_eq_getElem h1] at this
  rw [List.getD_eq_getElem?_getD, List.getElem?_eq_getElem (by rw [← h.1]; exact h1)] at this
  simpa using this
theorem tkF_N {ini : List Int} {n : List Nat} (h : IsWs ini n) (h8 : n.length = 8) (s : ByteArray) : IsWs (tkF zL ini s) (tkN n s) ∧ (tkN n s).length = 8 := by
  match n, h8 with
  | [a, b, c, d, e, f, g, k], _ =>
    have q := go_ok s (fn8 ini) KN 0 a b c d e f g k ((List.range 16).map (nbe s)) rfl (by omega) (h.2 0 (show 0 < 8 by decide)) (h.2 1 (show 1 < 8 by decide)) (h.2 2 (show 2 < 8 by decide)) (h.2 3 (show 3 < 8 by decide)) (h.2 4 (show 4 < 8 by decide)) (h.2 5 (show 5 < 8 by decide)) (h.2 6 (show 6 < 8 by decide)) (h.2 7 (show 7 < 8 by decide))
      ⟨by simp, fun i hi => by
        have e1 : ((List.range 16).map (nbe s)).getD i 0 = nbe s i := by
          rw [List.getD_eq_getElem?_getD, List.getElem?_map, List.getElem?_range hi]; rfl
        rw [e1, Ws, dif_pos (by omega)]
        rw [show 0 + i = i by omega]
        exact be32_w s i⟩
    obtain ⟨q1, q2⟩ := q
    generalize hr : go KN a b c d e f g k ((List.range 16).map (nbe s)) = r at q1 q2
    have hz : zL ini s = xlA s (fn8 ini) 64 := rfl
    have hx : ∀ i, i < 8 → IsW ((zL ini s).1 i) (r.getD i 0) := fun i hi => by
      rw [hz, xlA_Xs]; exact q2 i hi
    unfold tkN
    simp only [hr]
    match r, q1 with
    | [r0, r1, r2, r3, r4, r5, r6, r7], _ =>
      refine ⟨⟨rfl, fun i hi => ?_⟩, rfl⟩
      have hi : i < 8 := hi
      match i, hi with
      | 0, _ => exact add32_w (hx 0 (by omega)) (h.2 0 (show 0 < 8 by decide))
      | 1, _ => exact add32_w (hx 1 (by omega)) (h.2 1 (show 1 < 8 by decide))
      | 2, _ => exact add32_w (hx 2 (by omega)) (h.2 2 (show 2 < 8 by decide))
      | 3, _ => exact add32_w (hx 3 (by omega)) (h.2 3 (show 3 < 8 by decide))
      | 4, _ => exact add32_w (hx 4 (by omega)) (h.2 4 (show 4 < 8 by decide))
      | 5, _ => exact add32_w (hx 5 (by omega)) (h.2 5 (show 5 < 8 by decide))
      | 6, _ => exact add32_w (hx 6 (by omega)) (h.2 6 (show 6 < 8 by decide))
      | 7, _ => exact add32_w (hx 7 (by omega)) (h.2 7 (show 7 < 8 by decide))
/-! ### told digests -/
def finN : Nat → List Nat → List UInt8 → List Nat × List UInt8
  | 0, n, l => (n, l)
  | k + 1, n, l => if 64 ≤ l.length then finN k (tkN n ⟨(l.take 64).toArray⟩) (l.drop 64) else (n, l)
theorem blkS_told (l : List UInt8) (h : 64 ≤ l.length) : blkS ⟨l.toArray⟩ = ⟨(l.take 64).toArray⟩ := by
  unfold blkS
  congr 2
  refine List.ext_getElem (by simp; omega) fun i h1 h2 => ?_
  have hi : i < 64 := by simpa using h1
  simp only [List.getElem_map, List.getElem_range, List.getElem_take]
  unfold bAt
  have : (⟨l.toArray⟩ : ByteArray).data[i]? = some (l[i]'(by omega)) := by
    show l.toArray[i]? = _
    rw [List.getElem?_toArray]; exact List.getElem?_eq_getElem _
  rw [this]; rfl
theorem rstS_told (l : List UInt8) : rstS ⟨l.toArray⟩ = ⟨(l.drop 64).toArray⟩ := by
  unfold rstS
  apply ByteArray.ext
  rw [ByteArray.data_extract]
  show (l.toArray.extract 64 l.toArray.size) = (l.drop 64).toArray
  simp only [List.extract_toArray, List.size_toArray, List.extract_eq_take_drop]
  rw [List.take_of_length_le (by simp)]
theorem ba_size (l : List UInt8) : (⟨l.toArray⟩ : ByteArray).size = l.length := by
  show l.toArray.size = _
  simp
theorem finW_told : ∀ (k : Nat) (ini : List Int) (n : List Nat) (l : List UInt8), l.length < 64 * (k + 1) → IsWs ini n → n.length = 8 →
    IsWs (finW zL ini ⟨l.toArray⟩).1 (finN k n l).1 ∧ (finN k n l).1.length = 8 ∧ (finW zL ini ⟨l.toArray⟩).2 = ⟨(finN k n l).2.toArray⟩
  | 0, ini, n, l, h, hi, h8 => by
    rw [finW, dif_neg (show ¬ 64 ≤ (⟨l.toArray⟩ : ByteArray).size by rw [ba_size]; omega)]
    exact ⟨hi, h8, rfl⟩
  | k + 1, ini, n, l, h, hi, h8 => by
    unfold finN
    by_cases h64 : 64 ≤ l.length
    · rw [finW, dif_pos (show 64 ≤ (⟨l.toArray⟩ : ByteArray).size by rw [ba_size]; exact h64), if_pos h64, blkS_told l h64, rstS_told]
      have := tkF_N hi h8 ⟨(l.take 64).toArray⟩
      exact finW_told k _ _ (l.drop 64) (by simp; omega) this.1 this.2
    · rw [finW, dif_neg (show ¬ 64 ≤ (⟨l.toArray⟩ : ByteArray).size by rw [ba_size]; exact h64), if_neg h64]
      exact ⟨hi, h8, rfl⟩
def dgN (n : List Nat) (l : List UInt8) (m : Int) : List Nat :=
  if l.length < 56 then tkN n (blkL l m 0) else tkN (tkN n (blkL l m 0)) (blkL l m 1)
theorem dgW_N {ini : List Int} {n : List Nat} (h : IsWs ini n) (h8 : n.length = 8) (l : List UInt8) (m : Int) : IsWs (dgW zL ini l m) (dgN n l m) ∧ (dgN n l m).length = 8 := by
  have q := tkF_N h h8 (blkL l m 0)
  unfold dgW dgN
  split
  · exact q
  · exact tkF_N q.1 q.2 _
def ivN : List Nat := [1779033703, 3144134277, 1013904242, 2773480762, 1359893119, 2600822924, 528734635, 1541459225]
theorem iv_N : IsWs iv ivN := ⟨rfl, fun i hi => by
  have hi : i < 8 := hi
  match i, hi with
  | 0, _ | 1, _ | 2, _ | 3, _ | 4, _ | 5, _ | 6, _ | 7, _ => exact ⟨rfl, by decide⟩⟩
noncomputable def shN (l : List UInt8) : List Nat :=
  dgN (finN (l.length / 64) ivN l).1 (finN (l.length / 64) ivN l).2 (w64 0 ⟨l.toArray⟩)
theorem shN_ok (l : List UInt8) : IsWs (shL.S ⟨l.toArray⟩) (shN l) ∧ (shN l).length = 8 := by
  have h := finW_told (l.length / 64) iv ivN l (by omega) iv_N rfl
  show IsWs (dgW zL (finW zL iv ⟨l.toArray⟩).1 (finW zL iv ⟨l.toArray⟩).2.data.toList (w64 0 ⟨l.toArray⟩)) _ ∧ _
  rw [h.2.2]
  exact dgW_N h.1 h.2.1 _ _
def bN (n : List Nat) (i : Nat) : Nat := (n.getD (i / 4) 0 >>> (24 - 8 * (i % 4))) % 256
theorem dB_N {w : List Int} {n : List Nat} (h : IsWs w n) (h8 : n.length = 8) {i : Nat} (hi : i < 32) : dB w i = (bN n i : Nat) := by
  obtain ⟨e, _⟩ := shr32_w (h.2 (i / 4) (by omega)) (24 - 8 * (i % 4))
  unfold dB bN
  unfold shr32 at e
  rw [e, wu8]; omega
noncomputable def digN (l : List UInt8) : List Nat := (List.range 32).map (bN (shN l))
/-- Told digests, and what they are. -/
def TK : List (List UInt8 × List Nat) := [
  ([124, 83, 80, 83, 54, 54, 54, 54, 54, 54, 54, 54, 54, 54, 54, 54, 54, 54, 54, 54, 54, 54, 54, 54, 54, 54, 54, 54, 54, 54, 54, 54, 54, 54, 54, 54, 54, 54, 54, 54, 54, 54, 54, 54, 54, 54, 54, 54, 54, 54, 54, 54, 54, 54, 54, 54, 54, 54, 54, 54, 54, 54, 54, 54, 119, 104, 97, 116, 32, 100, 111, 32, 121, 97, 32, 119, 97, 110, 116, 32, 102, 111, 114, 32, 110, 111, 116, 104, 105, 110, 103, 63], [162, 228, 133, 134, 61, 39, 249, 216, 100, 172, 141, 128, 36, 50, 161, 237, 71, 125, 140, 76, 111, 52, 157, 22, 212, 231, 233, 23, 198, 41, 202, 215]),
  ([22, 57, 58, 57, 92, 92, 92, 92, 92, 92, 92, 92, 92, 92, 92, 92, 92, 92, 92, 92, 92, 92, 92, 92, 92, 92, 92, 92, 92, 92, 92, 92, 92, 92, 92, 92, 92, 92, 92, 92, 92, 92, 92, 92, 92, 92, 92, 92, 92, 92, 92, 92, 92, 92, 92, 92, 92, 92, 92, 92, 92, 92, 92, 92, 162, 228, 133, 134, 61, 39, 249, 216, 100, 172, 141, 128, 36, 50, 161, 237, 71, 125, 140, 76, 111, 52, 157, 22, 212, 231, 233, 23, 198, 41, 202, 215], [91, 220, 193, 70, 191, 96, 117, 78, 106, 4, 36, 38, 8, 149, 117, 199, 90, 0, 63, 8, 157, 39, 57, 131, 157, 236, 88, 185, 100, 236, 56, 67]),
  ([61, 61, 61, 61, 61, 61, 61, 61, 61, 61, 61, 61, 61, 61, 61, 61, 61, 61, 61, 61, 54, 54, 54, 54, 54, 54, 54, 54, 54, 54, 54, 54, 54, 54, 54, 54, 54, 54, 54, 54, 54, 54, 54, 54, 54, 54, 54, 54, 54, 54, 54, 54, 54, 54, 54, 54, 54, 54, 54, 54, 54, 54, 54, 54, 72, 105, 32, 84, 104, 101, 114, 101], [146, 171, 77, 154, 31, 59, 97, 82, 188, 169, 221, 158, 105, 175, 67, 244, 206, 153, 228, 47, 212, 227, 15, 249, 114, 196, 128, 37, 185, 249, 207, 239]),
  ([87, 87, 87, 87, 87, 87, 87, 87, 87, 87, 87, 87, 87, 87, 87, 87, 87, 87, 87, 87, 92, 92, 92, 92, 92, 92, 92, 92, 92, 92, 92, 92, 92, 92, 92, 92, 92, 92, 92, 92, 92, 92, 92, 92, 92, 92, 92, 92, 92, 92, 92, 92, 92, 92, 92, 92, 92, 92, 92, 92, 92, 92, 92, 92, 146, 171, 77, 154, 31, 59, 97, 82, 188, 169, 221, 158, 105, 175, 67, 244, 206, 153, 228, 47, 212, 227, 15, 249, 114, 196, 128, 37, 185, 249, 207, 239], [176, 52, 76, 97, 216, 219, 56, 83, 92, 168, 175, 206, 175, 11, 241, 43, 136, 29, 194, 0, 201, 131, 61, 167, 38, 233, 55, 108, 46, 50, 207, 247]),
  ([54, 54, 54, 54, 54, 54, 54, 54, 54, 54, 54, 54, 54, 54, 54, 54, 54, 54, 54, 54, 54, 54, 54, 54, 54, 54, 54, 54, 54, 54, 54, 54, 54, 54, 54, 54, 54, 54, 54, 54, 54, 54, 54, 54, 54, 54, 54, 54, 54, 54, 54, 54, 54, 54, 54, 54, 54, 54, 54, 54, 54, 54, 54, 54], [231, 43, 189, 77, 66, 154, 201, 20, 168, 166, 197, 189, 73, 99, 47, 246, 176, 13, 79, 239, 66, 175, 180, 67, 240, 184, 4, 125, 240, 108, 133, 210]),
  ([92, 92, 92, 92, 92, 92, 92, 92, 92, 92, 92, 92, 92, 92, 92, 92, 92, 92, 92, 92, 92, 92, 92, 92, 92, 92, 92, 92, 92, 92, 92, 92, 92, 92, 92, 92, 92, 92, 92, 92, 92, 92, 92, 92, 92, 92, 92, 92, 92, 92, 92, 92, 92, 92, 92, 92, 92, 92, 92, 92, 92, 92, 92, 92, 231, 43, 189, 77, 66, 154, 201, 20, 168, 166, 197, 189, 73, 99, 47, 246, 176, 13, 79, 239, 66, 175, 180, 67, 240, 184, 4, 125, 240, 108, 133, 210], [182, 19, 103, 154, 8, 20, 217, 236, 119, 47, 149, 215, 120, 195, 95, 197, 255, 22, 151, 196, 147, 113, 86, 83, 198, 199, 18, 20, 66, 146, 197, 173]),
  ([156, 156, 156, 156, 156, 156, 156, 156, 156, 156, 156, 156, 156, 156, 156, 156, 156, 156, 156, 156, 54, 54, 54, 54, 54, 54, 54, 54, 54, 54, 54, 54, 54, 54, 54, 54, 54, 54, 54, 54, 54, 54, 54, 54, 54, 54, 54, 54, 54, 54, 54, 54, 54, 54, 54, 54, 54, 54, 54, 54, 54, 54, 54, 54, 221, 221, 221, 221, 221, 221, 221, 221, 221, 221, 221, 221, 221, 221, 221, 221, 221, 221, 221, 221, 221, 221, 221, 221, 221, 221, 221, 221, 221, 221, 221, 221, 221, 221, 221, 221, 221, 221, 221, 221, 221, 221, 221, 221, 221, 221, 221, 221, 221, 221], [140, 67, 3, 7, 57, 93, 141, 132, 99, 65, 32, 154, 160, 79, 190, 134, 51, 88, 60, 147, 186, 254, 203, 102, 129, 66, 113, 58, 183, 151, 82, 92]),
  ([246, 246, 246, 246, 246, 246, 246, 246, 246, 246, 246, 246, 246, 246, 246, 246, 246, 246, 246, 246, 92, 92, 92, 92, 92, 92, 92, 92, 92, 92, 92, 92, 92, 92, 92, 92, 92, 92, 92, 92, 92, 92, 92, 92, 92, 92, 92, 92, 92, 92, 92, 92, 92, 92, 92, 92, 92, 92, 92, 92, 92, 92, 92, 92, 140, 67, 3, 7, 57, 93, 141, 132, 99, 65, 32, 154, 160, 79, 190, 134, 51, 88, 60, 147, 186, 254, 203, 102, 129, 66, 113, 58, 183, 151, 82, 92], [119, 62, 169, 30, 54, 128, 14, 70, 133, 77, 184, 235, 208, 145, 129, 167, 41, 89, 9, 139, 62, 248, 193, 34, 217, 99, 85, 20, 206, 213, 101, 254]),
  ([170, 170, 170, 170, 170, 170, 170, 170, 170, 170, 170, 170, 170, 170, 170, 170, 170, 170, 170, 170, 170, 170, 170, 170, 170, 170, 170, 170, 170, 170, 170, 170, 170, 170, 170, 170, 170, 170, 170, 170, 170, 170, 170, 170, 170, 170, 170, 170, 170, 170, 170, 170, 170, 170, 170, 170, 170, 170, 170, 170, 170, 170, 170, 170, 170, 170, 170, 170, 170, 170, 170, 170, 170, 170, 170, 170, 170, 170, 170, 170, 170, 170, 170, 170, 170, 170, 170, 170, 170, 170, 170, 170, 170, 170, 170, 170, 170, 170, 170, 170, 170, 170, 170, 170, 170, 170, 170, 170, 170, 170, 170, 170, 170, 170, 170, 170, 170, 170, 170, 170, 170, 170, 170, 170, 170, 170, 170, 170, 170, 170, 170], [69, 173, 75, 55, 198, 226, 252, 10, 44, 252, 193, 181, 218, 82, 65, 50, 236, 112, 118, 21, 194, 202, 225, 219, 188, 67, 201, 122, 165, 33, 219, 129]),
  ([115, 155, 125, 1, 240, 212, 202, 60, 26, 202, 247, 131, 236, 100, 119, 4, 218, 70, 64, 35, 244, 252, 215, 237, 138, 117, 255, 76, 147, 23, 237, 183, 54, 54, 54, 54, 54, 54, 54, 54, 54, 54, 54, 54, 54, 54, 54, 54, 54, 54, 54, 54, 54, 54, 54, 54, 54, 54, 54, 54, 54, 54, 54, 54, 84, 101, 115, 116, 32, 85, 115, 105, 110, 103, 32, 76, 97, 114, 103, 101, 114, 32, 84, 104, 97, 110, 32, 66, 108, 111, 99, 107, 45, 83, 105, 122, 101, 32, 75, 101, 121, 32, 45, 32, 72, 97, 115, 104, 32, 75, 101, 121, 32, 70, 105, 114, 115, 116], [167, 48, 56, 187, 204, 93, 111, 3, 55, 33, 85, 140, 164, 129, 243, 116, 114, 202, 1, 195, 180, 7, 47, 50, 92, 16, 114, 161, 146, 191, 226, 192]),
  ([25, 241, 23, 107, 154, 190, 160, 86, 112, 160, 157, 233, 134, 14, 29, 110, 176, 44, 42, 73, 158, 150, 189, 135, 224, 31, 149, 38, 249, 125, 135, 221, 92, 92, 92, 92, 92, 92, 92, 92, 92, 92, 92, 92, 92, 92, 92, 92, 92, 92, 92, 92, 92, 92, 92, 92, 92, 92, 92, 92, 92, 92, 92, 92, 167, 48, 56, 187, 204, 93, 111, 3, 55, 33, 85, 140, 164, 129, 243, 116, 114, 202, 1, 195, 180, 7, 47, 50, 92, 16, 114, 161, 146, 191, 226, 192], [96, 228, 49, 89, 30, 224, 182, 127, 13, 138, 38, 170, 203, 245, 183, 127, 142, 11, 198, 33, 55, 40, 197, 20, 5, 70, 4, 15, 14, 227, 127, 84])]
theorem TK_ok : ∀ e ∈ TK, digN e.1 = e.2 := by
  intro e he
  unfold TK at he
  simp only [List.mem_cons, List.not_mem_nil, or_false] at he
  rcases he with rfl | rfl | rfl | rfl | rfl | rfl | rfl | rfl | rfl | rfl | rfl
  · kernel_rfl
  · kernel_rfl
  · kernel_rfl
  · kernel_rfl
  · kernel_rfl
  · kernel_rfl
  · kernel_rfl
  · kernel_rfl
  · kernel_rfl
  · kernel_rfl
  · kernel_rfl
def toldG : Raw := fun f args hp =>
  if f = 16 then
    match args, hp with
    | [.bts _ l], .glob g gl :: _ =>
      match TK.find? (fun e => e.1 == l) with
      | some e => some (.agg (e.2.map fun b => .num .u8 (Int.ofNat b)), .pr (g = 0 ∧ gl = glL))
      | none => none
    | _, _ => none
  else none
theorem nums_R : ∀ {η : Env} (l : List Nat) (vs : List Value), Rs η (l.map fun b => SV.val (.int .u8 (Int.ofNat b))) vs → Rs η (l.map fun b => .num .u8 (Int.ofNat b)) vs
  | η, [], vs, h => h
  | η, b :: l, vs, h => by
    obtain ⟨v, r, rfl, h1, h2⟩ := h
    exact Rs.cons (by simpa only [R] using h1) (nums_R l r h2)
theorem toldG_ok : toldG.Ok := by
  intro f args hp s c h hc B η w vs hr hargs
  unfold toldG at h
  split at h
  · rename_i hf; subst hf
    split at h
    · rename_i td l g gl r
      split at h
      · rename_i e he
        simp only [Option.some.injEq, Prod.mk.injEq] at h
        obtain ⟨rfl, rfl⟩ := h
        obtain ⟨rfl, rfl⟩ := hc
        have hm := List.mem_of_find?_eq_some he
        have hl : e.1 = l := by simpa using List.find?_some he
        have hlen : ∀ e ∈ TK, e.1.length ≤ 9223372036854775807 := by decide
        have hsz : (⟨l.toArray⟩ : ByteArray).size ≤ 9223372036854775807 := by
          show l.toArray.size ≤ _
          rw [List.size_toArray, ← hl]; exact hlen e hm
        refine (call9 ⟨l.toArray⟩ hsz hr (k := 0) rfl ?_).mono fun en w' hq => ?_
        · obtain ⟨a, x, rfl, g1, g2⟩ := hargs.cons_inv
          simp only [Rs] at g2; subst g2
          exact Rs.cons (by simpa only [R] using g1) Rs.nil
        · obtain ⟨v, rfl, hR, hb⟩ := hq
          refine ⟨v, rfl, ?_, hb⟩
          have ht := TK_ok e hm
          rw [hl] at ht
          have q := shN_ok l
          have hd : dgS (shL.S ⟨l.toArray⟩) = .agg (e.2.map fun b => SV.val (.int .u8 (Int.ofNat b))) := by
            rw [← ht]
            unfold dgS digN
            rw [List.map_map]
            congr 1
            refine List.map_congr_left fun i hi => ?_
            rw [dB_N q.1 q.2 (by simpa using hi)]; rfl
          rw [hd] at hR
          obtain ⟨x, x1, x2⟩ := hR
          exact ⟨x, x1, nums_R _ _ x2⟩
      · simp at h
    · simp at h
  · simp at h
/-! ### told codes -/
def OK7 : List (List UInt8 × List UInt8 × List Nat) := [
  ([74, 101, 102, 101], [119, 104, 97, 116, 32, 100, 111, 32, 121, 97, 32, 119, 97, 110, 116, 32, 102, 111, 114, 32, 110, 111, 116, 104, 105, 110, 103, 63], [91, 220, 193, 70, 191, 96, 117, 78, 106, 4, 36, 38, 8, 149, 117, 199, 90, 0, 63, 8, 157, 39, 57, 131, 157, 236, 88, 185, 100, 236, 56, 67]),
  ([11, 11, 11, 11, 11, 11, 11, 11, 11, 11, 11, 11, 11, 11, 11, 11, 11, 11, 11, 11], [72, 105, 32, 84, 104, 101, 114, 101], [176, 52, 76, 97, 216, 219, 56, 83, 92, 168, 175, 206, 175, 11, 241, 43, 136, 29, 194, 0, 201, 131, 61, 167, 38, 233, 55, 108, 46, 50, 207, 247]),
  ([], [], [182, 19, 103, 154, 8, 20, 217, 236, 119, 47, 149, 215, 120, 195, 95, 197, 255, 22, 151, 196, 147, 113, 86, 83, 198, 199, 18, 20, 66, 146, 197, 173]),
  ([170, 170, 170, 170, 170, 170, 170, 170, 170, 170, 170, 170, 170, 170, 170, 170, 170, 170, 170, 170], [221, 221, 221, 221, 221, 221, 221, 221, 221, 221, 221, 221, 221, 221, 221, 221, 221, 221, 221, 221, 221, 221, 221, 221, 221, 221, 221, 221, 221, 221, 221, 221, 221, 221, 221, 221, 221, 221, 221, 221, 221, 221, 221, 221, 221, 221, 221, 221, 221, 221], [119, 62, 169, 30, 54, 128, 14, 70, 133, 77, 184, 235, 208, 145, 129, 167, 41, 89, 9, 139, 62, 248, 193, 34, 217, 99, 85, 20, 206, 213, 101, 254]),
  ([170, 170, 170, 170, 170, 170, 170, 170, 170, 170, 170, 170, 170, 170, 170, 170, 170, 170, 170, 170, 170, 170, 170, 170, 170, 170, 170, 170, 170, 170, 170, 170, 170, 170, 170, 170, 170, 170, 170, 170, 170, 170, 170, 170, 170, 170, 170, 170, 170, 170, 170, 170, 170, 170, 170, 170, 170, 170, 170, 170, 170, 170, 170, 170, 170, 170, 170, 170, 170, 170, 170, 170, 170, 170, 170, 170, 170, 170, 170, 170, 170, 170, 170, 170, 170, 170, 170, 170, 170, 170, 170, 170, 170, 170, 170, 170, 170, 170, 170, 170, 170, 170, 170, 170, 170, 170, 170, 170, 170, 170, 170, 170, 170, 170, 170, 170, 170, 170, 170, 170, 170, 170, 170, 170, 170, 170, 170, 170, 170, 170, 170], [84, 101, 115, 116, 32, 85, 115, 105, 110, 103, 32, 76, 97, 114, 103, 101, 114, 32, 84, 104, 97, 110, 32, 66, 108, 111, 99, 107, 45, 83, 105, 122, 101, 32, 75, 101, 121, 32, 45, 32, 72, 97, 115, 104, 32, 75, 101, 121, 32, 70, 105, 114, 115, 116], [96, 228, 49, 89, 30, 224, 182, 127, 13, 138, 38, 170, 203, 245, 183, 127, 142, 11, 198, 33, 55, 40, 197, 20, 5, 70, 4, 15, 14, 227, 127, 84])]
noncomputable def tdX : Cx := rawP toldG
def nums (l : List Nat) : SV := .agg (l.map fun b => .num .u8 (Int.ofNat b))
theorem of_0 : givesV (topR tdX (run tdX 80) 8 [.bts true [74, 101, 102, 101], .bts true [119, 104, 97, 116, 32, 100, 111, 32, 121, 97, 32, 119, 97, 110, 116, 32, 102, 111, 114, 32, 110, 111, 116, 104, 105, 110, 103, 63]] [globS] []) (nums [91, 220, 193, 70, 191, 96, 117, 78, 106, 4, 36, 38, 8, 149, 117, 199, 90, 0, 63, 8, 157, 39, 57, 131, 157, 236, 88, 185, 100, 236, 56, 67]) [0 = 0 ∧ glL = glL, 0 = 0 ∧ glL = glL] := by unfold givesV; kernel_rfl
theorem of_1 : givesV (topR tdX (run tdX 80) 8 [.bts true [11, 11, 11, 11, 11, 11, 11, 11, 11, 11, 11, 11, 11, 11, 11, 11, 11, 11, 11, 11], .bts true [72, 105, 32, 84, 104, 101, 114, 101]] [globS] []) (nums [176, 52, 76, 97, 216, 219, 56, 83, 92, 168, 175, 206, 175, 11, 241, 43, 136, 29, 194, 0, 201, 131, 61, 167, 38, 233, 55, 108, 46, 50, 207, 247]) [0 = 0 ∧ glL = glL, 0 = 0 ∧ glL = glL] := by unfold givesV; kernel_rfl
theorem of_2 : givesV (topR tdX (run tdX 80) 8 [.bts true [], .bts true []] [globS] []) (nums [182, 19, 103, 154, 8, 20, 217, 236, 119, 47, 149, 215, 120, 195, 95, 197, 255, 22, 151, 196, 147, 113, 86, 83, 198, 199, 18, 20, 66, 146, 197, 173]) [0 = 0 ∧ glL = glL, 0 = 0 ∧ glL = glL] := by unfold givesV; kernel_rfl
theorem of_3 : givesV (topR tdX (run tdX 80) 8 [.bts true [170, 170, 170, 170, 170, 170, 170, 170, 170, 170, 170, 170, 170, 170, 170, 170, 170, 170, 170, 170], .bts true [221, 221, 221, 221, 221, 221, 221, 221, 221, 221, 221, 221, 221, 221, 221, 221, 221, 221, 221, 221, 221, 221, 221, 221, 221, 221, 221, 221, 221, 221, 221, 221, 221, 221, 221, 221, 221, 221, 221, 221, 221, 221, 221, 221, 221, 221, 221, 221, 221, 221]] [globS] []) (nums [119, 62, 169, 30, 54, 128, 14, 70, 133, 77, 184, 235, 208, 145, 129, 167, 41, 89, 9, 139, 62, 248, 193, 34, 217, 99, 85, 20, 206, 213, 101, 254]) [0 = 0 ∧ glL = glL, 0 = 0 ∧ glL = glL] := by unfold givesV; kernel_rfl
theorem of_4 : givesV (topR tdX (run tdX 80) 8 [.bts true [170, 170, 170, 170, 170, 170, 170, 170, 170, 170, 170, 170, 170, 170, 170, 170, 170, 170, 170, 170, 170, 170, 170, 170, 170, 170, 170, 170, 170, 170, 170, 170, 170, 170, 170, 170, 170, 170, 170, 170, 170, 170, 170, 170, 170, 170, 170, 170, 170, 170, 170, 170, 170, 170, 170, 170, 170, 170, 170, 170, 170, 170, 170, 170, 170, 170, 170, 170, 170, 170, 170, 170, 170, 170, 170, 170, 170, 170, 170, 170, 170, 170, 170, 170, 170, 170, 170, 170, 170, 170, 170, 170, 170, 170, 170, 170, 170, 170, 170, 170, 170, 170, 170, 170, 170, 170, 170, 170, 170, 170, 170, 170, 170, 170, 170, 170, 170, 170, 170, 170, 170, 170, 170, 170, 170, 170, 170, 170, 170, 170, 170], .bts true [84, 101, 115, 116, 32, 85, 115, 105, 110, 103, 32, 76, 97, 114, 103, 101, 114, 32, 84, 104, 97, 110, 32, 66, 108, 111, 99, 107, 45, 83, 105, 122, 101, 32, 75, 101, 121, 32, 45, 32, 72, 97, 115, 104, 32, 75, 101, 121, 32, 70, 105, 114, 115, 116]] [globS] []) (nums [96, 228, 49, 89, 30, 224, 182, 127, 13, 138, 38, 170, 203, 245, 183, 127, 142, 11, 198, 33, 55, 40, 197, 20, 5, 70, 4, 15, 14, 227, 127, 84]) [0 = 0 ∧ glL = glL, 0 = 0 ∧ glL = glL, 0 = 0 ∧ glL = glL] := by unfold givesV; kernel_rfl
def ofP (e : List UInt8 × List UInt8 × List Nat) : Prop := ∃ Ls : List Prop, AllP Ls ∧ givesV (topR tdX (run tdX 80) 8 [.bts true e.1, .bts true e.2.1] [globS] []) (nums e.2.2) Ls
theorem of_all : ∀ e ∈ OK7, ofP e := by
  intro e he
  unfold OK7 at he
  simp only [List.mem_cons, List.not_mem_nil, or_false] at he
  rcases he with rfl | rfl | rfl | rfl | rfl
  · exact ⟨[0 = 0 ∧ glL = glL, 0 = 0 ∧ glL = glL], ⟨⟨rfl, rfl⟩, ⟨rfl, rfl⟩, trivial⟩, of_0⟩
  · exact ⟨[0 = 0 ∧ glL = glL, 0 = 0 ∧ glL = glL], ⟨⟨rfl, rfl⟩, ⟨rfl, rfl⟩, trivial⟩, of_1⟩
  · exact ⟨[0 = 0 ∧ glL = glL, 0 = 0 ∧ glL = glL], ⟨⟨rfl, rfl⟩, ⟨rfl, rfl⟩, trivial⟩, of_2⟩
  · exact ⟨[0 = 0 ∧ glL = glL, 0 = 0 ∧ glL = glL], ⟨⟨rfl, rfl⟩, ⟨rfl, rfl⟩, trivial⟩, of_3⟩
  · exact ⟨[0 = 0 ∧ glL = glL, 0 = 0 ∧ glL = glL, 0 = 0 ∧ glL = glL], ⟨⟨rfl, rfl⟩, ⟨rfl, rfl⟩, ⟨rfl, rfl⟩, trivial⟩, of_4⟩
theorem nums_free (l : List Nat) : (nums l).free = true := by
  unfold nums; simp only [SV.free]
  induction l with
  | nil => rfl
  | cons a l ih => simp only [List.map_cons, frees, Bool.and_eq_true]; exact ⟨rfl, ih⟩
noncomputable def ofG : Raw := fun f args hp =>
  if f = 8 then
    match args, hp with
    | [.bts _ k, .bts _ t], .glob g gl :: _ =>
      match OK7.find? (fun e => e.1 == k && e.2.1 == t) with
      | some e => some (nums e.2.2, .pr (g = 0 ∧ gl = glL))
      | none => none
    | _, _ => none
  else none
theorem ofG_ok : ofG.Ok := by
  intro f args hp s c h hc B η w vs hr hargs
  unfold ofG at h
  split at h
  · rename_i hf; subst hf
    split at h
    · rename_i b1 k b2 t g gl r
      split at h
      · rename_i e he
        simp only [Option.some.injEq, Prod.mk.injEq] at h
        obtain ⟨rfl, rfl⟩ := h
        obtain ⟨rfl, rfl⟩ := hc
        have hm := List.mem_of_find?_eq_some he
        have hl := List.find?_some he
        simp only [Bool.and_eq_true, beq_iff_eq] at hl
        obtain ⟨rfl, rfl⟩ := hl
        obtain ⟨Ls, hA, hg⟩ := of_all e hm
        obtain ⟨v, hv⟩ := HR.glob hr (k := 0) rfl (by decide)
        have ha : Rs [] [.bts true e.1, .bts true e.2.1] vs := by
          obtain ⟨a, x, rfl, g1, g2⟩ := hargs.cons_inv
          obtain ⟨a2, x2, rfl, g3, g4⟩ := g2.cons_inv
          simp only [Rs] at g4; subst g4
          exact Rs.cons (by simpa only [R] using g1) (Rs.cons (by simpa only [R] using g3) Rs.nil)
        exact callsV (X := tdX) rfl (rawP_ct toldG_ok) (rawP_lp _) 80 hg hA (nums_free _) (hv _) (Rs.free _ _ rfl ha)
      · simp at h
    · simp at h
  · simp at h
/-! ### works, HmacKnown -/
def Pg (g : Nat) (gl : List SV) : Prop := g = 0 ∧ gl = glL
noncomputable def repR : Raw := fun f args _ => if f = 18 then repG args else none
theorem repR_ok : repR.Ok := by
  intro f args hp s c h hc B η w vs hr hargs
  unfold repR at h
  split at h
  · rename_i hf; subst hf
    have hf : frees args = true := by
      unfold repG at h
      split at h
      · rfl
      · simp at h
    exact repG_ok args s c h hc w vs (Rs.free _ _ hf hargs)
  · simp at h
/-! ### digits, of told texts -/
theorem HR.two0 {B : Nat} {v : Value} {w : World} (h : HR B [v] [globS] w) : HR B [v, v, v] [globS, .cells false [], .cells false []] w := by
  have hb := h.blk 0 _ rfl
  obtain ⟨b, p, e1, e2, _, _⟩ := hb.1 _ _ rfl
  have ev : v = .pointer (some ⟨b, p, none⟩) := by simpa using e1
  have nil : ∀ k, ([v, v, v] : Env)[k]? = some v → BR B [v, v, v] w k (.cells false []) := fun k hk =>
    ⟨fun wr l hro => by
      simp only [SO.row, Option.some.injEq, Prod.mk.injEq] at hro
      obtain ⟨rfl, rfl⟩ := hro
      exact ⟨b, p, by rw [hk, ev], e2, (fun e => by cases e), fun i s hi => by simp at hi⟩, trivial⟩
  refine ⟨rfl, fun k o hk => ?_, ?_⟩
  · match k, hk with
    | 0, hk =>
      simp at hk; subst hk
      exact BR.glob_at (k' := 0) (η' := [v, v, v]) (by decide) (fun x hx => by simpa using hx) hb
    | 1, hk => simp at hk; subst hk; exact nil 1 rfl
    | 2, hk => simp at hk; subst hk; exact nil 2 rfl
    | k + 3, hk => simp at hk
  · intro k₁ k₂ s₁ s₂ l₁ wr₂ l₂ b₁ o₁ b₂ o₂ h1 r1 h2 r2 hne q1 q2
    match k₁, h1 with
    | 0, h1 => simp at h1; subst h1; simp [globS, SO.row] at r1
    | 1, h1 => simp at h1; subst h1; simp [SO.row] at r1
    | 2, h1 => simp at h1; subst h1; simp [SO.row] at r1
    | j + 3, h1 => simp at h1
noncomputable def dgX : Cx := rawP noG
def DG7 : List (List UInt8 × List UInt8) := [
  ([91, 220, 193, 70, 191, 96, 117, 78, 106, 4, 36, 38, 8, 149, 117, 199, 90, 0, 63, 8, 157, 39, 57, 131, 157, 236, 88, 185, 100, 236, 56, 67], [53, 98, 100, 99, 99, 49, 52, 54, 98, 102, 54, 48, 55, 53, 52, 101, 54, 97, 48, 52, 50, 52, 50, 54, 48, 56, 57, 53, 55, 53, 99, 55, 53, 97, 48, 48, 51, 102, 48, 56, 57, 100, 50, 55, 51, 57, 56, 51, 57, 100, 101, 99, 53, 56, 98, 57, 54, 52, 101, 99, 51, 56, 52, 51]),
  ([176, 52, 76, 97, 216, 219, 56, 83, 92, 168, 175, 206, 175, 11, 241, 43, 136, 29, 194, 0, 201, 131, 61, 167, 38, 233, 55, 108, 46, 50, 207, 247], [98, 48, 51, 52, 52, 99, 54, 49, 100, 56, 100, 98, 51, 56, 53, 51, 53, 99, 97, 56, 97, 102, 99, 101, 97, 102, 48, 98, 102, 49, 50, 98, 56, 56, 49, 100, 99, 50, 48, 48, 99, 57, 56, 51, 51, 100, 97, 55, 50, 54, 101, 57, 51, 55, 54, 99, 50, 101, 51, 50, 99, 102, 102, 55]),
  ([91, 220, 193, 70], [53, 98, 100, 99, 99, 49, 52, 54]),
  ([56, 67], [51, 56, 52, 51]),
  ([182, 19, 103, 154, 8, 20, 217, 236, 119, 47, 149, 215, 120, 195, 95, 197, 255, 22, 151, 196, 147, 113, 86, 83, 198, 199, 18, 20, 66, 146, 197, 173], [98, 54, 49, 51, 54, 55, 57, 97, 48, 56, 49, 52, 100, 57, 101, 99, 55, 55, 50, 102, 57, 53, 100, 55, 55, 56, 99, 51, 53, 102, 99, 53, 102, 102, 49, 54, 57, 55, 99, 52, 57, 51, 55, 49, 53, 54, 53, 51, 99, 54, 99, 55, 49, 50, 49, 52, 52, 50, 57, 50, 99, 53, 97, 100]),
  ([119, 62, 169, 30, 54, 128, 14, 70, 133, 77, 184, 235, 208, 145, 129, 167, 41, 89, 9, 139, 62, 248, 193, 34, 217, 99, 85, 20, 206, 213, 101, 254], [55, 55, 51, 101, 97, 57, 49, 101, 51, 54, 56, 48, 48, 101, 52, 54, 56, 53, 52, 100, 98, 56, 101, 98, 100, 48, 57, 49, 56, 49, 97, 55, 50, 57, 53, 57, 48, 57, 56, 98, 51, 101, 102, 56, 99, 49, 50, 50, 100, 57, 54, 51, 53, 53, 49, 52, 99, 101, 100, 53, 54, 53, 102, 101]),
  ([96, 228, 49, 89, 30, 224, 182, 127, 13, 138, 38, 170, 203, 245, 183, 127, 142, 11, 198, 33, 55, 40, 197, 20, 5, 70, 4, 15, 14, 227, 127, 84], [54, 48, 101, 52, 51, 49, 53, 57, 49, 101, 101, 48, 98, 54, 55, 102, 48, 100, 56, 97, 50, 54, 97, 97, 99, 98, 102, 53, 98, 55, 55, 102, 56, 101, 48, 98, 99, 54, 50, 49, 51, 55, 50, 56, 99, 53, 49, 52, 48, 53, 52, 54, 48, 52, 48, 102, 48, 101, 101, 51, 55, 102, 53, 52])]
theorem dg_0 : givesV (topR dgX (run dgX 80) 22 [.bts true [91, 220, 193, 70, 191, 96, 117, 78, 106, 4, 36, 38, 8, 149, 117, 199, 90, 0, 63, 8, 157, 39, 57, 131, 157, 236, 88, 185, 100, 236, 56, 67]] [globS, .cells false [], .cells false []] []) (.bts true [53, 98, 100, 99, 99, 49, 52, 54, 98, 102, 54, 48, 55, 53, 52, 101, 54, 97, 48, 52, 50, 52, 50, 54, 48, 56, 57, 53, 55, 53, 99, 55, 53, 97, 48, 48, 51, 102, 48, 56, 57, 100, 50, 55, 51, 57, 56, 51, 57, 100, 101, 99, 53, 56, 98, 57, 54, 52, 101, 99, 51, 56, 52, 51]) [] := by unfold givesV; kernel_rfl
theorem dg_1 : givesV (topR dgX (run dgX 80) 22 [.bts true [176, 52, 76, 97, 216, 219, 56, 83, 92, 168, 175, 206, 175, 11, 241, 43, 136, 29, 194, 0, 201, 131, 61, 167, 38, 233, 55, 108, 46, 50, 207, 247]] [globS, .cells false [], .cells false []] []) (.bts true [98, 48, 51, 52, 52, 99, 54, 49, 100, 56, 100, 98, 51, 56, 53, 51, 53, 99, 97, 56, 97, 102, 99, 101, 97, 102, 48, 98, 102, 49, 50, 98, 56, 56, 49, 100, 99, 50, 48, 48, 99, 57, 56, 51, 51, 100, 97, 55, 50, 54, 101, 57, 51, 55, 54, 99, 50, 101, 51, 50, 99, 102, 102, 55]) [] := by unfold givesV; kernel_rfl
theorem dg_2 : givesV (topR dgX (run dgX 80) 22 [.bts true [91, 220, 193, 70]] [globS, .cells false [], .cells false []] []) (.bts true [53, 98, 100, 99, 99, 49, 52, 54]) [] := by unfold givesV; kernel_rfl
theorem dg_3 : givesV (topR dgX (run dgX 80) 22 [.bts true [56, 67]] [globS, .cells false [], .cells false []] []) (.bts true [51, 56, 52, 51]) [] := by unfold givesV; kernel_rfl
theorem dg_4 : givesV (topR dgX (run dgX 80) 22 [.bts true [182, 19, 103, 154, 8, 20, 217, 236, 119, 47, 149, 215, 120, 195, 95, 197, 255, 22, 151, 196, 147, 113, 86, 83, 198, 199, 18, 20, 66, 146, 197, 173]] [globS, .cells false [], .cells false []] []) (.bts true [98, 54, 49, 51, 54, 55, 57, 97, 48, 56, 49, 52, 100, 57, 101, 99, 55, 55, 50, 102, 57, 53, 100, 55, 55, 56, 99, 51, 53, 102, 99, 53, 102, 102, 49, 54, 57, 55, 99, 52, 57, 51, 55, 49, 53, 54, 53, 51, 99, 54, 99, 55, 49, 50, 49, 52, 52, 50, 57, 50, 99, 53, 97, 100]) [] := by unfold givesV; kernel_rfl
theorem dg_5 : givesV (topR dgX (run dgX 80) 22 [.bts true [119, 62, 169, 30, 54, 128, 14, 70, 133, 77, 184, 235, 208, 145, 129, 167, 41, 89, 9, 139, 62, 248, 193, 34, 217, 99, 85, 20, 206, 213, 101, 254]] [globS, .cells false [], .cells false []] []) (.bts true [55, 55, 51, 101, 97, 57, 49, 101, 51, 54, 56, 48, 48, 101, 52, 54, 56, 53, 52, 100, 98, 56, 101, 98, 100, 48, 57, 49, 56, 49, 97, 55, 50, 57, 53, 57, 48, 57, 56, 98, 51, 101, 102, 56, 99, 49, 50, 50, 100, 57, 54, 51, 53, 53, 49, 52, 99, 101, 100, 53, 54, 53, 102, 101]) [] := by unfold givesV; kernel_rfl
theorem dg_6 : givesV (topR dgX (run dgX 80) 22 [.bts true [96, 228, 49, 89, 30, 224, 182, 127, 13, 138, 38, 170, 203, 245, 183, 127, 142, 11, 198, 33, 55, 40, 197, 20, 5, 70, 4, 15, 14, 227, 127, 84]] [globS, .cells false [], .cells false []] []) (.bts true [54, 48, 101, 52, 51, 49, 53, 57, 49, 101, 101, 48, 98, 54, 55, 102, 48, 100, 56, 97, 50, 54, 97, 97, 99, 98, 102, 53, 98, 55, 55, 102, 56, 101, 48, 98, 99, 54, 50, 49, 51, 55, 50, 56, 99, 53, 49, 52, 48, 53, 52, 54, 48, 52, 48, 102, 48, 101, 101, 51, 55, 102, 53, 52]) [] := by unfold givesV; kernel_rfl
theorem dg_all : ∀ e ∈ DG7, givesV (topR dgX (run dgX 80) 22 [.bts true e.1] [globS, .cells false [], .cells false []] []) (.bts true e.2) [] := by
  intro e he
  unfold DG7 at he
  simp only [List.mem_cons, List.not_mem_nil, or_false] at he
  rcases he with rfl | rfl | rfl | rfl | rfl | rfl | rfl
  · exact dg_0
  · exact dg_1
  · exact dg_2
  · exact dg_3
  · exact dg_4
  · exact dg_5
  · exact dg_6
noncomputable def digG7 : Raw := fun f args hp =>
  if f = 22 then
    match args, hp with
    | [.bts _ l], .glob g gl :: _ =>
      match DG7.find? (fun e => e.1 == l) with
      | some e => some (.bts true e.2, .pr (Pg g gl))
      | none => none
    | _, _ => none
  else none
theorem digG7_ok : digG7.Ok := by
  intro f args hp s c h hc B η w vs hr hargs
  unfold digG7 at h
  split at h
  · rename_i hf; subst hf
    split at h
    · rename_i b1 l g gl r
      split at h
      · rename_i e he
        simp only [Option.some.injEq, Prod.mk.injEq] at h
        obtain ⟨rfl, rfl⟩ := h
        obtain ⟨rfl, rfl⟩ := hc
        have hm := List.mem_of_find?_eq_some he
        have hl : e.1 = l := by simpa using List.find?_some he
        subst hl
        obtain ⟨v, hv⟩ := HR.glob hr (k := 0) rfl (by decide)
        have ha : Rs [] [.bts true e.1] vs := by
          obtain ⟨a, x, rfl, g1, g2⟩ := hargs.cons_inv
          simp only [Rs] at g2; subst g2
          exact Rs.cons (by simpa only [R] using g1) Rs.nil
        exact callsV (X := dgX) rfl (rawP_ct noG_ok) (rawP_lp _) 80 (dg_all e hm) trivial rfl (HR.two0 (hv w.heap.size)) (Rs.free _ _ rfl ha)
      · simp at h
    · simp at h
  · simp at h
noncomputable def tdR : Raw := ofG.or (digG7.or repR)
theorem tdR_ok : tdR.Ok := Raw.or_ok ofG_ok (Raw.or_ok digG7_ok repR_ok)
noncomputable def wkX : Cx := guardX [16, 8, 17, 22] (rawP tdR)
theorem works_gives : givesV (topR wkX (run wkX 80) 10 [] [globS] []) (.bol true) (List.replicate 6 (Pg 0 glL)) := by
  unfold givesV; kernel_rfl
theorem call10 {B : Nat} {η : Env} {hp : List SO} {k : Nat} {w : World} {vs : List Value} (hr : HR B η hp w) (hk : hp[k]? = some globS) (hargs : Rs [] [] vs) :
    Calls Tryd.prog 10 vs.toArray w (fun e w' => ∃ v, e = .returned v ∧ R [] (.bol true) v ∧ Below w.heap.size w w') := by
  obtain ⟨v, hv⟩ := HR.glob hr hk (by decide)
  exact callsV (X := wkX) rfl (guardX_ct (rawP_ct tdR_ok)) (guardX_lp (rawP_lp _)) 80 works_gives ⟨⟨rfl, rfl⟩, ⟨rfl, rfl⟩, ⟨rfl, rfl⟩, ⟨rfl, rfl⟩, ⟨rfl, rfl⟩, ⟨rfl, rfl⟩, trivial⟩ rfl (hv _) (Rs.free _ _ rfl hargs)
def worksG : Raw := fun f args hp =>
  if f = 10 then
    match args, hp with
    | [], .glob g gl :: _ => some (.bol true, .pr (Pg g gl))
    | _, _ => none
  else none
theorem worksG_ok : worksG.Ok := by
  intro f args hp s c h hc B η w vs hr hargs
  unfold worksG at h
  split at h
  · rename_i hf; subst hf
    split at h
    · rename_i g gl r
      simp only [Option.some.injEq, Prod.mk.injEq] at h
      obtain ⟨rfl, rfl⟩ := h
      obtain ⟨rfl, rfl⟩ := hc
      exact call10 hr (k := 0) rfl (by simp only [Rs] at hargs; subst hargs; exact Rs.nil)
    · simp at h
  · simp at h
noncomputable def mX (g : Raw) : Cx := guardX [10, 16, 8, 17, 22] (rawP g)
theorem mX_ct {g : Raw} (hg : g.Ok) : CtOk (mX g) := guardX_ct (rawP_ct hg)
theorem mX_lp (g : Raw) : LpOk (mX g) := guardX_lp (rawP_lp g)

end Go.Proofs.YtclafmabccbhjaaDoor
