/-
  Walks of functions, reckoned through, and what they give (part W06f7). No condition beyond what each says. By an AI agent.
-/
import Derived.Test.YtgefcokanfbpbaaDoorW06o
namespace Go.Proofs.YtgefcokanfbpbaaDoor
open Go.Ex
open Go.RowKit (Below)
set_option linter.unusedVariables false
set_option maxRecDepth 1000000
/-! ### the plain law of Write -/
def cutK (k : Int) (f : ByteArray) : ByteArray := f.extract (Int.toNat 0) (if k < (f.size : Int) then k else (f.size : Int)).toNat
def cutP (k : Int) (f : ByteArray) : Prop := (0 : Int) ≤ 0 ∧ (0 : Int) ≤ (if k < (f.size : Int) then k else (f.size : Int)) ∧ (if k < (f.size : Int) then k else (f.size : Int)) ≤ (f.size : Int)
theorem cutP_ok (k : Int) (h : 0 ≤ k) (f : ByteArray) : cutP k f := by unfold cutP; split <;> omega
theorem cutK_size (k : Int) (h : 0 ≤ k) (f : ByteArray) : ((cutK k f).size : Int) ≤ k ∧ (cutK k f).size ≤ f.size := by
  unfold cutK; rw [ByteArray.size_extract]; split <;> omega
def eqDg (a b : List Int) : Bool := (List.range 32).foldr (fun i r => (dB a i == dB b i) && r) true
theorem eqDg_self (a : List Int) : eqDg a a = true := by
  unfold eqDg
  generalize List.range 32 = l
  induction l with
  | nil => rfl
  | cons x l ih => simp only [List.foldr_cons, ih]; simp
theorem rstS_app (s t : ByteArray) (h : 64 ≤ s.size) : rstS (s ++ t) = rstS s ++ t := by
  apply ByteArray.ext
  unfold rstS
  rw [ByteArray.data_extract, ByteArray.data_append, ByteArray.data_append, ByteArray.data_extract, ByteArray.size_append]
  have h' : 64 ≤ s.data.size := h
  have e : (s.size + t.size) = s.data.size + t.data.size := rfl
  rw [e]
  apply Array.ext'
  simp only [Array.toList_extract, Array.toList_append, List.extract_eq_take_drop]
  rw [List.drop_append, List.take_of_length_le (by simp; omega)]
  rw [List.take_of_length_le (by simp)]
  rw [show 64 - s.data.toList.length = 0 by simp; omega]
  rfl
theorem blkS_app (s t : ByteArray) (h : 64 ≤ s.size) : blkS (s ++ t) = blkS s := by
  unfold blkS
  congr 2
  refine List.map_congr_left fun i hi => ?_
  unfold bAt
  rw [ByteArray.data_append, Array.getElem?_append_left]
  have : i < 64 := by simpa using hi
  have h' : 64 ≤ s.data.size := h
  omega
/-- What is written in two pieces is as what is written at once. -/
theorem finW_app (z : Z) (ini : List Int) (s t : ByteArray) : finW z (finW z ini s).1 ((finW z ini s).2 ++ t) = finW z ini (s ++ t) := by
  by_cases h : 64 ≤ s.size
  · have e1 : finW z ini s = finW z (tkF z ini (blkS s)) (rstS s) := by
      conv => lhs; rw [finW]
      rw [dif_pos h]
    have e2 : finW z ini (s ++ t) = finW z (tkF z ini (blkS s)) (rstS s ++ t) := by
      conv => lhs; rw [finW]
      rw [dif_pos (by rw [ByteArray.size_append]; omega), rstS_app s t h, blkS_app s t h]
    rw [e1, e2]
    exact finW_app z _ _ t
  · have e1 : finW z ini s = (ini, s) := by
      conv => lhs; rw [finW]
      rw [dif_neg h]
    rw [e1]
termination_by s.size
decreasing_by rw [rstS_size]; omega
theorem w64_eq (m : Nat) (t : ByteArray) (h : m + t.size < 18446744073709551616) : w64 (m : Int) t = ((m + t.size : Nat) : Int) := by
  unfold w64; rw [wu64, wu64]; omega
/-- A hash to which a text was written. -/
noncomputable def hs (q : Sh) (t : ByteArray) : List Int × ByteArray := q.F iv t
theorem hs_write (t a : ByteArray) : shL.F (oct (hs shL t)) ((hs shL t).2 ++ a) = hs shL (t ++ a) := by
  show finW zL (oct (finW zL iv t)) ((finW zL iv t).2 ++ a) = finW zL iv (t ++ a)
  rw [oct_eq (finW_len zL _ _ rfl)]
  exact finW_app zL iv t a
theorem hs_dig (t : ByteArray) (ht : t.size < 18446744073709551616) : shL.D (oct (hs shL t)) (hs shL t).2 (t.size : Int) = shL.S t := by
  show dgW zL (oct (finW zL iv t)) (finW zL iv t).2.data.toList (t.size : Int) = dgW zL (finW zL iv t).1 (finW zL iv t).2.data.toList (w64 0 t)
  rw [oct_eq (finW_len zL _ _ rfl)]
  have := w64_eq 0 t (by omega)
  rw [show w64 0 t = ((0 + t.size : Nat) : Int) from this]
  simp
theorem hs_rest (t : ByteArray) : (hs shL t).2.size < 64 := finW_rest zL iv t
/-! ### HashForks -/
section
variable (q : Sh) (f a b : ByteArray)
noncomputable def h0 : List Int × ByteArray := q.F iv (emp ++ cutK 150 f)
noncomputable def h1 (c : ByteArray) : List Int × ByteArray := q.F (oct (h0 q f)) ((h0 q f).2 ++ cutK 150 c)
noncomputable def h2 : List Int × ByteArray := q.F (oct (h1 q f a)) ((h1 q f a).2 ++ cutK 150 b)
noncomputable def m0 : Int := w64 (Int.ofNat 0) (cutK 150 f)
noncomputable def LF (t : Bool) : List Prop :=
  [Pg 0 glL, cutP 150 f, cutP 150 a, cutP 150 b, P14 iv emp (cutK 150 f) 0 glL] ++
  (if t then [P14 (oct (h0 q f)) (h0 q f).2 (cutK 150 b) 0 glL, P14 (oct (h0 q f)) (h0 q f).2 (cutK 150 a) 0 glL] else [P14 (oct (h0 q f)) (h0 q f).2 (cutK 150 a) 0 glL, P14 (oct (h0 q f)) (h0 q f).2 (cutK 150 b) 0 glL]) ++
  [P14 (oct (h1 q f a)) (h1 q f a).2 (cutK 150 b) 0 glL,
   P13 (h0 q f).2 0 glL, P9 (cutK 150 f) 0 glL, eqDg (q.D (oct (h0 q f)) (h0 q f).2 (m0 f)) (q.S (cutK 150 f)) = true,
   P13 (h1 q f a).2 0 glL, (cutK 150 f).size + (cutK 150 a).size ≤ 9223372036854775807, P9 (cutK 150 f ++ cutK 150 a) 0 glL, eqDg (q.D (oct (h1 q f a)) (h1 q f a).2 (w64 (m0 f) (cutK 150 a))) (q.S (cutK 150 f ++ cutK 150 a)) = true,
   P13 (h1 q f b).2 0 glL, (cutK 150 f).size + (cutK 150 b).size ≤ 9223372036854775807, P9 (cutK 150 f ++ cutK 150 b) 0 glL, eqDg (q.D (oct (h1 q f b)) (h1 q f b).2 (w64 (m0 f) (cutK 150 b))) (q.S (cutK 150 f ++ cutK 150 b)) = true,
   P13 (h2 q f a b).2 0 glL, (cutK 150 f).size + (cutK 150 a).size ≤ 9223372036854775807, (cutK 150 f ++ cutK 150 a).size + (cutK 150 b).size ≤ 9223372036854775807, P9 (cutK 150 f ++ cutK 150 a ++ cutK 150 b) 0 glL,
   eqDg (q.D (oct (h2 q f a b)) (h2 q f a b).2 (w64 (w64 (m0 f) (cutK 150 a)) (cutK 150 b))) (q.S (cutK 150 f ++ cutK 150 a ++ cutK 150 b)) = true,
   (m0 f == IntKind.u64.wrap ((cutK 150 f).size : Int)) = true]
noncomputable def lenF : Bool := w64 (w64 (m0 f) (cutK 150 a)) (cutK 150 b) == IntKind.u64.wrap (IntKind.i64.wrap (IntKind.i64.wrap (((cutK 150 f).size : Int) + ((cutK 150 a).size : Int)) + ((cutK 150 b).size : Int)))
theorem forks_t : givesV (topR (rawX q (allG q)) (run (rawX q (allG q)) 60) 7 [.val (.string f), .agg [.val (.string a), .val (.string b)], .bol true] [globS] [true, true, true, true, true]) (.val (.bool (lenF f a b))) (LF q f a b true) := by
  unfold givesV; kernel_rfl
theorem forks_f : givesV (topR (rawX q (allG q)) (run (rawX q (allG q)) 60) 7 [.val (.string f), .agg [.val (.string a), .val (.string b)], .bol false] [globS] [true, true, true, true, true]) (.val (.bool (lenF f a b))) (LF q f a b false) := by
  unfold givesV; kernel_rfl
end
end Go.Proofs.YtgefcokanfbpbaaDoor
