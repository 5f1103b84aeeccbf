/-
  Walks of functions, reckoned through, and what they give (part K08M). No condition beyond what each says. By an AI agent.
-/
import Derived.Test.YtaeokmojogekaaaDoorK08A
import Derived.Test.YtaeokmojogekaaaDoorW07e
namespace Go.Proofs.YtaeokmojogekaaaDoor
open Go.Ex
open Go.RowKit (Below)
set_option linter.unusedVariables false
set_option linter.unusedSimpArgs false
set_option maxRecDepth 1000000
/-! ### bytes of numbers, as the reference says them -/
def rd (n : Int) : Int := IntKind.u64.wrap (n.tdiv 256)
def rb (n : Int) : UInt8 := UInt8.ofNat (IntKind.u8.wrap (n.tmod 256)).toNat
def rb8 (n : Int) : List UInt8 := [rb (rd (rd (rd (rd (rd (rd (rd n))))))), rb (rd (rd (rd (rd (rd (rd n)))))), rb (rd (rd (rd (rd (rd n))))), rb (rd (rd (rd (rd n)))), rb (rd (rd (rd n))), rb (rd (rd n)), rb (rd n), rb n]
def rn (n b : Int) : Int := IntKind.u64.wrap (IntKind.u64.wrap (n * 256) + IntKind.u64.wrap b)
def tokR (w : List Int) : Int := IntKind.u32.wrap (rn (rn (rn (rn 0 (dB w 0)) (dB w 1)) (dB w 2)) (dB w 3))
def idsR (w : List Int) : Int := rn (rn (rn (rn (rn (rn (rn (rn 0 (dB w 24)) (dB w 25)) (dB w 26)) (dB w 27)) (dB w 28)) (dB w 29)) (dB w 30)) (dB w 31)
theorem rb8_eq (n : Int) (h0 : 0 ≤ n) (h1 : n < 18446744073709551616) : rb8 n = bs8 n := by
  have d : ∀ m : Int, 0 ≤ m → m < 18446744073709551616 → rd m = shB m ∧ 0 ≤ shB m ∧ shB m < 18446744073709551616 := fun m h0 h1 => by
    rw [shB_eq m h0]
    refine ⟨?_, by omega, by omega⟩
    unfold rd
    rw [Int.tdiv_eq_ediv_of_nonneg h0, wu64]; omega
  have b : ∀ m : Int, 0 ≤ m → rb m = bb m := fun m h0 => by
    unfold rb bb
    rw [Int.tmod_eq_emod_of_nonneg h0, wu8, wu8]
    congr 2; omega
  obtain ⟨e1, p1, q1⟩ := d n h0 h1
  obtain ⟨e2, p2, q2⟩ := d _ p1 q1
  obtain ⟨e3, p3, q3⟩ := d _ p2 q2
  obtain ⟨e4, p4, q4⟩ := d _ p3 q3
  obtain ⟨e5, p5, q5⟩ := d _ p4 q4
  obtain ⟨e6, p6, q6⟩ := d _ p5 q5
  obtain ⟨e7, p7, q7⟩ := d _ p6 q6
  unfold rb8 bs8
  rw [e1, e2, e3, e4, e5, e6, e7, b _ h0, b _ p1, b _ p2, b _ p3, b _ p4, b _ p5, b _ p6, b _ p7]
theorem rn_eq (n b : Int) (h0 : 0 ≤ n) (h : n < 72057594037927936) (b0 : 0 ≤ b) (b1 : b < 256) : rn n b = nxB n (UInt8.ofNat b.toNat) := by
  have e : ((UInt8.ofNat b.toNat).toNat : Int) = b := by rw [UInt8.toNat_ofNat']; omega
  rw [nxB_eq n _ h0 h, e]
  unfold rn
  rw [wu64, wu64, wu64]; omega
theorem dB_rng (w : List Int) (i : Nat) : 0 ≤ dB w i ∧ dB w i < 256 := by unfold dB; rw [wu8]; omega
theorem rnN (n : Int) (w : List Int) (i : Nat) (B : Int) (h0 : 0 ≤ n) (hB : n < B) (hB2 : B ≤ 72057594037927936) : rn n (dB w i) = nxB n (byB w i) ∧ 0 ≤ nxB n (byB w i) ∧ nxB n (byB w i) < B * 256 := by
  have hd := dB_rng w i
  refine ⟨rn_eq n _ h0 (by omega) hd.1 hd.2, ?_, ?_⟩ <;> rw [nxB_eq n _ h0 (by omega)] <;> have := (byB w i).toNat_lt <;> omega
theorem tokR_eq (w : List Int) : tokR w = tokW w := by
  obtain ⟨e0, p0, q0⟩ := rnN 0 w 0 1 (by omega) (by omega) (by omega)
  obtain ⟨e1, p1, q1⟩ := rnN _ w 1 _ p0 q0 (by omega)
  obtain ⟨e2, p2, q2⟩ := rnN _ w 2 _ p1 q1 (by omega)
  obtain ⟨e3, p3, q3⟩ := rnN _ w 3 _ p2 q2 (by omega)
  unfold tokR tokW
  rw [e0, e1, e2, e3]
theorem idsR_eq (w : List Int) : idsR w = idsW w := by
  obtain ⟨e0, p0, q0⟩ := rnN 0 w 24 1 (by omega) (by omega) (by omega)
  obtain ⟨e1, p1, q1⟩ := rnN _ w 25 _ p0 q0 (by omega)
  obtain ⟨e2, p2, q2⟩ := rnN _ w 26 _ p1 q1 (by omega)
  obtain ⟨e3, p3, q3⟩ := rnN _ w 27 _ p2 q2 (by omega)
  obtain ⟨e4, p4, q4⟩ := rnN _ w 28 _ p3 q3 (by omega)
  obtain ⟨e5, p5, q5⟩ := rnN _ w 29 _ p4 q4 (by omega)
  obtain ⟨e6, p6, q6⟩ := rnN _ w 30 _ p5 q5 (by omega)
  obtain ⟨e7, p7, q7⟩ := rnN _ w 31 _ p6 q6 (by omega)
  unfold idsR idsW
  rw [e0, e1, e2, e3, e4, e5, e6, e7]
/-! ### the reference's code: mixed -/
noncomputable def XM : Cx := rawP noG
theorem XM_ct : CtOk XM := rawP_ct noG_ok
theorem XM_lp : LpOk XM := rawP_lp _
def kk16 (k : Nat → UInt8) : List UInt8 := [k 0, k 1, k 2, k 3, k 4, k 5, k 6, k 7, k 8, k 9, k 10, k 11, k 12, k 13, k 14, k 15]
def xB (c y : Int) : Int := IntKind.u8.wrap ((BitVec.ofInt IntKind.u8.bits c ^^^ BitVec.ofInt IntKind.u8.bits y).toNat : Int)
def cM (k : Nat → UInt8) (i : Nat) : Int := if i < 16 then ((k i).toNat : Int) else 0
def mxO (k : Nat → UInt8) (y : Int) (i : Nat) : Int := xB (cM k i) y
def stM (k : Nat → UInt8) (y : Int) (i : Nat) (d : Nat → Value) : St :=
  ⟨[.bts false (kk16 k), .val (.int .u8 y), .val (d 2), .val (d 3), .val (d 4), .val (d 5), .sle 2 0 i 3, .num .i64 i] ++ (List.range' 8 27).map (fun j => .val (d j)), [.dead, .dead, .own tU8 1 i 3 ((List.range i).map fun j => .val (.int .u8 (mxO k y j))), .dead]⟩
def stM0 (k : Nat → UInt8) (y : Int) (d : Nat → Value) : St :=
  ⟨[.bts false (kk16 k), .val (.int .u8 y), .val (d 2), .val (d 3), .val (d 4), .val (d 5), .val (.slice none 0 0), .num .i64 0] ++ (List.range' 8 27).map (fun j => .val (d j)), [.dead, .dead]⟩
def fgM : List Nat := [2, 3, 4, 5] ++ List.range' 8 27
noncomputable def s63 (k : Nat → UInt8) (y : Int) : St := ⟨[.bts false (kk16 k), .val (.int .u8 y)] ++ List.replicate 33 (.val undef), [.dead, .dead]⟩
noncomputable def nx63 (c : Code) (s : St) : St := (finOf (run XM 80 c s.tm s.hp [])).st
noncomputable def c63a : Code := cL (code 63)
noncomputable def c63b : Code := cL (cR (code 63))
noncomputable def c63c : Code := cL (cR (cR (code 63)))
noncomputable def c63d : Code := cL (cL (cR (cR (cR (code 63)))))
noncomputable def c63L : Code := cLp (cB (cR (cL (cR (cR (cR (code 63)))))))
noncomputable def c63r : Code := cR (cR (cR (cR (code 63))))
noncomputable def idM : Nat := bId (cR (cL (cR (cR (cR (code 63))))))
theorem code63 : code 63 = .seq c63a (.seq c63b (.seq c63c (.seq (.seq c63d (.block idM (.loop c63L))) c63r))) := by kernel_rfl
noncomputable def s63b (k : Nat → UInt8) (y : Int) : St := nx63 c63a (s63 k y)
noncomputable def s63c (k : Nat → UInt8) (y : Int) : St := nx63 c63b (s63b k y)
noncomputable def s63d (k : Nat → UInt8) (y : Int) : St := nx63 c63c (s63c k y)
theorem t63_a (k : Nat → UInt8) (y : Int) : goodR (run XM 80 c63a (s63 k y).tm (s63 k y).hp []) .normal [] := by unfold goodR; kernel_rfl
theorem t63_b (k : Nat → UInt8) (y : Int) : goodR (run XM 80 c63b (s63b k y).tm (s63b k y).hp []) .normal [] := by unfold goodR; kernel_rfl
theorem t63_c (k : Nat → UInt8) (y : Int) : goodR (run XM 80 c63c (s63c k y).tm (s63c k y).hp []) .normal [] := by unfold goodR; kernel_rfl
theorem t63_d (k : Nat → UInt8) (y : Int) (d : Nat → Value) : givesX 2 [0, 1] fgM (run XM 80 c63d (s63d k y).tm (s63d k y).hp []) .normal (stM0 k y d) [] d := by unfold givesX; kernel_rfl
theorem mrnd_0 (k : Nat → UInt8) (y : Int) (d d' : Nat → Value) : givesX 2 [0, 1, 3, 4] fgM (run XM 80 c63L (stM0 k y d).tm (stM0 k y d).hp []) .normal (stM k y 1 d') [] d' := by unfold givesX; kernel_rfl
noncomputable def mrnd (k : Nat → UInt8) (y : Int) (i : Nat) (d d' : Nat → Value) : Prop := givesX 2 [0, 1, 5, 6] fgM (run XM 80 c63L (stM k y i d).tm (stM k y i d).hp []) .normal (stM k y (i + 1) d') [] d'
theorem mrnd_1 (k : Nat → UInt8) (y : Int) (d d' : Nat → Value) : mrnd k y 1 d d' := by unfold mrnd givesX; kernel_rfl
theorem mrnd_2 (k : Nat → UInt8) (y : Int) (d d' : Nat → Value) : mrnd k y 2 d d' := by unfold mrnd givesX; kernel_rfl
theorem mrnd_3 (k : Nat → UInt8) (y : Int) (d d' : Nat → Value) : mrnd k y 3 d d' := by unfold mrnd givesX; kernel_rfl
theorem mrnd_4 (k : Nat → UInt8) (y : Int) (d d' : Nat → Value) : mrnd k y 4 d d' := by unfold mrnd givesX; kernel_rfl
theorem mrnd_5 (k : Nat → UInt8) (y : Int) (d d' : Nat → Value) : mrnd k y 5 d d' := by unfold mrnd givesX; kernel_rfl
theorem mrnd_6 (k : Nat → UInt8) (y : Int) (d d' : Nat → Value) : mrnd k y 6 d d' := by unfold mrnd givesX; kernel_rfl
theorem mrnd_7 (k : Nat → UInt8) (y : Int) (d d' : Nat → Value) : mrnd k y 7 d d' := by unfold mrnd givesX; kernel_rfl
theorem mrnd_8 (k : Nat → UInt8) (y : Int) (d d' : Nat → Value) : mrnd k y 8 d d' := by unfold mrnd givesX; kernel_rfl
theorem mrnd_9 (k : Nat → UInt8) (y : Int) (d d' : Nat → Value) : mrnd k y 9 d d' := by unfold mrnd givesX; kernel_rfl
theorem mrnd_10 (k : Nat → UInt8) (y : Int) (d d' : Nat → Value) : mrnd k y 10 d d' := by unfold mrnd givesX; kernel_rfl
theorem mrnd_11 (k : Nat → UInt8) (y : Int) (d d' : Nat → Value) : mrnd k y 11 d d' := by unfold mrnd givesX; kernel_rfl
theorem mrnd_12 (k : Nat → UInt8) (y : Int) (d d' : Nat → Value) : mrnd k y 12 d d' := by unfold mrnd givesX; kernel_rfl
theorem mrnd_13 (k : Nat → UInt8) (y : Int) (d d' : Nat → Value) : mrnd k y 13 d d' := by unfold mrnd givesX; kernel_rfl
theorem mrnd_14 (k : Nat → UInt8) (y : Int) (d d' : Nat → Value) : mrnd k y 14 d d' := by unfold mrnd givesX; kernel_rfl
theorem mrnd_15 (k : Nat → UInt8) (y : Int) (d d' : Nat → Value) : mrnd k y 15 d d' := by unfold mrnd givesX; kernel_rfl
theorem mrnd_16 (k : Nat → UInt8) (y : Int) (d d' : Nat → Value) : mrnd k y 16 d d' := by unfold mrnd givesX; kernel_rfl
theorem mrnd_17 (k : Nat → UInt8) (y : Int) (d d' : Nat → Value) : mrnd k y 17 d d' := by unfold mrnd givesX; kernel_rfl
theorem mrnd_18 (k : Nat → UInt8) (y : Int) (d d' : Nat → Value) : mrnd k y 18 d d' := by unfold mrnd givesX; kernel_rfl
theorem mrnd_19 (k : Nat → UInt8) (y : Int) (d d' : Nat → Value) : mrnd k y 19 d d' := by unfold mrnd givesX; kernel_rfl
theorem mrnd_20 (k : Nat → UInt8) (y : Int) (d d' : Nat → Value) : mrnd k y 20 d d' := by unfold mrnd givesX; kernel_rfl
theorem mrnd_21 (k : Nat → UInt8) (y : Int) (d d' : Nat → Value) : mrnd k y 21 d d' := by unfold mrnd givesX; kernel_rfl
theorem mrnd_22 (k : Nat → UInt8) (y : Int) (d d' : Nat → Value) : mrnd k y 22 d d' := by unfold mrnd givesX; kernel_rfl
theorem mrnd_23 (k : Nat → UInt8) (y : Int) (d d' : Nat → Value) : mrnd k y 23 d d' := by unfold mrnd givesX; kernel_rfl
theorem mrnd_24 (k : Nat → UInt8) (y : Int) (d d' : Nat → Value) : mrnd k y 24 d d' := by unfold mrnd givesX; kernel_rfl
theorem mrnd_25 (k : Nat → UInt8) (y : Int) (d d' : Nat → Value) : mrnd k y 25 d d' := by unfold mrnd givesX; kernel_rfl
theorem mrnd_26 (k : Nat → UInt8) (y : Int) (d d' : Nat → Value) : mrnd k y 26 d d' := by unfold mrnd givesX; kernel_rfl
theorem mrnd_27 (k : Nat → UInt8) (y : Int) (d d' : Nat → Value) : mrnd k y 27 d d' := by unfold mrnd givesX; kernel_rfl
theorem mrnd_28 (k : Nat → UInt8) (y : Int) (d d' : Nat → Value) : mrnd k y 28 d d' := by unfold mrnd givesX; kernel_rfl
theorem mrnd_29 (k : Nat → UInt8) (y : Int) (d d' : Nat → Value) : mrnd k y 29 d d' := by unfold mrnd givesX; kernel_rfl
theorem mrnd_30 (k : Nat → UInt8) (y : Int) (d d' : Nat → Value) : mrnd k y 30 d d' := by unfold mrnd givesX; kernel_rfl
theorem mrnd_31 (k : Nat → UInt8) (y : Int) (d d' : Nat → Value) : mrnd k y 31 d d' := by unfold mrnd givesX; kernel_rfl
theorem mrnd_32 (k : Nat → UInt8) (y : Int) (d d' : Nat → Value) : mrnd k y 32 d d' := by unfold mrnd givesX; kernel_rfl
theorem mrnd_33 (k : Nat → UInt8) (y : Int) (d d' : Nat → Value) : mrnd k y 33 d d' := by unfold mrnd givesX; kernel_rfl
theorem mrnd_34 (k : Nat → UInt8) (y : Int) (d d' : Nat → Value) : mrnd k y 34 d d' := by unfold mrnd givesX; kernel_rfl
theorem mrnd_35 (k : Nat → UInt8) (y : Int) (d d' : Nat → Value) : mrnd k y 35 d d' := by unfold mrnd givesX; kernel_rfl
theorem mrnd_36 (k : Nat → UInt8) (y : Int) (d d' : Nat → Value) : mrnd k y 36 d d' := by unfold mrnd givesX; kernel_rfl
theorem mrnd_37 (k : Nat → UInt8) (y : Int) (d d' : Nat → Value) : mrnd k y 37 d d' := by unfold mrnd givesX; kernel_rfl
theorem mrnd_38 (k : Nat → UInt8) (y : Int) (d d' : Nat → Value) : mrnd k y 38 d d' := by unfold mrnd givesX; kernel_rfl
theorem mrnd_39 (k : Nat → UInt8) (y : Int) (d d' : Nat → Value) : mrnd k y 39 d d' := by unfold mrnd givesX; kernel_rfl
theorem mrnd_40 (k : Nat → UInt8) (y : Int) (d d' : Nat → Value) : mrnd k y 40 d d' := by unfold mrnd givesX; kernel_rfl
theorem mrnd_41 (k : Nat → UInt8) (y : Int) (d d' : Nat → Value) : mrnd k y 41 d d' := by unfold mrnd givesX; kernel_rfl
theorem mrnd_42 (k : Nat → UInt8) (y : Int) (d d' : Nat → Value) : mrnd k y 42 d d' := by unfold mrnd givesX; kernel_rfl
theorem mrnd_43 (k : Nat → UInt8) (y : Int) (d d' : Nat → Value) : mrnd k y 43 d d' := by unfold mrnd givesX; kernel_rfl
theorem mrnd_44 (k : Nat → UInt8) (y : Int) (d d' : Nat → Value) : mrnd k y 44 d d' := by unfold mrnd givesX; kernel_rfl
theorem mrnd_45 (k : Nat → UInt8) (y : Int) (d d' : Nat → Value) : mrnd k y 45 d d' := by unfold mrnd givesX; kernel_rfl
theorem mrnd_46 (k : Nat → UInt8) (y : Int) (d d' : Nat → Value) : mrnd k y 46 d d' := by unfold mrnd givesX; kernel_rfl
theorem mrnd_47 (k : Nat → UInt8) (y : Int) (d d' : Nat → Value) : mrnd k y 47 d d' := by unfold mrnd givesX; kernel_rfl
theorem mrnd_48 (k : Nat → UInt8) (y : Int) (d d' : Nat → Value) : mrnd k y 48 d d' := by unfold mrnd givesX; kernel_rfl
theorem mrnd_49 (k : Nat → UInt8) (y : Int) (d d' : Nat → Value) : mrnd k y 49 d d' := by unfold mrnd givesX; kernel_rfl
theorem mrnd_50 (k : Nat → UInt8) (y : Int) (d d' : Nat → Value) : mrnd k y 50 d d' := by unfold mrnd givesX; kernel_rfl
theorem mrnd_51 (k : Nat → UInt8) (y : Int) (d d' : Nat → Value) : mrnd k y 51 d d' := by unfold mrnd givesX; kernel_rfl
theorem mrnd_52 (k : Nat → UInt8) (y : Int) (d d' : Nat → Value) : mrnd k y 52 d d' := by unfold mrnd givesX; kernel_rfl
theorem mrnd_53 (k : Nat → UInt8) (y : Int) (d d' : Nat → Value) : mrnd k y 53 d d' := by unfold mrnd givesX; kernel_rfl
theorem mrnd_54 (k : Nat → UInt8) (y : Int) (d d' : Nat → Value) : mrnd k y 54 d d' := by unfold mrnd givesX; kernel_rfl
theorem mrnd_55 (k : Nat → UInt8) (y : Int) (d d' : Nat → Value) : mrnd k y 55 d d' := by unfold mrnd givesX; kernel_rfl
theorem mrnd_56 (k : Nat → UInt8) (y : Int) (d d' : Nat → Value) : mrnd k y 56 d d' := by unfold mrnd givesX; kernel_rfl
theorem mrnd_57 (k : Nat → UInt8) (y : Int) (d d' : Nat → Value) : mrnd k y 57 d d' := by unfold mrnd givesX; kernel_rfl
theorem mrnd_58 (k : Nat → UInt8) (y : Int) (d d' : Nat → Value) : mrnd k y 58 d d' := by unfold mrnd givesX; kernel_rfl
theorem mrnd_59 (k : Nat → UInt8) (y : Int) (d d' : Nat → Value) : mrnd k y 59 d d' := by unfold mrnd givesX; kernel_rfl
theorem mrnd_60 (k : Nat → UInt8) (y : Int) (d d' : Nat → Value) : mrnd k y 60 d d' := by unfold mrnd givesX; kernel_rfl
theorem mrnd_61 (k : Nat → UInt8) (y : Int) (d d' : Nat → Value) : mrnd k y 61 d d' := by unfold mrnd givesX; kernel_rfl
theorem mrnd_62 (k : Nat → UInt8) (y : Int) (d d' : Nat → Value) : mrnd k y 62 d d' := by unfold mrnd givesX; kernel_rfl
theorem mrnd_63 (k : Nat → UInt8) (y : Int) (d d' : Nat → Value) : mrnd k y 63 d d' := by unfold mrnd givesX; kernel_rfl
theorem mrnd_t (k : Nat → UInt8) (y : Int) (d d' : Nat → Value) : ∀ t : Nat, 1 ≤ t → t < 64 → mrnd k y t d d'
  | 0, h, _ => absurd h (by omega)
  | 1, _, _ => mrnd_1 _ _ _ _
  | 2, _, _ => mrnd_2 _ _ _ _
  | 3, _, _ => mrnd_3 _ _ _ _
  | 4, _, _ => mrnd_4 _ _ _ _
  | 5, _, _ => mrnd_5 _ _ _ _
  | 6, _, _ => mrnd_6 _ _ _ _
  | 7, _, _ => mrnd_7 _ _ _ _
  | 8, _, _ => mrnd_8 _ _ _ _
  | 9, _, _ => mrnd_9 _ _ _ _
  | 10, _, _ => mrnd_10 _ _ _ _
  | 11, _, _ => mrnd_11 _ _ _ _
  | 12, _, _ => mrnd_12 _ _ _ _
  | 13, _, _ => mrnd_13 _ _ _ _
  | 14, _, _ => mrnd_14 _ _ _ _
  | 15, _, _ => mrnd_15 _ _ _ _
  | 16, _, _ => mrnd_16 _ _ _ _
  | 17, _, _ => mrnd_17 _ _ _ _
  | 18, _, _ => mrnd_18 _ _ _ _
  | 19, _, _ => mrnd_19 _ _ _ _
  | 20, _, _ => mrnd_20 _ _ _ _
  | 21, _, _ => mrnd_21 _ _ _ _
  | 22, _, _ => mrnd_22 _ _ _ _
  | 23, _, _ => mrnd_23 _ _ _ _
  | 24, _, _ => mrnd_24 _ _ _ _
  | 25, _, _ => mrnd_25 _ _ _ _
  | 26, _, _ => mrnd_26 _ _ _ _
  | 27, _, _ => mrnd_27 _ _ _ _
  | 28, _, _ => mrnd_28 _ _ _ _
  | 29, _, _ => mrnd_29 _ _ _ _
  | 30, _, _ => mrnd_30 _ _ _ _
  | 31, _, _ => mrnd_31 _ _ _ _
  | 32, _, _ => mrnd_32 _ _ _ _
  | 33, _, _ => mrnd_33 _ _ _ _
  | 34, _, _ => mrnd_34 _ _ _ _
  | 35, _, _ => mrnd_35 _ _ _ _
  | 36, _, _ => mrnd_36 _ _ _ _
  | 37, _, _ => mrnd_37 _ _ _ _
  | 38, _, _ => mrnd_38 _ _ _ _
  | 39, _, _ => mrnd_39 _ _ _ _
  | 40, _, _ => mrnd_40 _ _ _ _
  | 41, _, _ => mrnd_41 _ _ _ _
  | 42, _, _ => mrnd_42 _ _ _ _
  | 43, _, _ => mrnd_43 _ _ _ _
  | 44, _, _ => mrnd_44 _ _ _ _
  | 45, _, _ => mrnd_45 _ _ _ _
  | 46, _, _ => mrnd_46 _ _ _ _
  | 47, _, _ => mrnd_47 _ _ _ _
  | 48, _, _ => mrnd_48 _ _ _ _
  | 49, _, _ => mrnd_49 _ _ _ _
  | 50, _, _ => mrnd_50 _ _ _ _
  | 51, _, _ => mrnd_51 _ _ _ _
  | 52, _, _ => mrnd_52 _ _ _ _
  | 53, _, _ => mrnd_53 _ _ _ _
  | 54, _, _ => mrnd_54 _ _ _ _
  | 55, _, _ => mrnd_55 _ _ _ _
  | 56, _, _ => mrnd_56 _ _ _ _
  | 57, _, _ => mrnd_57 _ _ _ _
  | 58, _, _ => mrnd_58 _ _ _ _
  | 59, _, _ => mrnd_59 _ _ _ _
  | 60, _, _ => mrnd_60 _ _ _ _
  | 61, _, _ => mrnd_61 _ _ _ _
  | 62, _, _ => mrnd_62 _ _ _ _
  | 63, _, _ => mrnd_63 _ _ _ _
  | t + 64, _, h => absurd h (by omega)
noncomputable def stMM (k : Nat → UInt8) (y : Int) (t : Nat) (d : Nat → Value) : St := if t = 0 then stM0 k y d else stM k y t d
theorem t63_x (k : Nat → UInt8) (y : Int) (d d' : Nat → Value) : givesX 2 [0, 1, 2, 3] fgM (run XM 80 c63L (stM k y 64 d).tm (stM k y 64 d).hp []) (.exit idM) (stM k y 64 d') [] d' := by unfold givesX; kernel_rfl
noncomputable def f63 (k : Nat → UInt8) (y : Int) (d : Nat → Value) : Fin := finOf (run XM 80 c63r (stM k y 64 d).tm (stM k y 64 d).hp [])
def mxB (k : Nat → UInt8) (y : Int) (j : Nat) : UInt8 := UInt8.ofNat (mxO k y j).toNat
def mxL (k : Nat → UInt8) (y : Int) : List UInt8 := (List.range 64).map (mxB k y)
theorem fn63_at : Tryd.prog.funcs[63]? = some (fnN 63) := by kernel_rfl
theorem fn63_body : (fnN 63).body = some (code 63) := by kernel_rfl
theorem fn63_tm (k : Nat → UInt8) (y : Int) : ([.bts false (kk16 k), .val (.int .u8 y)] ++ List.replicate ((fnN 63).ntmps - [SV.bts false (kk16 k), SV.val (.int .u8 y)].length) (.val undef) : List SV) = [.bts false (kk16 k), .val (.int .u8 y)] ++ List.replicate 33 (.val undef) := by kernel_rfl
theorem t63_ret (k : Nat → UInt8) (y : Int) (d : Nat → Value) : goodR (run XM 80 c63r (stM k y 64 d).tm (stM k y 64 d).hp []) .ret [] := by unfold goodR; kernel_rfl
theorem t63_res (k : Nat → UInt8) (y : Int) (d : Nat → Value) : resultsS Tryd.prog (fnN 63) (f63 k y d).tm (f63 k y d).hp = some (.bts false (mxL k y)) := by kernel_rfl
theorem loop63 (k : Nat → UInt8) (y : Int) (d : Nat → Value) : WpE Tryd.prog (.loop c63L) 2 (stM0 k y d) (fun r => r.e = .exit idM ∧ WeakF 2 r.st (fun d => stM k y 64 d)) := by
  have go := WpE.loopF (P := Tryd.prog) (c := c63L) (n0 := 2) (γ := {t : Nat // t ≤ 64} × (Nat → Value)) (S := fun g => stMM k y g.1.1 g.2) (m := fun g => 64 - g.1.1) (F := fun r => r.e = .exit idM ∧ WeakF 2 r.st (fun d => stM k y 64 d)) (fun g => ?_) (⟨0, Nat.zero_le _⟩, d)
  · exact go
  obtain ⟨⟨t, ht⟩, d⟩ := g
  show WpE Tryd.prog c63L 2 (stMM k y t d) _
  by_cases h : t < 64
  · have nx : WpE Tryd.prog c63L 2 (stMM k y t d) (fun r => r.e = .normal ∧ WeakF 2 r.st (fun d' => stMM k y (t + 1) d')) := by
      by_cases h0 : t = 0
      · subst h0
        exact wpE_X (X := XM) rfl XM_ct XM_lp (s := stM0 k y d) (T := fun d' => stM k y 1 d') (mrnd_0 k y d) trivial
      · have e2 : stMM k y t d = stM k y t d := by unfold stMM; rw [if_neg h0]
        rw [e2]
        exact wpE_X (X := XM) rfl XM_ct XM_lp (T := fun d' => stM k y (t + 1) d') (fun d' => mrnd_t k y d d' t (by omega) h) trivial
    refine nx.mono fun r hr => .inl ⟨hr.1, _, hr.2, fun d' => ⟨(⟨t + 1, h⟩, d'), ?_, rfl⟩⟩
    show 64 - (t + 1) < 64 - t
    omega
  · have e : t = 64 := by omega
    subst e
    exact (wpE_X (X := XM) rfl XM_ct XM_lp (t63_x k y d) trivial).mono fun r hr => .inr ⟨by rw [hr.1]; exact (fun e => by cases e), hr⟩
theorem wpE_to2 {X : Cx} (hX : X.P = Tryd.prog) (hct : CtOk X) (hlp : LpOk X) {c : Code} {s t : St} {L : List Prop} (h : goodR (run X 80 c s.tm s.hp []) .normal L) (hL : AllP L) (ht : t = (finOf (run X 80 c s.tm s.hp [])).st) : WpE Tryd.prog c 2 s (fun r => r.e = .normal ∧ r.st = t) :=
  (wpE_run hX hct hlp h hL).mono fun r hr => ⟨hr.1, by rw [hr.2, ht]⟩
theorem seq_to2 {x y : Code} {s t : St} {G : Fin → Prop} (h : WpE Tryd.prog x 2 s (fun r => r.e = .normal ∧ r.st = t)) (k : WpE Tryd.prog y 2 t G) : WpE Tryd.prog (.seq x y) 2 s G :=
  WpE.seq h (fun r hr _ => by rw [hr.2]; exact k) (fun r hr hne => absurd hr.1 hne)
theorem body63 (k : Nat → UInt8) (y : Int) : WpE Tryd.prog (code 63) 2 (s63 k y) (fun f => f.e = .ret ∧ ∃ d, f = f63 k y d) := by
  rw [code63]
  refine seq_to2 (t := s63b k y) (wpE_to2 (X := XM) rfl XM_ct XM_lp (t63_a k y) trivial rfl) (seq_to2 (t := s63c k y) (wpE_to2 (X := XM) rfl XM_ct XM_lp (t63_b k y) trivial rfl) (seq_to2 (t := s63d k y) (wpE_to2 (X := XM) rfl XM_ct XM_lp (t63_c k y) trivial rfl) ?_))
  refine WpE.seq (F := fun f => f.e = .normal ∧ WeakF 2 f.st (fun d => stM k y 64 d)) (WpE.seq (wpE_X (X := XM) rfl XM_ct XM_lp (s := s63d k y) (t63_d k y) trivial) (fun r hr hn => ?_) (fun r hr hne => absurd hr.1 hne)) (fun r hr hn => ?_) (fun r hr hne => absurd hr.1 hne)
  · exact wpE_weakF hr.2 fun d => WpE.block (loop63 k y d) fun f hf => unblk hf
  exact wpE_weakF hr.2 fun d => (wpE_run (X := XM) rfl XM_ct XM_lp (s := stM k y 64 d) (t63_ret k y d) trivial).mono fun f hf => ⟨hf.1, d, hf.2⟩
theorem call63 (k : Nat → UInt8) (y : Int) {w : World} {vs : List Value} (hargs : Rs [] [.bts false (kk16 k), .val (.int .u8 y)] vs) :
    Calls Tryd.prog 63 vs.toArray w (fun e w' => ∃ v, e = .returned v ∧ R [] (.bts false (mxL k y)) v ∧ Below w.heap.size w w') := by
  have hb0 := body63 k y
  unfold s63 at hb0
  rw [← fn63_tm] at hb0
  refine (calls_of_wpE fn63_at fn63_body (args := [.bts false (kk16 k), .val (.int .u8 y)]) (hp := [.dead, .dead]) (F := fun f => f.e = .ret ∧ ∃ d, f = f63 k y d) (G := fun s' _ => s' = .bts false (mxL k y)) hb0 (fun f hf => ⟨.inr hf.1, .bts false (mxL k y), by obtain ⟨d, e⟩ := hf.2; rw [e]; exact t63_res _ _ d, rfl⟩) (HR.dead2 w) (Nat.le_refl _) (Rs.free _ _ rfl hargs)).mono fun e w' hq => ?_
  obtain ⟨v, μ, s', hp', e1, e2, e3, e4, rfl⟩ := hq
  exact ⟨v, e1, R.free _ _ rfl e2, e4⟩
def fnB (l : List UInt8) : Nat → UInt8 := fun i => l.getD i 0
theorem kk16_fn {l : List UInt8} (h : l.length = 16) : kk16 (fnB l) = l := by
  match l, h with
  | [_, _, _, _, _, _, _, _, _, _, _, _, _, _, _, _], _ => rfl
def b64r (a : Nat → UInt8) : List UInt8 := (List.range 64).map a
def mxP (a : Nat → UInt8) (l : List UInt8) (y : Int) (z : Int) : Prop := b64r a = mxL (fnB l) y ∧ y = z
/-- mixed, its bytes named: by 54 they are a, by 92 they are b. -/
def mixG (a b : Nat → UInt8) : Raw := fun f args hp =>
  if f = 63 then
    match args with
    | [.bts _ l, .num .u8 y] =>
      if l.length = 16 then
        if y = 54 then some (.bts false (b64r a), .pr (mxP a l y 54)) else if y = 92 then some (.bts false (b64r b), .pr (mxP b l y 92)) else none
      else none
    | _ => none
  else none
theorem mixG_ok (a b : Nat → UInt8) : (mixG a b).Ok := by
  intro f args hp s c h hc B η W vs hr hargs
  have key : ∀ (g : Nat → UInt8) (t : Bool) (l : List UInt8) (y z : Int), l.length = 16 → mxP g l y z → Rs η [.bts t l, .num .u8 y] vs → Calls Tryd.prog 63 vs.toArray W (fun e w' => ∃ v, e = .returned v ∧ R [] (.bts false (b64r g)) v ∧ Below W.heap.size W w') := by
    intro g t l y z hl hp ha
    rw [hp.1]
    refine call63 (fnB l) y ?_
    rw [kk16_fn hl]
    obtain ⟨v0, r0, rfl, g0, k0⟩ := ha.cons_inv
    obtain ⟨v1, r1, rfl, g1, k1⟩ := k0.cons_inv
    simp only [Rs] at k1; subst k1
    exact Rs.cons (by simpa only [R] using g0) (Rs.cons (by simpa only [R] using g1) Rs.nil)
  unfold mixG at h
  split at h
  · rename_i hf; subst hf
    split at h
    · rename_i t l y
      split at h
      · rename_i hl
        split at h
        · simp only [Option.some.injEq, Prod.mk.injEq] at h
          obtain ⟨rfl, rfl⟩ := h
          exact key a t l y 54 hl hc hargs
        · split at h
          · simp only [Option.some.injEq, Prod.mk.injEq] at h
            obtain ⟨rfl, rfl⟩ := h
            exact key b t l y 92 hl hc hargs
          · simp at h
      · simp at h
    · simp at h
  · simp at h
/-! ### the named sums; KeyMacs' walk -/
noncomputable def rsH (h : Nat → Option (List Int × ByteArray)) : Raw := fun f args hp =>
  if f = 36 then
    match args with
    | [.bts _ l] =>
      match h l.length with
      | some (w, t0) => some (dgS w, .pr (PR ⟨l.toArray⟩ t0 w))
      | none => none
    | _ => none
  else none
theorem rsH_ok (h : Nat → Option (List Int × ByteArray)) : (rsH h).Ok := by
  intro f args hp s c hh hc B η W vs hr hargs
  unfold rsH at hh
  split at hh
  · rename_i hf; subst hf
    split at hh
    · rename_i b l
      split at hh
      · rename_i w t0 ht
        simp only [Option.some.injEq, Prod.mk.injEq] at hh
        obtain ⟨rfl, rfl⟩ := hh
        obtain ⟨rfl, hs, rfl⟩ := hc
        refine call36 ⟨l.toArray⟩ hs ?_
        obtain ⟨v0, r0, rfl, g0, k0⟩ := hargs.cons_inv
        simp only [Rs] at k0; subst k0
        exact Rs.cons (by simp only [R]; exact SV.val?_R (s := .bts b l) rfl g0) Rs.nil
      · simp at hh
    · simp at hh
  · simp at hh
noncomputable def rs2 (w1 : List Int) (t1 : ByteArray) (w2 : List Int) (t2 : ByteArray) : Raw := rsH fun n => if n = 72 then some (w1, t1) else if n = 96 then some (w2, t2) else none
noncomputable def kmX (a' b' : Nat → UInt8) (v : List Int) (k0 m0 : ByteArray) (w1 : List Int) (t1 : ByteArray) (w2 : List Int) (t2 : ByteArray) : Cx := guardX [23, 21, 25, 12, 14] (rawP (worksG.or ((macG v k0 m0).or ((rs2 w1 t1 w2 t2).or ((mixG a' b').or ((hmW fun n => if n = 8 then some (v, k0, m0) else none).or joinR))))))
def rb4 (a : Int) : List UInt8 := [rb (rd (rd (rd (IntKind.u64.wrap a)))), rb (rd (rd (IntKind.u64.wrap a))), rb (rd (IntKind.u64.wrap a)), rb (IntKind.u64.wrap a)]
noncomputable def LKm (a' b' : Nat → UInt8) (v : List Int) (k0 m0 : ByteArray) (w1 : List Int) (t1 : ByteArray) (w2 : List Int) (t2 : ByteArray) (n m a b : Int) : List Prop :=
  [mxP a' (rb8 n ++ rb8 m) 54 54, PR (ba (b64r a' ++ (rb4 a ++ rb4 b))) t1 w1, mxP b' (rb8 n ++ rb8 m) 92 92, PR (ba (b64r b' ++ (List.range 32).map (byB w1))) t2 w2,
   PM n m a b k0 m0 v 0 glL, eqDg v w2 = true, PM n m a b k0 m0 v 0 glL, ((byL v 0 8).toList == (byL w2 0 8).toList) = true, PM n m a b k0 m0 v 0 glL, ((byL v 0 20).toList == (byL w2 0 20).toList) = true, Pg 0 glL]
theorem km_gives (a' b' : Nat → UInt8) (v : List Int) (k0 m0 : ByteArray) (w1 : List Int) (t1 : ByteArray) (w2 : List Int) (t2 : ByteArray) (n m a b : Int) :
    givesV (topR (kmX a' b' v k0 m0 w1 t1 w2 t2) (run (kmX a' b' v k0 m0 w1 t1 w2 t2) 80) 7 [.agg [.val (.int .u64 n), .val (.int .u64 m), .val (.int .u32 a), .val (.int .u32 b)]] [.glob 0 glL] [true, true, true]) (.bol true) (LKm a' b' v k0 m0 w1 t1 w2 t2 n m a b) := by
  unfold givesV; kernel_rfl
theorem rb4_eq (a : Int) : rb4 a = bs4 a := by
  have e := rb8_eq (IntKind.u64.wrap a) (by rw [wu64]; omega) (by rw [wu64]; omega)
  unfold rb8 bs8 at e
  simp only [List.cons.injEq, and_true] at e
  unfold rb4 bs4
  rw [e.2.2.2.2.1, e.2.2.2.2.2.1, e.2.2.2.2.2.2.1, e.2.2.2.2.2.2.2]
/-- The mixed key, as the program says it. -/
theorem mix_eq (k : List UInt8) (hk : k.length = 16) (y : Nat) (hy : y < 256) : (List.range 64).map (mxB (fnB k) y) = mixL (y : Int) k := by
  unfold mixL
  refine List.ext_getElem (by simp [hk]) fun i h1 h2 => ?_
  have hi : i < 64 := by simpa using h1
  rw [List.getElem_map, List.getElem_range]
  unfold mxB mxO xB cM
  by_cases h : i < 16
  · rw [List.getElem_append_left (by simp [hk]; exact h), List.getElem_map, if_pos h]
    unfold mixB fnB
    rw [List.getD_eq_getElem?_getD, List.getElem?_eq_getElem (by omega)]
    rfl
  · rw [List.getElem_append_right (by simp [hk]; omega), List.getElem_replicate, if_neg h]
    have bv : ∀ n : Nat, n < 256 → (BitVec.ofInt IntKind.u8.bits (n : Int)).toNat = n := fun n hn => by
      show (BitVec.ofInt 8 (n : Int)).toNat = n
      rw [BitVec.ofInt_natCast, BitVec.toNat_ofNat]; exact Nat.mod_eq_of_lt hn
    have e : (BitVec.ofInt IntKind.u8.bits (0 : Int) ^^^ BitVec.ofInt IntKind.u8.bits (y : Int)).toNat = y := by
      rw [BitVec.toNat_xor, bv y hy]
      have : (BitVec.ofInt IntKind.u8.bits (0 : Int)).toNat = 0 := bv 0 (by omega)
      rw [this, Nat.zero_xor]
    rw [e, wu8]
    congr 1
    omega
theorem idB_eq (b : UInt8) : idB b = b := by unfold idB; simp
theorem map_idB (l : List UInt8) : l.map idB = l := by
  conv => rhs; rw [← List.map_id l]
  exact List.map_congr_left fun b _ => idB_eq b
end Go.Proofs.YtaeokmojogekaaaDoor
