/-
  Walks of functions, reckoned through, and what they give (part K07d). No condition beyond what each says. By an AI agent.
-/
import Derived.Test.YtclafmabccbhjaaDoorW07e
import Derived.Test.YtclafmabccbhjaaDoorK07B
namespace Go.Proofs.YtclafmabccbhjaaDoor
open Go.Ex
open Go.RowKit (Below)
set_option linter.unusedVariables false
set_option maxRecDepth 1000000
/-! ### the reference's code: mixed, of any key -/
noncomputable def XM : Cx := rawP noG
theorem XM_ct : CtOk XM := rawP_ct noG_ok
theorem XM_lp : LpOk XM := rawP_lp _
noncomputable def XMs (S : ByteArray → List Int) : Cx := rawP (rsB S)
noncomputable def c21a : Code := cL (code 21)
noncomputable def c21b : Code := cL (cR (code 21))
noncomputable def c21c : Code := cL (cR (cR (code 21)))
noncomputable def c21d : Code := cL (cL (cR (cR (cR (code 21)))))
noncomputable def c21L : Code := cLp (cB (cR (cL (cR (cR (cR (code 21)))))))
noncomputable def c21r : Code := cR (cR (cR (cR (code 21))))
noncomputable def id21 : Nat := bId (cR (cL (cR (cR (cR (code 21))))))
theorem code21 : code 21 = .seq c21a (.seq c21b (.seq c21c (.seq (.seq c21d (.block id21 (.loop c21L))) c21r))) := by kernel_rfl
noncomputable def s21 (s : ByteArray) (y : Int) : St := ⟨[.val (.string s), .val (.int .u8 y)] ++ List.replicate 33 (.val undef), [.dead, .dead]⟩
noncomputable def nx21 (c : Code) (s : St) : St := (finOf (run XM 80 c s.tm s.hp [])).st
noncomputable def s21b (s : ByteArray) (y : Int) : St := nx21 c21a (s21 s y)
def dgB (w : List Int) : List UInt8 := (List.range 32).map fun i => UInt8.ofNat (dB w i).toNat
def xB (c y : Int) : Int := IntKind.u8.wrap ((BitVec.ofInt IntKind.u8.bits c ^^^ BitVec.ofInt IntKind.u8.bits y).toNat : Int)
noncomputable def stC (s : ByteArray) (y : Int) (d : Nat → Value) : St := ⟨[.val (.string s), .val (.int .u8 y)] ++ (List.range' 2 33).map (fun j => .val (d j)), [.dead, .dead]⟩
noncomputable def stCb (w : List Int) (y : Int) (d : Nat → Value) : St := ⟨[.bts false (dgB w), .val (.int .u8 y)] ++ (List.range' 2 33).map (fun j => .val (d j)), [.dead, .dead]⟩
noncomputable def s21d (s : ByteArray) (y : Int) (d : Nat → Value) : St := nx21 c21c (stC s y d)
def stM (s : ByteArray) (c : Nat → Int) (y : Int) (i : Nat) (d : Nat → Value) : St :=
  ⟨[.val (.string s), .val (.int .u8 y), .val (d 2), .val (d 3), .val (d 4), .val (d 5), .sle 2 0 i 3, .num .i64 i] ++ (List.range' 8 27).map (fun j => .val (d j)), [.dead, .dead, .own tU8 1 i 3 ((List.range i).map fun j => .val (.int .u8 (xB (c j) y))), .dead]⟩
def stM0 (s : ByteArray) (y : Int) (d : Nat → Value) : St :=
  ⟨[.val (.string s), .val (.int .u8 y), .val (d 2), .val (d 3), .val (d 4), .val (d 5), .val (.slice none 0 0), .num .i64 0] ++ (List.range' 8 27).map (fun j => .val (d j)), [.dead, .dead]⟩
def fgM : List Nat := [2, 3, 4, 5] ++ List.range' 8 27
def fgC : List Nat := List.range' 2 33
def upd (c : Nat → Int) (t : Nat) (v : Int) : Nat → Int := fun j => if j = t then v else c j
/-- The key, of 64 bytes at most. -/
noncomputable def keyN (s : ByteArray) : ByteArray := if s.size ≤ 64 then s else ⟨(dgB (shL.S s)).toArray⟩
theorem t21_a (s : ByteArray) (y : Int) : goodR (run XM 80 c21a (s21 s y).tm (s21 s y).hp []) .normal [] := by unfold goodR; kernel_rfl
theorem t21_bf (s : ByteArray) (y : Int) (d : Nat → Value) : givesX 2 [0, 1] fgC (run XM 80 c21b (s21b s y).tm (s21b s y).hp [false]) .normal (stC s y d) [decide ((s.size : Int) > 64) = false] d := by unfold givesX; kernel_rfl
theorem t21_bt (S : ByteArray → List Int) (s : ByteArray) (y : Int) (d : Nat → Value) : givesX 2 [0, 1] fgC (run (XMs S) 80 c21b (s21b s y).tm (s21b s y).hp [true]) .normal (stCb (S s) y d) [decide ((s.size : Int) > 64) = true, S = shL.S ∧ s.size ≤ 631] d := by unfold givesX; kernel_rfl
theorem t21_c (s : ByteArray) (y : Int) (d : Nat → Value) : goodR (run XM 80 c21c (stC s y d).tm (stC s y d).hp []) .normal [] := by unfold goodR; kernel_rfl
theorem t21_d (s : ByteArray) (y : Int) (d d' : Nat → Value) : givesX 2 [0, 1] fgM (run XM 80 c21d (s21d s y d).tm (s21d s y d).hp []) .normal (stM0 s y d') [] d' := by unfold givesX; kernel_rfl
theorem m0t (s : ByteArray) (y : Int) (c : Nat → Int) (d d' : Nat → Value) : givesX 2 [0, 1, 3, 4] fgM (run XM 80 c21L (stM0 s y d).tm (stM0 s y d).hp [true]) .normal (stM s (upd c 0 (byteAt s ((0 : Nat) : Int))) y 1 d') [decide (((0 : Nat) : Int) < (s.size : Int)) = true, 0 ≤ ((0 : Nat) : Int) ∧ ((0 : Nat) : Int) < (s.size : Int)] d' := by unfold givesX; kernel_rfl
theorem m0f (s : ByteArray) (y : Int) (c : Nat → Int) (d d' : Nat → Value) : givesX 2 [0, 1, 3, 4] fgM (run XM 80 c21L (stM0 s y d).tm (stM0 s y d).hp [false]) .normal (stM s (upd c 0 0) y 1 d') [decide (((0 : Nat) : Int) < (s.size : Int)) = false] d' := by unfold givesX; kernel_rfl
noncomputable def mrt (s : ByteArray) (c : Nat → Int) (y : Int) (t : Nat) (d d' : Nat → Value) : Prop := givesX 2 [0, 1, 5, 6] fgM (run XM 80 c21L (stM s c y t d).tm (stM s c y t d).hp [true]) .normal (stM s (upd c t (byteAt s (t : Int))) y (t + 1) d') [decide ((t : Int) < (s.size : Int)) = true, 0 ≤ (t : Int) ∧ (t : Int) < (s.size : Int)] d'
noncomputable def mrf (s : ByteArray) (c : Nat → Int) (y : Int) (t : Nat) (d d' : Nat → Value) : Prop := givesX 2 [0, 1, 5, 6] fgM (run XM 80 c21L (stM s c y t d).tm (stM s c y t d).hp [false]) .normal (stM s (upd c t 0) y (t + 1) d') [decide ((t : Int) < (s.size : Int)) = false] d'
theorem t21_x (s : ByteArray) (c : Nat → Int) (y : Int) (d d' : Nat → Value) : givesX 2 [0, 1, 2, 3] fgM (run XM 80 c21L (stM s c y 64 d).tm (stM s c y 64 d).hp []) (.exit id21) (stM s c y 64 d') [] d' := by unfold givesX; kernel_rfl
noncomputable def f21 (s : ByteArray) (c : Nat → Int) (y : Int) (d : Nat → Value) : Fin := finOf (run XM 80 c21r (stM s c y 64 d).tm (stM s c y 64 d).hp [])
def mxC (c : Nat → Int) (y : Int) : List UInt8 := (List.range 64).map fun j => UInt8.ofNat (xB (c j) y).toNat
theorem fn21_at : Tryd.prog.funcs[21]? = some (fnN 21) := by kernel_rfl
theorem fn21_body : (fnN 21).body = some (code 21) := by kernel_rfl
theorem fn21_tm (s : ByteArray) (y : Int) : ([.val (.string s), .val (.int .u8 y)] ++ List.replicate ((fnN 21).ntmps - [SV.val (.string s), SV.val (.int .u8 y)].length) (.val undef) : List SV) = [.val (.string s), .val (.int .u8 y)] ++ List.replicate 33 (.val undef) := by kernel_rfl
theorem t21_ret (s : ByteArray) (c : Nat → Int) (y : Int) (d : Nat → Value) : goodR (run XM 80 c21r (stM s c y 64 d).tm (stM s c y 64 d).hp []) .ret [] := by unfold goodR; kernel_rfl
theorem t21_res (s : ByteArray) (c : Nat → Int) (y : Int) (d : Nat → Value) : resultsS Tryd.prog (fnN 21) (f21 s c y d).tm (f21 s c y d).hp = some (.bts false (mxC c y)) := by kernel_rfl
end Go.Proofs.YtclafmabccbhjaaDoor
