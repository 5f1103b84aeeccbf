/-
  Walks of functions, reckoned through, and what they give (part K07y). No condition beyond what each says. By an AI agent.
-/
import Derived.Test.YtclafmabccbhjaaDoorK07m
import Derived.Test.YtclafmabccbhjaaDoorK07p
namespace Go.Proofs.YtclafmabccbhjaaDoor
open Go.Ex
open Go.RowKit (Below)
set_option linter.unusedVariables false
set_option maxRecDepth 1000000
/-! ### HmacKeys: its states -/
noncomputable def XQ (O : OfF) (q : Sh) : Cx := mX (worksG.or ((ofN O).or (sumG q)))
theorem XQ_ct : CtOk (XQ ofW shL) := mX_ct (Raw.or_ok worksG_ok (Raw.or_ok (ofN_ok _) sumG_ok))
theorem XQ_lp (O : OfF) (q : Sh) : LpOk (XQ O q) := mX_lp _
noncomputable def cA5 : Code := cL (code 5)
noncomputable def cB5 : Code := cL (cR (code 5))
noncomputable def cC5 : Code := cL (cR (cR (code 5)))
noncomputable def cW5 : Code := cL (cR (cR (cR (code 5))))
noncomputable def cD5 : Code := cL (cR (cR (cR (cR (code 5)))))
noncomputable def cE5 : Code := cL (cR (cR (cR (cR (cR (code 5))))))
noncomputable def cF5 : Code := cL (cR (cR (cR (cR (cR (cR (code 5)))))))
noncomputable def cG5 : Code := cL (cR (cR (cR (cR (cR (cR (cR (code 5))))))))
noncomputable def cH5 : Code := cL (cL (cR (cR (cR (cR (cR (cR (cR (cR (code 5))))))))))
noncomputable def cL5 : Code := cLp (cB (cR (cL (cR (cR (cR (cR (cR (cR (cR (cR (code 5))))))))))))
noncomputable def id5 : Nat := bId (cR (cL (cR (cR (cR (cR (cR (cR (cR (cR (code 5)))))))))))
noncomputable def cr5 : Code := cR (cR (cR (cR (cR (cR (cR (cR (cR (code 5)))))))))
theorem code5 : code 5 = .seq cA5 (.seq cB5 (.seq cC5 (.seq cW5 (.seq cD5 (.seq cE5 (.seq cF5 (.seq cG5 (.seq (.seq cH5 (.block id5 (.loop cL5))) cr5)))))))) := by kernel_rfl
noncomputable def s5 (k t : ByteArray) (z : Int) : St := ⟨[.val (.string k), .val (.string t), .val (.int .u8 z)] ++ List.replicate 104 (.val undef), [.glob 0 glL]⟩
noncomputable def nx5 (O : OfF) (q : Sh) (c : Code) (s : St) : St := (finOf (run (XQ O q) 80 c s.tm s.hp [])).st
noncomputable def s5b (O : OfF) (q : Sh) (k t : ByteArray) (z : Int) : St := nx5 O q cA5 (s5 k t z)
noncomputable def s5c (O : OfF) (q : Sh) (k t : ByteArray) (z : Int) : St := nx5 O q cB5 (s5b O q k t z)
noncomputable def s5w (O : OfF) (q : Sh) (k t : ByteArray) (z : Int) : St := nx5 O q cC5 (s5c O q k t z)
noncomputable def s5d (O : OfF) (q : Sh) (k t : ByteArray) (z : Int) : St := nx5 O q cW5 (s5w O q k t z)
theorem u5a (O : OfF) (q : Sh) (k t : ByteArray) (z : Int) : goodR (run (XQ O q) 80 cA5 (s5 k t z).tm (s5 k t z).hp []) .normal [] := by unfold goodR; kernel_rfl
theorem u5b (O : OfF) (q : Sh) (k t : ByteArray) (z : Int) : goodR (run (XQ O q) 80 cB5 (s5b O q k t z).tm (s5b O q k t z).hp []) .normal [Pg 0 glL] := by unfold goodR; kernel_rfl
theorem u5c (O : OfF) (q : Sh) (k t : ByteArray) (z : Int) : goodR (run (XQ O q) 80 cC5 (s5c O q k t z).tm (s5c O q k t z).hp []) .normal [cutP 200 k, cutP 200 t] := by unfold goodR; kernel_rfl
theorem u5w (O : OfF) (q : Sh) (k t : ByteArray) (z : Int) : goodR (run (XQ O q) 80 cW5 (s5w O q k t z).tm (s5w O q k t z).hp []) .normal [POf O (cutK 200 k) (cutK 200 t) 0 glL] := by unfold goodR; kernel_rfl
def wantC (w : List Int) : List SV := (List.range 32).map fun i => .val (.int .u8 (dB w i))
noncomputable def stDx (kv : SV) (t : ByteArray) (z : Int) (w : List Int) (d : Nat → Value) : St := ⟨[kv, .val (.string t), .val (.int .u8 z), .val (d 3), .val (d 4), .val (d 5), .val (d 6), .ptr 1 0] ++ (List.range' 8 99).map (fun j => .val (d j)), [.glob 0 glL, .cells true (wantC w)]⟩
noncomputable def stD (k t : ByteArray) (z : Int) (w : List Int) (d : Nat → Value) : St := stDx (.val (.string k)) t z w d
def fgD : List Nat := [3, 4, 5, 6] ++ List.range' 8 99
theorem u5df (O : OfF) (q : Sh) (k t : ByteArray) (z : Int) (d : Nat → Value) : givesX 1 [0, 1] fgD (run (XQ O q) 80 cD5 (s5d O q k t z).tm (s5d O q k t z).hp [false]) .normal (stD (cutK 200 k) (cutK 200 t) z (O (cutK 200 k) (cutK 200 t)) d)
  [decide (((cutK 200 k).size : Int) > 64) = false] d := by unfold givesX; kernel_rfl
theorem u5dt (O : OfF) (q : Sh) (k t : ByteArray) (z : Int) (d : Nat → Value) : givesX 1 [0, 1] fgD (run (XQ O q) 80 cD5 (s5d O q k t z).tm (s5d O q k t z).hp [true, false]) .normal (stDx (.bts false (dgB (q.S (cutK 200 k)))) (cutK 200 t) z (O (cutK 200 k) (cutK 200 t)) d)
  [decide (((cutK 200 k).size : Int) > 64) = true, P9 (cutK 200 k) 0 glL, POf O (ba (dgB (q.S (cutK 200 k)))) (cutK 200 t) 0 glL, (!eqDg (O (ba (dgB (q.S (cutK 200 k)))) (cutK 200 t)) (O (cutK 200 k) (cutK 200 t))) = false] d := by unfold givesX; kernel_rfl
noncomputable def s5e (O : OfF) (q : Sh) (k t : ByteArray) (z : Int) (w : List Int) (d : Nat → Value) : St := nx5 O q cE5 (stD k t z w d)
def nz5 (k : ByteArray) (z : Int) : Int := (IntKind.i64.wrap z).tmod (IntKind.i64.wrap (65 - (k.size : Int)))
def lng (k : ByteArray) (z : Int) : ByteArray := k ++ zeroT (nz5 k z).toNat
theorem u5e (O : OfF) (q : Sh) (k t : ByteArray) (z : Int) (w : List Int) (d : Nat → Value) : goodR (run (XQ O q) 80 cE5 (stD k t z w d).tm (stD k t z w d).hp []) .normal
  [IntKind.i64.wrap (65 - (k.size : Int)) ≠ 0, 0 ≤ nz5 k z ∧ nz5 k z ≤ nz5 k z ∧ ((1 : Nat) : Int) * nz5 k z ≤ 281474976710656 ∧ nz5 k z ≤ 1000000000, (nz5 k z).toNat = (zeroT (nz5 k z).toNat).size, k.size + (zeroT (nz5 k z).toNat).size ≤ 9223372036854775807] := by unfold goodR; kernel_rfl
theorem u5f (O : OfF) (q : Sh) (k t : ByteArray) (z : Int) (w : List Int) (d d' : Nat → Value) : givesX 1 [0, 1] fgD (run (XQ O q) 80 cF5 (s5e O q k t z w d).tm (s5e O q k t z w d).hp [false]) .normal (stD k t z w d') [POf O (lng k z) t 0 glL, (!eqDg (O (lng k z) t) w) = false] d' := by unfold givesX; kernel_rfl
noncomputable def s5h (O : OfF) (q : Sh) (k t : ByteArray) (z : Int) (w : List Int) (d : Nat → Value) : St := nx5 O q cG5 (stD k t z w d)
theorem u5g (O : OfF) (q : Sh) (k t : ByteArray) (z : Int) (w : List Int) (d : Nat → Value) : goodR (run (XQ O q) 80 cG5 (stD k t z w d).tm (stD k t z w d).hp []) .normal [] := by unfold goodR; kernel_rfl
def cellsL (a : Nat → Int) (i : Nat) : List SV := (List.range 64).map fun j => if j < i then .val (.int .u8 (a j)) else .num .u8 0
noncomputable def stLx (k t : ByteArray) (w : List Int) (x y : List SV) (i : Nat) (d : Nat → Value) : St := ⟨[.val (.string k), .val (.string t), .val (d 2), .val (d 3), .val (d 4), .val (d 5), .val (d 6), .ptr 1 0, .val (d 8), .val (d 9), .slc 2 0 64 64, .slc 3 0 64 64, .num .i64 i] ++ (List.range' 13 94).map (fun j => .val (d j)), [.glob 0 glL, .cells true (wantC w), .cells true x, .cells true y]⟩
noncomputable def stL (k t : ByteArray) (w : List Int) (a b : Nat → Int) (i : Nat) (d : Nat → Value) : St := stLx k t w (cellsL a i) (cellsL b i) i d
def fgL : List Nat := [2, 3, 4, 5, 6, 8, 9] ++ List.range' 13 94
theorem u5h (O : OfF) (q : Sh) (k t : ByteArray) (z : Int) (w : List Int) (a b : Nat → Int) (d d' : Nat → Value) : givesX 1 [0, 1, 2, 3] fgL (run (XQ O q) 80 cH5 (s5h O q k t z w d).tm (s5h O q k t z w d).hp []) .normal (stL k t w a b 0 d') [] d' := by unfold givesX; kernel_rfl
def yB (k c : Int) : Int := IntKind.u8.wrap ((BitVec.ofInt IntKind.u8.bits k ^^^ BitVec.ofInt IntKind.u8.bits c).toNat : Int)
noncomputable def krt (O : OfF) (q : Sh) (k t : ByteArray) (w : List Int) (a b : Nat → Int) (i : Nat) (d d' : Nat → Value) : Prop := givesX 1 [0, 1, 2, 3] fgL (run (XQ O q) 80 cL5 (stL k t w a b i d).tm (stL k t w a b i d).hp [true]) .normal
  (stL k t w (upd a i (yB 54 (byteAt k (i : Int)))) (upd b i (yB 92 (byteAt k (i : Int)))) (i + 1) d') [decide ((i : Int) < (k.size : Int)) = true, 0 ≤ (i : Int) ∧ (i : Int) < (k.size : Int), 0 ≤ (i : Int) ∧ (i : Int) < (k.size : Int)] d'
noncomputable def krf (O : OfF) (q : Sh) (k t : ByteArray) (w : List Int) (a b : Nat → Int) (i : Nat) (d d' : Nat → Value) : Prop := givesX 1 [0, 1, 2, 3] fgL (run (XQ O q) 80 cL5 (stL k t w a b i d).tm (stL k t w a b i d).hp [false]) .normal
  (stLx k t w ((cellsL a i).set i (.num .u8 54)) ((cellsL b i).set i (.num .u8 92)) (i + 1) d') [decide ((i : Int) < (k.size : Int)) = false] d'
theorem u5x (O : OfF) (q : Sh) (k t : ByteArray) (w : List Int) (a b : Nat → Int) (d d' : Nat → Value) : givesX 1 [0, 1, 2, 3] fgL (run (XQ O q) 80 cL5 (stL k t w a b 64 d).tm (stL k t w a b 64 d).hp []) (.exit id5) (stL k t w a b 64 d') [] d' := by unfold givesX; kernel_rfl
noncomputable def f5 (O : OfF) (q : Sh) (k t : ByteArray) (w : List Int) (a b : Nat → Int) (d : Nat → Value) : Fin := finOf (run (XQ O q) 80 cr5 (stL k t w a b 64 d).tm (stL k t w a b 64 d).hp [])
def byK5 (a : Nat → Int) : List UInt8 := (List.range 64).map fun j => UInt8.ofNat (a j).toNat
theorem u5ret (O : OfF) (q : Sh) (k t : ByteArray) (w : List Int) (a b : Nat → Int) (d : Nat → Value) : goodR (run (XQ O q) 80 cr5 (stL k t w a b 64 d).tm (stL k t w a b 64 d).hp []) .ret
  [(ba (byK5 a)).size + t.size ≤ 9223372036854775807, P9 (ba (byK5 a) ++ t) 0 glL, P9 (ba (byK5 b ++ dgB (q.S (ba (byK5 a) ++ t)))) 0 glL] := by unfold goodR; kernel_rfl
theorem fn5_at : Tryd.prog.funcs[5]? = some (fnN 5) := by kernel_rfl
theorem fn5_body : (fnN 5).body = some (code 5) := by kernel_rfl
theorem fn5_tm (k t : ByteArray) (z : Int) : ([.val (.string k), .val (.string t), .val (.int .u8 z)] ++ List.replicate ((fnN 5).ntmps - [SV.val (.string k), SV.val (.string t), SV.val (.int .u8 z)].length) (.val undef) : List SV) = [.val (.string k), .val (.string t), .val (.int .u8 z)] ++ List.replicate 104 (.val undef) := by kernel_rfl
theorem u5res (O : OfF) (q : Sh) (k t : ByteArray) (w : List Int) (a b : Nat → Int) (d : Nat → Value) : resultsS Tryd.prog (fnN 5) (f5 O q k t w a b d).tm (f5 O q k t w a b d).hp = some (.val (.bool (eqDg (q.S (ba (byK5 b ++ dgB (q.S (ba (byK5 a) ++ t))))) w))) := by kernel_rfl
end Go.Proofs.YtclafmabccbhjaaDoor
