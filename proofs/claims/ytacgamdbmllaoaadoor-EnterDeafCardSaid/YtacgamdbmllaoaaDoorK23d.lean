/-
  Walks of functions, reckoned through, and what they give (part K23d). No condition beyond what each says. By an AI agent.
-/
import Derived.Test.YtacgamdbmllaoaaDoorK23A
import Derived.Test.YtacgamdbmllaoaaDoorW07c
namespace Go.Proofs.YtacgamdbmllaoaaDoor
open Go.Ex
open Go.RowKit (Below)
set_option linter.unusedVariables false
set_option maxRecDepth 1000000
/-! ### EnterDeaf: its states -/
noncomputable def eX (T : Int → Int) (S L : TxF) : Cx := enX (enR T S L)
theorem eX_ct : CtOk (eX tkT shW lgW) := enX_ct enR_ok
theorem eX_lp (T : Int → Int) (S L : TxF) : LpOk (eX T S L) := enX_lp _
noncomputable def dA3 : Code := cL (code 3)
noncomputable def dB3 : Code := cL (cR (code 3))
noncomputable def dC3 : Code := cL (cR (cR (code 3)))
noncomputable def dD3 : Code := cL (cR (cR (cR (code 3))))
noncomputable def dE3 : Code := cL (cL (cR (cR (cR (cR (code 3))))))
noncomputable def dL3 : Code := cLp (cB (cR (cL (cR (cR (cR (cR (code 3))))))))
noncomputable def id3 : Nat := bId (cR (cL (cR (cR (cR (cR (code 3)))))))
noncomputable def dr3 : Code := cR (cR (cR (cR (cR (code 3)))))
theorem code3 : code 3 = .seq dA3 (.seq dB3 (.seq dC3 (.seq dD3 (.seq (.seq dE3 (.block id3 (.loop dL3))) dr3)))) := by kernel_rfl
def slT (q : Bool) (n : Nat) : SV := match q with | true => .slo 1 n 3 | false => .val (.slice none 0 0)
def hpR (Lr : List Value) : List SO := [.glob 0 glL, .fns Lr, .cells false [], .dead]
noncomputable def d3 (q : Bool) (k0 k1 n0 n1 at_ : Int) (n : Nat) (Lr : List Value) : St := ⟨[.agg [.val (.int .u64 k0), .val (.int .u64 k1)], .agg [.val (.int .u32 n0), .val (.int .u32 n1)], slT q n, .val (.int .u8 at_)] ++ List.replicate 204 (.val undef), hpR Lr⟩
noncomputable def nx3 (T : Int → Int) (S L : TxF) (c : Code) (s : St) : St := (finOf (run (eX T S L) 80 c s.tm s.hp [])).st
noncomputable def d3b (q : Bool) (T : Int → Int) (S L : TxF) (k0 k1 n0 n1 at_ : Int) (n : Nat) (Lr : List Value) : St := nx3 T S L dA3 (d3 q k0 k1 n0 n1 at_ n Lr)
noncomputable def d3c (q : Bool) (T : Int → Int) (S L : TxF) (k0 k1 n0 n1 at_ : Int) (n : Nat) (Lr : List Value) : St := nx3 T S L dB3 (d3b q T S L k0 k1 n0 n1 at_ n Lr)
def enB (b : Nat) (z : Int) (t : TypeId) : List SV := [.ptr b 0, .num .i64 z, .ifc t (.agg [.ptr b 0])]
def hpB (k0 k1 n0 n1 : Int) (Lr : List Value) : List SO := [.glob 0 glL, .fns Lr, .cells false [], .dead, .cells true (enB 6 0 81), .cells true (enB 7 1 82),
  .cells true [.val (.int .u64 k0), .val (.int .u64 k1), .num .i64 1, .val (.int .u32 n0), .num .u32 0, .bol false], .cells true [.val (.int .u64 k1), .val (.int .u64 k0), .num .i64 1, .val (.int .u32 n1), .val (.int .u32 n0), .bol true]]
noncomputable def stC3 (q : Bool) (k0 k1 n0 n1 at_ : Int) (n : Nat) (Lr : List Value) (d : Nat → Value) : St := ⟨[.val (d 0), .val (d 1), slT q n, .val (.int .u8 at_), .val (d 4), .val (d 5), .val (d 6), .val (d 7), .val (d 8), .ptr 4 0, .ptr 5 0] ++ (List.range' 11 197).map (fun j => .val (d j)), hpB k0 k1 n0 n1 Lr⟩
def fgC3 : List Nat := [0, 1, 4, 5, 6, 7, 8] ++ List.range' 11 197
noncomputable def d3e (q : Bool) (T : Int → Int) (S L : TxF) (k0 k1 n0 n1 at_ : Int) (n : Nat) (Lr : List Value) (d : Nat → Value) : St := nx3 T S L dD3 (stC3 q k0 k1 n0 n1 at_ n Lr d)
noncomputable def answL (s : ByteArray) (n1 : Int) : List SV := [.num .i64 1, i0, i0, bf, bf, .num .u64 0, .num .u64 0, i0, .num .u16 0, .num .i64 1, bf, .val (.int .i64 1), .num .u32 0, .val (.int .u32 n1), .val (.string s), bf, bf, bf, .num .u64 0, bf, bf, .num .u64 0, .num .u32 0, i0, bf, .num .u16 0, bf, i0, s0, bf, i0, s0, s0, bf, .num .u64 0, .num .u64 0, i0, i0]
noncomputable def hpE3 (S : TxF) (k0 k1 n0 n1 : Int) (Lr : List Value) : List SO := hpB k0 k1 n0 n1 Lr ++ [.cells true (answL (ba (S k1 k0 n1 n0)) n1)]
noncomputable def stEx (q : Bool) (S : TxF) (k0 k1 n0 n1 at_ : Int) (n : Nat) (Lr : List Value) (iv : SV) (d : Nat → Value) : St := ⟨[.val (d 0), .val (d 1), slT q n, .val (.int .u8 at_), .val (d 4), .val (d 5), .val (d 6), .val (d 7), .val (d 8), .ptr 4 0, .ptr 5 0, .ptr 8 0, iv] ++ (List.range' 13 195).map (fun j => .val (d j)), hpE3 S k0 k1 n0 n1 Lr⟩
noncomputable def stE (q : Bool) (S : TxF) (k0 k1 n0 n1 at_ : Int) (n : Nat) (Lr : List Value) (i : Int) (d : Nat → Value) : St := stEx q S k0 k1 n0 n1 at_ n Lr (.val (.int .i64 i)) d
def fgE3 : List Nat := [0, 1, 4, 5, 6, 7, 8] ++ List.range' 13 195
noncomputable def stF (S : TxF) (k0 k1 n0 n1 at_ : Int) (Lr : List Value) (d : Nat → Value) : St := ⟨[.val (d 0), .val (d 1), .val (d 2), .val (.int .u8 at_), .val (d 4), .val (d 5), .val (d 6), .val (d 7), .val (d 8), .ptr 4 0, .ptr 5 0, .ptr 8 0] ++ (List.range' 12 196).map (fun j => .val (d j)), hpE3 S k0 k1 n0 n1 Lr⟩
def fgF3 : List Nat := [0, 1, 2, 4, 5, 6, 7, 8] ++ List.range' 12 196
def kp9 : List Nat := [0, 1, 2, 3, 4, 5, 6, 7, 8]
theorem da_t (T : Int → Int) (S L : TxF) (k0 k1 n0 n1 at_ : Int) (n : Nat) (Lr : List Value) : goodR (run (eX T S L) 80 dA3 (d3 true k0 k1 n0 n1 at_ n Lr).tm (d3 true k0 k1 n0 n1 at_ n Lr).hp []) .normal [] := by unfold goodR; kernel_rfl
theorem db_t (T : Int → Int) (S L : TxF) (k0 k1 n0 n1 at_ : Int) (n : Nat) (Lr : List Value) : goodR (run (eX T S L) 80 dB3 (d3b true T S L k0 k1 n0 n1 at_ n Lr).tm (d3b true T S L k0 k1 n0 n1 at_ n Lr).hp []) .normal [] := by unfold goodR; kernel_rfl
theorem dc_t (T : Int → Int) (S L : TxF) (k0 k1 n0 n1 at_ : Int) (n : Nat) (Lr : List Value) (d : Nat → Value) : givesX 4 [0, 1, 2, 3, 6, 7, 8, 9] fgC3 (run (eX T S L) 80 dC3 (d3c true T S L k0 k1 n0 n1 at_ n Lr).tm (d3c true T S L k0 k1 n0 n1 at_ n Lr).hp [true, true, false]) .normal (stC3 true k0 k1 n0 n1 at_ n Lr d)
  [Pg 0 glL, PTf T 0 glL, ((1 : Int) == 1) = true, PTf T 0 glL, (T k1 == T k1) = true, (!(T k1 == T k1)) = false] d := by unfold givesX; kernel_rfl
theorem dd_t (T : Int → Int) (S L : TxF) (k0 k1 n0 n1 at_ : Int) (n : Nat) (Lr : List Value) (d : Nat → Value) : goodR (run (eX T S L) 80 dD3 (stC3 true k0 k1 n0 n1 at_ n Lr d).tm (stC3 true k0 k1 n0 n1 at_ n Lr d).hp []) .normal [PSf S 0 glL] := by unfold goodR; kernel_rfl
theorem de_t (T : Int → Int) (S L : TxF) (k0 k1 n0 n1 at_ : Int) (n : Nat) (Lr : List Value) (d d' : Nat → Value) : givesX 4 kp9 fgE3 (run (eX T S L) 80 dE3 (d3e true T S L k0 k1 n0 n1 at_ n Lr d).tm (d3e true T S L k0 k1 n0 n1 at_ n Lr d).hp []) .normal (stEx true S k0 k1 n0 n1 at_ n Lr (.num .i64 0) d') [] d' := by unfold givesX; kernel_rfl
theorem da_n (T : Int → Int) (S L : TxF) (k0 k1 n0 n1 at_ : Int) (n : Nat) (Lr : List Value) : goodR (run (eX T S L) 80 dA3 (d3 false k0 k1 n0 n1 at_ n Lr).tm (d3 false k0 k1 n0 n1 at_ n Lr).hp []) .normal [] := by unfold goodR; kernel_rfl
theorem db_n (T : Int → Int) (S L : TxF) (k0 k1 n0 n1 at_ : Int) (n : Nat) (Lr : List Value) : goodR (run (eX T S L) 80 dB3 (d3b false T S L k0 k1 n0 n1 at_ n Lr).tm (d3b false T S L k0 k1 n0 n1 at_ n Lr).hp []) .normal [] := by unfold goodR; kernel_rfl
theorem dc_n (T : Int → Int) (S L : TxF) (k0 k1 n0 n1 at_ : Int) (n : Nat) (Lr : List Value) (d : Nat → Value) : givesX 4 [0, 1, 2, 3, 6, 7, 8, 9] fgC3 (run (eX T S L) 80 dC3 (d3c false T S L k0 k1 n0 n1 at_ n Lr).tm (d3c false T S L k0 k1 n0 n1 at_ n Lr).hp [true, true, false]) .normal (stC3 false k0 k1 n0 n1 at_ n Lr d)
  [Pg 0 glL, PTf T 0 glL, ((1 : Int) == 1) = true, PTf T 0 glL, (T k1 == T k1) = true, (!(T k1 == T k1)) = false] d := by unfold givesX; kernel_rfl
theorem dd_n (T : Int → Int) (S L : TxF) (k0 k1 n0 n1 at_ : Int) (n : Nat) (Lr : List Value) (d : Nat → Value) : goodR (run (eX T S L) 80 dD3 (stC3 false k0 k1 n0 n1 at_ n Lr d).tm (stC3 false k0 k1 n0 n1 at_ n Lr d).hp []) .normal [PSf S 0 glL] := by unfold goodR; kernel_rfl
theorem de_n (T : Int → Int) (S L : TxF) (k0 k1 n0 n1 at_ : Int) (n : Nat) (Lr : List Value) (d d' : Nat → Value) : givesX 4 kp9 fgE3 (run (eX T S L) 80 dE3 (d3e false T S L k0 k1 n0 n1 at_ n Lr d).tm (d3e false T S L k0 k1 n0 n1 at_ n Lr d).hp []) .normal (stEx false S k0 k1 n0 n1 at_ n Lr (.num .i64 0) d') [] d' := by unfold givesX; kernel_rfl
def j0 (i : Int) : Int := i * ((38 : Nat) : Int)
def jS (i : Int) : Int := j0 i + ((0 : Nat) : Int)
def jJ (i : Int) : Int := j0 i + ((9 : Nat) : Int)
def jF (i : Int) : Int := jJ i + ((0 : Nat) : Int)
def cksO : List CK := [.int .i64, .int .i64, .int .i64, .bool, .bool, .int .u64, .int .u64, .int .i64, .int .u16, .int .i64, .bool, .int .i64, .int .u32, .int .u32, .str, .bool, .bool, .bool, .int .u64, .bool, .bool, .int .u64, .int .u32, .int .i64, .bool, .int .u16, .bool, .int .i64, .str, .bool, .int .i64, .str, .str, .bool, .int .u64, .int .u64, .int .i64, .int .i64]
def rg (i : Int) (n : Nat) : Prop := 0 ≤ i ∧ i < (n : Int)
def cI (Lr : List Value) (j : Nat) : Int := intOf (cellAt Lr j)
def LH (Lr : List Value) (i : Int) (n : Nat) (b : Bool) : List Prop := [decide (i < (n : Int)) = true, decide (i < 10) = true, rg i n, 0 ≤ j0 i, loadP Lr (jS i).toNat [.int .i64], (cI Lr (jS i).toNat == 1) = b]
def LQ (Lr : List Value) (i : Int) (n : Nat) : List Prop := [rg i n, loadP Lr (j0 i).toNat cksO]
def R1 (Lr : List Value) (i : Int) (n : Nat) : List Prop := LH Lr i n false ++ LQ Lr i n ++ [(cI Lr (j0 i).toNat != 1) = true] ++ LQ Lr i n ++ LQ Lr i n ++ LQ Lr i n ++ [(cI Lr (j0 i).toNat == 1) = false]
def LF (Lr : List Value) (i : Int) (n : Nat) (b : Bool) : List Prop := [rg i n, 0 ≤ j0 i, 0 ≤ jJ i, loadP Lr (jF i).toNat [.int .i64], (cI Lr (jF i).toNat == 0) = b]
def R2 (Lr : List Value) (i : Int) (n : Nat) : List Prop := LH Lr i n true ++ LF Lr i n true
def R3 (Lr : List Value) (i : Int) (n : Nat) : List Prop := LH Lr i n true ++ LF Lr i n false ++ LQ Lr i n ++ [(cI Lr (j0 i).toNat != 1) = false, (cI Lr ((j0 i).toNat + 9) == 0) = false] ++ LQ Lr i n ++ LQ Lr i n ++ LQ Lr i n ++ [(cI Lr (j0 i).toNat == 1) = true]
theorem dr_1 (T : Int → Int) (S L : TxF) (k0 k1 n0 n1 at_ : Int) (n : Nat) (Lr : List Value) (i : Int) (d d' : Nat → Value) : givesX 4 kp9 fgE3 (run (eX T S L) 80 dL3 (stE true S k0 k1 n0 n1 at_ n Lr i d).tm (stE true S k0 k1 n0 n1 at_ n Lr i d).hp [true, true, false, true, false]) .normal (stE true S k0 k1 n0 n1 at_ n Lr (IntKind.i64.wrap (i + 1)) d') (R1 Lr i n) d' := by unfold givesX; kernel_rfl
theorem dr_2 (T : Int → Int) (S L : TxF) (k0 k1 n0 n1 at_ : Int) (n : Nat) (Lr : List Value) (i : Int) (d d' : Nat → Value) : givesX 4 kp9 fgE3 (run (eX T S L) 80 dL3 (stE true S k0 k1 n0 n1 at_ n Lr i d).tm (stE true S k0 k1 n0 n1 at_ n Lr i d).hp [true, true, true, true]) .normal (stE true S k0 k1 n0 n1 at_ n Lr (IntKind.i64.wrap (i + 1)) d') (R2 Lr i n) d' := by unfold givesX; kernel_rfl
theorem dr_3 (T : Int → Int) (S L : TxF) (k0 k1 n0 n1 at_ : Int) (n : Nat) (Lr : List Value) (i : Int) (d d' : Nat → Value) : givesX 4 kp9 fgE3 (run (eX T S L) 80 dL3 (stE true S k0 k1 n0 n1 at_ n Lr i d).tm (stE true S k0 k1 n0 n1 at_ n Lr i d).hp [true, true, true, false, false, false, true]) .normal (stE true S k0 k1 n0 n1 at_ n Lr (IntKind.i64.wrap (i + 1)) d') (R3 Lr i n) d' := by unfold givesX; kernel_rfl
theorem dx_1 (T : Int → Int) (S L : TxF) (k0 k1 n0 n1 at_ : Int) (n : Nat) (Lr : List Value) (i : Int) (d d' : Nat → Value) : givesX 4 kp9 fgF3 (run (eX T S L) 80 dL3 (stE true S k0 k1 n0 n1 at_ n Lr i d).tm (stE true S k0 k1 n0 n1 at_ n Lr i d).hp [false]) (.exit id3) (stF S k0 k1 n0 n1 at_ Lr d') [decide (i < (n : Int)) = false] d' := by unfold givesX; kernel_rfl
theorem dx_2 (T : Int → Int) (S L : TxF) (k0 k1 n0 n1 at_ : Int) (n : Nat) (Lr : List Value) (i : Int) (d d' : Nat → Value) : givesX 4 kp9 fgF3 (run (eX T S L) 80 dL3 (stE true S k0 k1 n0 n1 at_ n Lr i d).tm (stE true S k0 k1 n0 n1 at_ n Lr i d).hp [true, false]) (.exit id3) (stF S k0 k1 n0 n1 at_ Lr d') [decide (i < (n : Int)) = true, decide (i < 10) = false] d' := by unfold givesX; kernel_rfl
theorem dx_n (T : Int → Int) (S L : TxF) (k0 k1 n0 n1 at_ : Int) (n : Nat) (Lr : List Value) (d d' : Nat → Value) : givesX 4 kp9 fgF3 (run (eX T S L) 80 dL3 (stEx false S k0 k1 n0 n1 at_ n Lr (.num .i64 0) d).tm (stEx false S k0 k1 n0 n1 at_ n Lr (.num .i64 0) d).hp []) (.exit id3) (stF S k0 k1 n0 n1 at_ Lr d') [] d' := by unfold givesX; kernel_rfl
/-! the codes, cut and bent -/
def flZ (s : ByteArray) (k : Int) : Int := IntKind.u8.wrap ((BitVec.ofInt IntKind.u8.bits (byteAt s k) ^^^ BitVec.ofInt IntKind.u8.bits 1).toNat : Int)
def fl (s : ByteArray) (k : Int) : ByteArray := setB s k (flZ s k)
def cu (s : ByteArray) (k : Int) : ByteArray := s.extract (Int.toNat 0) k.toNat
def aK (at_ m : Int) : Int := (IntKind.i64.wrap at_).tmod m
def LSx (s : ByteArray) (k m : Int) : List Prop := [s.size ≤ 1000000000, ((s.size : Int) != m) = false, 0 ≤ k ∧ k < (s.size : Int), k.toNat < s.size, 0 ≤ k ∧ k < (s.size : Int), k.toNat < s.size ∧ 0 ≤ flZ s k ∧ flZ s k < 256, s.size = (fl s k).size, (0 : Int) ≤ 0 ∧ 0 ≤ k ∧ k ≤ (s.size : Int)]
noncomputable def LT3 (S L : TxF) (k0 k1 n0 n1 at_ : Int) : List Prop :=
  LSx (ba (S k1 k0 n1 n0)) (aK at_ 8) 8 ++ [((1 : Int) == 1) = true, PSf S 0 glL, ((cu (ba (S k1 k0 n1 n0)) (aK at_ 8)).toList == (ba (S k1 k0 n1 n0)).toList) = false, ((cu (ba (S k1 k0 n1 n0)) (aK at_ 8)).toList == (ba (S k1 k0 n1 n0)).toList) = false,
   ((1 : Int) == 1) = true, PSf S 0 glL, ((fl (ba (S k1 k0 n1 n0)) (aK at_ 8)).toList == (ba (S k1 k0 n1 n0)).toList) = false, ((fl (ba (S k1 k0 n1 n0)) (aK at_ 8)).toList == (ba (S k1 k0 n1 n0)).toList) = false,
   PLf L 0 glL, PSf S 0 glL, (!((n1 == n1 && (eqBA (S k1 k0 n1 n0) (S k1 k0 n1 n0) && true)) && true)) = false, ((1 : Int) == 1) = true, PSf S 0 glL, ((ba (S k1 k0 n1 n0)).toList == (ba (S k1 k0 n1 n0)).toList) = true, (!((ba (S k1 k0 n1 n0)).toList == (ba (S k1 k0 n1 n0)).toList)) = false, PLf L 0 glL] ++
  LSx (ba (L k0 k1 n0 n1)) (aK at_ 20) 20 ++ [PLf L 0 glL, (!((cu (ba (L k0 k1 n0 n1)) (aK at_ 20)).toList == (ba (L k0 k1 n0 n1)).toList)) = true, PLf L 0 glL, (!((fl (ba (L k0 k1 n0 n1)) (aK at_ 20)).toList == (ba (L k0 k1 n0 n1)).toList)) = true, PLf L 0 glL]
def ansT : List Bool := [false, true, false, false, true, false, false, false, true, true, false, false, true, true]
theorem dt_ret (T : Int → Int) (S L : TxF) (k0 k1 n0 n1 at_ : Int) (Lr : List Value) (d : Nat → Value) : goodR (run (eX T S L) 80 dr3 (stF S k0 k1 n0 n1 at_ Lr d).tm (stF S k0 k1 n0 n1 at_ Lr d).hp ansT) .ret (LT3 S L k0 k1 n0 n1 at_) := by unfold goodR; kernel_rfl
noncomputable def f3 (T : Int → Int) (S L : TxF) (k0 k1 n0 n1 at_ : Int) (Lr : List Value) (d : Nat → Value) : Fin := finOf (run (eX T S L) 80 dr3 (stF S k0 k1 n0 n1 at_ Lr d).tm (stF S k0 k1 n0 n1 at_ Lr d).hp ansT)
theorem dt_res (T : Int → Int) (S L : TxF) (k0 k1 n0 n1 at_ : Int) (Lr : List Value) (d : Nat → Value) : resultsS Tryd.prog (fnN 3) (f3 T S L k0 k1 n0 n1 at_ Lr d).tm (f3 T S L k0 k1 n0 n1 at_ Lr d).hp = some (.val (.bool ((ba (L k0 k1 n0 n1)).toList == (ba (L k0 k1 n0 n1)).toList))) := by kernel_rfl
theorem fn3_at : Tryd.prog.funcs[3]? = some (fnN 3) := by kernel_rfl
theorem fn3_body : (fnN 3).body = some (code 3) := by kernel_rfl
def arg3 (q : Bool) (k0 k1 n0 n1 at_ : Int) (n : Nat) : List SV := [.agg [.val (.int .u64 k0), .val (.int .u64 k1)], .agg [.val (.int .u32 n0), .val (.int .u32 n1)], slT q n, .val (.int .u8 at_)]
theorem fn3_tm (q : Bool) (k0 k1 n0 n1 at_ : Int) (n : Nat) : (arg3 q k0 k1 n0 n1 at_ n ++ List.replicate ((fnN 3).ntmps - (arg3 q k0 k1 n0 n1 at_ n).length) (.val undef) : List SV) = arg3 q k0 k1 n0 n1 at_ n ++ List.replicate 204 (.val undef) := by
  cases q <;> kernel_rfl
end Go.Proofs.YtacgamdbmllaoaaDoor
