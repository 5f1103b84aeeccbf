/-
  Walks of functions, reckoned through, and what they give (part K23e). No condition beyond what each says. By an AI agent.
-/
import Derived.Test.YtacgamdbmllaoaaDoorK23k
namespace Go.Proofs.YtacgamdbmllaoaaDoor
open Go.Ex
open Go.RowKit (Below)
set_option linter.unusedVariables false
set_option maxRecDepth 1000000
/-! ### EnterKnown -/
noncomputable def enR3 (T : Int → Int) (S L : TxF) : Raw := (noG2 T S L).or (enR T S L)
theorem enR3_ok : (enR3 tkT shW lgW).Ok := Raw.or_ok (noG2_ok _ _ _) enR_ok
noncomputable def XK (T : Int → Int) (S L : TxF) : Cx := enX (enR3 T S L)
noncomputable def p4 : Code := cL (cR (cR (cR (cR (code 4)))))
noncomputable def r4 : Code := cR (cR (cR (cR (cR (code 4)))))
theorem code4 : code 4 = .seq (cL (code 4)) (.seq (cL (cR (code 4))) (.seq (cL (cR (cR (code 4)))) (.seq (cL (cR (cR (cR (code 4))))) (.seq p4 r4)))) := by kernel_rfl
noncomputable def k0 : St := ⟨List.replicate 135 (.val undef), [globS]⟩
noncomputable def k1 (T : Int → Int) (S L : TxF) : St := (finOf (run (XK T S L) 80 (cL (code 4)) k0.tm k0.hp [])).st
noncomputable def k2 (T : Int → Int) (S L : TxF) : St := (finOf (run (XK T S L) 80 (cL (cR (code 4))) (k1 T S L).tm (k1 T S L).hp [])).st
noncomputable def k3 (T : Int → Int) (S L : TxF) : St := (finOf (run (XK T S L) 80 (cL (cR (cR (code 4)))) (k2 T S L).tm (k2 T S L).hp [])).st
noncomputable def k4 (T : Int → Int) (S L : TxF) : St := (finOf (run (XK T S L) 80 (cL (cR (cR (cR (code 4))))) (k3 T S L).tm (k3 T S L).hp [])).st
theorem kk1 (T : Int → Int) (S L : TxF) : goodR (run (XK T S L) 80 (cL (code 4)) k0.tm k0.hp []) .normal [] := by unfold goodR; kernel_rfl
theorem kk2 (T : Int → Int) (S L : TxF) : goodR (run (XK T S L) 80 (cL (cR (code 4))) (k1 T S L).tm (k1 T S L).hp []) .normal [] := by unfold goodR; kernel_rfl
theorem kk3 (T : Int → Int) (S L : TxF) : goodR (run (XK T S L) 80 (cL (cR (cR (code 4)))) (k2 T S L).tm (k2 T S L).hp []) .normal [] := by unfold goodR; kernel_rfl
theorem kk4 (T : Int → Int) (S L : TxF) : goodR (run (XK T S L) 80 (cL (cR (cR (cR (code 4))))) (k3 T S L).tm (k3 T S L).hp []) .normal [] := by unfold goodR; kernel_rfl
def fgK : List Nat := [0] ++ List.range' 5 130
def hpK : List SO := [globS, .cells true [.num .u64 1, .num .u64 2, i0, .num .u32 0, .num .u32 0, bf], .cells true (enK 1 0 81), .cells true [.num .u64 2, .num .u64 1, .num .i64 255, .num .u32 0, .num .u32 0, bf], .cells true (enK 3 1 82), .cells true zerO]
def k6 (d : Nat → Value) : St := ⟨[.val (d 0), .ptr 2 0, .ptr 4 0, .ptr 5 0, .bol true] ++ (List.range' 5 130).map (fun i => .val (d i)), hpK⟩
noncomputable def LK (T : Int → Int) (S L : TxF) : List Prop := [Pg 0 glL, PLf L 0 glL, PTf T 0 glL, Pg 0 glL, Pg 0 glL, Pg 0 glL, 0 = 0 ∧ glL = glL, PSf S 0 glL, Pg 0 glL, PLf L 0 glL, Pg 0 glL]
theorem kk5 (T : Int → Int) (S L : TxF) (d : Nat → Value) : givesT fgK (run (XK T S L) 80 p4 (k4 T S L).tm (k4 T S L).hp []) .normal (k6 d) (LK T S L) d := by unfold givesT; kernel_rfl
noncomputable def f6 (T : Int → Int) (S L : TxF) (d : Nat → Value) : Fin := finOf (run (XK T S L) 80 r4 (k6 d).tm (k6 d).hp [false])
theorem kk6 (T : Int → Int) (S L : TxF) (d : Nat → Value) : goodR (run (XK T S L) 80 r4 (k6 d).tm (k6 d).hp [false]) .ret [PTf T 0 glL, ((0 : Int) == 255) = false, Pg 0 glL] := by unfold goodR; kernel_rfl
noncomputable def fn4 : Func := (Tryd.prog.funcs[4]?).getD default
theorem kk7 (T : Int → Int) (S L : TxF) (d : Nat → Value) : resultsS Tryd.prog fn4 (f6 T S L d).tm (f6 T S L d).hp = some (.bol true) := by kernel_rfl
theorem fn4_at : Tryd.prog.funcs[4]? = some fn4 := by kernel_rfl
theorem fn4_body : fn4.body = some (code 4) := by kernel_rfl
theorem fn4_tm : ([] ++ List.replicate (fn4.ntmps - ([] : List SV).length) (.val undef) : List SV) = List.replicate 135 (.val undef) := by kernel_rfl
end Go.Proofs.YtacgamdbmllaoaaDoor
