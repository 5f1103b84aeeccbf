/-
  Walks of functions, reckoned through, and what they give (part K23f0). No condition beyond what each says. By an AI agent.
-/
import Derived.Test.YtacgamdbmllaoaaDoorK23w
namespace Go.Proofs.YtacgamdbmllaoaaDoor
open Go.Ex
open Go.RowKit (Below)
set_option linter.unusedVariables false
set_option maxRecDepth 1000000
/-! ### EnterThrough -/
def idT (id : Int) : Int := IntKind.i64.wrap id
noncomputable def Lst (T : Int → Int) (k1 id : Int) : List Prop := [PTf T 0 glL, (idT id == idT id) = true, PTf T 0 glL, (T k1 == T k1) = true, (!(T k1 == T k1)) = false]
noncomputable def Lsh (S : TxF) (k0 k1 n0 n1 id : Int) : List Prop := [PSf S 0 glL, (idT id == idT id) = true, PSf S 0 glL, eqT (S k1 k0 n1 n0) (S k1 k0 n1 n0) = true, (!(eqT (S k1 k0 n1 n0) (S k1 k0 n1 n0))) = false]
noncomputable def LTh (T : Int → Int) (S L : TxF) (k0 k1 n0 n1 id : Int) (b0 b1 b2 : Bool) : List Prop :=
  [decide (idT id < 0) = false, decide (idT id > 255) = false, decide (idT id < 0) = false, decide (idT id > 255) = false, Pg 0 glL] ++
  Lst T k1 id ++ (if b0 then Lst T k1 id else []) ++ Lsh S k0 k1 n0 n1 id ++ (if b1 then Lsh S k0 k1 n0 n1 id else []) ++
  [PLf L 0 glL, PLf L 0 glL, eqT (L k0 k1 n0 n1) (L k0 k1 n0 n1) = true] ++ (if b2 then [PLf L 0 glL, PLf L 0 glL] else [])
noncomputable def thV (L : TxF) (k0 k1 n0 n1 : Int) (b2 : Bool) : SV := if b2 then .val (.bool (eqT (L k0 k1 n0 n1) (L k0 k1 n0 n1))) else .bol true
theorem th_000 (T : Int → Int) (S L : TxF) (k0 k1 n0 n1 id : Int) : givesV (topR (enX (enR T S L)) (run (enX (enR T S L)) 80) 6 [.agg [.val (.int .u64 k0), .val (.int .u64 k1)], .agg [.val (.int .u32 n0), .val (.int .u32 n1)], .val (.int .u8 id), .agg [.bol false, .bol false, .bol false]] [globS] [false, false, false, false, true, true, false, true, true, false, true]) (thV L k0 k1 n0 n1 false) (LTh T S L k0 k1 n0 n1 id false false false) := by
  unfold givesV; kernel_rfl
theorem th_001 (T : Int → Int) (S L : TxF) (k0 k1 n0 n1 id : Int) : givesV (topR (enX (enR T S L)) (run (enX (enR T S L)) 80) 6 [.agg [.val (.int .u64 k0), .val (.int .u64 k1)], .agg [.val (.int .u32 n0), .val (.int .u32 n1)], .val (.int .u8 id), .agg [.bol false, .bol false, .bol true]] [globS] [false, false, false, false, true, true, false, true, true, false, true]) (thV L k0 k1 n0 n1 true) (LTh T S L k0 k1 n0 n1 id false false true) := by
  unfold givesV; kernel_rfl
theorem th_010 (T : Int → Int) (S L : TxF) (k0 k1 n0 n1 id : Int) : givesV (topR (enX (enR T S L)) (run (enX (enR T S L)) 80) 6 [.agg [.val (.int .u64 k0), .val (.int .u64 k1)], .agg [.val (.int .u32 n0), .val (.int .u32 n1)], .val (.int .u8 id), .agg [.bol false, .bol true, .bol false]] [globS] [false, false, false, false, true, true, false, true, true, false, true, true, false, true]) (thV L k0 k1 n0 n1 false) (LTh T S L k0 k1 n0 n1 id false true false) := by
  unfold givesV; kernel_rfl
theorem th_011 (T : Int → Int) (S L : TxF) (k0 k1 n0 n1 id : Int) : givesV (topR (enX (enR T S L)) (run (enX (enR T S L)) 80) 6 [.agg [.val (.int .u64 k0), .val (.int .u64 k1)], .agg [.val (.int .u32 n0), .val (.int .u32 n1)], .val (.int .u8 id), .agg [.bol false, .bol true, .bol true]] [globS] [false, false, false, false, true, true, false, true, true, false, true, true, false, true]) (thV L k0 k1 n0 n1 true) (LTh T S L k0 k1 n0 n1 id false true true) := by
  unfold givesV; kernel_rfl
end Go.Proofs.YtacgamdbmllaoaaDoor
