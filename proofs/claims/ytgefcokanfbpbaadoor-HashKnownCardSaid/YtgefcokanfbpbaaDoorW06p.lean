/-
  Walks of functions, reckoned through, and what they give (part W06p). No condition beyond what each says. By an AI agent.
-/
import Derived.Test.YtgefcokanfbpbaaDoorW06o
namespace Go.Proofs.YtgefcokanfbpbaaDoor
open Go.Ex
open Go.RowKit (Below)
set_option linter.unusedVariables false
set_option maxRecDepth 1000000
/-! ### HashKnown, by its rounds -/
noncomputable def LB8 : Code := cLp (cB (cR (cL (cR (cR (cR (code 8)))))))
noncomputable def Xk (q : Sh) : Cx := rawX q (allG q)
noncomputable def sP8 : St := ⟨List.replicate 77 (.val undef), [globS]⟩
noncomputable def sP8a (q : Sh) : St := (finOf (run (Xk q) 60 (cL (code 8)) sP8.tm sP8.hp [])).st
noncomputable def sP8b (q : Sh) : St := (finOf (run (Xk q) 60 (cL (cR (code 8))) (sP8a q).tm (sP8a q).hp [])).st
noncomputable def sP8c (q : Sh) : St := (finOf (run (Xk q) 60 (cL (cR (cR (code 8)))) (sP8b q).tm (sP8b q).hp [])).st
def wantS : SO := .cells true [.bts true [101, 51, 98, 48, 99, 52, 52, 50, 57, 56, 102, 99, 49, 99, 49, 52, 57, 97, 102, 98, 102, 52, 99, 56, 57, 57, 54, 102, 98, 57, 50, 52, 50, 55, 97, 101, 52, 49, 101, 52, 54, 52, 57, 98, 57, 51, 52, 99, 97, 52, 57, 53, 57, 57, 49, 98, 55, 56, 53, 50, 98, 56, 53, 53], .bts true [98, 97, 55, 56, 49, 54, 98, 102, 56, 102, 48, 49, 99, 102, 101, 97, 52, 49, 52, 49, 52, 48, 100, 101, 53, 100, 97, 101, 50, 50, 50, 51, 98, 48, 48, 51, 54, 49, 97, 51, 57, 54, 49, 55, 55, 97, 57, 99, 98, 52, 49, 48, 102, 102, 54, 49, 102, 50, 48, 48, 49, 53, 97, 100], .bts true [50, 52, 56, 100, 54, 97, 54, 49, 100, 50, 48, 54, 51, 56, 98, 56, 101, 53, 99, 48, 50, 54, 57, 51, 48, 99, 51, 101, 54, 48, 51, 57, 97, 51, 51, 99, 101, 52, 53, 57, 54, 52, 102, 102, 50, 49, 54, 55, 102, 54, 101, 99, 101, 100, 100, 52, 49, 57, 100, 98, 48, 54, 99, 49], .bts true [100, 55, 97, 56, 102, 98, 98, 51, 48, 55, 100, 55, 56, 48, 57, 52, 54, 57, 99, 97, 57, 97, 98, 99, 98, 48, 48, 56, 50, 101, 52, 102, 56, 100, 53, 54, 53, 49, 101, 52, 54, 100, 51, 99, 100, 98, 55, 54, 50, 100, 48, 50, 100, 48, 98, 102, 51, 55, 99, 57, 101, 53, 57, 50]]
def textS : SO := .cells true (TK.map fun e => .bts true e.1)
noncomputable def sK8 (i : Int) (d : Nat → Value) : St := ⟨[.bol false, .ptr 1 0, .ptr 2 0, .num .i64 i] ++ (List.range' 4 73).map (fun i => .val (d i)), [globS, wantS, textS]⟩
def fg8 : List Nat := List.range' 4 73
noncomputable def rnd8 (q : Sh) (i : Int) (d d' : Nat → Value) : Prop :=
  givesS 1 [0, 1, 2] fg8 (run (Xk q) 60 LB8 (sK8 i d).tm (sK8 i d).hp []) (sK8 (i + 1) d') [Pg 0 glL] d'
noncomputable def id8 : Nat := bId (cR (cL (cR (cR (cR (code 8))))))
theorem code8 : code 8 = .seq (cL (code 8)) (.seq (cL (cR (code 8))) (.seq (cL (cR (cR (code 8)))) (.seq (.seq (cL (cL (cR (cR (cR (code 8)))))) (.block id8 (.loop LB8))) (cR (cR (cR (cR (code 8)))))))) := by kernel_rfl
theorem k8_a (q : Sh) : goodR (run (Xk q) 60 (cL (code 8)) sP8.tm sP8.hp []) .normal [] := by unfold goodR; kernel_rfl
theorem k8_b (q : Sh) : goodR (run (Xk q) 60 (cL (cR (code 8))) (sP8a q).tm (sP8a q).hp []) .normal [] := by unfold goodR; kernel_rfl
theorem k8_c (q : Sh) : goodR (run (Xk q) 60 (cL (cR (cR (code 8)))) (sP8b q).tm (sP8b q).hp []) .normal [] := by unfold goodR; kernel_rfl
theorem k8_d (q : Sh) (d : Nat → Value) : givesS 1 [0, 1, 2] fg8 (run (Xk q) 60 (cL (cL (cR (cR (cR (code 8)))))) (sP8c q).tm (sP8c q).hp []) (sK8 0 d) [] d := by unfold givesS; kernel_rfl
theorem k8_e (q : Sh) (d : Nat → Value) : goodR (run (Xk q) 60 LB8 (sK8 4 d).tm (sK8 4 d).hp []) (.exit id8) [] := by unfold goodR; kernel_rfl
end Go.Proofs.YtgefcokanfbpbaaDoor
