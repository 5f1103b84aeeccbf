/-
  Walks of functions, reckoned through, and what they give (part W06a). No condition beyond what each says. By an AI agent.
-/
import Derived.Test.YtacgamdbmllaoaaDoorExS
import Derived.Test.YtacgamdbmllaoaaDoorChecked
namespace Go.Proofs.YtacgamdbmllaoaaDoor
open Go.Ex
open Go.RowKit (Below)
set_option linter.unusedVariables false
def cL : Code → Code
  | .seq a _ => a
  | c => c
def cR : Code → Code
  | .seq _ b => b
  | c => c
def cB : Code → Code
  | .block _ b => b
  | c => c
def cLp : Code → Code
  | .loop b => b
  | c => c
def rfA : Code → Code
  | .rangeFunc _ _ a _ => a
  | c => c
def rfB : Code → Code
  | .rangeFunc _ _ _ b => b
  | c => c
def rfP : Code → Array Tmp
  | .rangeFunc _ p _ _ => p
  | _ => #[]
noncomputable def code (f : Nat) : Code := ((Tryd.prog.funcs[f]?).bind (·.body)).getD .skip
noncomputable def rf : Code := cB (cR (cL (cR (cR (code 77)))))
noncomputable def lb : Code := cLp (cB (cR (cR (code 88))))
def KL : List Int := [1116352408, 1899447441, 3049323471, 3921009573, 961987163, 1508970993, 2453635748, 2870763221, 3624381080, 310598401, 607225278, 1426881987, 1925078388, 2162078206, 2614888103, 3248222580, 3835390401, 4022224774, 264347078, 604807628, 770255983, 1249150122, 1555081692, 1996064986, 2554220882, 2821834349, 2952996808, 3210313671, 3336571891, 3584528711, 113926993, 338241895, 666307205, 773529912, 1294757372, 1396182291, 1695183700, 1986661051, 2177026350, 2456956037, 2730485921, 2820302411, 3259730800, 3345764771, 3516065817, 3600352804, 4094571909, 275423344, 430227734, 506948616, 659060556, 883997877, 958139571, 1322822218, 1537002063, 1747873779, 1955562222, 2024104815, 2227730452, 2361852424, 2428436474, 2756734187, 3204031479, 3329325298]
def u (z : Int) : SV := .val (.int .u32 z)
def globS : SO := .glob 0 (KL.map fun z => .num .u32 z)
/-- What 'taken' holds when it ranges. -/
def tsT (l0 : List Int) (s : ByteArray) : List SV :=
  [.agg (l0.map u), .val (.string s), .ptr 1 0, .val undef, .ptr 2 0, .ptr 3 0] ++ List.replicate 11 (.val undef) ++ [.agg (l0.map u), .val (.string s), .fnc 88 [] [.ptr 4 0]] ++ List.replicate 75 (.val undef)
noncomputable def lopS (l0 : List Int) (s : ByteArray) : SO := .fx (.lop true (tsT l0 s) (rfP rf) (rfA rf) (rfB rf))
noncomputable def hpS (l0 x la : List Int) (s : ByteArray) : List SO :=
  [globS, .cells true (x.map u), .cells true (List.replicate 8 (.num .u32 0)), .cells true (l0.map u), .cells true [.val (.string s)], .fx .dfb, lopS l0 s, .cells true (la.map u)]
def tmS (t : Int) (d : Nat → Value) : List SV :=
  [.hdl 6, .ptr 4 0, .val (d 2), .ptr 7 0] ++ (List.range' 4 5).map (fun i => .val (d i)) ++ [.num .i64 t] ++ (List.range' 10 79).map (fun i => .val (d i))
noncomputable def X0 : Cx := plain Tryd.prog
end Go.Proofs.YtacgamdbmllaoaaDoor
