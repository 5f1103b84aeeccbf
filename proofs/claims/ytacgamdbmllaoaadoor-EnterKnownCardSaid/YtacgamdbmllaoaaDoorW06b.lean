/-
  Walks of functions, reckoned through, and what they give (part W06b). No condition beyond what each says. By an AI agent.
-/
import Derived.Test.YtacgamdbmllaoaaDoorW06a
namespace Go.Proofs.YtacgamdbmllaoaaDoor
open Go.Ex
open Go.RowKit (Below)
set_option linter.unusedVariables false
/-! ### the words, as the program reckons them -/
def add32 (a b : Int) : Int := IntKind.u32.wrap (a + b)
def xor32 (a b : Int) : Int := IntKind.u32.wrap ((BitVec.ofInt 32 a ^^^ BitVec.ofInt 32 b).toNat : Int)
def and32 (a b : Int) : Int := IntKind.u32.wrap ((BitVec.ofInt 32 a &&& BitVec.ofInt 32 b).toNat : Int)
def or32 (a b : Int) : Int := IntKind.u32.wrap ((BitVec.ofInt 32 a ||| BitVec.ofInt 32 b).toNat : Int)
def shl32 (a : Int) (k : Nat) : Int := IntKind.u32.wrap (a * 2 ^ k)
def shr32 (a : Int) (k : Nat) : Int := a.fdiv (2 ^ k)
def rotr32 (x : Int) (k : Nat) : Int := or32 (shl32 x (32 - k)) (shr32 x k)
def tur2 (x : Int) (i j : Nat) : Int := xor32 (xor32 0 (rotr32 x i)) (rotr32 x j)
def tur3 (x : Int) (i j k : Nat) : Int := xor32 (tur2 x i j) (rotr32 x k)
def bS1 (e : Int) : Int := tur3 e 6 11 25
def bS0 (a : Int) : Int := tur3 a 2 13 22
def sS0 (x : Int) : Int := xor32 (tur2 x 7 18) (shr32 x 3)
def sS1 (x : Int) : Int := xor32 (tur2 x 17 19) (shr32 x 10)
def ch32 (e f g : Int) : Int := or32 (and32 e f) (and32 (xor32 4294967295 e) g)
def maj32 (a b c : Int) : Int := or32 (or32 (and32 a b) (and32 a c)) (and32 b c)
def bX (x : Nat → Int) (k w : Int) : Int := add32 (add32 (add32 (add32 (x 7) (bS1 (x 4))) (ch32 (x 4) (x 5) (x 6))) k) w
def bY (x : Nat → Int) : Int := add32 (bS0 (x 0)) (maj32 (x 0) (x 1) (x 2))
/-- A round. -/
def rndF (x : Nat → Int) (k w : Int) : Nat → Int
  | 0 => add32 (bX x k w) (bY x)
  | 1 => x 0
  | 2 => x 1
  | 3 => x 2
  | 4 => add32 (x 3) (bX x k w)
  | 5 => x 4
  | 6 => x 5
  | _ => x 6
def be32 (s : ByteArray) (t : Nat) : Int :=
  or32 (or32 (or32 (shl32 (IntKind.u32.wrap ((bAt s (4 * t)).toNat : Int)) 24) (shl32 (IntKind.u32.wrap ((bAt s (4 * t + 1)).toNat : Int)) 16)) (shl32 (IntKind.u32.wrap ((bAt s (4 * t + 2)).toNat : Int)) 8)) (IntKind.u32.wrap ((bAt s (4 * t + 3)).toNat : Int))
/-- The next word. -/
def nwF (s : ByteArray) (t : Nat) (la : Nat → Int) : Int :=
  if t < 16 then be32 s t else add32 (add32 (la (t % 16)) (sS0 (la ((t % 16 + 1) % 16)))) (add32 (la ((t % 16 + 9) % 16)) (sS1 (la ((t % 16 + 14) % 16))))
def laF (s : ByteArray) (t : Nat) (la : Nat → Int) : Nat → Int := fun i => if i = t % 16 then nwF s t la else la i
noncomputable def stS (ini : List Int) (s : ByteArray) (t : Nat) (x la : Nat → Int) (d : Nat → Value) : St :=
  ⟨tmS t d, hpS ini [x 0, x 1, x 2, x 3, x 4, x 5, x 6, x 7] [la 0, la 1, la 2, la 3, la 4, la 5, la 6, la 7, la 8, la 9, la 10, la 11, la 12, la 13, la 14, la 15] s⟩
def fgS : List Nat := [2, 4, 5, 6, 7, 8] ++ List.range' 10 79
def keepS : List Nat := [0, 1, 2, 3, 4, 5, 6, 7]
def fxE (o : SO) : Prop := o = o
theorem fxE_t (o : SO) : fxE o := rfl
noncomputable def lopF (ini : List Int) (s : ByteArray) : SO := .fx (.lop false (tsT ini s) (rfP rf) (rfA rf) (rfB rf))
noncomputable def LS (ini : List Int) (s : ByteArray) (t : Nat) : List Prop :=
  if t < 16 then [4 * t ≤ 4 * t + 4 ∧ 4 * t + 4 ≤ s.size, fxE (lopF ini s), fxE (lopF ini s)] else List.replicate 70 (fxE (lopS ini s)) ++ [fxE (lopF ini s), fxE (lopF ini s)]
def outS (n0 : Nat) (keep fg : List Nat) (r : Rr Fin) (T : St) (L : List Prop) (d : Nat → Value) : Option (Bool × St × List Prop × List SV) × Option (Bool × St × List Prop × List SV) :=
  match r with
  | .ok f [] c => match f.e with
    | .normal => (some (cutB n0 keep fg f.st, cutV keep fg f.st d, c.props [], c.lefts []), some (true, T, L, c.rights []))
    | _ => (none, some (true, T, L, []))
  | _ => (none, some (true, T, L, []))
def givesS (n0 : Nat) (keep fg : List Nat) (r : Rr Fin) (T : St) (L : List Prop) (d : Nat → Value) : Prop := (outS n0 keep fg r T L d).1 = (outS n0 keep fg r T L d).2
noncomputable def roundSt (ini : List Int) (s : ByteArray) (t : Nat) (x la : Nat → Int) (d d' : Nat → Value) : Prop :=
  givesS 7 keepS fgS (run X0 60 lb (stS ini s t x la d).tm (stS ini s t x la d).hp []) (stS ini s (t + 1) (rndF x (KL.getD t 0) (nwF s t la)) (laF s t la) d') (LS ini s t) d'
end Go.Proofs.YtacgamdbmllaoaaDoor
