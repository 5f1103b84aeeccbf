/-
  Walks of functions, reckoned through, and what they give (part W07d). No condition beyond what each says. By an AI agent.
-/
import Derived.Test.YtgefcokanfbpbaaDoorW07c
namespace Go.Proofs.YtgefcokanfbpbaaDoor
open Go.Ex
open Go.RowKit (Below)
set_option linter.unusedVariables false
set_option linter.unusedSimpArgs false
set_option maxRecDepth 1000000
/-! ### Sum, by the number of blocks -/
def iv8 : List Int := [1779033703, 3144134277, 1013904242, 2773480762, 1359893119, 2600822924, 528734635, 1541459225]
def blkZ (T : ByteArray) (j : Nat) : List Int := (List.range 64).map fun i : Nat => byteAt T ((64 * j + i : Nat) : Int)
def chZ (G : TF) (T : ByteArray) : Nat → List Int
  | 0 => iv8
  | j + 1 => (List.range 8).map (G (chZ G T j) (fnz (blkZ T j)))
def dR (x : Nat → Int) (i : Nat) : Int := IntKind.u8.wrap ((IntKind.u64.wrap ((x (i / 4)).tdiv ((2 ^ (24 - 8 * (i % 4)) : Nat) : Int))).tmod 256)
def dgR (zs : List Int) : SV := .agg ((List.range 32).map fun i => .val (.int .u8 (dR (fnz zs) i)))
def LZ (G : TF) (T : ByteArray) (nb : Nat) : List Prop := (List.range nb).map fun j => tkP G (chZ G T j) (blkZ T j)
def sumP (q : Rf) (G : TF) (PD : ByteArray → ByteArray) (s : ByteArray) (nb : Nat) : Prop :=
  givesV (topR (XS q G (64 * nb) PD) (run (XS q G (64 * nb) PD) 80) 10 [.val (.string s)] [.dead, .dead] []) (dgR (chZ G (PD s) nb)) (paP (64 * nb) PD s :: LZ G (PD s) nb)
theorem sum_1 (q : Rf) (G : TF) (PD : ByteArray → ByteArray) (s : ByteArray) : sumP q G PD s 1 := by unfold sumP givesV; kernel_rfl
theorem sum_2 (q : Rf) (G : TF) (PD : ByteArray → ByteArray) (s : ByteArray) : sumP q G PD s 2 := by unfold sumP givesV; kernel_rfl
theorem sum_3 (q : Rf) (G : TF) (PD : ByteArray → ByteArray) (s : ByteArray) : sumP q G PD s 3 := by unfold sumP givesV; kernel_rfl
theorem sum_4 (q : Rf) (G : TF) (PD : ByteArray → ByteArray) (s : ByteArray) : sumP q G PD s 4 := by unfold sumP givesV; kernel_rfl
end Go.Proofs.YtgefcokanfbpbaaDoor
