/-
  Walks of functions, reckoned through, and what they give (part W06h). No condition beyond what each says. By an AI agent.
-/
import Derived.Test.YtacgamdbmllaoaaDoorW06g
namespace Go.Proofs.YtacgamdbmllaoaaDoor
open Go.Ex
open Go.RowKit (Below)
set_option linter.unusedVariables false
set_option maxRecDepth 1000000
/-! ### what Digest gives -/
def lenB (m : Int) (k : Nat) : UInt8 := UInt8.ofNat (Int.toNat (IntKind.u8.wrap ((IntKind.u64.wrap (m * 8)).fdiv (2 ^ k))))
/-- The last one or two blocks, of what is left and of how much was written. -/
def padB (l : List UInt8) (m : Int) : List UInt8 :=
  l.map (fun b => UInt8.ofNat (Int.toNat (b.toNat : Int))) ++ UInt8.ofNat (Int.toNat 128) :: (List.replicate ((119 - l.length) % 64) (UInt8.ofNat (Int.toNat 0)) ++ [lenB m 56, lenB m 48, lenB m 40, lenB m 32, lenB m 24, lenB m 16, lenB m 8, lenB m 0])
def blkL (l : List UInt8) (m : Int) (i : Nat) : ByteArray := ⟨((((padB l m).drop (64 * i)).take 64)).toArray⟩
noncomputable def dgW (z : Z) (ini : List Int) (l : List UInt8) (m : Int) : List Int :=
  if l.length < 56 then tkF z ini (blkL l m 0) else tkF z (tkF z ini (blkL l m 0)) (blkL l m 1)
def dB (w : List Int) (i : Nat) : Int := IntKind.u8.wrap ((w.getD (i / 4) 0).fdiv (2 ^ (24 - 8 * (i % 4))))
def dgS (w : List Int) : SV := .agg ((List.range 32).map fun i => .val (.int .u8 (dB w i)))
noncomputable def hD (ini : List Int) (l : List UInt8) (m : Int) : List SO := [globS, .cells false (ini.map u ++ [.bts false l, .val (.int .u64 m)])]
noncomputable def LD (z : Z) (ini : List Int) (l : List UInt8) (m : Int) : List Prop :=
  if l.length < 56 then [P23 (ini.map u) (blkL l m 0) 0 glL] else [P23 (ini.map u) (blkL l m 0) 0 glL, P23 ((tkF z ini (blkL l m 0)).map u) (blkL l m 1) 0 glL, P23 ((tkF z ini (blkL l m 0)).map u) (blkL l m 1) 0 glL]
noncomputable def digR (z : Z) (ini : List Int) (l : List UInt8) (m : Int) : Prop :=
  givesL (callR (X3 z) (run (X3 z) 90) 60 [.ptr 1 0] (hD ini l m) []) (dgS (dgW z ini l m)) (LD z ini l m)
end Go.Proofs.YtacgamdbmllaoaaDoor
