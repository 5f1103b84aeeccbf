/-
  Walks of functions, reckoned through, and what they give (part K08h). No condition beyond what each says. By an AI agent.
-/
import Derived.Test.YtaeokmojogekaaaDoorW06m
import Derived.Test.YtaeokmojogekaaaDoorR08
namespace Go.Proofs.YtaeokmojogekaaaDoor
open Go.Ex
open Go.RowKit (Below)
set_option linter.unusedVariables false
set_option maxRecDepth 1000000
/-! ### codes (hmac), of told keys and texts -/
def mixB (k : Int) (c : UInt8) : UInt8 := UInt8.ofNat (IntKind.u8.wrap ((BitVec.ofInt IntKind.u8.bits (c.toNat : Int) ^^^ BitVec.ofInt IntKind.u8.bits k).toNat : Int)).toNat
def mixL (k : Int) (l : List UInt8) : List UInt8 := l.map (mixB k) ++ List.replicate (64 - l.length) (UInt8.ofNat (Int.toNat k))
def idB (b : UInt8) : UInt8 := UInt8.ofNat (Int.toNat (b.toNat : Int))
def hmI (k t : List UInt8) : ByteArray := ⟨(mixL 54 k ++ t.map idB).toArray⟩
def dgL (w : List Int) : List UInt8 := (List.range 32).map fun i => UInt8.ofNat (Int.toNat (dB w i))
def hmO (k : List UInt8) (w : List Int) : ByteArray := ⟨(mixL 92 k ++ (dgL w).map idB).toArray⟩
def hmR (S : ByteArray → List Int) (k t : List UInt8) : List Int := S (hmO k (S (hmI k t)))
noncomputable def hmP (q : Sh) (k t : List UInt8) : Prop :=
  givesV (topR (rawX q (sumG q)) (run (rawX q (sumG q)) 80) 21 [.bts false k, .bts false t] [globS] []) (dgS (hmR q.S k t)) [P9 (hmI k t) 0 glL, P9 (hmO k (q.S (hmI k t))) 0 glL]
end Go.Proofs.YtaeokmojogekaaaDoor
