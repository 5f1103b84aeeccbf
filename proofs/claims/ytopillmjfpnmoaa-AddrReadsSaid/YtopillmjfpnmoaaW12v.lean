/-
  Walks of functions, reckoned through, and what they give (part W12v). No condition beyond what each says. By an AI agent.
-/
import Derived.Test.YtopillmjfpnmoaaW12b
namespace Go.Proofs.Ytopillmjfpnmoaa
open Go.Ex
open Go.RowKit (Below)
set_option linter.unusedVariables false
set_option linter.unusedSimpArgs false
/-- A draft. -/
structure DV where
  ec : Bool
  wide : Bool
  po : Bool
  i : Int
  n : Int
  b0 : Int
  b1 : Int
  b2 : Int
  b3 : Int
  b4 : Int
  b5 : Int
  b6 : Int
  b7 : Int
  b8 : Int
  b9 : Int
  b10 : Int
  b11 : Int
  b12 : Int
  b13 : Int
  b14 : Int
  b15 : Int
  b16 : Int
  b17 : Int
  b18 : Int
  b19 : Int
  b20 : Int
  b21 : Int
  b22 : Int
  b23 : Int
def DV.sv (x : DV) : SV := .agg [.val (.bool x.ec), .val (.bool x.wide), .val (.bool x.po), .val (.int .u8 x.i), .val (.int .u16 x.n), .val (.int .u8 x.b0), .val (.int .u8 x.b1), .val (.int .u8 x.b2), .val (.int .u8 x.b3), .val (.int .u8 x.b4), .val (.int .u8 x.b5), .val (.int .u8 x.b6), .val (.int .u8 x.b7), .val (.int .u8 x.b8), .val (.int .u8 x.b9), .val (.int .u8 x.b10), .val (.int .u8 x.b11), .val (.int .u8 x.b12), .val (.int .u8 x.b13), .val (.int .u8 x.b14), .val (.int .u8 x.b15), .val (.int .u8 x.b16), .val (.int .u8 x.b17), .val (.int .u8 x.b18), .val (.int .u8 x.b19), .val (.int .u8 x.b20), .val (.int .u8 x.b21), .val (.int .u8 x.b22), .val (.int .u8 x.b23)]
def DV.v (x : DV) : Value := .agg #[.bool x.ec, .bool x.wide, .bool x.po, .int .u8 x.i, .int .u16 x.n, .int .u8 x.b0, .int .u8 x.b1, .int .u8 x.b2, .int .u8 x.b3, .int .u8 x.b4, .int .u8 x.b5, .int .u8 x.b6, .int .u8 x.b7, .int .u8 x.b8, .int .u8 x.b9, .int .u8 x.b10, .int .u8 x.b11, .int .u8 x.b12, .int .u8 x.b13, .int .u8 x.b14, .int .u8 x.b15, .int .u8 x.b16, .int .u8 x.b17, .int .u8 x.b18, .int .u8 x.b19, .int .u8 x.b20, .int .u8 x.b21, .int .u8 x.b22, .int .u8 x.b23]
def DV.ip4 (x : DV) : ByteArray := ⟨#[UInt8.ofNat x.b0.toNat, UInt8.ofNat x.b1.toNat, UInt8.ofNat x.b2.toNat, UInt8.ofNat x.b3.toNat]⟩
def DV.ip16 (x : DV) : ByteArray := ⟨#[UInt8.ofNat x.b0.toNat, UInt8.ofNat x.b1.toNat, UInt8.ofNat x.b2.toNat, UInt8.ofNat x.b3.toNat, UInt8.ofNat x.b4.toNat, UInt8.ofNat x.b5.toNat, UInt8.ofNat x.b6.toNat, UInt8.ofNat x.b7.toNat, UInt8.ofNat x.b8.toNat, UInt8.ofNat x.b9.toNat, UInt8.ofNat x.b10.toNat, UInt8.ofNat x.b11.toNat, UInt8.ofNat x.b12.toNat, UInt8.ofNat x.b13.toNat, UInt8.ofNat x.b14.toNat, UInt8.ofNat x.b15.toNat]⟩
def DV.mac8 (x : DV) : ByteArray := ⟨#[UInt8.ofNat x.b16.toNat, UInt8.ofNat x.b17.toNat, UInt8.ofNat x.b18.toNat, UInt8.ofNat x.b19.toNat, UInt8.ofNat x.b20.toNat, UInt8.ofNat x.b21.toNat, UInt8.ofNat x.b22.toNat, UInt8.ofNat x.b23.toNat]⟩
def DV.j (x : DV) : AV := ⟨x.ec, IntKind.i64.wrap x.i, if x.wide then x.ip16 else x.ip4, x.po, if x.po then IntKind.i64.wrap x.n else 0, if x.ec then ⟨#[]⟩ else x.mac8⟩
end Go.Proofs.Ytopillmjfpnmoaa
