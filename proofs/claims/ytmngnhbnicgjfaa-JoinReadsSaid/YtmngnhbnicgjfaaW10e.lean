/-
  Walks of functions, reckoned through, and what they give (part W10e). No condition beyond what each says. By an AI agent.
-/
import Derived.Test.YtmngnhbnicgjfaaW10w
import Derived.Test.YtmngnhbnicgjfaaW10d
namespace Go.Proofs.Ytmngnhbnicgjfaa
open Go.Ex
/-- A draft. -/
structure DV where
  d : Int
  i : Int
  b : Bool
  t : Int
  n : Int
  m0 : Int
  m1 : Int
  m2 : Int
  m3 : Int
  m4 : Int
  m5 : Int
  m6 : Int
  m7 : Int
  m8 : Int
  m9 : Int
  m10 : Int
  m11 : Int
  m12 : Int
  m13 : Int
  m14 : Int
  m15 : Int
  m16 : Int
  m17 : Int
  m18 : Int
  m19 : Int
def DV.sv (x : DV) : SV := .agg [.val (.int .u8 x.d), .val (.int .u8 x.i), .val (.bool x.b), .val (.int .u32 x.t), .val (.int .u32 x.n), .val (.int .u8 x.m0), .val (.int .u8 x.m1), .val (.int .u8 x.m2), .val (.int .u8 x.m3), .val (.int .u8 x.m4), .val (.int .u8 x.m5), .val (.int .u8 x.m6), .val (.int .u8 x.m7), .val (.int .u8 x.m8), .val (.int .u8 x.m9), .val (.int .u8 x.m10), .val (.int .u8 x.m11), .val (.int .u8 x.m12), .val (.int .u8 x.m13), .val (.int .u8 x.m14), .val (.int .u8 x.m15), .val (.int .u8 x.m16), .val (.int .u8 x.m17), .val (.int .u8 x.m18), .val (.int .u8 x.m19)]
def DV.v (x : DV) : Value := .agg #[.int .u8 x.d, .int .u8 x.i, .bool x.b, .int .u32 x.t, .int .u32 x.n, .int .u8 x.m0, .int .u8 x.m1, .int .u8 x.m2, .int .u8 x.m3, .int .u8 x.m4, .int .u8 x.m5, .int .u8 x.m6, .int .u8 x.m7, .int .u8 x.m8, .int .u8 x.m9, .int .u8 x.m10, .int .u8 x.m11, .int .u8 x.m12, .int .u8 x.m13, .int .u8 x.m14, .int .u8 x.m15, .int .u8 x.m16, .int .u8 x.m17, .int .u8 x.m18, .int .u8 x.m19]
def DV.ms (x : DV) : List Int := [x.m0, x.m1, x.m2, x.m3, x.m4, x.m5, x.m6, x.m7, x.m8, x.m9, x.m10, x.m11, x.m12, x.m13, x.m14, x.m15, x.m16, x.m17, x.m18, x.m19]
def DV.j (x : DV) : JV := draft x.d x.i x.b x.t x.n x.ms
noncomputable def allC2 : Con Try.prog := draftC.or (bytesC.or allC)
noncomputable def Z : Cx := conned allC2
end Go.Proofs.Ytmngnhbnicgjfaa
