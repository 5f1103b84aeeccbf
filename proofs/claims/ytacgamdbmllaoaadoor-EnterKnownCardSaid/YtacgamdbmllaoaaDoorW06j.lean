/-
  Walks of functions, reckoned through, and what they give (part W06j). No condition beyond what each says. By an AI agent.
-/
import Derived.Test.YtacgamdbmllaoaaDoorW06i0
import Derived.Test.YtacgamdbmllaoaaDoorW06i1
import Derived.Test.YtacgamdbmllaoaaDoorW06i2
import Derived.Test.YtacgamdbmllaoaaDoorW06i3
import Derived.Test.YtacgamdbmllaoaaDoorW06i4
import Derived.Test.YtacgamdbmllaoaaDoorW06i5
import Derived.Test.YtacgamdbmllaoaaDoorW06i6
import Derived.Test.YtacgamdbmllaoaaDoorW06i7
import Derived.Test.YtacgamdbmllaoaaDoorW06i8
import Derived.Test.YtacgamdbmllaoaaDoorW06i9
import Derived.Test.YtacgamdbmllaoaaDoorW06i10
import Derived.Test.YtacgamdbmllaoaaDoorW06i11
import Derived.Test.YtacgamdbmllaoaaDoorW06i12
import Derived.Test.YtacgamdbmllaoaaDoorW06i13
import Derived.Test.YtacgamdbmllaoaaDoorW06i14
import Derived.Test.YtacgamdbmllaoaaDoorW06i15
namespace Go.Proofs.YtacgamdbmllaoaaDoor
open Go.Ex
theorem dig_all (z : Z) (ini : List Int) (hi : ini.length = 8) (m : Int) (l : List UInt8) : ∀ r : Nat, l.length = r → r < 64 → digR z ini l m
  | 0, h, _ => digl_0 z ini hi m l h
  | 1, h, _ => digl_1 z ini hi m l h
  | 2, h, _ => digl_2 z ini hi m l h
  | 3, h, _ => digl_3 z ini hi m l h
  | 4, h, _ => digl_4 z ini hi m l h
  | 5, h, _ => digl_5 z ini hi m l h
  | 6, h, _ => digl_6 z ini hi m l h
  | 7, h, _ => digl_7 z ini hi m l h
  | 8, h, _ => digl_8 z ini hi m l h
  | 9, h, _ => digl_9 z ini hi m l h
  | 10, h, _ => digl_10 z ini hi m l h
  | 11, h, _ => digl_11 z ini hi m l h
  | 12, h, _ => digl_12 z ini hi m l h
  | 13, h, _ => digl_13 z ini hi m l h
  | 14, h, _ => digl_14 z ini hi m l h
  | 15, h, _ => digl_15 z ini hi m l h
  | 16, h, _ => digl_16 z ini hi m l h
  | 17, h, _ => digl_17 z ini hi m l h
  | 18, h, _ => digl_18 z ini hi m l h
  | 19, h, _ => digl_19 z ini hi m l h
  | 20, h, _ => digl_20 z ini hi m l h
  | 21, h, _ => digl_21 z ini hi m l h
  | 22, h, _ => digl_22 z ini hi m l h
  | 23, h, _ => digl_23 z ini hi m l h
  | 24, h, _ => digl_24 z ini hi m l h
  | 25, h, _ => digl_25 z ini hi m l h
  | 26, h, _ => digl_26 z ini hi m l h
  | 27, h, _ => digl_27 z ini hi m l h
  | 28, h, _ => digl_28 z ini hi m l h
  | 29, h, _ => digl_29 z ini hi m l h
  | 30, h, _ => digl_30 z ini hi m l h
  | 31, h, _ => digl_31 z ini hi m l h
  | 32, h, _ => digl_32 z ini hi m l h
  | 33, h, _ => digl_33 z ini hi m l h
  | 34, h, _ => digl_34 z ini hi m l h
  | 35, h, _ => digl_35 z ini hi m l h
  | 36, h, _ => digl_36 z ini hi m l h
  | 37, h, _ => digl_37 z ini hi m l h
  | 38, h, _ => digl_38 z ini hi m l h
  | 39, h, _ => digl_39 z ini hi m l h
  | 40, h, _ => digl_40 z ini hi m l h
  | 41, h, _ => digl_41 z ini hi m l h
  | 42, h, _ => digl_42 z ini hi m l h
  | 43, h, _ => digl_43 z ini hi m l h
  | 44, h, _ => digl_44 z ini hi m l h
  | 45, h, _ => digl_45 z ini hi m l h
  | 46, h, _ => digl_46 z ini hi m l h
  | 47, h, _ => digl_47 z ini hi m l h
  | 48, h, _ => digl_48 z ini hi m l h
  | 49, h, _ => digl_49 z ini hi m l h
  | 50, h, _ => digl_50 z ini hi m l h
  | 51, h, _ => digl_51 z ini hi m l h
  | 52, h, _ => digl_52 z ini hi m l h
  | 53, h, _ => digl_53 z ini hi m l h
  | 54, h, _ => digl_54 z ini hi m l h
  | 55, h, _ => digl_55 z ini hi m l h
  | 56, h, _ => digl_56 z ini hi m l h
  | 57, h, _ => digl_57 z ini hi m l h
  | 58, h, _ => digl_58 z ini hi m l h
  | 59, h, _ => digl_59 z ini hi m l h
  | 60, h, _ => digl_60 z ini hi m l h
  | 61, h, _ => digl_61 z ini hi m l h
  | 62, h, _ => digl_62 z ini hi m l h
  | 63, h, _ => digl_63 z ini hi m l h
  | r + 64, _, h => absurd h (by omega)
end Go.Proofs.YtacgamdbmllaoaaDoor
