/-
  Walks of functions, reckoned through, and what they give (part W06i11). No condition beyond what each says. By an AI agent.
-/
import Derived.Test.YtaeokmojogekaaaDoorW06D
namespace Go.Proofs.YtaeokmojogekaaaDoor
open Go.Ex
set_option maxRecDepth 1000000
theorem dig_44 (z : Z) (x0 x1 x2 x3 x4 x5 x6 x7 m : Int) (b0 b1 b2 b3 b4 b5 b6 b7 b8 b9 b10 b11 b12 b13 b14 b15 b16 b17 b18 b19 b20 b21 b22 b23 b24 b25 b26 b27 b28 b29 b30 b31 b32 b33 b34 b35 b36 b37 b38 b39 b40 b41 b42 b43 : UInt8) : digR z [x0, x1, x2, x3, x4, x5, x6, x7] [b0, b1, b2, b3, b4, b5, b6, b7, b8, b9, b10, b11, b12, b13, b14, b15, b16, b17, b18, b19, b20, b21, b22, b23, b24, b25, b26, b27, b28, b29, b30, b31, b32, b33, b34, b35, b36, b37, b38, b39, b40, b41, b42, b43] m := by
  unfold digR givesL; kernel_rfl
theorem digl_44 (z : Z) (ini : List Int) (hi : ini.length = 8) (m : Int) (l : List UInt8) (h : l.length = 44) : digR z ini l m :=
  match ini, hi, l, h with
  | [x0, x1, x2, x3, x4, x5, x6, x7], _, b0 :: b1 :: b2 :: b3 :: b4 :: b5 :: b6 :: b7 :: b8 :: b9 :: b10 :: b11 :: b12 :: b13 :: b14 :: b15 :: b16 :: b17 :: b18 :: b19 :: b20 :: b21 :: b22 :: b23 :: b24 :: b25 :: b26 :: b27 :: b28 :: b29 :: b30 :: b31 :: b32 :: b33 :: b34 :: b35 :: b36 :: b37 :: b38 :: b39 :: b40 :: b41 :: b42 :: b43 :: [], _ => dig_44 z x0 x1 x2 x3 x4 x5 x6 x7 m b0 b1 b2 b3 b4 b5 b6 b7 b8 b9 b10 b11 b12 b13 b14 b15 b16 b17 b18 b19 b20 b21 b22 b23 b24 b25 b26 b27 b28 b29 b30 b31 b32 b33 b34 b35 b36 b37 b38 b39 b40 b41 b42 b43
theorem dig_45 (z : Z) (x0 x1 x2 x3 x4 x5 x6 x7 m : Int) (b0 b1 b2 b3 b4 b5 b6 b7 b8 b9 b10 b11 b12 b13 b14 b15 b16 b17 b18 b19 b20 b21 b22 b23 b24 b25 b26 b27 b28 b29 b30 b31 b32 b33 b34 b35 b36 b37 b38 b39 b40 b41 b42 b43 b44 : UInt8) : digR z [x0, x1, x2, x3, x4, x5, x6, x7] [b0, b1, b2, b3, b4, b5, b6, b7, b8, b9, b10, b11, b12, b13, b14, b15, b16, b17, b18, b19, b20, b21, b22, b23, b24, b25, b26, b27, b28, b29, b30, b31, b32, b33, b34, b35, b36, b37, b38, b39, b40, b41, b42, b43, b44] m := by
  unfold digR givesL; kernel_rfl
theorem digl_45 (z : Z) (ini : List Int) (hi : ini.length = 8) (m : Int) (l : List UInt8) (h : l.length = 45) : digR z ini l m :=
  match ini, hi, l, h with
  | [x0, x1, x2, x3, x4, x5, x6, x7], _, b0 :: b1 :: b2 :: b3 :: b4 :: b5 :: b6 :: b7 :: b8 :: b9 :: b10 :: b11 :: b12 :: b13 :: b14 :: b15 :: b16 :: b17 :: b18 :: b19 :: b20 :: b21 :: b22 :: b23 :: b24 :: b25 :: b26 :: b27 :: b28 :: b29 :: b30 :: b31 :: b32 :: b33 :: b34 :: b35 :: b36 :: b37 :: b38 :: b39 :: b40 :: b41 :: b42 :: b43 :: b44 :: [], _ => dig_45 z x0 x1 x2 x3 x4 x5 x6 x7 m b0 b1 b2 b3 b4 b5 b6 b7 b8 b9 b10 b11 b12 b13 b14 b15 b16 b17 b18 b19 b20 b21 b22 b23 b24 b25 b26 b27 b28 b29 b30 b31 b32 b33 b34 b35 b36 b37 b38 b39 b40 b41 b42 b43 b44
theorem dig_46 (z : Z) (x0 x1 x2 x3 x4 x5 x6 x7 m : Int) (b0 b1 b2 b3 b4 b5 b6 b7 b8 b9 b10 b11 b12 b13 b14 b15 b16 b17 b18 b19 b20 b21 b22 b23 b24 b25 b26 b27 b28 b29 b30 b31 b32 b33 b34 b35 b36 b37 b38 b39 b40 b41 b42 b43 b44 b45 : UInt8) : digR z [x0, x1, x2, x3, x4, x5, x6, x7] [b0, b1, b2, b3, b4, b5, b6, b7, b8, b9, b10, b11, b12, b13, b14, b15, b16, b17, b18, b19, b20, b21, b22, b23, b24, b25, b26, b27, b28, b29, b30, b31, b32, b33, b34, b35, b36, b37, b38, b39, b40, b41, b42, b43, b44, b45] m := by
  unfold digR givesL; kernel_rfl
theorem digl_46 (z : Z) (ini : List Int) (hi : ini.length = 8) (m : Int) (l : List UInt8) (h : l.length = 46) : digR z ini l m :=
  match ini, hi, l, h with
  | [x0, x1, x2, x3, x4, x5, x6, x7], _, b0 :: b1 :: b2 :: b3 :: b4 :: b5 :: b6 :: b7 :: b8 :: b9 :: b10 :: b11 :: b12 :: b13 :: b14 :: b15 :: b16 :: b17 :: b18 :: b19 :: b20 :: b21 :: b22 :: b23 :: b24 :: b25 :: b26 :: b27 :: b28 :: b29 :: b30 :: b31 :: b32 :: b33 :: b34 :: b35 :: b36 :: b37 :: b38 :: b39 :: b40 :: b41 :: b42 :: b43 :: b44 :: b45 :: [], _ => dig_46 z x0 x1 x2 x3 x4 x5 x6 x7 m b0 b1 b2 b3 b4 b5 b6 b7 b8 b9 b10 b11 b12 b13 b14 b15 b16 b17 b18 b19 b20 b21 b22 b23 b24 b25 b26 b27 b28 b29 b30 b31 b32 b33 b34 b35 b36 b37 b38 b39 b40 b41 b42 b43 b44 b45
theorem dig_47 (z : Z) (x0 x1 x2 x3 x4 x5 x6 x7 m : Int) (b0 b1 b2 b3 b4 b5 b6 b7 b8 b9 b10 b11 b12 b13 b14 b15 b16 b17 b18 b19 b20 b21 b22 b23 b24 b25 b26 b27 b28 b29 b30 b31 b32 b33 b34 b35 b36 b37 b38 b39 b40 b41 b42 b43 b44 b45 b46 : UInt8) : digR z [x0, x1, x2, x3, x4, x5, x6, x7] [b0, b1, b2, b3, b4, b5, b6, b7, b8, b9, b10, b11, b12, b13, b14, b15, b16, b17, b18, b19, b20, b21, b22, b23, b24, b25, b26, b27, b28, b29, b30, b31, b32, b33, b34, b35, b36, b37, b38, b39, b40, b41, b42, b43, b44, b45, b46] m := by
  unfold digR givesL; kernel_rfl
theorem digl_47 (z : Z) (ini : List Int) (hi : ini.length = 8) (m : Int) (l : List UInt8) (h : l.length = 47) : digR z ini l m :=
  match ini, hi, l, h with
  | [x0, x1, x2, x3, x4, x5, x6, x7], _, b0 :: b1 :: b2 :: b3 :: b4 :: b5 :: b6 :: b7 :: b8 :: b9 :: b10 :: b11 :: b12 :: b13 :: b14 :: b15 :: b16 :: b17 :: b18 :: b19 :: b20 :: b21 :: b22 :: b23 :: b24 :: b25 :: b26 :: b27 :: b28 :: b29 :: b30 :: b31 :: b32 :: b33 :: b34 :: b35 :: b36 :: b37 :: b38 :: b39 :: b40 :: b41 :: b42 :: b43 :: b44 :: b45 :: b46 :: [], _ => dig_47 z x0 x1 x2 x3 x4 x5 x6 x7 m b0 b1 b2 b3 b4 b5 b6 b7 b8 b9 b10 b11 b12 b13 b14 b15 b16 b17 b18 b19 b20 b21 b22 b23 b24 b25 b26 b27 b28 b29 b30 b31 b32 b33 b34 b35 b36 b37 b38 b39 b40 b41 b42 b43 b44 b45 b46
end Go.Proofs.YtaeokmojogekaaaDoor
