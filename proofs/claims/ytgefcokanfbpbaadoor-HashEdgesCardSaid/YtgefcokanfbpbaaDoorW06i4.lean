/-
  Walks of functions, reckoned through, and what they give (part W06i4). No condition beyond what each says. By an AI agent.
-/
import Derived.Test.YtgefcokanfbpbaaDoorW06D
namespace Go.Proofs.YtgefcokanfbpbaaDoor
open Go.Ex
set_option maxRecDepth 1000000
theorem dig_32 (z : Z) (x0 x1 x2 x3 x4 x5 x6 x7 m : Int) (b0 b1 b2 b3 b4 b5 b6 b7 b8 b9 b10 b11 b12 b13 b14 b15 b16 b17 b18 b19 b20 b21 b22 b23 b24 b25 b26 b27 b28 b29 b30 b31 : UInt8) : digR z [x0, x1, x2, x3, x4, x5, x6, x7] [b0, b1, b2, b3, b4, b5, b6, b7, b8, b9, b10, b11, b12, b13, b14, b15, b16, b17, b18, b19, b20, b21, b22, b23, b24, b25, b26, b27, b28, b29, b30, b31] m := by
  unfold digR givesL; kernel_rfl
theorem digl_32 (z : Z) (ini : List Int) (hi : ini.length = 8) (m : Int) (l : List UInt8) (h : l.length = 32) : digR z ini l m :=
  match ini, hi, l, h with
  | [x0, x1, x2, x3, x4, x5, x6, x7], _, b0 :: b1 :: b2 :: b3 :: b4 :: b5 :: b6 :: b7 :: b8 :: b9 :: b10 :: b11 :: b12 :: b13 :: b14 :: b15 :: b16 :: b17 :: b18 :: b19 :: b20 :: b21 :: b22 :: b23 :: b24 :: b25 :: b26 :: b27 :: b28 :: b29 :: b30 :: b31 :: [], _ => dig_32 z x0 x1 x2 x3 x4 x5 x6 x7 m b0 b1 b2 b3 b4 b5 b6 b7 b8 b9 b10 b11 b12 b13 b14 b15 b16 b17 b18 b19 b20 b21 b22 b23 b24 b25 b26 b27 b28 b29 b30 b31
theorem dig_33 (z : Z) (x0 x1 x2 x3 x4 x5 x6 x7 m : Int) (b0 b1 b2 b3 b4 b5 b6 b7 b8 b9 b10 b11 b12 b13 b14 b15 b16 b17 b18 b19 b20 b21 b22 b23 b24 b25 b26 b27 b28 b29 b30 b31 b32 : UInt8) : digR z [x0, x1, x2, x3, x4, x5, x6, x7] [b0, b1, b2, b3, b4, b5, b6, b7, b8, b9, b10, b11, b12, b13, b14, b15, b16, b17, b18, b19, b20, b21, b22, b23, b24, b25, b26, b27, b28, b29, b30, b31, b32] m := by
  unfold digR givesL; kernel_rfl
theorem digl_33 (z : Z) (ini : List Int) (hi : ini.length = 8) (m : Int) (l : List UInt8) (h : l.length = 33) : digR z ini l m :=
  match ini, hi, l, h with
  | [x0, x1, x2, x3, x4, x5, x6, x7], _, b0 :: b1 :: b2 :: b3 :: b4 :: b5 :: b6 :: b7 :: b8 :: b9 :: b10 :: b11 :: b12 :: b13 :: b14 :: b15 :: b16 :: b17 :: b18 :: b19 :: b20 :: b21 :: b22 :: b23 :: b24 :: b25 :: b26 :: b27 :: b28 :: b29 :: b30 :: b31 :: b32 :: [], _ => dig_33 z x0 x1 x2 x3 x4 x5 x6 x7 m b0 b1 b2 b3 b4 b5 b6 b7 b8 b9 b10 b11 b12 b13 b14 b15 b16 b17 b18 b19 b20 b21 b22 b23 b24 b25 b26 b27 b28 b29 b30 b31 b32
theorem dig_34 (z : Z) (x0 x1 x2 x3 x4 x5 x6 x7 m : Int) (b0 b1 b2 b3 b4 b5 b6 b7 b8 b9 b10 b11 b12 b13 b14 b15 b16 b17 b18 b19 b20 b21 b22 b23 b24 b25 b26 b27 b28 b29 b30 b31 b32 b33 : UInt8) : digR z [x0, x1, x2, x3, x4, x5, x6, x7] [b0, b1, b2, b3, b4, b5, b6, b7, b8, b9, b10, b11, b12, b13, b14, b15, b16, b17, b18, b19, b20, b21, b22, b23, b24, b25, b26, b27, b28, b29, b30, b31, b32, b33] m := by
  unfold digR givesL; kernel_rfl
theorem digl_34 (z : Z) (ini : List Int) (hi : ini.length = 8) (m : Int) (l : List UInt8) (h : l.length = 34) : digR z ini l m :=
  match ini, hi, l, h with
  | [x0, x1, x2, x3, x4, x5, x6, x7], _, b0 :: b1 :: b2 :: b3 :: b4 :: b5 :: b6 :: b7 :: b8 :: b9 :: b10 :: b11 :: b12 :: b13 :: b14 :: b15 :: b16 :: b17 :: b18 :: b19 :: b20 :: b21 :: b22 :: b23 :: b24 :: b25 :: b26 :: b27 :: b28 :: b29 :: b30 :: b31 :: b32 :: b33 :: [], _ => dig_34 z x0 x1 x2 x3 x4 x5 x6 x7 m b0 b1 b2 b3 b4 b5 b6 b7 b8 b9 b10 b11 b12 b13 b14 b15 b16 b17 b18 b19 b20 b21 b22 b23 b24 b25 b26 b27 b28 b29 b30 b31 b32 b33
theorem dig_35 (z : Z) (x0 x1 x2 x3 x4 x5 x6 x7 m : Int) (b0 b1 b2 b3 b4 b5 b6 b7 b8 b9 b10 b11 b12 b13 b14 b15 b16 b17 b18 b19 b20 b21 b22 b23 b24 b25 b26 b27 b28 b29 b30 b31 b32 b33 b34 : UInt8) : digR z [x0, x1, x2, x3, x4, x5, x6, x7] [b0, b1, b2, b3, b4, b5, b6, b7, b8, b9, b10, b11, b12, b13, b14, b15, b16, b17, b18, b19, b20, b21, b22, b23, b24, b25, b26, b27, b28, b29, b30, b31, b32, b33, b34] m := by
  unfold digR givesL; kernel_rfl
theorem digl_35 (z : Z) (ini : List Int) (hi : ini.length = 8) (m : Int) (l : List UInt8) (h : l.length = 35) : digR z ini l m :=
  match ini, hi, l, h with
  | [x0, x1, x2, x3, x4, x5, x6, x7], _, b0 :: b1 :: b2 :: b3 :: b4 :: b5 :: b6 :: b7 :: b8 :: b9 :: b10 :: b11 :: b12 :: b13 :: b14 :: b15 :: b16 :: b17 :: b18 :: b19 :: b20 :: b21 :: b22 :: b23 :: b24 :: b25 :: b26 :: b27 :: b28 :: b29 :: b30 :: b31 :: b32 :: b33 :: b34 :: [], _ => dig_35 z x0 x1 x2 x3 x4 x5 x6 x7 m b0 b1 b2 b3 b4 b5 b6 b7 b8 b9 b10 b11 b12 b13 b14 b15 b16 b17 b18 b19 b20 b21 b22 b23 b24 b25 b26 b27 b28 b29 b30 b31 b32 b33 b34
theorem dig_36 (z : Z) (x0 x1 x2 x3 x4 x5 x6 x7 m : Int) (b0 b1 b2 b3 b4 b5 b6 b7 b8 b9 b10 b11 b12 b13 b14 b15 b16 b17 b18 b19 b20 b21 b22 b23 b24 b25 b26 b27 b28 b29 b30 b31 b32 b33 b34 b35 : UInt8) : digR z [x0, x1, x2, x3, x4, x5, x6, x7] [b0, b1, b2, b3, b4, b5, b6, b7, b8, b9, b10, b11, b12, b13, b14, b15, b16, b17, b18, b19, b20, b21, b22, b23, b24, b25, b26, b27, b28, b29, b30, b31, b32, b33, b34, b35] m := by
  unfold digR givesL; kernel_rfl
theorem digl_36 (z : Z) (ini : List Int) (hi : ini.length = 8) (m : Int) (l : List UInt8) (h : l.length = 36) : digR z ini l m :=
  match ini, hi, l, h with
  | [x0, x1, x2, x3, x4, x5, x6, x7], _, b0 :: b1 :: b2 :: b3 :: b4 :: b5 :: b6 :: b7 :: b8 :: b9 :: b10 :: b11 :: b12 :: b13 :: b14 :: b15 :: b16 :: b17 :: b18 :: b19 :: b20 :: b21 :: b22 :: b23 :: b24 :: b25 :: b26 :: b27 :: b28 :: b29 :: b30 :: b31 :: b32 :: b33 :: b34 :: b35 :: [], _ => dig_36 z x0 x1 x2 x3 x4 x5 x6 x7 m b0 b1 b2 b3 b4 b5 b6 b7 b8 b9 b10 b11 b12 b13 b14 b15 b16 b17 b18 b19 b20 b21 b22 b23 b24 b25 b26 b27 b28 b29 b30 b31 b32 b33 b34 b35
theorem dig_37 (z : Z) (x0 x1 x2 x3 x4 x5 x6 x7 m : Int) (b0 b1 b2 b3 b4 b5 b6 b7 b8 b9 b10 b11 b12 b13 b14 b15 b16 b17 b18 b19 b20 b21 b22 b23 b24 b25 b26 b27 b28 b29 b30 b31 b32 b33 b34 b35 b36 : UInt8) : digR z [x0, x1, x2, x3, x4, x5, x6, x7] [b0, b1, b2, b3, b4, b5, b6, b7, b8, b9, b10, b11, b12, b13, b14, b15, b16, b17, b18, b19, b20, b21, b22, b23, b24, b25, b26, b27, b28, b29, b30, b31, b32, b33, b34, b35, b36] m := by
  unfold digR givesL; kernel_rfl
theorem digl_37 (z : Z) (ini : List Int) (hi : ini.length = 8) (m : Int) (l : List UInt8) (h : l.length = 37) : digR z ini l m :=
  match ini, hi, l, h with
  | [x0, x1, x2, x3, x4, x5, x6, x7], _, b0 :: b1 :: b2 :: b3 :: b4 :: b5 :: b6 :: b7 :: b8 :: b9 :: b10 :: b11 :: b12 :: b13 :: b14 :: b15 :: b16 :: b17 :: b18 :: b19 :: b20 :: b21 :: b22 :: b23 :: b24 :: b25 :: b26 :: b27 :: b28 :: b29 :: b30 :: b31 :: b32 :: b33 :: b34 :: b35 :: b36 :: [], _ => dig_37 z x0 x1 x2 x3 x4 x5 x6 x7 m b0 b1 b2 b3 b4 b5 b6 b7 b8 b9 b10 b11 b12 b13 b14 b15 b16 b17 b18 b19 b20 b21 b22 b23 b24 b25 b26 b27 b28 b29 b30 b31 b32 b33 b34 b35 b36
theorem dig_38 (z : Z) (x0 x1 x2 x3 x4 x5 x6 x7 m : Int) (b0 b1 b2 b3 b4 b5 b6 b7 b8 b9 b10 b11 b12 b13 b14 b15 b16 b17 b18 b19 b20 b21 b22 b23 b24 b25 b26 b27 b28 b29 b30 b31 b32 b33 b34 b35 b36 b37 : UInt8) : digR z [x0, x1, x2, x3, x4, x5, x6, x7] [b0, b1, b2, b3, b4, b5, b6, b7, b8, b9, b10, b11, b12, b13, b14, b15, b16, b17, b18, b19, b20, b21, b22, b23, b24, b25, b26, b27, b28, b29, b30, b31, b32, b33, b34, b35, b36, b37] m := by
  unfold digR givesL; kernel_rfl
theorem digl_38 (z : Z) (ini : List Int) (hi : ini.length = 8) (m : Int) (l : List UInt8) (h : l.length = 38) : digR z ini l m :=
  match ini, hi, l, h with
  | [x0, x1, x2, x3, x4, x5, x6, x7], _, b0 :: b1 :: b2 :: b3 :: b4 :: b5 :: b6 :: b7 :: b8 :: b9 :: b10 :: b11 :: b12 :: b13 :: b14 :: b15 :: b16 :: b17 :: b18 :: b19 :: b20 :: b21 :: b22 :: b23 :: b24 :: b25 :: b26 :: b27 :: b28 :: b29 :: b30 :: b31 :: b32 :: b33 :: b34 :: b35 :: b36 :: b37 :: [], _ => dig_38 z x0 x1 x2 x3 x4 x5 x6 x7 m b0 b1 b2 b3 b4 b5 b6 b7 b8 b9 b10 b11 b12 b13 b14 b15 b16 b17 b18 b19 b20 b21 b22 b23 b24 b25 b26 b27 b28 b29 b30 b31 b32 b33 b34 b35 b36 b37
theorem dig_39 (z : Z) (x0 x1 x2 x3 x4 x5 x6 x7 m : Int) (b0 b1 b2 b3 b4 b5 b6 b7 b8 b9 b10 b11 b12 b13 b14 b15 b16 b17 b18 b19 b20 b21 b22 b23 b24 b25 b26 b27 b28 b29 b30 b31 b32 b33 b34 b35 b36 b37 b38 : UInt8) : digR z [x0, x1, x2, x3, x4, x5, x6, x7] [b0, b1, b2, b3, b4, b5, b6, b7, b8, b9, b10, b11, b12, b13, b14, b15, b16, b17, b18, b19, b20, b21, b22, b23, b24, b25, b26, b27, b28, b29, b30, b31, b32, b33, b34, b35, b36, b37, b38] m := by
  unfold digR givesL; kernel_rfl
theorem digl_39 (z : Z) (ini : List Int) (hi : ini.length = 8) (m : Int) (l : List UInt8) (h : l.length = 39) : digR z ini l m :=
  match ini, hi, l, h with
  | [x0, x1, x2, x3, x4, x5, x6, x7], _, b0 :: b1 :: b2 :: b3 :: b4 :: b5 :: b6 :: b7 :: b8 :: b9 :: b10 :: b11 :: b12 :: b13 :: b14 :: b15 :: b16 :: b17 :: b18 :: b19 :: b20 :: b21 :: b22 :: b23 :: b24 :: b25 :: b26 :: b27 :: b28 :: b29 :: b30 :: b31 :: b32 :: b33 :: b34 :: b35 :: b36 :: b37 :: b38 :: [], _ => dig_39 z x0 x1 x2 x3 x4 x5 x6 x7 m b0 b1 b2 b3 b4 b5 b6 b7 b8 b9 b10 b11 b12 b13 b14 b15 b16 b17 b18 b19 b20 b21 b22 b23 b24 b25 b26 b27 b28 b29 b30 b31 b32 b33 b34 b35 b36 b37 b38
end Go.Proofs.YtgefcokanfbpbaaDoor
