/-
  Walks of functions, reckoned through, and what they give (part W06i3). No condition beyond what each says. By an AI agent.
-/
import Derived.Test.YtgefcokanfbpbaaDoorW06D
namespace Go.Proofs.YtgefcokanfbpbaaDoor
open Go.Ex
set_option maxRecDepth 1000000
theorem dig_24 (z : Z) (x0 x1 x2 x3 x4 x5 x6 x7 m : Int) (b0 b1 b2 b3 b4 b5 b6 b7 b8 b9 b10 b11 b12 b13 b14 b15 b16 b17 b18 b19 b20 b21 b22 b23 : UInt8) : digR z [x0, x1, x2, x3, x4, x5, x6, x7] [b0, b1, b2, b3, b4, b5, b6, b7, b8, b9, b10, b11, b12, b13, b14, b15, b16, b17, b18, b19, b20, b21, b22, b23] m := by
  unfold digR givesL; kernel_rfl
theorem digl_24 (z : Z) (ini : List Int) (hi : ini.length = 8) (m : Int) (l : List UInt8) (h : l.length = 24) : digR z ini l m :=
  match ini, hi, l, h with
  | [x0, x1, x2, x3, x4, x5, x6, x7], _, b0 :: b1 :: b2 :: b3 :: b4 :: b5 :: b6 :: b7 :: b8 :: b9 :: b10 :: b11 :: b12 :: b13 :: b14 :: b15 :: b16 :: b17 :: b18 :: b19 :: b20 :: b21 :: b22 :: b23 :: [], _ => dig_24 z x0 x1 x2 x3 x4 x5 x6 x7 m b0 b1 b2 b3 b4 b5 b6 b7 b8 b9 b10 b11 b12 b13 b14 b15 b16 b17 b18 b19 b20 b21 b22 b23
theorem dig_25 (z : Z) (x0 x1 x2 x3 x4 x5 x6 x7 m : Int) (b0 b1 b2 b3 b4 b5 b6 b7 b8 b9 b10 b11 b12 b13 b14 b15 b16 b17 b18 b19 b20 b21 b22 b23 b24 : UInt8) : digR z [x0, x1, x2, x3, x4, x5, x6, x7] [b0, b1, b2, b3, b4, b5, b6, b7, b8, b9, b10, b11, b12, b13, b14, b15, b16, b17, b18, b19, b20, b21, b22, b23, b24] m := by
  unfold digR givesL; kernel_rfl
theorem digl_25 (z : Z) (ini : List Int) (hi : ini.length = 8) (m : Int) (l : List UInt8) (h : l.length = 25) : digR z ini l m :=
  match ini, hi, l, h with
  | [x0, x1, x2, x3, x4, x5, x6, x7], _, b0 :: b1 :: b2 :: b3 :: b4 :: b5 :: b6 :: b7 :: b8 :: b9 :: b10 :: b11 :: b12 :: b13 :: b14 :: b15 :: b16 :: b17 :: b18 :: b19 :: b20 :: b21 :: b22 :: b23 :: b24 :: [], _ => dig_25 z x0 x1 x2 x3 x4 x5 x6 x7 m b0 b1 b2 b3 b4 b5 b6 b7 b8 b9 b10 b11 b12 b13 b14 b15 b16 b17 b18 b19 b20 b21 b22 b23 b24
theorem dig_26 (z : Z) (x0 x1 x2 x3 x4 x5 x6 x7 m : Int) (b0 b1 b2 b3 b4 b5 b6 b7 b8 b9 b10 b11 b12 b13 b14 b15 b16 b17 b18 b19 b20 b21 b22 b23 b24 b25 : UInt8) : digR z [x0, x1, x2, x3, x4, x5, x6, x7] [b0, b1, b2, b3, b4, b5, b6, b7, b8, b9, b10, b11, b12, b13, b14, b15, b16, b17, b18, b19, b20, b21, b22, b23, b24, b25] m := by
  unfold digR givesL; kernel_rfl
theorem digl_26 (z : Z) (ini : List Int) (hi : ini.length = 8) (m : Int) (l : List UInt8) (h : l.length = 26) : digR z ini l m :=
  match ini, hi, l, h with
  | [x0, x1, x2, x3, x4, x5, x6, x7], _, b0 :: b1 :: b2 :: b3 :: b4 :: b5 :: b6 :: b7 :: b8 :: b9 :: b10 :: b11 :: b12 :: b13 :: b14 :: b15 :: b16 :: b17 :: b18 :: b19 :: b20 :: b21 :: b22 :: b23 :: b24 :: b25 :: [], _ => dig_26 z x0 x1 x2 x3 x4 x5 x6 x7 m b0 b1 b2 b3 b4 b5 b6 b7 b8 b9 b10 b11 b12 b13 b14 b15 b16 b17 b18 b19 b20 b21 b22 b23 b24 b25
theorem dig_27 (z : Z) (x0 x1 x2 x3 x4 x5 x6 x7 m : Int) (b0 b1 b2 b3 b4 b5 b6 b7 b8 b9 b10 b11 b12 b13 b14 b15 b16 b17 b18 b19 b20 b21 b22 b23 b24 b25 b26 : UInt8) : digR z [x0, x1, x2, x3, x4, x5, x6, x7] [b0, b1, b2, b3, b4, b5, b6, b7, b8, b9, b10, b11, b12, b13, b14, b15, b16, b17, b18, b19, b20, b21, b22, b23, b24, b25, b26] m := by
  unfold digR givesL; kernel_rfl
theorem digl_27 (z : Z) (ini : List Int) (hi : ini.length = 8) (m : Int) (l : List UInt8) (h : l.length = 27) : digR z ini l m :=
  match ini, hi, l, h with
  | [x0, x1, x2, x3, x4, x5, x6, x7], _, b0 :: b1 :: b2 :: b3 :: b4 :: b5 :: b6 :: b7 :: b8 :: b9 :: b10 :: b11 :: b12 :: b13 :: b14 :: b15 :: b16 :: b17 :: b18 :: b19 :: b20 :: b21 :: b22 :: b23 :: b24 :: b25 :: b26 :: [], _ => dig_27 z x0 x1 x2 x3 x4 x5 x6 x7 m b0 b1 b2 b3 b4 b5 b6 b7 b8 b9 b10 b11 b12 b13 b14 b15 b16 b17 b18 b19 b20 b21 b22 b23 b24 b25 b26
theorem dig_28 (z : Z) (x0 x1 x2 x3 x4 x5 x6 x7 m : Int) (b0 b1 b2 b3 b4 b5 b6 b7 b8 b9 b10 b11 b12 b13 b14 b15 b16 b17 b18 b19 b20 b21 b22 b23 b24 b25 b26 b27 : UInt8) : digR z [x0, x1, x2, x3, x4, x5, x6, x7] [b0, b1, b2, b3, b4, b5, b6, b7, b8, b9, b10, b11, b12, b13, b14, b15, b16, b17, b18, b19, b20, b21, b22, b23, b24, b25, b26, b27] m := by
  unfold digR givesL; kernel_rfl
theorem digl_28 (z : Z) (ini : List Int) (hi : ini.length = 8) (m : Int) (l : List UInt8) (h : l.length = 28) : digR z ini l m :=
  match ini, hi, l, h with
  | [x0, x1, x2, x3, x4, x5, x6, x7], _, b0 :: b1 :: b2 :: b3 :: b4 :: b5 :: b6 :: b7 :: b8 :: b9 :: b10 :: b11 :: b12 :: b13 :: b14 :: b15 :: b16 :: b17 :: b18 :: b19 :: b20 :: b21 :: b22 :: b23 :: b24 :: b25 :: b26 :: b27 :: [], _ => dig_28 z x0 x1 x2 x3 x4 x5 x6 x7 m b0 b1 b2 b3 b4 b5 b6 b7 b8 b9 b10 b11 b12 b13 b14 b15 b16 b17 b18 b19 b20 b21 b22 b23 b24 b25 b26 b27
theorem dig_29 (z : Z) (x0 x1 x2 x3 x4 x5 x6 x7 m : Int) (b0 b1 b2 b3 b4 b5 b6 b7 b8 b9 b10 b11 b12 b13 b14 b15 b16 b17 b18 b19 b20 b21 b22 b23 b24 b25 b26 b27 b28 : UInt8) : digR z [x0, x1, x2, x3, x4, x5, x6, x7] [b0, b1, b2, b3, b4, b5, b6, b7, b8, b9, b10, b11, b12, b13, b14, b15, b16, b17, b18, b19, b20, b21, b22, b23, b24, b25, b26, b27, b28] m := by
  unfold digR givesL; kernel_rfl
theorem digl_29 (z : Z) (ini : List Int) (hi : ini.length = 8) (m : Int) (l : List UInt8) (h : l.length = 29) : digR z ini l m :=
  match ini, hi, l, h with
  | [x0, x1, x2, x3, x4, x5, x6, x7], _, b0 :: b1 :: b2 :: b3 :: b4 :: b5 :: b6 :: b7 :: b8 :: b9 :: b10 :: b11 :: b12 :: b13 :: b14 :: b15 :: b16 :: b17 :: b18 :: b19 :: b20 :: b21 :: b22 :: b23 :: b24 :: b25 :: b26 :: b27 :: b28 :: [], _ => dig_29 z x0 x1 x2 x3 x4 x5 x6 x7 m b0 b1 b2 b3 b4 b5 b6 b7 b8 b9 b10 b11 b12 b13 b14 b15 b16 b17 b18 b19 b20 b21 b22 b23 b24 b25 b26 b27 b28
theorem dig_30 (z : Z) (x0 x1 x2 x3 x4 x5 x6 x7 m : Int) (b0 b1 b2 b3 b4 b5 b6 b7 b8 b9 b10 b11 b12 b13 b14 b15 b16 b17 b18 b19 b20 b21 b22 b23 b24 b25 b26 b27 b28 b29 : UInt8) : digR z [x0, x1, x2, x3, x4, x5, x6, x7] [b0, b1, b2, b3, b4, b5, b6, b7, b8, b9, b10, b11, b12, b13, b14, b15, b16, b17, b18, b19, b20, b21, b22, b23, b24, b25, b26, b27, b28, b29] m := by
  unfold digR givesL; kernel_rfl
theorem digl_30 (z : Z) (ini : List Int) (hi : ini.length = 8) (m : Int) (l : List UInt8) (h : l.length = 30) : digR z ini l m :=
  match ini, hi, l, h with
  | [x0, x1, x2, x3, x4, x5, x6, x7], _, b0 :: b1 :: b2 :: b3 :: b4 :: b5 :: b6 :: b7 :: b8 :: b9 :: b10 :: b11 :: b12 :: b13 :: b14 :: b15 :: b16 :: b17 :: b18 :: b19 :: b20 :: b21 :: b22 :: b23 :: b24 :: b25 :: b26 :: b27 :: b28 :: b29 :: [], _ => dig_30 z x0 x1 x2 x3 x4 x5 x6 x7 m b0 b1 b2 b3 b4 b5 b6 b7 b8 b9 b10 b11 b12 b13 b14 b15 b16 b17 b18 b19 b20 b21 b22 b23 b24 b25 b26 b27 b28 b29
theorem dig_31 (z : Z) (x0 x1 x2 x3 x4 x5 x6 x7 m : Int) (b0 b1 b2 b3 b4 b5 b6 b7 b8 b9 b10 b11 b12 b13 b14 b15 b16 b17 b18 b19 b20 b21 b22 b23 b24 b25 b26 b27 b28 b29 b30 : UInt8) : digR z [x0, x1, x2, x3, x4, x5, x6, x7] [b0, b1, b2, b3, b4, b5, b6, b7, b8, b9, b10, b11, b12, b13, b14, b15, b16, b17, b18, b19, b20, b21, b22, b23, b24, b25, b26, b27, b28, b29, b30] m := by
  unfold digR givesL; kernel_rfl
theorem digl_31 (z : Z) (ini : List Int) (hi : ini.length = 8) (m : Int) (l : List UInt8) (h : l.length = 31) : digR z ini l m :=
  match ini, hi, l, h with
  | [x0, x1, x2, x3, x4, x5, x6, x7], _, b0 :: b1 :: b2 :: b3 :: b4 :: b5 :: b6 :: b7 :: b8 :: b9 :: b10 :: b11 :: b12 :: b13 :: b14 :: b15 :: b16 :: b17 :: b18 :: b19 :: b20 :: b21 :: b22 :: b23 :: b24 :: b25 :: b26 :: b27 :: b28 :: b29 :: b30 :: [], _ => dig_31 z x0 x1 x2 x3 x4 x5 x6 x7 m b0 b1 b2 b3 b4 b5 b6 b7 b8 b9 b10 b11 b12 b13 b14 b15 b16 b17 b18 b19 b20 b21 b22 b23 b24 b25 b26 b27 b28 b29 b30
end Go.Proofs.YtgefcokanfbpbaaDoor
