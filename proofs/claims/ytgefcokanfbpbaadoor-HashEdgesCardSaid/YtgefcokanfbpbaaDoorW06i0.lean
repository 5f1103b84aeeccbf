/-
  Walks of functions, reckoned through, and what they give (part W06i0). No condition beyond what each says. By an AI agent.
-/
import Derived.Test.YtgefcokanfbpbaaDoorW06D
namespace Go.Proofs.YtgefcokanfbpbaaDoor
open Go.Ex
set_option maxRecDepth 1000000
theorem dig_0 (z : Z) (x0 x1 x2 x3 x4 x5 x6 x7 m : Int) : digR z [x0, x1, x2, x3, x4, x5, x6, x7] [] m := by
  unfold digR givesL; kernel_rfl
theorem digl_0 (z : Z) (ini : List Int) (hi : ini.length = 8) (m : Int) (l : List UInt8) (h : l.length = 0) : digR z ini l m :=
  match ini, hi, l, h with
  | [x0, x1, x2, x3, x4, x5, x6, x7], _, [], _ => dig_0 z x0 x1 x2 x3 x4 x5 x6 x7 m 
theorem dig_1 (z : Z) (x0 x1 x2 x3 x4 x5 x6 x7 m : Int) (b0 : UInt8) : digR z [x0, x1, x2, x3, x4, x5, x6, x7] [b0] m := by
  unfold digR givesL; kernel_rfl
theorem digl_1 (z : Z) (ini : List Int) (hi : ini.length = 8) (m : Int) (l : List UInt8) (h : l.length = 1) : digR z ini l m :=
  match ini, hi, l, h with
  | [x0, x1, x2, x3, x4, x5, x6, x7], _, b0 :: [], _ => dig_1 z x0 x1 x2 x3 x4 x5 x6 x7 m b0
theorem dig_2 (z : Z) (x0 x1 x2 x3 x4 x5 x6 x7 m : Int) (b0 b1 : UInt8) : digR z [x0, x1, x2, x3, x4, x5, x6, x7] [b0, b1] m := by
  unfold digR givesL; kernel_rfl
theorem digl_2 (z : Z) (ini : List Int) (hi : ini.length = 8) (m : Int) (l : List UInt8) (h : l.length = 2) : digR z ini l m :=
  match ini, hi, l, h with
  | [x0, x1, x2, x3, x4, x5, x6, x7], _, b0 :: b1 :: [], _ => dig_2 z x0 x1 x2 x3 x4 x5 x6 x7 m b0 b1
theorem dig_3 (z : Z) (x0 x1 x2 x3 x4 x5 x6 x7 m : Int) (b0 b1 b2 : UInt8) : digR z [x0, x1, x2, x3, x4, x5, x6, x7] [b0, b1, b2] m := by
  unfold digR givesL; kernel_rfl
theorem digl_3 (z : Z) (ini : List Int) (hi : ini.length = 8) (m : Int) (l : List UInt8) (h : l.length = 3) : digR z ini l m :=
  match ini, hi, l, h with
  | [x0, x1, x2, x3, x4, x5, x6, x7], _, b0 :: b1 :: b2 :: [], _ => dig_3 z x0 x1 x2 x3 x4 x5 x6 x7 m b0 b1 b2
theorem dig_4 (z : Z) (x0 x1 x2 x3 x4 x5 x6 x7 m : Int) (b0 b1 b2 b3 : UInt8) : digR z [x0, x1, x2, x3, x4, x5, x6, x7] [b0, b1, b2, b3] m := by
  unfold digR givesL; kernel_rfl
theorem digl_4 (z : Z) (ini : List Int) (hi : ini.length = 8) (m : Int) (l : List UInt8) (h : l.length = 4) : digR z ini l m :=
  match ini, hi, l, h with
  | [x0, x1, x2, x3, x4, x5, x6, x7], _, b0 :: b1 :: b2 :: b3 :: [], _ => dig_4 z x0 x1 x2 x3 x4 x5 x6 x7 m b0 b1 b2 b3
theorem dig_5 (z : Z) (x0 x1 x2 x3 x4 x5 x6 x7 m : Int) (b0 b1 b2 b3 b4 : UInt8) : digR z [x0, x1, x2, x3, x4, x5, x6, x7] [b0, b1, b2, b3, b4] m := by
  unfold digR givesL; kernel_rfl
theorem digl_5 (z : Z) (ini : List Int) (hi : ini.length = 8) (m : Int) (l : List UInt8) (h : l.length = 5) : digR z ini l m :=
  match ini, hi, l, h with
  | [x0, x1, x2, x3, x4, x5, x6, x7], _, b0 :: b1 :: b2 :: b3 :: b4 :: [], _ => dig_5 z x0 x1 x2 x3 x4 x5 x6 x7 m b0 b1 b2 b3 b4
theorem dig_6 (z : Z) (x0 x1 x2 x3 x4 x5 x6 x7 m : Int) (b0 b1 b2 b3 b4 b5 : UInt8) : digR z [x0, x1, x2, x3, x4, x5, x6, x7] [b0, b1, b2, b3, b4, b5] m := by
  unfold digR givesL; kernel_rfl
theorem digl_6 (z : Z) (ini : List Int) (hi : ini.length = 8) (m : Int) (l : List UInt8) (h : l.length = 6) : digR z ini l m :=
  match ini, hi, l, h with
  | [x0, x1, x2, x3, x4, x5, x6, x7], _, b0 :: b1 :: b2 :: b3 :: b4 :: b5 :: [], _ => dig_6 z x0 x1 x2 x3 x4 x5 x6 x7 m b0 b1 b2 b3 b4 b5
theorem dig_7 (z : Z) (x0 x1 x2 x3 x4 x5 x6 x7 m : Int) (b0 b1 b2 b3 b4 b5 b6 : UInt8) : digR z [x0, x1, x2, x3, x4, x5, x6, x7] [b0, b1, b2, b3, b4, b5, b6] m := by
  unfold digR givesL; kernel_rfl
theorem digl_7 (z : Z) (ini : List Int) (hi : ini.length = 8) (m : Int) (l : List UInt8) (h : l.length = 7) : digR z ini l m :=
  match ini, hi, l, h with
  | [x0, x1, x2, x3, x4, x5, x6, x7], _, b0 :: b1 :: b2 :: b3 :: b4 :: b5 :: b6 :: [], _ => dig_7 z x0 x1 x2 x3 x4 x5 x6 x7 m b0 b1 b2 b3 b4 b5 b6
end Go.Proofs.YtgefcokanfbpbaaDoor
