/-
  Walks of functions, reckoned through, and what they give (part K07l). No condition beyond what each says. By an AI agent.
-/
import Derived.Test.YtclafmabccbhjaaDoorK07a
namespace Go.Proofs.YtclafmabccbhjaaDoor
open Go.Ex
open Go.RowKit (Below)
set_option linter.unusedVariables false
set_option maxRecDepth 1000000
/-! ### the first and the last bytes of a digest -/
def cells32 (z : Nat → Int) : SV := .agg ((List.range 32).map fun i => .val (.int .u8 (z i)))
def zc (z : Nat → Int) : List UInt8 := (List.range 32).map fun i => UInt8.ofNat (z i).toNat
def wN (n : Int) : Int := if (if (32 : Int) < n then 32 else n) > 0 then (if (32 : Int) < n then 32 else n) else 0
def wR (n : Int) : Int := IntKind.i64.wrap (32 - wN n)
theorem lf_11_0 (z : Nat → Int) (n : Int) : givesV (topR (rawP noG) (run (rawP noG) 80) 11 [cells32 z, .val (.int .i64 n)] [] (List.replicate 0 false ++ [true])) (.bts (0 == 0) ((zc z).take 0)) [(wN n == ((0 : Nat) : Int)) = true] := by unfold givesV; kernel_rfl
theorem lf_11_1 (z : Nat → Int) (n : Int) : givesV (topR (rawP noG) (run (rawP noG) 80) 11 [cells32 z, .val (.int .i64 n)] [] (List.replicate 1 false ++ [true])) (.bts (1 == 0) ((zc z).take 1)) [(wN n == ((1 : Nat) : Int)) = true] := by unfold givesV; kernel_rfl
theorem lf_11_2 (z : Nat → Int) (n : Int) : givesV (topR (rawP noG) (run (rawP noG) 80) 11 [cells32 z, .val (.int .i64 n)] [] (List.replicate 2 false ++ [true])) (.bts (2 == 0) ((zc z).take 2)) [(wN n == ((2 : Nat) : Int)) = true] := by unfold givesV; kernel_rfl
theorem lf_11_3 (z : Nat → Int) (n : Int) : givesV (topR (rawP noG) (run (rawP noG) 80) 11 [cells32 z, .val (.int .i64 n)] [] (List.replicate 3 false ++ [true])) (.bts (3 == 0) ((zc z).take 3)) [(wN n == ((3 : Nat) : Int)) = true] := by unfold givesV; kernel_rfl
theorem lf_11_4 (z : Nat → Int) (n : Int) : givesV (topR (rawP noG) (run (rawP noG) 80) 11 [cells32 z, .val (.int .i64 n)] [] (List.replicate 4 false ++ [true])) (.bts (4 == 0) ((zc z).take 4)) [(wN n == ((4 : Nat) : Int)) = true] := by unfold givesV; kernel_rfl
theorem lf_11_5 (z : Nat → Int) (n : Int) : givesV (topR (rawP noG) (run (rawP noG) 80) 11 [cells32 z, .val (.int .i64 n)] [] (List.replicate 5 false ++ [true])) (.bts (5 == 0) ((zc z).take 5)) [(wN n == ((5 : Nat) : Int)) = true] := by unfold givesV; kernel_rfl
theorem lf_11_6 (z : Nat → Int) (n : Int) : givesV (topR (rawP noG) (run (rawP noG) 80) 11 [cells32 z, .val (.int .i64 n)] [] (List.replicate 6 false ++ [true])) (.bts (6 == 0) ((zc z).take 6)) [(wN n == ((6 : Nat) : Int)) = true] := by unfold givesV; kernel_rfl
theorem lf_11_7 (z : Nat → Int) (n : Int) : givesV (topR (rawP noG) (run (rawP noG) 80) 11 [cells32 z, .val (.int .i64 n)] [] (List.replicate 7 false ++ [true])) (.bts (7 == 0) ((zc z).take 7)) [(wN n == ((7 : Nat) : Int)) = true] := by unfold givesV; kernel_rfl
theorem lf_11_8 (z : Nat → Int) (n : Int) : givesV (topR (rawP noG) (run (rawP noG) 80) 11 [cells32 z, .val (.int .i64 n)] [] (List.replicate 8 false ++ [true])) (.bts (8 == 0) ((zc z).take 8)) [(wN n == ((8 : Nat) : Int)) = true] := by unfold givesV; kernel_rfl
theorem lf_11_9 (z : Nat → Int) (n : Int) : givesV (topR (rawP noG) (run (rawP noG) 80) 11 [cells32 z, .val (.int .i64 n)] [] (List.replicate 9 false ++ [true])) (.bts (9 == 0) ((zc z).take 9)) [(wN n == ((9 : Nat) : Int)) = true] := by unfold givesV; kernel_rfl
theorem lf_11_10 (z : Nat → Int) (n : Int) : givesV (topR (rawP noG) (run (rawP noG) 80) 11 [cells32 z, .val (.int .i64 n)] [] (List.replicate 10 false ++ [true])) (.bts (10 == 0) ((zc z).take 10)) [(wN n == ((10 : Nat) : Int)) = true] := by unfold givesV; kernel_rfl
theorem lf_11_11 (z : Nat → Int) (n : Int) : givesV (topR (rawP noG) (run (rawP noG) 80) 11 [cells32 z, .val (.int .i64 n)] [] (List.replicate 11 false ++ [true])) (.bts (11 == 0) ((zc z).take 11)) [(wN n == ((11 : Nat) : Int)) = true] := by unfold givesV; kernel_rfl
theorem lf_11_12 (z : Nat → Int) (n : Int) : givesV (topR (rawP noG) (run (rawP noG) 80) 11 [cells32 z, .val (.int .i64 n)] [] (List.replicate 12 false ++ [true])) (.bts (12 == 0) ((zc z).take 12)) [(wN n == ((12 : Nat) : Int)) = true] := by unfold givesV; kernel_rfl
theorem lf_11_13 (z : Nat → Int) (n : Int) : givesV (topR (rawP noG) (run (rawP noG) 80) 11 [cells32 z, .val (.int .i64 n)] [] (List.replicate 13 false ++ [true])) (.bts (13 == 0) ((zc z).take 13)) [(wN n == ((13 : Nat) : Int)) = true] := by unfold givesV; kernel_rfl
theorem lf_11_14 (z : Nat → Int) (n : Int) : givesV (topR (rawP noG) (run (rawP noG) 80) 11 [cells32 z, .val (.int .i64 n)] [] (List.replicate 14 false ++ [true])) (.bts (14 == 0) ((zc z).take 14)) [(wN n == ((14 : Nat) : Int)) = true] := by unfold givesV; kernel_rfl
theorem lf_11_15 (z : Nat → Int) (n : Int) : givesV (topR (rawP noG) (run (rawP noG) 80) 11 [cells32 z, .val (.int .i64 n)] [] (List.replicate 15 false ++ [true])) (.bts (15 == 0) ((zc z).take 15)) [(wN n == ((15 : Nat) : Int)) = true] := by unfold givesV; kernel_rfl
theorem lf_11_16 (z : Nat → Int) (n : Int) : givesV (topR (rawP noG) (run (rawP noG) 80) 11 [cells32 z, .val (.int .i64 n)] [] (List.replicate 16 false ++ [true])) (.bts (16 == 0) ((zc z).take 16)) [(wN n == ((16 : Nat) : Int)) = true] := by unfold givesV; kernel_rfl
theorem lf_11_17 (z : Nat → Int) (n : Int) : givesV (topR (rawP noG) (run (rawP noG) 80) 11 [cells32 z, .val (.int .i64 n)] [] (List.replicate 17 false ++ [true])) (.bts (17 == 0) ((zc z).take 17)) [(wN n == ((17 : Nat) : Int)) = true] := by unfold givesV; kernel_rfl
theorem lf_11_18 (z : Nat → Int) (n : Int) : givesV (topR (rawP noG) (run (rawP noG) 80) 11 [cells32 z, .val (.int .i64 n)] [] (List.replicate 18 false ++ [true])) (.bts (18 == 0) ((zc z).take 18)) [(wN n == ((18 : Nat) : Int)) = true] := by unfold givesV; kernel_rfl
theorem lf_11_19 (z : Nat → Int) (n : Int) : givesV (topR (rawP noG) (run (rawP noG) 80) 11 [cells32 z, .val (.int .i64 n)] [] (List.replicate 19 false ++ [true])) (.bts (19 == 0) ((zc z).take 19)) [(wN n == ((19 : Nat) : Int)) = true] := by unfold givesV; kernel_rfl
theorem lf_11_20 (z : Nat → Int) (n : Int) : givesV (topR (rawP noG) (run (rawP noG) 80) 11 [cells32 z, .val (.int .i64 n)] [] (List.replicate 20 false ++ [true])) (.bts (20 == 0) ((zc z).take 20)) [(wN n == ((20 : Nat) : Int)) = true] := by unfold givesV; kernel_rfl
theorem lf_11_21 (z : Nat → Int) (n : Int) : givesV (topR (rawP noG) (run (rawP noG) 80) 11 [cells32 z, .val (.int .i64 n)] [] (List.replicate 21 false ++ [true])) (.bts (21 == 0) ((zc z).take 21)) [(wN n == ((21 : Nat) : Int)) = true] := by unfold givesV; kernel_rfl
theorem lf_11_22 (z : Nat → Int) (n : Int) : givesV (topR (rawP noG) (run (rawP noG) 80) 11 [cells32 z, .val (.int .i64 n)] [] (List.replicate 22 false ++ [true])) (.bts (22 == 0) ((zc z).take 22)) [(wN n == ((22 : Nat) : Int)) = true] := by unfold givesV; kernel_rfl
theorem lf_11_23 (z : Nat → Int) (n : Int) : givesV (topR (rawP noG) (run (rawP noG) 80) 11 [cells32 z, .val (.int .i64 n)] [] (List.replicate 23 false ++ [true])) (.bts (23 == 0) ((zc z).take 23)) [(wN n == ((23 : Nat) : Int)) = true] := by unfold givesV; kernel_rfl
theorem lf_11_24 (z : Nat → Int) (n : Int) : givesV (topR (rawP noG) (run (rawP noG) 80) 11 [cells32 z, .val (.int .i64 n)] [] (List.replicate 24 false ++ [true])) (.bts (24 == 0) ((zc z).take 24)) [(wN n == ((24 : Nat) : Int)) = true] := by unfold givesV; kernel_rfl
theorem lf_11_25 (z : Nat → Int) (n : Int) : givesV (topR (rawP noG) (run (rawP noG) 80) 11 [cells32 z, .val (.int .i64 n)] [] (List.replicate 25 false ++ [true])) (.bts (25 == 0) ((zc z).take 25)) [(wN n == ((25 : Nat) : Int)) = true] := by unfold givesV; kernel_rfl
theorem lf_11_26 (z : Nat → Int) (n : Int) : givesV (topR (rawP noG) (run (rawP noG) 80) 11 [cells32 z, .val (.int .i64 n)] [] (List.replicate 26 false ++ [true])) (.bts (26 == 0) ((zc z).take 26)) [(wN n == ((26 : Nat) : Int)) = true] := by unfold givesV; kernel_rfl
theorem lf_11_27 (z : Nat → Int) (n : Int) : givesV (topR (rawP noG) (run (rawP noG) 80) 11 [cells32 z, .val (.int .i64 n)] [] (List.replicate 27 false ++ [true])) (.bts (27 == 0) ((zc z).take 27)) [(wN n == ((27 : Nat) : Int)) = true] := by unfold givesV; kernel_rfl
theorem lf_11_28 (z : Nat → Int) (n : Int) : givesV (topR (rawP noG) (run (rawP noG) 80) 11 [cells32 z, .val (.int .i64 n)] [] (List.replicate 28 false ++ [true])) (.bts (28 == 0) ((zc z).take 28)) [(wN n == ((28 : Nat) : Int)) = true] := by unfold givesV; kernel_rfl
theorem lf_11_29 (z : Nat → Int) (n : Int) : givesV (topR (rawP noG) (run (rawP noG) 80) 11 [cells32 z, .val (.int .i64 n)] [] (List.replicate 29 false ++ [true])) (.bts (29 == 0) ((zc z).take 29)) [(wN n == ((29 : Nat) : Int)) = true] := by unfold givesV; kernel_rfl
theorem lf_11_30 (z : Nat → Int) (n : Int) : givesV (topR (rawP noG) (run (rawP noG) 80) 11 [cells32 z, .val (.int .i64 n)] [] (List.replicate 30 false ++ [true])) (.bts (30 == 0) ((zc z).take 30)) [(wN n == ((30 : Nat) : Int)) = true] := by unfold givesV; kernel_rfl
theorem lf_11_31 (z : Nat → Int) (n : Int) : givesV (topR (rawP noG) (run (rawP noG) 80) 11 [cells32 z, .val (.int .i64 n)] [] (List.replicate 31 false ++ [true])) (.bts (31 == 0) ((zc z).take 31)) [(wN n == ((31 : Nat) : Int)) = true] := by unfold givesV; kernel_rfl
theorem lf_11_32 (z : Nat → Int) (n : Int) : givesV (topR (rawP noG) (run (rawP noG) 80) 11 [cells32 z, .val (.int .i64 n)] [] (List.replicate 32 false ++ [true])) (.bts (32 == 0) ((zc z).take 32)) [(wN n == ((32 : Nat) : Int)) = true] := by unfold givesV; kernel_rfl
theorem lf_11 (z : Nat → Int) (n : Int) : ∀ k : Nat, k < 33 → givesV (topR (rawP noG) (run (rawP noG) 80) 11 [cells32 z, .val (.int .i64 n)] [] (List.replicate k false ++ [true])) (.bts (k == 0) ((zc z).take k)) [(wN n == ((k : Nat) : Int)) = true]
  | 0, _ => lf_11_0 z n
  | 1, _ => lf_11_1 z n
  | 2, _ => lf_11_2 z n
  | 3, _ => lf_11_3 z n
  | 4, _ => lf_11_4 z n
  | 5, _ => lf_11_5 z n
  | 6, _ => lf_11_6 z n
  | 7, _ => lf_11_7 z n
  | 8, _ => lf_11_8 z n
  | 9, _ => lf_11_9 z n
  | 10, _ => lf_11_10 z n
  | 11, _ => lf_11_11 z n
  | 12, _ => lf_11_12 z n
  | 13, _ => lf_11_13 z n
  | 14, _ => lf_11_14 z n
  | 15, _ => lf_11_15 z n
  | 16, _ => lf_11_16 z n
  | 17, _ => lf_11_17 z n
  | 18, _ => lf_11_18 z n
  | 19, _ => lf_11_19 z n
  | 20, _ => lf_11_20 z n
  | 21, _ => lf_11_21 z n
  | 22, _ => lf_11_22 z n
  | 23, _ => lf_11_23 z n
  | 24, _ => lf_11_24 z n
  | 25, _ => lf_11_25 z n
  | 26, _ => lf_11_26 z n
  | 27, _ => lf_11_27 z n
  | 28, _ => lf_11_28 z n
  | 29, _ => lf_11_29 z n
  | 30, _ => lf_11_30 z n
  | 31, _ => lf_11_31 z n
  | 32, _ => lf_11_32 z n
  | k + 33, h => absurd h (by omega)
theorem lf_12_0 (z : Nat → Int) (n : Int) : givesV (topR (rawP noG) (run (rawP noG) 80) 12 [cells32 z, .val (.int .i64 n)] [] (List.replicate 0 false ++ [true])) (.bts (0 == 0) ((zc z).take 0)) [(wN n == ((0 : Nat) : Int)) = true] := by unfold givesV; kernel_rfl
theorem lf_12_1 (z : Nat → Int) (n : Int) : givesV (topR (rawP noG) (run (rawP noG) 80) 12 [cells32 z, .val (.int .i64 n)] [] (List.replicate 1 false ++ [true])) (.bts (1 == 0) ((zc z).take 1)) [(wN n == ((1 : Nat) : Int)) = true] := by unfold givesV; kernel_rfl
theorem lf_12_2 (z : Nat → Int) (n : Int) : givesV (topR (rawP noG) (run (rawP noG) 80) 12 [cells32 z, .val (.int .i64 n)] [] (List.replicate 2 false ++ [true])) (.bts (2 == 0) ((zc z).take 2)) [(wN n == ((2 : Nat) : Int)) = true] := by unfold givesV; kernel_rfl
theorem lf_12_3 (z : Nat → Int) (n : Int) : givesV (topR (rawP noG) (run (rawP noG) 80) 12 [cells32 z, .val (.int .i64 n)] [] (List.replicate 3 false ++ [true])) (.bts (3 == 0) ((zc z).take 3)) [(wN n == ((3 : Nat) : Int)) = true] := by unfold givesV; kernel_rfl
theorem lf_12_4 (z : Nat → Int) (n : Int) : givesV (topR (rawP noG) (run (rawP noG) 80) 12 [cells32 z, .val (.int .i64 n)] [] (List.replicate 4 false ++ [true])) (.bts (4 == 0) ((zc z).take 4)) [(wN n == ((4 : Nat) : Int)) = true] := by unfold givesV; kernel_rfl
theorem lf_12_5 (z : Nat → Int) (n : Int) : givesV (topR (rawP noG) (run (rawP noG) 80) 12 [cells32 z, .val (.int .i64 n)] [] (List.replicate 5 false ++ [true])) (.bts (5 == 0) ((zc z).take 5)) [(wN n == ((5 : Nat) : Int)) = true] := by unfold givesV; kernel_rfl
theorem lf_12_6 (z : Nat → Int) (n : Int) : givesV (topR (rawP noG) (run (rawP noG) 80) 12 [cells32 z, .val (.int .i64 n)] [] (List.replicate 6 false ++ [true])) (.bts (6 == 0) ((zc z).take 6)) [(wN n == ((6 : Nat) : Int)) = true] := by unfold givesV; kernel_rfl
theorem lf_12_7 (z : Nat → Int) (n : Int) : givesV (topR (rawP noG) (run (rawP noG) 80) 12 [cells32 z, .val (.int .i64 n)] [] (List.replicate 7 false ++ [true])) (.bts (7 == 0) ((zc z).take 7)) [(wN n == ((7 : Nat) : Int)) = true] := by unfold givesV; kernel_rfl
theorem lf_12_8 (z : Nat → Int) (n : Int) : givesV (topR (rawP noG) (run (rawP noG) 80) 12 [cells32 z, .val (.int .i64 n)] [] (List.replicate 8 false ++ [true])) (.bts (8 == 0) ((zc z).take 8)) [(wN n == ((8 : Nat) : Int)) = true] := by unfold givesV; kernel_rfl
theorem lf_12_9 (z : Nat → Int) (n : Int) : givesV (topR (rawP noG) (run (rawP noG) 80) 12 [cells32 z, .val (.int .i64 n)] [] (List.replicate 9 false ++ [true])) (.bts (9 == 0) ((zc z).take 9)) [(wN n == ((9 : Nat) : Int)) = true] := by unfold givesV; kernel_rfl
theorem lf_12_10 (z : Nat → Int) (n : Int) : givesV (topR (rawP noG) (run (rawP noG) 80) 12 [cells32 z, .val (.int .i64 n)] [] (List.replicate 10 false ++ [true])) (.bts (10 == 0) ((zc z).take 10)) [(wN n == ((10 : Nat) : Int)) = true] := by unfold givesV; kernel_rfl
theorem lf_12_11 (z : Nat → Int) (n : Int) : givesV (topR (rawP noG) (run (rawP noG) 80) 12 [cells32 z, .val (.int .i64 n)] [] (List.replicate 11 false ++ [true])) (.bts (11 == 0) ((zc z).take 11)) [(wN n == ((11 : Nat) : Int)) = true] := by unfold givesV; kernel_rfl
theorem lf_12_12 (z : Nat → Int) (n : Int) : givesV (topR (rawP noG) (run (rawP noG) 80) 12 [cells32 z, .val (.int .i64 n)] [] (List.replicate 12 false ++ [true])) (.bts (12 == 0) ((zc z).take 12)) [(wN n == ((12 : Nat) : Int)) = true] := by unfold givesV; kernel_rfl
theorem lf_12_13 (z : Nat → Int) (n : Int) : givesV (topR (rawP noG) (run (rawP noG) 80) 12 [cells32 z, .val (.int .i64 n)] [] (List.replicate 13 false ++ [true])) (.bts (13 == 0) ((zc z).take 13)) [(wN n == ((13 : Nat) : Int)) = true] := by unfold givesV; kernel_rfl
theorem lf_12_14 (z : Nat → Int) (n : Int) : givesV (topR (rawP noG) (run (rawP noG) 80) 12 [cells32 z, .val (.int .i64 n)] [] (List.replicate 14 false ++ [true])) (.bts (14 == 0) ((zc z).take 14)) [(wN n == ((14 : Nat) : Int)) = true] := by unfold givesV; kernel_rfl
theorem lf_12_15 (z : Nat → Int) (n : Int) : givesV (topR (rawP noG) (run (rawP noG) 80) 12 [cells32 z, .val (.int .i64 n)] [] (List.replicate 15 false ++ [true])) (.bts (15 == 0) ((zc z).take 15)) [(wN n == ((15 : Nat) : Int)) = true] := by unfold givesV; kernel_rfl
theorem lf_12_16 (z : Nat → Int) (n : Int) : givesV (topR (rawP noG) (run (rawP noG) 80) 12 [cells32 z, .val (.int .i64 n)] [] (List.replicate 16 false ++ [true])) (.bts (16 == 0) ((zc z).take 16)) [(wN n == ((16 : Nat) : Int)) = true] := by unfold givesV; kernel_rfl
theorem lf_12_17 (z : Nat → Int) (n : Int) : givesV (topR (rawP noG) (run (rawP noG) 80) 12 [cells32 z, .val (.int .i64 n)] [] (List.replicate 17 false ++ [true])) (.bts (17 == 0) ((zc z).take 17)) [(wN n == ((17 : Nat) : Int)) = true] := by unfold givesV; kernel_rfl
theorem lf_12_18 (z : Nat → Int) (n : Int) : givesV (topR (rawP noG) (run (rawP noG) 80) 12 [cells32 z, .val (.int .i64 n)] [] (List.replicate 18 false ++ [true])) (.bts (18 == 0) ((zc z).take 18)) [(wN n == ((18 : Nat) : Int)) = true] := by unfold givesV; kernel_rfl
theorem lf_12_19 (z : Nat → Int) (n : Int) : givesV (topR (rawP noG) (run (rawP noG) 80) 12 [cells32 z, .val (.int .i64 n)] [] (List.replicate 19 false ++ [true])) (.bts (19 == 0) ((zc z).take 19)) [(wN n == ((19 : Nat) : Int)) = true] := by unfold givesV; kernel_rfl
theorem lf_12_20 (z : Nat → Int) (n : Int) : givesV (topR (rawP noG) (run (rawP noG) 80) 12 [cells32 z, .val (.int .i64 n)] [] (List.replicate 20 false ++ [true])) (.bts (20 == 0) ((zc z).take 20)) [(wN n == ((20 : Nat) : Int)) = true] := by unfold givesV; kernel_rfl
theorem lf_12_21 (z : Nat → Int) (n : Int) : givesV (topR (rawP noG) (run (rawP noG) 80) 12 [cells32 z, .val (.int .i64 n)] [] (List.replicate 21 false ++ [true])) (.bts (21 == 0) ((zc z).take 21)) [(wN n == ((21 : Nat) : Int)) = true] := by unfold givesV; kernel_rfl
theorem lf_12_22 (z : Nat → Int) (n : Int) : givesV (topR (rawP noG) (run (rawP noG) 80) 12 [cells32 z, .val (.int .i64 n)] [] (List.replicate 22 false ++ [true])) (.bts (22 == 0) ((zc z).take 22)) [(wN n == ((22 : Nat) : Int)) = true] := by unfold givesV; kernel_rfl
theorem lf_12_23 (z : Nat → Int) (n : Int) : givesV (topR (rawP noG) (run (rawP noG) 80) 12 [cells32 z, .val (.int .i64 n)] [] (List.replicate 23 false ++ [true])) (.bts (23 == 0) ((zc z).take 23)) [(wN n == ((23 : Nat) : Int)) = true] := by unfold givesV; kernel_rfl
theorem lf_12_24 (z : Nat → Int) (n : Int) : givesV (topR (rawP noG) (run (rawP noG) 80) 12 [cells32 z, .val (.int .i64 n)] [] (List.replicate 24 false ++ [true])) (.bts (24 == 0) ((zc z).take 24)) [(wN n == ((24 : Nat) : Int)) = true] := by unfold givesV; kernel_rfl
theorem lf_12_25 (z : Nat → Int) (n : Int) : givesV (topR (rawP noG) (run (rawP noG) 80) 12 [cells32 z, .val (.int .i64 n)] [] (List.replicate 25 false ++ [true])) (.bts (25 == 0) ((zc z).take 25)) [(wN n == ((25 : Nat) : Int)) = true] := by unfold givesV; kernel_rfl
theorem lf_12_26 (z : Nat → Int) (n : Int) : givesV (topR (rawP noG) (run (rawP noG) 80) 12 [cells32 z, .val (.int .i64 n)] [] (List.replicate 26 false ++ [true])) (.bts (26 == 0) ((zc z).take 26)) [(wN n == ((26 : Nat) : Int)) = true] := by unfold givesV; kernel_rfl
theorem lf_12_27 (z : Nat → Int) (n : Int) : givesV (topR (rawP noG) (run (rawP noG) 80) 12 [cells32 z, .val (.int .i64 n)] [] (List.replicate 27 false ++ [true])) (.bts (27 == 0) ((zc z).take 27)) [(wN n == ((27 : Nat) : Int)) = true] := by unfold givesV; kernel_rfl
theorem lf_12_28 (z : Nat → Int) (n : Int) : givesV (topR (rawP noG) (run (rawP noG) 80) 12 [cells32 z, .val (.int .i64 n)] [] (List.replicate 28 false ++ [true])) (.bts (28 == 0) ((zc z).take 28)) [(wN n == ((28 : Nat) : Int)) = true] := by unfold givesV; kernel_rfl
theorem lf_12_29 (z : Nat → Int) (n : Int) : givesV (topR (rawP noG) (run (rawP noG) 80) 12 [cells32 z, .val (.int .i64 n)] [] (List.replicate 29 false ++ [true])) (.bts (29 == 0) ((zc z).take 29)) [(wN n == ((29 : Nat) : Int)) = true] := by unfold givesV; kernel_rfl
theorem lf_12_30 (z : Nat → Int) (n : Int) : givesV (topR (rawP noG) (run (rawP noG) 80) 12 [cells32 z, .val (.int .i64 n)] [] (List.replicate 30 false ++ [true])) (.bts (30 == 0) ((zc z).take 30)) [(wN n == ((30 : Nat) : Int)) = true] := by unfold givesV; kernel_rfl
theorem lf_12_31 (z : Nat → Int) (n : Int) : givesV (topR (rawP noG) (run (rawP noG) 80) 12 [cells32 z, .val (.int .i64 n)] [] (List.replicate 31 false ++ [true])) (.bts (31 == 0) ((zc z).take 31)) [(wN n == ((31 : Nat) : Int)) = true] := by unfold givesV; kernel_rfl
theorem lf_12_32 (z : Nat → Int) (n : Int) : givesV (topR (rawP noG) (run (rawP noG) 80) 12 [cells32 z, .val (.int .i64 n)] [] (List.replicate 32 false ++ [true])) (.bts (32 == 0) ((zc z).take 32)) [(wN n == ((32 : Nat) : Int)) = true] := by unfold givesV; kernel_rfl
theorem lf_12 (z : Nat → Int) (n : Int) : ∀ k : Nat, k < 33 → givesV (topR (rawP noG) (run (rawP noG) 80) 12 [cells32 z, .val (.int .i64 n)] [] (List.replicate k false ++ [true])) (.bts (k == 0) ((zc z).take k)) [(wN n == ((k : Nat) : Int)) = true]
  | 0, _ => lf_12_0 z n
  | 1, _ => lf_12_1 z n
  | 2, _ => lf_12_2 z n
  | 3, _ => lf_12_3 z n
  | 4, _ => lf_12_4 z n
  | 5, _ => lf_12_5 z n
  | 6, _ => lf_12_6 z n
  | 7, _ => lf_12_7 z n
  | 8, _ => lf_12_8 z n
  | 9, _ => lf_12_9 z n
  | 10, _ => lf_12_10 z n
  | 11, _ => lf_12_11 z n
  | 12, _ => lf_12_12 z n
  | 13, _ => lf_12_13 z n
  | 14, _ => lf_12_14 z n
  | 15, _ => lf_12_15 z n
  | 16, _ => lf_12_16 z n
  | 17, _ => lf_12_17 z n
  | 18, _ => lf_12_18 z n
  | 19, _ => lf_12_19 z n
  | 20, _ => lf_12_20 z n
  | 21, _ => lf_12_21 z n
  | 22, _ => lf_12_22 z n
  | 23, _ => lf_12_23 z n
  | 24, _ => lf_12_24 z n
  | 25, _ => lf_12_25 z n
  | 26, _ => lf_12_26 z n
  | 27, _ => lf_12_27 z n
  | 28, _ => lf_12_28 z n
  | 29, _ => lf_12_29 z n
  | 30, _ => lf_12_30 z n
  | 31, _ => lf_12_31 z n
  | 32, _ => lf_12_32 z n
  | k + 33, h => absurd h (by omega)
theorem lf_13_0 (z : Nat → Int) (n : Int) : givesV (topR (rawP noG) (run (rawP noG) 80) 13 [cells32 z, .val (.int .i64 n)] [] (List.replicate 0 false ++ [true])) (.bts (0 == 32) ((zc z).drop 0)) [(wR n == ((0 : Nat) : Int)) = true] := by unfold givesV; kernel_rfl
theorem lf_13_1 (z : Nat → Int) (n : Int) : givesV (topR (rawP noG) (run (rawP noG) 80) 13 [cells32 z, .val (.int .i64 n)] [] (List.replicate 1 false ++ [true])) (.bts (1 == 32) ((zc z).drop 1)) [(wR n == ((1 : Nat) : Int)) = true] := by unfold givesV; kernel_rfl
theorem lf_13_2 (z : Nat → Int) (n : Int) : givesV (topR (rawP noG) (run (rawP noG) 80) 13 [cells32 z, .val (.int .i64 n)] [] (List.replicate 2 false ++ [true])) (.bts (2 == 32) ((zc z).drop 2)) [(wR n == ((2 : Nat) : Int)) = true] := by unfold givesV; kernel_rfl
theorem lf_13_3 (z : Nat → Int) (n : Int) : givesV (topR (rawP noG) (run (rawP noG) 80) 13 [cells32 z, .val (.int .i64 n)] [] (List.replicate 3 false ++ [true])) (.bts (3 == 32) ((zc z).drop 3)) [(wR n == ((3 : Nat) : Int)) = true] := by unfold givesV; kernel_rfl
theorem lf_13_4 (z : Nat → Int) (n : Int) : givesV (topR (rawP noG) (run (rawP noG) 80) 13 [cells32 z, .val (.int .i64 n)] [] (List.replicate 4 false ++ [true])) (.bts (4 == 32) ((zc z).drop 4)) [(wR n == ((4 : Nat) : Int)) = true] := by unfold givesV; kernel_rfl
theorem lf_13_5 (z : Nat → Int) (n : Int) : givesV (topR (rawP noG) (run (rawP noG) 80) 13 [cells32 z, .val (.int .i64 n)] [] (List.replicate 5 false ++ [true])) (.bts (5 == 32) ((zc z).drop 5)) [(wR n == ((5 : Nat) : Int)) = true] := by unfold givesV; kernel_rfl
theorem lf_13_6 (z : Nat → Int) (n : Int) : givesV (topR (rawP noG) (run (rawP noG) 80) 13 [cells32 z, .val (.int .i64 n)] [] (List.replicate 6 false ++ [true])) (.bts (6 == 32) ((zc z).drop 6)) [(wR n == ((6 : Nat) : Int)) = true] := by unfold givesV; kernel_rfl
theorem lf_13_7 (z : Nat → Int) (n : Int) : givesV (topR (rawP noG) (run (rawP noG) 80) 13 [cells32 z, .val (.int .i64 n)] [] (List.replicate 7 false ++ [true])) (.bts (7 == 32) ((zc z).drop 7)) [(wR n == ((7 : Nat) : Int)) = true] := by unfold givesV; kernel_rfl
theorem lf_13_8 (z : Nat → Int) (n : Int) : givesV (topR (rawP noG) (run (rawP noG) 80) 13 [cells32 z, .val (.int .i64 n)] [] (List.replicate 8 false ++ [true])) (.bts (8 == 32) ((zc z).drop 8)) [(wR n == ((8 : Nat) : Int)) = true] := by unfold givesV; kernel_rfl
theorem lf_13_9 (z : Nat → Int) (n : Int) : givesV (topR (rawP noG) (run (rawP noG) 80) 13 [cells32 z, .val (.int .i64 n)] [] (List.replicate 9 false ++ [true])) (.bts (9 == 32) ((zc z).drop 9)) [(wR n == ((9 : Nat) : Int)) = true] := by unfold givesV; kernel_rfl
theorem lf_13_10 (z : Nat → Int) (n : Int) : givesV (topR (rawP noG) (run (rawP noG) 80) 13 [cells32 z, .val (.int .i64 n)] [] (List.replicate 10 false ++ [true])) (.bts (10 == 32) ((zc z).drop 10)) [(wR n == ((10 : Nat) : Int)) = true] := by unfold givesV; kernel_rfl
theorem lf_13_11 (z : Nat → Int) (n : Int) : givesV (topR (rawP noG) (run (rawP noG) 80) 13 [cells32 z, .val (.int .i64 n)] [] (List.replicate 11 false ++ [true])) (.bts (11 == 32) ((zc z).drop 11)) [(wR n == ((11 : Nat) : Int)) = true] := by unfold givesV; kernel_rfl
theorem lf_13_12 (z : Nat → Int) (n : Int) : givesV (topR (rawP noG) (run (rawP noG) 80) 13 [cells32 z, .val (.int .i64 n)] [] (List.replicate 12 false ++ [true])) (.bts (12 == 32) ((zc z).drop 12)) [(wR n == ((12 : Nat) : Int)) = true] := by unfold givesV; kernel_rfl
theorem lf_13_13 (z : Nat → Int) (n : Int) : givesV (topR (rawP noG) (run (rawP noG) 80) 13 [cells32 z, .val (.int .i64 n)] [] (List.replicate 13 false ++ [true])) (.bts (13 == 32) ((zc z).drop 13)) [(wR n == ((13 : Nat) : Int)) = true] := by unfold givesV; kernel_rfl
theorem lf_13_14 (z : Nat → Int) (n : Int) : givesV (topR (rawP noG) (run (rawP noG) 80) 13 [cells32 z, .val (.int .i64 n)] [] (List.replicate 14 false ++ [true])) (.bts (14 == 32) ((zc z).drop 14)) [(wR n == ((14 : Nat) : Int)) = true] := by unfold givesV; kernel_rfl
theorem lf_13_15 (z : Nat → Int) (n : Int) : givesV (topR (rawP noG) (run (rawP noG) 80) 13 [cells32 z, .val (.int .i64 n)] [] (List.replicate 15 false ++ [true])) (.bts (15 == 32) ((zc z).drop 15)) [(wR n == ((15 : Nat) : Int)) = true] := by unfold givesV; kernel_rfl
theorem lf_13_16 (z : Nat → Int) (n : Int) : givesV (topR (rawP noG) (run (rawP noG) 80) 13 [cells32 z, .val (.int .i64 n)] [] (List.replicate 16 false ++ [true])) (.bts (16 == 32) ((zc z).drop 16)) [(wR n == ((16 : Nat) : Int)) = true] := by unfold givesV; kernel_rfl
theorem lf_13_17 (z : Nat → Int) (n : Int) : givesV (topR (rawP noG) (run (rawP noG) 80) 13 [cells32 z, .val (.int .i64 n)] [] (List.replicate 17 false ++ [true])) (.bts (17 == 32) ((zc z).drop 17)) [(wR n == ((17 : Nat) : Int)) = true] := by unfold givesV; kernel_rfl
theorem lf_13_18 (z : Nat → Int) (n : Int) : givesV (topR (rawP noG) (run (rawP noG) 80) 13 [cells32 z, .val (.int .i64 n)] [] (List.replicate 18 false ++ [true])) (.bts (18 == 32) ((zc z).drop 18)) [(wR n == ((18 : Nat) : Int)) = true] := by unfold givesV; kernel_rfl
theorem lf_13_19 (z : Nat → Int) (n : Int) : givesV (topR (rawP noG) (run (rawP noG) 80) 13 [cells32 z, .val (.int .i64 n)] [] (List.replicate 19 false ++ [true])) (.bts (19 == 32) ((zc z).drop 19)) [(wR n == ((19 : Nat) : Int)) = true] := by unfold givesV; kernel_rfl
theorem lf_13_20 (z : Nat → Int) (n : Int) : givesV (topR (rawP noG) (run (rawP noG) 80) 13 [cells32 z, .val (.int .i64 n)] [] (List.replicate 20 false ++ [true])) (.bts (20 == 32) ((zc z).drop 20)) [(wR n == ((20 : Nat) : Int)) = true] := by unfold givesV; kernel_rfl
theorem lf_13_21 (z : Nat → Int) (n : Int) : givesV (topR (rawP noG) (run (rawP noG) 80) 13 [cells32 z, .val (.int .i64 n)] [] (List.replicate 21 false ++ [true])) (.bts (21 == 32) ((zc z).drop 21)) [(wR n == ((21 : Nat) : Int)) = true] := by unfold givesV; kernel_rfl
theorem lf_13_22 (z : Nat → Int) (n : Int) : givesV (topR (rawP noG) (run (rawP noG) 80) 13 [cells32 z, .val (.int .i64 n)] [] (List.replicate 22 false ++ [true])) (.bts (22 == 32) ((zc z).drop 22)) [(wR n == ((22 : Nat) : Int)) = true] := by unfold givesV; kernel_rfl
theorem lf_13_23 (z : Nat → Int) (n : Int) : givesV (topR (rawP noG) (run (rawP noG) 80) 13 [cells32 z, .val (.int .i64 n)] [] (List.replicate 23 false ++ [true])) (.bts (23 == 32) ((zc z).drop 23)) [(wR n == ((23 : Nat) : Int)) = true] := by unfold givesV; kernel_rfl
theorem lf_13_24 (z : Nat → Int) (n : Int) : givesV (topR (rawP noG) (run (rawP noG) 80) 13 [cells32 z, .val (.int .i64 n)] [] (List.replicate 24 false ++ [true])) (.bts (24 == 32) ((zc z).drop 24)) [(wR n == ((24 : Nat) : Int)) = true] := by unfold givesV; kernel_rfl
theorem lf_13_25 (z : Nat → Int) (n : Int) : givesV (topR (rawP noG) (run (rawP noG) 80) 13 [cells32 z, .val (.int .i64 n)] [] (List.replicate 25 false ++ [true])) (.bts (25 == 32) ((zc z).drop 25)) [(wR n == ((25 : Nat) : Int)) = true] := by unfold givesV; kernel_rfl
theorem lf_13_26 (z : Nat → Int) (n : Int) : givesV (topR (rawP noG) (run (rawP noG) 80) 13 [cells32 z, .val (.int .i64 n)] [] (List.replicate 26 false ++ [true])) (.bts (26 == 32) ((zc z).drop 26)) [(wR n == ((26 : Nat) : Int)) = true] := by unfold givesV; kernel_rfl
theorem lf_13_27 (z : Nat → Int) (n : Int) : givesV (topR (rawP noG) (run (rawP noG) 80) 13 [cells32 z, .val (.int .i64 n)] [] (List.replicate 27 false ++ [true])) (.bts (27 == 32) ((zc z).drop 27)) [(wR n == ((27 : Nat) : Int)) = true] := by unfold givesV; kernel_rfl
theorem lf_13_28 (z : Nat → Int) (n : Int) : givesV (topR (rawP noG) (run (rawP noG) 80) 13 [cells32 z, .val (.int .i64 n)] [] (List.replicate 28 false ++ [true])) (.bts (28 == 32) ((zc z).drop 28)) [(wR n == ((28 : Nat) : Int)) = true] := by unfold givesV; kernel_rfl
theorem lf_13_29 (z : Nat → Int) (n : Int) : givesV (topR (rawP noG) (run (rawP noG) 80) 13 [cells32 z, .val (.int .i64 n)] [] (List.replicate 29 false ++ [true])) (.bts (29 == 32) ((zc z).drop 29)) [(wR n == ((29 : Nat) : Int)) = true] := by unfold givesV; kernel_rfl
theorem lf_13_30 (z : Nat → Int) (n : Int) : givesV (topR (rawP noG) (run (rawP noG) 80) 13 [cells32 z, .val (.int .i64 n)] [] (List.replicate 30 false ++ [true])) (.bts (30 == 32) ((zc z).drop 30)) [(wR n == ((30 : Nat) : Int)) = true] := by unfold givesV; kernel_rfl
theorem lf_13_31 (z : Nat → Int) (n : Int) : givesV (topR (rawP noG) (run (rawP noG) 80) 13 [cells32 z, .val (.int .i64 n)] [] (List.replicate 31 false ++ [true])) (.bts (31 == 32) ((zc z).drop 31)) [(wR n == ((31 : Nat) : Int)) = true] := by unfold givesV; kernel_rfl
theorem lf_13_32 (z : Nat → Int) (n : Int) : givesV (topR (rawP noG) (run (rawP noG) 80) 13 [cells32 z, .val (.int .i64 n)] [] (List.replicate 32 false ++ [true])) (.bts (32 == 32) ((zc z).drop 32)) [(wR n == ((32 : Nat) : Int)) = true] := by unfold givesV; kernel_rfl
theorem lf_13 (z : Nat → Int) (n : Int) : ∀ k : Nat, k < 33 → givesV (topR (rawP noG) (run (rawP noG) 80) 13 [cells32 z, .val (.int .i64 n)] [] (List.replicate k false ++ [true])) (.bts (k == 32) ((zc z).drop k)) [(wR n == ((k : Nat) : Int)) = true]
  | 0, _ => lf_13_0 z n
  | 1, _ => lf_13_1 z n
  | 2, _ => lf_13_2 z n
  | 3, _ => lf_13_3 z n
  | 4, _ => lf_13_4 z n
  | 5, _ => lf_13_5 z n
  | 6, _ => lf_13_6 z n
  | 7, _ => lf_13_7 z n
  | 8, _ => lf_13_8 z n
  | 9, _ => lf_13_9 z n
  | 10, _ => lf_13_10 z n
  | 11, _ => lf_13_11 z n
  | 12, _ => lf_13_12 z n
  | 13, _ => lf_13_13 z n
  | 14, _ => lf_13_14 z n
  | 15, _ => lf_13_15 z n
  | 16, _ => lf_13_16 z n
  | 17, _ => lf_13_17 z n
  | 18, _ => lf_13_18 z n
  | 19, _ => lf_13_19 z n
  | 20, _ => lf_13_20 z n
  | 21, _ => lf_13_21 z n
  | 22, _ => lf_13_22 z n
  | 23, _ => lf_13_23 z n
  | 24, _ => lf_13_24 z n
  | 25, _ => lf_13_25 z n
  | 26, _ => lf_13_26 z n
  | 27, _ => lf_13_27 z n
  | 28, _ => lf_13_28 z n
  | 29, _ => lf_13_29 z n
  | 30, _ => lf_13_30 z n
  | 31, _ => lf_13_31 z n
  | 32, _ => lf_13_32 z n
  | k + 33, h => absurd h (by omega)
theorem lf_14_0 (z : Nat → Int) (n : Int) : givesV (topR (rawP noG) (run (rawP noG) 80) 14 [cells32 z, .val (.int .i64 n)] [] (List.replicate 0 false ++ [true])) (.bts (0 == 32) ((zc z).drop 0)) [(wR n == ((0 : Nat) : Int)) = true] := by unfold givesV; kernel_rfl
theorem lf_14_1 (z : Nat → Int) (n : Int) : givesV (topR (rawP noG) (run (rawP noG) 80) 14 [cells32 z, .val (.int .i64 n)] [] (List.replicate 1 false ++ [true])) (.bts (1 == 32) ((zc z).drop 1)) [(wR n == ((1 : Nat) : Int)) = true] := by unfold givesV; kernel_rfl
theorem lf_14_2 (z : Nat → Int) (n : Int) : givesV (topR (rawP noG) (run (rawP noG) 80) 14 [cells32 z, .val (.int .i64 n)] [] (List.replicate 2 false ++ [true])) (.bts (2 == 32) ((zc z).drop 2)) [(wR n == ((2 : Nat) : Int)) = true] := by unfold givesV; kernel_rfl
theorem lf_14_3 (z : Nat → Int) (n : Int) : givesV (topR (rawP noG) (run (rawP noG) 80) 14 [cells32 z, .val (.int .i64 n)] [] (List.replicate 3 false ++ [true])) (.bts (3 == 32) ((zc z).drop 3)) [(wR n == ((3 : Nat) : Int)) = true] := by unfold givesV; kernel_rfl
theorem lf_14_4 (z : Nat → Int) (n : Int) : givesV (topR (rawP noG) (run (rawP noG) 80) 14 [cells32 z, .val (.int .i64 n)] [] (List.replicate 4 false ++ [true])) (.bts (4 == 32) ((zc z).drop 4)) [(wR n == ((4 : Nat) : Int)) = true] := by unfold givesV; kernel_rfl
theorem lf_14_5 (z : Nat → Int) (n : Int) : givesV (topR (rawP noG) (run (rawP noG) 80) 14 [cells32 z, .val (.int .i64 n)] [] (List.replicate 5 false ++ [true])) (.bts (5 == 32) ((zc z).drop 5)) [(wR n == ((5 : Nat) : Int)) = true] := by unfold givesV; kernel_rfl
theorem lf_14_6 (z : Nat → Int) (n : Int) : givesV (topR (rawP noG) (run (rawP noG) 80) 14 [cells32 z, .val (.int .i64 n)] [] (List.replicate 6 false ++ [true])) (.bts (6 == 32) ((zc z).drop 6)) [(wR n == ((6 : Nat) : Int)) = true] := by unfold givesV; kernel_rfl
theorem lf_14_7 (z : Nat → Int) (n : Int) : givesV (topR (rawP noG) (run (rawP noG) 80) 14 [cells32 z, .val (.int .i64 n)] [] (List.replicate 7 false ++ [true])) (.bts (7 == 32) ((zc z).drop 7)) [(wR n == ((7 : Nat) : Int)) = true] := by unfold givesV; kernel_rfl
theorem lf_14_8 (z : Nat → Int) (n : Int) : givesV (topR (rawP noG) (run (rawP noG) 80) 14 [cells32 z, .val (.int .i64 n)] [] (List.replicate 8 false ++ [true])) (.bts (8 == 32) ((zc z).drop 8)) [(wR n == ((8 : Nat) : Int)) = true] := by unfold givesV; kernel_rfl
theorem lf_14_9 (z : Nat → Int) (n : Int) : givesV (topR (rawP noG) (run (rawP noG) 80) 14 [cells32 z, .val (.int .i64 n)] [] (List.replicate 9 false ++ [true])) (.bts (9 == 32) ((zc z).drop 9)) [(wR n == ((9 : Nat) : Int)) = true] := by unfold givesV; kernel_rfl
theorem lf_14_10 (z : Nat → Int) (n : Int) : givesV (topR (rawP noG) (run (rawP noG) 80) 14 [cells32 z, .val (.int .i64 n)] [] (List.replicate 10 false ++ [true])) (.bts (10 == 32) ((zc z).drop 10)) [(wR n == ((10 : Nat) : Int)) = true] := by unfold givesV; kernel_rfl
theorem lf_14_11 (z : Nat → Int) (n : Int) : givesV (topR (rawP noG) (run (rawP noG) 80) 14 [cells32 z, .val (.int .i64 n)] [] (List.replicate 11 false ++ [true])) (.bts (11 == 32) ((zc z).drop 11)) [(wR n == ((11 : Nat) : Int)) = true] := by unfold givesV; kernel_rfl
theorem lf_14_12 (z : Nat → Int) (n : Int) : givesV (topR (rawP noG) (run (rawP noG) 80) 14 [cells32 z, .val (.int .i64 n)] [] (List.replicate 12 false ++ [true])) (.bts (12 == 32) ((zc z).drop 12)) [(wR n == ((12 : Nat) : Int)) = true] := by unfold givesV; kernel_rfl
theorem lf_14_13 (z : Nat → Int) (n : Int) : givesV (topR (rawP noG) (run (rawP noG) 80) 14 [cells32 z, .val (.int .i64 n)] [] (List.replicate 13 false ++ [true])) (.bts (13 == 32) ((zc z).drop 13)) [(wR n == ((13 : Nat) : Int)) = true] := by unfold givesV; kernel_rfl
theorem lf_14_14 (z : Nat → Int) (n : Int) : givesV (topR (rawP noG) (run (rawP noG) 80) 14 [cells32 z, .val (.int .i64 n)] [] (List.replicate 14 false ++ [true])) (.bts (14 == 32) ((zc z).drop 14)) [(wR n == ((14 : Nat) : Int)) = true] := by unfold givesV; kernel_rfl
theorem lf_14_15 (z : Nat → Int) (n : Int) : givesV (topR (rawP noG) (run (rawP noG) 80) 14 [cells32 z, .val (.int .i64 n)] [] (List.replicate 15 false ++ [true])) (.bts (15 == 32) ((zc z).drop 15)) [(wR n == ((15 : Nat) : Int)) = true] := by unfold givesV; kernel_rfl
theorem lf_14_16 (z : Nat → Int) (n : Int) : givesV (topR (rawP noG) (run (rawP noG) 80) 14 [cells32 z, .val (.int .i64 n)] [] (List.replicate 16 false ++ [true])) (.bts (16 == 32) ((zc z).drop 16)) [(wR n == ((16 : Nat) : Int)) = true] := by unfold givesV; kernel_rfl
theorem lf_14_17 (z : Nat → Int) (n : Int) : givesV (topR (rawP noG) (run (rawP noG) 80) 14 [cells32 z, .val (.int .i64 n)] [] (List.replicate 17 false ++ [true])) (.bts (17 == 32) ((zc z).drop 17)) [(wR n == ((17 : Nat) : Int)) = true] := by unfold givesV; kernel_rfl
theorem lf_14_18 (z : Nat → Int) (n : Int) : givesV (topR (rawP noG) (run (rawP noG) 80) 14 [cells32 z, .val (.int .i64 n)] [] (List.replicate 18 false ++ [true])) (.bts (18 == 32) ((zc z).drop 18)) [(wR n == ((18 : Nat) : Int)) = true] := by unfold givesV; kernel_rfl
theorem lf_14_19 (z : Nat → Int) (n : Int) : givesV (topR (rawP noG) (run (rawP noG) 80) 14 [cells32 z, .val (.int .i64 n)] [] (List.replicate 19 false ++ [true])) (.bts (19 == 32) ((zc z).drop 19)) [(wR n == ((19 : Nat) : Int)) = true] := by unfold givesV; kernel_rfl
theorem lf_14_20 (z : Nat → Int) (n : Int) : givesV (topR (rawP noG) (run (rawP noG) 80) 14 [cells32 z, .val (.int .i64 n)] [] (List.replicate 20 false ++ [true])) (.bts (20 == 32) ((zc z).drop 20)) [(wR n == ((20 : Nat) : Int)) = true] := by unfold givesV; kernel_rfl
theorem lf_14_21 (z : Nat → Int) (n : Int) : givesV (topR (rawP noG) (run (rawP noG) 80) 14 [cells32 z, .val (.int .i64 n)] [] (List.replicate 21 false ++ [true])) (.bts (21 == 32) ((zc z).drop 21)) [(wR n == ((21 : Nat) : Int)) = true] := by unfold givesV; kernel_rfl
theorem lf_14_22 (z : Nat → Int) (n : Int) : givesV (topR (rawP noG) (run (rawP noG) 80) 14 [cells32 z, .val (.int .i64 n)] [] (List.replicate 22 false ++ [true])) (.bts (22 == 32) ((zc z).drop 22)) [(wR n == ((22 : Nat) : Int)) = true] := by unfold givesV; kernel_rfl
theorem lf_14_23 (z : Nat → Int) (n : Int) : givesV (topR (rawP noG) (run (rawP noG) 80) 14 [cells32 z, .val (.int .i64 n)] [] (List.replicate 23 false ++ [true])) (.bts (23 == 32) ((zc z).drop 23)) [(wR n == ((23 : Nat) : Int)) = true] := by unfold givesV; kernel_rfl
theorem lf_14_24 (z : Nat → Int) (n : Int) : givesV (topR (rawP noG) (run (rawP noG) 80) 14 [cells32 z, .val (.int .i64 n)] [] (List.replicate 24 false ++ [true])) (.bts (24 == 32) ((zc z).drop 24)) [(wR n == ((24 : Nat) : Int)) = true] := by unfold givesV; kernel_rfl
theorem lf_14_25 (z : Nat → Int) (n : Int) : givesV (topR (rawP noG) (run (rawP noG) 80) 14 [cells32 z, .val (.int .i64 n)] [] (List.replicate 25 false ++ [true])) (.bts (25 == 32) ((zc z).drop 25)) [(wR n == ((25 : Nat) : Int)) = true] := by unfold givesV; kernel_rfl
theorem lf_14_26 (z : Nat → Int) (n : Int) : givesV (topR (rawP noG) (run (rawP noG) 80) 14 [cells32 z, .val (.int .i64 n)] [] (List.replicate 26 false ++ [true])) (.bts (26 == 32) ((zc z).drop 26)) [(wR n == ((26 : Nat) : Int)) = true] := by unfold givesV; kernel_rfl
theorem lf_14_27 (z : Nat → Int) (n : Int) : givesV (topR (rawP noG) (run (rawP noG) 80) 14 [cells32 z, .val (.int .i64 n)] [] (List.replicate 27 false ++ [true])) (.bts (27 == 32) ((zc z).drop 27)) [(wR n == ((27 : Nat) : Int)) = true] := by unfold givesV; kernel_rfl
theorem lf_14_28 (z : Nat → Int) (n : Int) : givesV (topR (rawP noG) (run (rawP noG) 80) 14 [cells32 z, .val (.int .i64 n)] [] (List.replicate 28 false ++ [true])) (.bts (28 == 32) ((zc z).drop 28)) [(wR n == ((28 : Nat) : Int)) = true] := by unfold givesV; kernel_rfl
theorem lf_14_29 (z : Nat → Int) (n : Int) : givesV (topR (rawP noG) (run (rawP noG) 80) 14 [cells32 z, .val (.int .i64 n)] [] (List.replicate 29 false ++ [true])) (.bts (29 == 32) ((zc z).drop 29)) [(wR n == ((29 : Nat) : Int)) = true] := by unfold givesV; kernel_rfl
theorem lf_14_30 (z : Nat → Int) (n : Int) : givesV (topR (rawP noG) (run (rawP noG) 80) 14 [cells32 z, .val (.int .i64 n)] [] (List.replicate 30 false ++ [true])) (.bts (30 == 32) ((zc z).drop 30)) [(wR n == ((30 : Nat) : Int)) = true] := by unfold givesV; kernel_rfl
theorem lf_14_31 (z : Nat → Int) (n : Int) : givesV (topR (rawP noG) (run (rawP noG) 80) 14 [cells32 z, .val (.int .i64 n)] [] (List.replicate 31 false ++ [true])) (.bts (31 == 32) ((zc z).drop 31)) [(wR n == ((31 : Nat) : Int)) = true] := by unfold givesV; kernel_rfl
theorem lf_14_32 (z : Nat → Int) (n : Int) : givesV (topR (rawP noG) (run (rawP noG) 80) 14 [cells32 z, .val (.int .i64 n)] [] (List.replicate 32 false ++ [true])) (.bts (32 == 32) ((zc z).drop 32)) [(wR n == ((32 : Nat) : Int)) = true] := by unfold givesV; kernel_rfl
theorem lf_14 (z : Nat → Int) (n : Int) : ∀ k : Nat, k < 33 → givesV (topR (rawP noG) (run (rawP noG) 80) 14 [cells32 z, .val (.int .i64 n)] [] (List.replicate k false ++ [true])) (.bts (k == 32) ((zc z).drop k)) [(wR n == ((k : Nat) : Int)) = true]
  | 0, _ => lf_14_0 z n
  | 1, _ => lf_14_1 z n
  | 2, _ => lf_14_2 z n
  | 3, _ => lf_14_3 z n
  | 4, _ => lf_14_4 z n
  | 5, _ => lf_14_5 z n
  | 6, _ => lf_14_6 z n
  | 7, _ => lf_14_7 z n
  | 8, _ => lf_14_8 z n
  | 9, _ => lf_14_9 z n
  | 10, _ => lf_14_10 z n
  | 11, _ => lf_14_11 z n
  | 12, _ => lf_14_12 z n
  | 13, _ => lf_14_13 z n
  | 14, _ => lf_14_14 z n
  | 15, _ => lf_14_15 z n
  | 16, _ => lf_14_16 z n
  | 17, _ => lf_14_17 z n
  | 18, _ => lf_14_18 z n
  | 19, _ => lf_14_19 z n
  | 20, _ => lf_14_20 z n
  | 21, _ => lf_14_21 z n
  | 22, _ => lf_14_22 z n
  | 23, _ => lf_14_23 z n
  | 24, _ => lf_14_24 z n
  | 25, _ => lf_14_25 z n
  | 26, _ => lf_14_26 z n
  | 27, _ => lf_14_27 z n
  | 28, _ => lf_14_28 z n
  | 29, _ => lf_14_29 z n
  | 30, _ => lf_14_30 z n
  | 31, _ => lf_14_31 z n
  | 32, _ => lf_14_32 z n
  | k + 33, h => absurd h (by omega)
theorem wN_le (n : Int) : 0 ≤ wN n ∧ wN n ≤ 32 := by
  unfold wN; split <;> split <;> omega
theorem wR_eq (n : Int) : wR n = 32 - wN n := by
  have := wN_le n
  unfold wR; rw [wi64]; omega
def leftT (z : Nat → Int) (n : Int) : ByteArray := ⟨((zc z).take (wN n).toNat).toArray⟩
def rightT (z : Nat → Int) (n : Int) : ByteArray := ⟨((zc z).drop (wR n).toNat).toArray⟩
def zsOf : List SV → Option (List Int)
  | [] => some []
  | .val (.int .u8 z) :: r => match zsOf r with
    | some l => some (z :: l)
    | none => none
  | _ => none
theorem zsOf_eq : ∀ {l : List SV} {zs : List Int}, zsOf l = some zs → l = zs.map fun z => .val (.int .u8 z)
  | [], zs, h => by simp only [zsOf, Option.some.injEq] at h; subst h; rfl
  | s :: l, zs, h => by
    unfold zsOf at h
    split at h
    · simp at *
    · rename_i z r heq
      simp only [List.cons.injEq] at heq
      obtain ⟨rfl, rfl⟩ := heq
      split at h
      · rename_i m hm
        simp only [Option.some.injEq] at h; subst h
        rw [List.map_cons, ← zsOf_eq hm]
      · simp at h
    · simp at h
theorem cells_zs (zs : List Int) (h : zs.length = 32) : SV.agg (zs.map fun z => .val (.int .u8 z)) = cells32 fun i => zs.getD i 0 := by
  unfold cells32
  congr 1
  refine List.ext_getElem (by simp [h]) fun i h1 h2 => ?_
  have hi : i < zs.length := by simpa using h1
  simp only [List.getElem_map, List.getElem_range]
  rw [List.getD_eq_getElem?_getD, List.getElem?_eq_getElem hi]; rfl
noncomputable def leftG : Raw := fun f args hp =>
  match args with
  | [.agg l, .val (.int .i64 n)] =>
    match zsOf l with
    | some zs => if f = 11 ∨ f = 12 then some (.val (.string (leftT (fun i => zs.getD i 0) n)), .pr (zs.length = 32))
      else if f = 13 ∨ f = 14 then some (.val (.string (rightT (fun i => zs.getD i 0) n)), .pr (zs.length = 32)) else none
    | none => none
  | _ => none
theorem leftG_ok : leftG.Ok := by
  intro f args hp s c h hc B η w vs hr hargs
  unfold leftG at h
  split at h
  · rename_i l n
    split at h
    · rename_i zs hz
      have go : ∀ (hl : zs.length = 32), Rs [] [cells32 (fun i => zs.getD i 0), .val (.int .i64 n)] vs := fun hl => by
        refine Rs.free (η := η) _ _ ?_ ?_
        · rw [← cells_zs zs hl]
          have : ∀ m : List Int, frees (m.map fun z => SV.val (.int .u8 z)) = true := fun m => by
            induction m with
            | nil => rfl
            | cons a m ih => simp only [List.map_cons, frees, Bool.and_eq_true]; exact ⟨rfl, ih⟩
          simp only [frees, SV.free, this, Bool.and_true]
        · rw [← cells_zs zs hl, ← zsOf_eq hz]; exact hargs
      have w0 : HR w.heap.size [] [] w := HR.none w
      have hw := wN_le n
      have hw2 := wR_eq n
      split at h
      · rename_i hf
        simp only [Option.some.injEq, Prod.mk.injEq] at h
        obtain ⟨rfl, rfl⟩ := h
        have hl : zs.length = 32 := hc
        have hd : (wN n == (((wN n).toNat : Nat) : Int)) = true := by simp; omega
        rcases hf with rfl | rfl
        · refine (callsV (X := rawP noG) rfl (rawP_ct noG_ok) (rawP_lp _) 80 (lf_11 _ n (wN n).toNat (by omega)) ⟨hd, trivial⟩ rfl w0 (go hl)).mono fun e w' hq => ?_
          obtain ⟨v, rfl, hR, hb⟩ := hq
          exact ⟨v, rfl, by simp only [R] at hR ⊢; exact hR, hb⟩
        · refine (callsV (X := rawP noG) rfl (rawP_ct noG_ok) (rawP_lp _) 80 (lf_12 _ n (wN n).toNat (by omega)) ⟨hd, trivial⟩ rfl w0 (go hl)).mono fun e w' hq => ?_
          obtain ⟨v, rfl, hR, hb⟩ := hq
          exact ⟨v, rfl, by simp only [R] at hR ⊢; exact hR, hb⟩
      · split at h
        · rename_i hf
          simp only [Option.some.injEq, Prod.mk.injEq] at h
          obtain ⟨rfl, rfl⟩ := h
          have hl : zs.length = 32 := hc
          have hd : (wR n == (((wR n).toNat : Nat) : Int)) = true := by simp; omega
          rcases hf with rfl | rfl
          · refine (callsV (X := rawP noG) rfl (rawP_ct noG_ok) (rawP_lp _) 80 (lf_13 _ n (wR n).toNat (by omega)) ⟨hd, trivial⟩ rfl w0 (go hl)).mono fun e w' hq => ?_
            obtain ⟨v, rfl, hR, hb⟩ := hq
            exact ⟨v, rfl, by simp only [R] at hR ⊢; exact hR, hb⟩
          · refine (callsV (X := rawP noG) rfl (rawP_ct noG_ok) (rawP_lp _) 80 (lf_14 _ n (wR n).toNat (by omega)) ⟨hd, trivial⟩ rfl w0 (go hl)).mono fun e w' hq => ?_
            obtain ⟨v, rfl, hR, hb⟩ := hq
            exact ⟨v, rfl, by simp only [R] at hR ⊢; exact hR, hb⟩
        · simp at h
    · simp at h
  · simp at h
end Go.Proofs.YtclafmabccbhjaaDoor
