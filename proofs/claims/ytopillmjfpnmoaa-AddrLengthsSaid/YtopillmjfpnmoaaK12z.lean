/-
  Walks of functions, reckoned through, and what they give (part K12z). No condition beyond what each says. By an AI agent.
-/
import Derived.Test.YtopillmjfpnmoaaK12r0
import Derived.Test.YtopillmjfpnmoaaK12r1
import Derived.Test.YtopillmjfpnmoaaK12t0
import Derived.Test.YtopillmjfpnmoaaK12t1
import Derived.Test.YtopillmjfpnmoaaK12t2
import Derived.Test.YtopillmjfpnmoaaK12t3
import Derived.Test.YtopillmjfpnmoaaK12t4
import Derived.Test.YtopillmjfpnmoaaK12t5
import Derived.Test.YtopillmjfpnmoaaK12t6
import Derived.Test.YtopillmjfpnmoaaK12t7
namespace Go.Proofs.Ytopillmjfpnmoaa
open Go.Ex
open Go.RowKit (Below)
set_option linter.unusedVariables false
set_option linter.unusedSimpArgs false
set_option maxRecDepth 1000000
theorem r7_k (c lo : Int) (d d' : Nat → Value) : ∀ (e : Bool) (k : Nat), 1 ≤ k → k ≤ 63 → rnd7 e c lo k d d'
  | _, 0, h, _ => absurd h (by omega)
  | true, 1, _, _ => r7t_1 _ _ _ _
  | true, 2, _, _ => r7t_2 _ _ _ _
  | true, 3, _, _ => r7t_3 _ _ _ _
  | true, 4, _, _ => r7t_4 _ _ _ _
  | true, 5, _, _ => r7t_5 _ _ _ _
  | true, 6, _, _ => r7t_6 _ _ _ _
  | true, 7, _, _ => r7t_7 _ _ _ _
  | true, 8, _, _ => r7t_8 _ _ _ _
  | true, 9, _, _ => r7t_9 _ _ _ _
  | true, 10, _, _ => r7t_10 _ _ _ _
  | true, 11, _, _ => r7t_11 _ _ _ _
  | true, 12, _, _ => r7t_12 _ _ _ _
  | true, 13, _, _ => r7t_13 _ _ _ _
  | true, 14, _, _ => r7t_14 _ _ _ _
  | true, 15, _, _ => r7t_15 _ _ _ _
  | true, 16, _, _ => r7t_16 _ _ _ _
  | true, 17, _, _ => r7t_17 _ _ _ _
  | true, 18, _, _ => r7t_18 _ _ _ _
  | true, 19, _, _ => r7t_19 _ _ _ _
  | true, 20, _, _ => r7t_20 _ _ _ _
  | true, 21, _, _ => r7t_21 _ _ _ _
  | true, 22, _, _ => r7t_22 _ _ _ _
  | true, 23, _, _ => r7t_23 _ _ _ _
  | true, 24, _, _ => r7t_24 _ _ _ _
  | true, 25, _, _ => r7t_25 _ _ _ _
  | true, 26, _, _ => r7t_26 _ _ _ _
  | true, 27, _, _ => r7t_27 _ _ _ _
  | true, 28, _, _ => r7t_28 _ _ _ _
  | true, 29, _, _ => r7t_29 _ _ _ _
  | true, 30, _, _ => r7t_30 _ _ _ _
  | true, 31, _, _ => r7t_31 _ _ _ _
  | true, 32, _, _ => r7t_32 _ _ _ _
  | true, 33, _, _ => r7t_33 _ _ _ _
  | true, 34, _, _ => r7t_34 _ _ _ _
  | true, 35, _, _ => r7t_35 _ _ _ _
  | true, 36, _, _ => r7t_36 _ _ _ _
  | true, 37, _, _ => r7t_37 _ _ _ _
  | true, 38, _, _ => r7t_38 _ _ _ _
  | true, 39, _, _ => r7t_39 _ _ _ _
  | true, 40, _, _ => r7t_40 _ _ _ _
  | true, 41, _, _ => r7t_41 _ _ _ _
  | true, 42, _, _ => r7t_42 _ _ _ _
  | true, 43, _, _ => r7t_43 _ _ _ _
  | true, 44, _, _ => r7t_44 _ _ _ _
  | true, 45, _, _ => r7t_45 _ _ _ _
  | true, 46, _, _ => r7t_46 _ _ _ _
  | true, 47, _, _ => r7t_47 _ _ _ _
  | true, 48, _, _ => r7t_48 _ _ _ _
  | true, 49, _, _ => r7t_49 _ _ _ _
  | true, 50, _, _ => r7t_50 _ _ _ _
  | true, 51, _, _ => r7t_51 _ _ _ _
  | true, 52, _, _ => r7t_52 _ _ _ _
  | true, 53, _, _ => r7t_53 _ _ _ _
  | true, 54, _, _ => r7t_54 _ _ _ _
  | true, 55, _, _ => r7t_55 _ _ _ _
  | true, 56, _, _ => r7t_56 _ _ _ _
  | true, 57, _, _ => r7t_57 _ _ _ _
  | true, 58, _, _ => r7t_58 _ _ _ _
  | true, 59, _, _ => r7t_59 _ _ _ _
  | true, 60, _, _ => r7t_60 _ _ _ _
  | true, 61, _, _ => r7t_61 _ _ _ _
  | true, 62, _, _ => r7t_62 _ _ _ _
  | true, 63, _, _ => r7t_63 _ _ _ _
  | false, 1, _, _ => r7f_1 _ _ _ _
  | false, 2, _, _ => r7f_2 _ _ _ _
  | false, 3, _, _ => r7f_3 _ _ _ _
  | false, 4, _, _ => r7f_4 _ _ _ _
  | false, 5, _, _ => r7f_5 _ _ _ _
  | false, 6, _, _ => r7f_6 _ _ _ _
  | false, 7, _, _ => r7f_7 _ _ _ _
  | false, 8, _, _ => r7f_8 _ _ _ _
  | false, 9, _, _ => r7f_9 _ _ _ _
  | false, 10, _, _ => r7f_10 _ _ _ _
  | false, 11, _, _ => r7f_11 _ _ _ _
  | false, 12, _, _ => r7f_12 _ _ _ _
  | false, 13, _, _ => r7f_13 _ _ _ _
  | false, 14, _, _ => r7f_14 _ _ _ _
  | false, 15, _, _ => r7f_15 _ _ _ _
  | false, 16, _, _ => r7f_16 _ _ _ _
  | false, 17, _, _ => r7f_17 _ _ _ _
  | false, 18, _, _ => r7f_18 _ _ _ _
  | false, 19, _, _ => r7f_19 _ _ _ _
  | false, 20, _, _ => r7f_20 _ _ _ _
  | false, 21, _, _ => r7f_21 _ _ _ _
  | false, 22, _, _ => r7f_22 _ _ _ _
  | false, 23, _, _ => r7f_23 _ _ _ _
  | false, 24, _, _ => r7f_24 _ _ _ _
  | false, 25, _, _ => r7f_25 _ _ _ _
  | false, 26, _, _ => r7f_26 _ _ _ _
  | false, 27, _, _ => r7f_27 _ _ _ _
  | false, 28, _, _ => r7f_28 _ _ _ _
  | false, 29, _, _ => r7f_29 _ _ _ _
  | false, 30, _, _ => r7f_30 _ _ _ _
  | false, 31, _, _ => r7f_31 _ _ _ _
  | false, 32, _, _ => r7f_32 _ _ _ _
  | false, 33, _, _ => r7f_33 _ _ _ _
  | false, 34, _, _ => r7f_34 _ _ _ _
  | false, 35, _, _ => r7f_35 _ _ _ _
  | false, 36, _, _ => r7f_36 _ _ _ _
  | false, 37, _, _ => r7f_37 _ _ _ _
  | false, 38, _, _ => r7f_38 _ _ _ _
  | false, 39, _, _ => r7f_39 _ _ _ _
  | false, 40, _, _ => r7f_40 _ _ _ _
  | false, 41, _, _ => r7f_41 _ _ _ _
  | false, 42, _, _ => r7f_42 _ _ _ _
  | false, 43, _, _ => r7f_43 _ _ _ _
  | false, 44, _, _ => r7f_44 _ _ _ _
  | false, 45, _, _ => r7f_45 _ _ _ _
  | false, 46, _, _ => r7f_46 _ _ _ _
  | false, 47, _, _ => r7f_47 _ _ _ _
  | false, 48, _, _ => r7f_48 _ _ _ _
  | false, 49, _, _ => r7f_49 _ _ _ _
  | false, 50, _, _ => r7f_50 _ _ _ _
  | false, 51, _, _ => r7f_51 _ _ _ _
  | false, 52, _, _ => r7f_52 _ _ _ _
  | false, 53, _, _ => r7f_53 _ _ _ _
  | false, 54, _, _ => r7f_54 _ _ _ _
  | false, 55, _, _ => r7f_55 _ _ _ _
  | false, 56, _, _ => r7f_56 _ _ _ _
  | false, 57, _, _ => r7f_57 _ _ _ _
  | false, 58, _, _ => r7f_58 _ _ _ _
  | false, 59, _, _ => r7f_59 _ _ _ _
  | false, 60, _, _ => r7f_60 _ _ _ _
  | false, 61, _, _ => r7f_61 _ _ _ _
  | false, 62, _, _ => r7f_62 _ _ _ _
  | false, 63, _, _ => r7f_63 _ _ _ _
  | _, k + 64, _, h => absurd h (by omega)
theorem x7_k (c lo : Int) (d d' : Nat → Value) : ∀ (e : Bool) (k : Nat), 1 ≤ k → k ≤ 64 → ext7 e c lo k d d'
  | _, 0, h, _ => absurd h (by omega)
  | true, 1, _, _ => x7t_1 _ _ _ _
  | true, 2, _, _ => x7t_2 _ _ _ _
  | true, 3, _, _ => x7t_3 _ _ _ _
  | true, 4, _, _ => x7t_4 _ _ _ _
  | true, 5, _, _ => x7t_5 _ _ _ _
  | true, 6, _, _ => x7t_6 _ _ _ _
  | true, 7, _, _ => x7t_7 _ _ _ _
  | true, 8, _, _ => x7t_8 _ _ _ _
  | true, 9, _, _ => x7t_9 _ _ _ _
  | true, 10, _, _ => x7t_10 _ _ _ _
  | true, 11, _, _ => x7t_11 _ _ _ _
  | true, 12, _, _ => x7t_12 _ _ _ _
  | true, 13, _, _ => x7t_13 _ _ _ _
  | true, 14, _, _ => x7t_14 _ _ _ _
  | true, 15, _, _ => x7t_15 _ _ _ _
  | true, 16, _, _ => x7t_16 _ _ _ _
  | true, 17, _, _ => x7t_17 _ _ _ _
  | true, 18, _, _ => x7t_18 _ _ _ _
  | true, 19, _, _ => x7t_19 _ _ _ _
  | true, 20, _, _ => x7t_20 _ _ _ _
  | true, 21, _, _ => x7t_21 _ _ _ _
  | true, 22, _, _ => x7t_22 _ _ _ _
  | true, 23, _, _ => x7t_23 _ _ _ _
  | true, 24, _, _ => x7t_24 _ _ _ _
  | true, 25, _, _ => x7t_25 _ _ _ _
  | true, 26, _, _ => x7t_26 _ _ _ _
  | true, 27, _, _ => x7t_27 _ _ _ _
  | true, 28, _, _ => x7t_28 _ _ _ _
  | true, 29, _, _ => x7t_29 _ _ _ _
  | true, 30, _, _ => x7t_30 _ _ _ _
  | true, 31, _, _ => x7t_31 _ _ _ _
  | true, 32, _, _ => x7t_32 _ _ _ _
  | true, 33, _, _ => x7t_33 _ _ _ _
  | true, 34, _, _ => x7t_34 _ _ _ _
  | true, 35, _, _ => x7t_35 _ _ _ _
  | true, 36, _, _ => x7t_36 _ _ _ _
  | true, 37, _, _ => x7t_37 _ _ _ _
  | true, 38, _, _ => x7t_38 _ _ _ _
  | true, 39, _, _ => x7t_39 _ _ _ _
  | true, 40, _, _ => x7t_40 _ _ _ _
  | true, 41, _, _ => x7t_41 _ _ _ _
  | true, 42, _, _ => x7t_42 _ _ _ _
  | true, 43, _, _ => x7t_43 _ _ _ _
  | true, 44, _, _ => x7t_44 _ _ _ _
  | true, 45, _, _ => x7t_45 _ _ _ _
  | true, 46, _, _ => x7t_46 _ _ _ _
  | true, 47, _, _ => x7t_47 _ _ _ _
  | true, 48, _, _ => x7t_48 _ _ _ _
  | true, 49, _, _ => x7t_49 _ _ _ _
  | true, 50, _, _ => x7t_50 _ _ _ _
  | true, 51, _, _ => x7t_51 _ _ _ _
  | true, 52, _, _ => x7t_52 _ _ _ _
  | true, 53, _, _ => x7t_53 _ _ _ _
  | true, 54, _, _ => x7t_54 _ _ _ _
  | true, 55, _, _ => x7t_55 _ _ _ _
  | true, 56, _, _ => x7t_56 _ _ _ _
  | true, 57, _, _ => x7t_57 _ _ _ _
  | true, 58, _, _ => x7t_58 _ _ _ _
  | true, 59, _, _ => x7t_59 _ _ _ _
  | true, 60, _, _ => x7t_60 _ _ _ _
  | true, 61, _, _ => x7t_61 _ _ _ _
  | true, 62, _, _ => x7t_62 _ _ _ _
  | true, 63, _, _ => x7t_63 _ _ _ _
  | true, 64, _, _ => x7t_64 _ _ _ _
  | false, 1, _, _ => x7f_1 _ _ _ _
  | false, 2, _, _ => x7f_2 _ _ _ _
  | false, 3, _, _ => x7f_3 _ _ _ _
  | false, 4, _, _ => x7f_4 _ _ _ _
  | false, 5, _, _ => x7f_5 _ _ _ _
  | false, 6, _, _ => x7f_6 _ _ _ _
  | false, 7, _, _ => x7f_7 _ _ _ _
  | false, 8, _, _ => x7f_8 _ _ _ _
  | false, 9, _, _ => x7f_9 _ _ _ _
  | false, 10, _, _ => x7f_10 _ _ _ _
  | false, 11, _, _ => x7f_11 _ _ _ _
  | false, 12, _, _ => x7f_12 _ _ _ _
  | false, 13, _, _ => x7f_13 _ _ _ _
  | false, 14, _, _ => x7f_14 _ _ _ _
  | false, 15, _, _ => x7f_15 _ _ _ _
  | false, 16, _, _ => x7f_16 _ _ _ _
  | false, 17, _, _ => x7f_17 _ _ _ _
  | false, 18, _, _ => x7f_18 _ _ _ _
  | false, 19, _, _ => x7f_19 _ _ _ _
  | false, 20, _, _ => x7f_20 _ _ _ _
  | false, 21, _, _ => x7f_21 _ _ _ _
  | false, 22, _, _ => x7f_22 _ _ _ _
  | false, 23, _, _ => x7f_23 _ _ _ _
  | false, 24, _, _ => x7f_24 _ _ _ _
  | false, 25, _, _ => x7f_25 _ _ _ _
  | false, 26, _, _ => x7f_26 _ _ _ _
  | false, 27, _, _ => x7f_27 _ _ _ _
  | false, 28, _, _ => x7f_28 _ _ _ _
  | false, 29, _, _ => x7f_29 _ _ _ _
  | false, 30, _, _ => x7f_30 _ _ _ _
  | false, 31, _, _ => x7f_31 _ _ _ _
  | false, 32, _, _ => x7f_32 _ _ _ _
  | false, 33, _, _ => x7f_33 _ _ _ _
  | false, 34, _, _ => x7f_34 _ _ _ _
  | false, 35, _, _ => x7f_35 _ _ _ _
  | false, 36, _, _ => x7f_36 _ _ _ _
  | false, 37, _, _ => x7f_37 _ _ _ _
  | false, 38, _, _ => x7f_38 _ _ _ _
  | false, 39, _, _ => x7f_39 _ _ _ _
  | false, 40, _, _ => x7f_40 _ _ _ _
  | false, 41, _, _ => x7f_41 _ _ _ _
  | false, 42, _, _ => x7f_42 _ _ _ _
  | false, 43, _, _ => x7f_43 _ _ _ _
  | false, 44, _, _ => x7f_44 _ _ _ _
  | false, 45, _, _ => x7f_45 _ _ _ _
  | false, 46, _, _ => x7f_46 _ _ _ _
  | false, 47, _, _ => x7f_47 _ _ _ _
  | false, 48, _, _ => x7f_48 _ _ _ _
  | false, 49, _, _ => x7f_49 _ _ _ _
  | false, 50, _, _ => x7f_50 _ _ _ _
  | false, 51, _, _ => x7f_51 _ _ _ _
  | false, 52, _, _ => x7f_52 _ _ _ _
  | false, 53, _, _ => x7f_53 _ _ _ _
  | false, 54, _, _ => x7f_54 _ _ _ _
  | false, 55, _, _ => x7f_55 _ _ _ _
  | false, 56, _, _ => x7f_56 _ _ _ _
  | false, 57, _, _ => x7f_57 _ _ _ _
  | false, 58, _, _ => x7f_58 _ _ _ _
  | false, 59, _, _ => x7f_59 _ _ _ _
  | false, 60, _, _ => x7f_60 _ _ _ _
  | false, 61, _, _ => x7f_61 _ _ _ _
  | false, 62, _, _ => x7f_62 _ _ _ _
  | false, 63, _, _ => x7f_63 _ _ _ _
  | false, 64, _, _ => x7f_64 _ _ _ _
  | _, k + 65, _, h => absurd h (by omega)
theorem t7_k (c lo : Int) (d : Nat → Value) : ∀ (e : Bool) (k : Nat), 1 ≤ k → k ≤ 64 → tail7 e c lo k d
  | _, 0, h, _ => absurd h (by omega)
  | true, 1, _, _ => t7t_1 _ _ _
  | true, 2, _, _ => t7t_2 _ _ _
  | true, 3, _, _ => t7t_3 _ _ _
  | true, 4, _, _ => t7t_4 _ _ _
  | true, 5, _, _ => t7t_5 _ _ _
  | true, 6, _, _ => t7t_6 _ _ _
  | true, 7, _, _ => t7t_7 _ _ _
  | true, 8, _, _ => t7t_8 _ _ _
  | true, 9, _, _ => t7t_9 _ _ _
  | true, 10, _, _ => t7t_10 _ _ _
  | true, 11, _, _ => t7t_11 _ _ _
  | true, 12, _, _ => t7t_12 _ _ _
  | true, 13, _, _ => t7t_13 _ _ _
  | true, 14, _, _ => t7t_14 _ _ _
  | true, 15, _, _ => t7t_15 _ _ _
  | true, 16, _, _ => t7t_16 _ _ _
  | true, 17, _, _ => t7t_17 _ _ _
  | true, 18, _, _ => t7t_18 _ _ _
  | true, 19, _, _ => t7t_19 _ _ _
  | true, 20, _, _ => t7t_20 _ _ _
  | true, 21, _, _ => t7t_21 _ _ _
  | true, 22, _, _ => t7t_22 _ _ _
  | true, 23, _, _ => t7t_23 _ _ _
  | true, 24, _, _ => t7t_24 _ _ _
  | true, 25, _, _ => t7t_25 _ _ _
  | true, 26, _, _ => t7t_26 _ _ _
  | true, 27, _, _ => t7t_27 _ _ _
  | true, 28, _, _ => t7t_28 _ _ _
  | true, 29, _, _ => t7t_29 _ _ _
  | true, 30, _, _ => t7t_30 _ _ _
  | true, 31, _, _ => t7t_31 _ _ _
  | true, 32, _, _ => t7t_32 _ _ _
  | true, 33, _, _ => t7t_33 _ _ _
  | true, 34, _, _ => t7t_34 _ _ _
  | true, 35, _, _ => t7t_35 _ _ _
  | true, 36, _, _ => t7t_36 _ _ _
  | true, 37, _, _ => t7t_37 _ _ _
  | true, 38, _, _ => t7t_38 _ _ _
  | true, 39, _, _ => t7t_39 _ _ _
  | true, 40, _, _ => t7t_40 _ _ _
  | true, 41, _, _ => t7t_41 _ _ _
  | true, 42, _, _ => t7t_42 _ _ _
  | true, 43, _, _ => t7t_43 _ _ _
  | true, 44, _, _ => t7t_44 _ _ _
  | true, 45, _, _ => t7t_45 _ _ _
  | true, 46, _, _ => t7t_46 _ _ _
  | true, 47, _, _ => t7t_47 _ _ _
  | true, 48, _, _ => t7t_48 _ _ _
  | true, 49, _, _ => t7t_49 _ _ _
  | true, 50, _, _ => t7t_50 _ _ _
  | true, 51, _, _ => t7t_51 _ _ _
  | true, 52, _, _ => t7t_52 _ _ _
  | true, 53, _, _ => t7t_53 _ _ _
  | true, 54, _, _ => t7t_54 _ _ _
  | true, 55, _, _ => t7t_55 _ _ _
  | true, 56, _, _ => t7t_56 _ _ _
  | true, 57, _, _ => t7t_57 _ _ _
  | true, 58, _, _ => t7t_58 _ _ _
  | true, 59, _, _ => t7t_59 _ _ _
  | true, 60, _, _ => t7t_60 _ _ _
  | true, 61, _, _ => t7t_61 _ _ _
  | true, 62, _, _ => t7t_62 _ _ _
  | true, 63, _, _ => t7t_63 _ _ _
  | true, 64, _, _ => t7t_64 _ _ _
  | false, 1, _, _ => t7f_1 _ _ _
  | false, 2, _, _ => t7f_2 _ _ _
  | false, 3, _, _ => t7f_3 _ _ _
  | false, 4, _, _ => t7f_4 _ _ _
  | false, 5, _, _ => t7f_5 _ _ _
  | false, 6, _, _ => t7f_6 _ _ _
  | false, 7, _, _ => t7f_7 _ _ _
  | false, 8, _, _ => t7f_8 _ _ _
  | false, 9, _, _ => t7f_9 _ _ _
  | false, 10, _, _ => t7f_10 _ _ _
  | false, 11, _, _ => t7f_11 _ _ _
  | false, 12, _, _ => t7f_12 _ _ _
  | false, 13, _, _ => t7f_13 _ _ _
  | false, 14, _, _ => t7f_14 _ _ _
  | false, 15, _, _ => t7f_15 _ _ _
  | false, 16, _, _ => t7f_16 _ _ _
  | false, 17, _, _ => t7f_17 _ _ _
  | false, 18, _, _ => t7f_18 _ _ _
  | false, 19, _, _ => t7f_19 _ _ _
  | false, 20, _, _ => t7f_20 _ _ _
  | false, 21, _, _ => t7f_21 _ _ _
  | false, 22, _, _ => t7f_22 _ _ _
  | false, 23, _, _ => t7f_23 _ _ _
  | false, 24, _, _ => t7f_24 _ _ _
  | false, 25, _, _ => t7f_25 _ _ _
  | false, 26, _, _ => t7f_26 _ _ _
  | false, 27, _, _ => t7f_27 _ _ _
  | false, 28, _, _ => t7f_28 _ _ _
  | false, 29, _, _ => t7f_29 _ _ _
  | false, 30, _, _ => t7f_30 _ _ _
  | false, 31, _, _ => t7f_31 _ _ _
  | false, 32, _, _ => t7f_32 _ _ _
  | false, 33, _, _ => t7f_33 _ _ _
  | false, 34, _, _ => t7f_34 _ _ _
  | false, 35, _, _ => t7f_35 _ _ _
  | false, 36, _, _ => t7f_36 _ _ _
  | false, 37, _, _ => t7f_37 _ _ _
  | false, 38, _, _ => t7f_38 _ _ _
  | false, 39, _, _ => t7f_39 _ _ _
  | false, 40, _, _ => t7f_40 _ _ _
  | false, 41, _, _ => t7f_41 _ _ _
  | false, 42, _, _ => t7f_42 _ _ _
  | false, 43, _, _ => t7f_43 _ _ _
  | false, 44, _, _ => t7f_44 _ _ _
  | false, 45, _, _ => t7f_45 _ _ _
  | false, 46, _, _ => t7f_46 _ _ _
  | false, 47, _, _ => t7f_47 _ _ _
  | false, 48, _, _ => t7f_48 _ _ _
  | false, 49, _, _ => t7f_49 _ _ _
  | false, 50, _, _ => t7f_50 _ _ _
  | false, 51, _, _ => t7f_51 _ _ _
  | false, 52, _, _ => t7f_52 _ _ _
  | false, 53, _, _ => t7f_53 _ _ _
  | false, 54, _, _ => t7f_54 _ _ _
  | false, 55, _, _ => t7f_55 _ _ _
  | false, 56, _, _ => t7f_56 _ _ _
  | false, 57, _, _ => t7f_57 _ _ _
  | false, 58, _, _ => t7f_58 _ _ _
  | false, 59, _, _ => t7f_59 _ _ _
  | false, 60, _, _ => t7f_60 _ _ _
  | false, 61, _, _ => t7f_61 _ _ _
  | false, 62, _, _ => t7f_62 _ _ _
  | false, 63, _, _ => t7f_63 _ _ _
  | false, 64, _, _ => t7f_64 _ _ _
  | _, k + 65, _, h => absurd h (by omega)
theorem neP_ok (f c : Int) (k : Nat) : neP (tx7 f c k) := by
  unfold neP
  rw [beq_eq_false_iff_ne]
  intro h
  rw [ByteArray.toList_eq, ByteArray.toList_eq] at h
  unfold tx7 at h
  simp at h
theorem P17_ok (e : Bool) : P17 (fst7 e) 3 := by unfold P17; cases e <;> decide +kernel
theorem P27_ok (e : Bool) : P27 (fst7 e) e := by unfold P27; cases e <;> decide +kernel
theorem P17_64 : P17 64 4 := by unfold P17; decide +kernel
theorem idP_all : ∀ n : Fin 256, (IntKind.i64.wrap (IntKind.u8.wrap (IntKind.u64.wrap ((BitVec.ofInt IntKind.u64.bits 0 ||| BitVec.ofInt IntKind.u64.bits (IntKind.u64.wrap ((UInt8.ofNat ((n : Nat) : Int).toNat).toNat : Int))).toNat : Int))) == IntKind.i64.wrap ((n : Nat) : Int)) = true := by decide +kernel
theorem idP_ok (c : Int) (h : 0 ≤ c ∧ c < 256) : idP c := by
  obtain ⟨m, rfl⟩ := Int.eq_ofNat_of_zero_le h.1
  exact idP_all ⟨m, by omega⟩
theorem L7_ok (e : Bool) (c lo : Int) (hc : 0 ≤ c ∧ c < 256) (k : Nat) (hk : lo = ((k - 1 : Nat) : Int)) : AllP (L7 e c lo k) := by
  unfold L7
  split
  · exact trivial
  · have h5 : ∀ r, AllP r → AllP ([neP (tx7 (fst7 e) c k), P17 (fst7 e) 3, P27 (fst7 e) e, neP (tx7 64 c k), P17 64 4] ++ r) := fun r hr => ⟨neP_ok _ _ _, P17_ok e, P27_ok e, neP_ok _ _ _, P17_64, hr⟩
    refine h5 _ ?_
    split
    · have hlo : (((k - 1 : Nat) : Int) != lo) = false := by rw [hk]; exact bne_self_eq_false _
      split
      · exact ⟨hlo, idP_ok c hc, trivial⟩
      · exact ⟨hlo, trivial⟩
    · exact trivial
theorem stKK_ge (e : Bool) (c lo : Int) (k : Nat) (d : Nat → Value) (h : 2 ≤ k) : stKK e c lo k d = stK7 e c lo k d := by
  unfold stKK
  split
  · omega
  · rfl
theorem loop7 (e : Bool) (c lo : Int) (h0 : 0 ≤ lo) (h1 : lo < 64) (d : Nat → Value) : WpE Try.prog (.loop c7L) 2 (stKK e c lo 1 d) (fun r => r.e = .exit id7 ∧ WeakF 2 r.st (fun d => stKK e c lo (lo.toNat + 1) d)) := by
  have ew : IntKind.i64.wrap (1 + lo) = 1 + lo := by rw [wi64]; omega
  have go := WpE.loopF (P := Try.prog) (c := c7L) (n0 := 2) (γ := {k : Nat // 1 ≤ k ∧ (k : Int) ≤ lo + 1} × (Nat → Value)) (S := fun g => stKK e c lo g.1.1 g.2) (m := fun g => 65 - g.1.1) (F := fun r => r.e = .exit id7 ∧ WeakF 2 r.st (fun d => stKK e c lo (lo.toNat + 1) d)) (fun g => ?_) (⟨1, by omega, by omega⟩, d)
  · exact go
  obtain ⟨⟨k, hk1, hk2⟩, d⟩ := g
  show WpE Try.prog c7L 2 (stKK e c lo k d) _
  by_cases h : (k : Int) < 1 + lo
  · have hc : cnd7 k lo true := by unfold cnd7; rw [ew]; simpa using h
    have nx := wpE_X (X := XL) rfl XL_ct XL_lp (T := fun d' => stK7 e c lo (k + 1) d') (fun d' => r7_k c lo d d' e k hk1 (by omega)) ⟨hc, trivial⟩
    refine nx.mono fun r hr => .inl ⟨hr.1, _, hr.2, fun d' => ⟨(⟨k + 1, by omega, by omega⟩, d'), ?_, (stKK_ge e c lo (k + 1) d' (by omega)).symm⟩⟩
    show 65 - (k + 1) < 65 - k
    omega
  · have hc : cnd7 k lo false := by unfold cnd7; rw [ew]; simpa using h
    have ek : k = lo.toNat + 1 := by omega
    have nx := wpE_X (X := XL) rfl XL_ct XL_lp (T := fun d' => stKK e c lo k d') (fun d' => x7_k c lo d d' e k hk1 (by omega)) ⟨hc, trivial⟩
    rw [← ek]
    exact nx.mono fun r hr => .inr ⟨by rw [hr.1]; exact (fun e => by cases e), hr⟩
theorem wpE_to7 {c : Code} {s t : St} (h : goodR (run XL 80 c s.tm s.hp []) .normal []) (ht : t = (finOf (run XL 80 c s.tm s.hp [])).st) : WpE Try.prog c 2 s (fun r => r.e = .normal ∧ r.st = t) :=
  (wpE_run (X := XL) rfl XL_ct XL_lp h trivial).mono fun r hr => ⟨hr.1, by rw [hr.2, ht]⟩
theorem seq_to7 {x y : Code} {s t : St} {G : Fin → Prop} (h : WpE Try.prog x 2 s (fun r => r.e = .normal ∧ r.st = t)) (k : WpE Try.prog y 2 t G) : WpE Try.prog (.seq x y) 2 s G :=
  WpE.seq h (fun r hr _ => by rw [hr.2]; exact k) (fun r hr hne => absurd hr.1 hne)
theorem rest7 (e : Bool) (c lo : Int) (hc : 0 ≤ c ∧ c < 256) (h0 : 0 ≤ lo) (h1 : lo < 64) (d : Nat → Value) : WpE Try.prog (.seq (.block id7 (.loop c7L)) c7r) 2 (stKK e c lo 1 d) (fun r => r.e = .ret ∧ resultsS Try.prog (fnN 7) r.tm r.hp = some (.bol true)) := by
  refine WpE.seq (F := fun f => f.e = .normal ∧ WeakF 2 f.st (fun d => stKK e c lo (lo.toNat + 1) d)) (WpE.block (loop7 e c lo h0 h1 d) fun f hf => unblk hf) (fun r hr hn => ?_) (fun r hr hne => absurd hr.1 hne)
  exact wpE_weakF hr.2 fun d => wpE_T (t7_k c lo d e (lo.toNat + 1) (by omega) (by omega)) (L7_ok e c lo hc _ (by omega))
theorem body7t (c n : Int) (hc : 0 ≤ c ∧ c < 256) (hn : 0 ≤ n ∧ n < 256) : WpE Try.prog (code 7) 2 (s7 true c n) (fun r => r.e = .ret ∧ resultsS Try.prog (fnN 7) r.tm r.hp = some (.bol true)) := by
  have el : IntKind.i64.wrap (n.tmod 64) = n % 64 := by
    rw [Int.tmod_eq_emod_of_nonneg hn.1, wi64]; omega
  rw [code7]
  refine seq_to7 (t := s7b true c n) (wpE_to7 (h7a_t c n) rfl) ?_
  refine seq_to7 (t := s7c true c n) (wpE_to7 (h7b_t c n) rfl) ?_
  refine seq_to7 (t := s7d true c n) (wpE_to7 (h7c_t c n) rfl) ?_
  refine seq_to7 (t := s7e true c n) (wpE_to7 (h7d_t c n) rfl) ?_
  refine seq_to7 (t := s7f true c n) (wpE_to7 (h7e_t c n) rfl) ?_
  refine seq_to7 (t := s7g true c n) (wpE_to7 (h7f_t c n) rfl) ?_
  refine WpE.seq (wpE_X (X := XL) rfl XL_ct XL_lp (T := fun d => st17 true c (IntKind.i64.wrap (n.tmod 64)) d) (h7g_t c n) trivial) (fun r hr hn => ?_) (fun r hr hne => absurd hr.1 hne)
  refine wpE_weakF hr.2 fun d => ?_
  exact rest7 true c _ hc (by rw [el]; omega) (by rw [el]; omega) d
theorem body7f (c n : Int) (hc : 0 ≤ c ∧ c < 256) (hn : 0 ≤ n ∧ n < 256) : WpE Try.prog (code 7) 2 (s7 false c n) (fun r => r.e = .ret ∧ resultsS Try.prog (fnN 7) r.tm r.hp = some (.bol true)) := by
  have el : IntKind.i64.wrap (n.tmod 64) = n % 64 := by
    rw [Int.tmod_eq_emod_of_nonneg hn.1, wi64]; omega
  rw [code7]
  refine seq_to7 (t := s7b false c n) (wpE_to7 (h7a_f c n) rfl) ?_
  refine seq_to7 (t := s7c false c n) (wpE_to7 (h7b_f c n) rfl) ?_
  refine seq_to7 (t := s7d false c n) (wpE_to7 (h7c_f c n) rfl) ?_
  refine seq_to7 (t := s7e false c n) (wpE_to7 (h7d_f c n) rfl) ?_
  refine seq_to7 (t := s7f false c n) (wpE_to7 (h7e_f c n) rfl) ?_
  refine seq_to7 (t := s7g false c n) (wpE_to7 (h7f_f c n) rfl) ?_
  refine WpE.seq (wpE_X (X := XL) rfl XL_ct XL_lp (T := fun d => st17 false c (IntKind.i64.wrap (n.tmod 64)) d) (h7g_f c n) trivial) (fun r hr hn => ?_) (fun r hr hne => absurd hr.1 hne)
  refine wpE_weakF hr.2 fun d => ?_
  exact rest7 false c _ hc (by rw [el]; omega) (by rw [el]; omega) d
theorem HR.dead2' (w : World) : HR w.heap.size [undef, undef] [.dead, .dead] w := by
  refine ⟨rfl, fun k o hk => ?_, fun k₁ k₂ s₁ s₂ l₁ wr₂ l₂ b₁ o₁ b₂ o₂ h1 r1 h2 r2 hne e1 e2 => ?_⟩
  · have : o = .dead := by
      match k with
      | 0 => simpa using hk.symm
      | 1 => simpa using hk.symm
      | k + 2 => simp at hk
    subst this
    exact ⟨fun wr l hro => by simp [SO.row] at hro, trivial⟩
  · have : s₁ = .dead := by
      match k₁ with
      | 0 => simpa using h1.symm
      | 1 => simpa using h1.symm
      | k + 2 => simp at h1
    subst this
    simp [SO.row] at r1
theorem len_call (e : Bool) (c n : Int) (hc : 0 ≤ c ∧ c < 256) (hn : 0 ≤ n ∧ n < 256) (w : World) {vs : List Value} (hargs : Rs [] (arg7 e c n) vs) : Calls Try.prog 7 vs.toArray w (fun e w' => ∃ v, e = .returned v ∧ v = .bool true ∧ Below w.heap.size w w') := by
  have hb0 : WpE Try.prog (code 7) 2 (s7 e c n) (fun r => r.e = .ret ∧ resultsS Try.prog (fnN 7) r.tm r.hp = some (.bol true)) := by
    cases e with
    | true => exact body7t c n hc hn
    | false => exact body7f c n hc hn
  unfold s7 at hb0
  rw [← fn7_tm] at hb0
  have hc := calls_of_wpE (args := arg7 e c n) (hp := [.dead, .dead]) (F := fun r => r.e = .ret ∧ resultsS Try.prog (fnN 7) r.tm r.hp = some (.bol true)) (G := fun s' _ => s' = .bol true) fn7_at fn7_body hb0 (fun f hf => ⟨.inr hf.1, _, hf.2, rfl⟩) (HR.dead2' w) (Nat.le_refl _) (Rs.free _ _ rfl hargs)
  refine hc.mono fun e w' hq => ?_
  obtain ⟨v, μ, s', hp', e1, e2, e3, e4, rfl⟩ := hq
  simp only [R] at e2
  exact ⟨v, e1, e2, e4⟩
end Go.Proofs.Ytopillmjfpnmoaa
