/-
  Walks of functions, reckoned through, and what they give (part W10w). No condition beyond what each says. By an AI agent.
-/
import Derived.Test.YtmngnhbnicgjfaaW10b
namespace Go.Proofs.Ytmngnhbnicgjfaa
open Go.Ex
set_option maxRecDepth 1000000 in
theorem synO_r : saysTrue (callR (plain Try.prog) (run (plain Try.prog) 100) 16 [.agg [.num .i64 0, .bol true, .num .i64 2, .num .u32 258, .num .u32 5, .bts true []], .bts true [17, 2, 0, 0, 1, 2, 0, 0, 0, 5]] [] []) = true := by kernel_rfl
noncomputable def synO : Go.Ex.Told Try.prog := ⟨16, [.agg [.num .i64 0, .bol true, .num .i64 2, .num .u32 258, .num .u32 5, .bts true []], .bts true [17, 2, 0, 0, 1, 2, 0, 0, 0, 5]], .bol true, told_true (X := plain Try.prog) (plain_ct _) (plain_lp _) 100 synO_r⟩
set_option maxRecDepth 1000000 in
theorem ansO_r : saysTrue (callR (plain Try.prog) (run (plain Try.prog) 100) 16 [.agg [.num .i64 1, .bol false, .num .i64 3, .num .u32 0, .num .u32 1, .bts true [97, 98, 99, 100, 101, 102, 103, 104]], .bts true [16, 3, 97, 98, 99, 100, 101, 102, 103, 104, 0, 0, 0, 1]] [] []) = true := by kernel_rfl
noncomputable def ansO : Go.Ex.Told Try.prog := ⟨16, [.agg [.num .i64 1, .bol false, .num .i64 3, .num .u32 0, .num .u32 1, .bts true [97, 98, 99, 100, 101, 102, 103, 104]], .bts true [16, 3, 97, 98, 99, 100, 101, 102, 103, 104, 0, 0, 0, 1]], .bol true, told_true (X := plain Try.prog) (plain_ct _) (plain_lp _) 100 ansO_r⟩
set_option maxRecDepth 1000000 in
theorem thirdO_r : saysTrue (callR (plain Try.prog) (run (plain Try.prog) 100) 16 [.agg [.num .i64 2, .bol false, .num .i64 0, .num .u32 0, .num .u32 0, .bts true [122, 122, 122, 122, 122, 122, 122, 122, 122, 122, 122, 122, 122, 122, 122, 122, 122, 122, 122, 122]], .bts true [16, 0, 122, 122, 122, 122, 122, 122, 122, 122, 122, 122, 122, 122, 122, 122, 122, 122, 122, 122, 122, 122]] [] []) = true := by kernel_rfl
noncomputable def thirdO : Go.Ex.Told Try.prog := ⟨16, [.agg [.num .i64 2, .bol false, .num .i64 0, .num .u32 0, .num .u32 0, .bts true [122, 122, 122, 122, 122, 122, 122, 122, 122, 122, 122, 122, 122, 122, 122, 122, 122, 122, 122, 122]], .bts true [16, 0, 122, 122, 122, 122, 122, 122, 122, 122, 122, 122, 122, 122, 122, 122, 122, 122, 122, 122, 122, 122]], .bol true, told_true (X := plain Try.prog) (plain_ct _) (plain_lp _) 100 thirdO_r⟩
noncomputable def T1 : List (Go.Ex.Told Try.prog) := [synO, ansO, thirdO]
set_option maxRecDepth 1000000 in
theorem works_r : saysTrue (callR (tabled Try.prog T1) (run (tabled Try.prog T1) 100) 12 [] [] []) = true := by kernel_rfl
noncomputable def worksT : Go.Ex.Told Try.prog := ⟨12, [], .bol true, told_true (X := tabled Try.prog T1) (tabled_ct _ _) (tabled_lp _ _) 100 works_r⟩
noncomputable def allC : Con Try.prog := encC.or (refEncC.or (decC.or (refDecC.or (Con.told [worksT]))))
noncomputable def Y : Cx := conned allC
end Go.Proofs.Ytmngnhbnicgjfaa
