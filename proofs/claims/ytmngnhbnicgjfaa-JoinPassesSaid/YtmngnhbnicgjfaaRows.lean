/-
  No cell of these rows narrows 'for every input' (looked for: loops, veiled, ifaces, maps, wideKeys, modest, calm, conditions, laid).
  DERIVED. THE GIVEN ROWS OF THIS SEAT. 6 by the template 'for every input the law returns true; each argument reads behind the call as it read before'; 0 by the template 'total and deterministic' (their statements: YtmngnhbnicgjfaaTotals.lean).
  GIVEN WITH THE SEED: the statements are not yours to turn. If you find one false, say at which input.
  Laid BY PROGRAM, IN A SANDBOX (cutbox-rows.mjs): the forced cells as the released guide's own fill.sh prints them over the translation 4298b5a69302b955… (all of the seat's roots in one cut). By AI agents, Wed Nov 11 2026. No macro, syntax, notation, axiom, sorry.
-/
import Derived.Test.YtmngnhbnicgjfaaChecked
import GoSem.Claim
import GoSem.ClaimJoined
import GoSem.ClaimMapViews
import Derived.JoinedTies
import Derived.KernelRfl
namespace Go.Proofs.Ytmngnhbnicgjfaa
/- THE CELL 'sum', in the pinned program and in every row, IS THE sha256 OF THE DUMP (.gsa) THAT YtmngnhbnicgjfaaProg.lean LOADS. Nothing in Lean hashes anything: it is a label: what it is worth is what the hold of that sum in a sandbox is worth. -/
noncomputable def Try.pinned : Pinned := { name := "ytmngnhbnicgjfaa", sum := "4298b5a69302b955848c66b5c0e6cf307563e5dae6e366e5ede78c6072c015a9", checked := Try.checked }
namespace Rows
def none {H : Type} : Left H := { results := [], args := [] }

/-- 'plaitlaw10.JoinLays': WHATEVER THE INPUT: true; the input reads as it did. -/
def joinLaysSpec : ChangeSpec := { name := "joinLays", fn := fun _ => fun
  | [d1, d2] => { results := [.lit (.bool true)], args := [d1, d2] }
  | _ => none }
def joinLaysRow : OpenClaim := { program := "ytmngnhbnicgjfaa", sum := "4298b5a69302b955848c66b5c0e6cf307563e5dae6e366e5ede78c6072c015a9", func := "plait/plaitlaw10.JoinLays", spec := "joinLays", unfollowed := true, recurses := true, apart := false }
def JoinLaysSaid : Prop := joinLaysRow.holds Try.pinned (OpenSpec.ofChange joinLaysSpec)

/-- ITS FALSE NEIGHBOUR: 'it returns false'. Refute it at one input. -/
def joinLaysWrong : ChangeSpec := { name := "joinLays", fn := fun _ => fun
  | [d1, d2] => { results := [.lit (.bool false)], args := [d1, d2] }
  | _ => none }
def JoinLaysWrongFalsely : Prop := joinLaysRow.holds Try.pinned (OpenSpec.ofChange joinLaysWrong)

/-- 'plaitlaw10.JoinReads': WHATEVER THE INPUT: true; the input reads as it did. -/
def joinReadsSpec : ChangeSpec := { name := "joinReads", fn := fun _ => fun
  | [d1, d2, d3] => { results := [.lit (.bool true)], args := [d1, d2, d3] }
  | _ => none }
def joinReadsRow : OpenClaim := { program := "ytmngnhbnicgjfaa", sum := "4298b5a69302b955848c66b5c0e6cf307563e5dae6e366e5ede78c6072c015a9", func := "plait/plaitlaw10.JoinReads", spec := "joinReads", unfollowed := true, recurses := true, apart := false }
def JoinReadsSaid : Prop := joinReadsRow.holds Try.pinned (OpenSpec.ofChange joinReadsSpec)

/-- ITS FALSE NEIGHBOUR: 'it returns false'. Refute it at one input. -/
def joinReadsWrong : ChangeSpec := { name := "joinReads", fn := fun _ => fun
  | [d1, d2, d3] => { results := [.lit (.bool false)], args := [d1, d2, d3] }
  | _ => none }
def JoinReadsWrongFalsely : Prop := joinReadsRow.holds Try.pinned (OpenSpec.ofChange joinReadsWrong)

/-- 'plaitlaw10.JoinBack': WHATEVER THE INPUT: true; the input reads as it did. -/
def joinBackSpec : ChangeSpec := { name := "joinBack", fn := fun _ => fun
  | [d1, d2] => { results := [.lit (.bool true)], args := [d1, d2] }
  | _ => none }
def joinBackRow : OpenClaim := { program := "ytmngnhbnicgjfaa", sum := "4298b5a69302b955848c66b5c0e6cf307563e5dae6e366e5ede78c6072c015a9", func := "plait/plaitlaw10.JoinBack", spec := "joinBack", unfollowed := true, recurses := true, apart := false }
def JoinBackSaid : Prop := joinBackRow.holds Try.pinned (OpenSpec.ofChange joinBackSpec)

/-- ITS FALSE NEIGHBOUR: 'it returns false'. Refute it at one input. -/
def joinBackWrong : ChangeSpec := { name := "joinBack", fn := fun _ => fun
  | [d1, d2] => { results := [.lit (.bool false)], args := [d1, d2] }
  | _ => none }
def JoinBackWrongFalsely : Prop := joinBackRow.holds Try.pinned (OpenSpec.ofChange joinBackWrong)

/-- 'plaitlaw10.JoinPasses': WHATEVER THE INPUT: true; the input reads as it did. -/
def joinPassesSpec : ChangeSpec := { name := "joinPasses", fn := fun _ => fun
  | [d1, d2, d3] => { results := [.lit (.bool true)], args := [d1, d2, d3] }
  | _ => none }
def joinPassesRow : OpenClaim := { program := "ytmngnhbnicgjfaa", sum := "4298b5a69302b955848c66b5c0e6cf307563e5dae6e366e5ede78c6072c015a9", func := "plait/plaitlaw10.JoinPasses", spec := "joinPasses", unfollowed := true, recurses := true, apart := false }
def JoinPassesSaid : Prop := joinPassesRow.holds Try.pinned (OpenSpec.ofChange joinPassesSpec)

/-- ITS FALSE NEIGHBOUR: 'it returns false'. Refute it at one input. -/
def joinPassesWrong : ChangeSpec := { name := "joinPasses", fn := fun _ => fun
  | [d1, d2, d3] => { results := [.lit (.bool false)], args := [d1, d2, d3] }
  | _ => none }
def JoinPassesWrongFalsely : Prop := joinPassesRow.holds Try.pinned (OpenSpec.ofChange joinPassesWrong)

/-- 'plaitlaw10.JoinCut': WHATEVER THE INPUT: true; the input reads as it did. -/
def joinCutSpec : ChangeSpec := { name := "joinCut", fn := fun _ => fun
  | [d1, d2, d3, d4] => { results := [.lit (.bool true)], args := [d1, d2, d3, d4] }
  | _ => none }
def joinCutRow : OpenClaim := { program := "ytmngnhbnicgjfaa", sum := "4298b5a69302b955848c66b5c0e6cf307563e5dae6e366e5ede78c6072c015a9", func := "plait/plaitlaw10.JoinCut", spec := "joinCut", unfollowed := true, recurses := true, apart := false }
def JoinCutSaid : Prop := joinCutRow.holds Try.pinned (OpenSpec.ofChange joinCutSpec)

/-- ITS FALSE NEIGHBOUR: 'it returns false'. Refute it at one input. -/
def joinCutWrong : ChangeSpec := { name := "joinCut", fn := fun _ => fun
  | [d1, d2, d3, d4] => { results := [.lit (.bool false)], args := [d1, d2, d3, d4] }
  | _ => none }
def JoinCutWrongFalsely : Prop := joinCutRow.holds Try.pinned (OpenSpec.ofChange joinCutWrong)

/-- 'plaitlaw10.JoinKnown': WHATEVER THE INPUT: true; the input reads as it did. -/
def joinKnownSpec : ChangeSpec := { name := "joinKnown", fn := fun _ => fun
  | [] => { results := [.lit (.bool true)], args := [] }
  | _ => none }
def joinKnownRow : OpenClaim := { program := "ytmngnhbnicgjfaa", sum := "4298b5a69302b955848c66b5c0e6cf307563e5dae6e366e5ede78c6072c015a9", func := "plait/plaitlaw10.JoinKnown", spec := "joinKnown", unfollowed := true, recurses := true, apart := false }
def JoinKnownSaid : Prop := joinKnownRow.holds Try.pinned (OpenSpec.ofChange joinKnownSpec)

/-- ITS FALSE NEIGHBOUR: 'it returns false'. Refute it at one input. -/
def joinKnownWrong : ChangeSpec := { name := "joinKnown", fn := fun _ => fun
  | [] => { results := [.lit (.bool false)], args := [] }
  | _ => none }
def JoinKnownWrongFalsely : Prop := joinKnownRow.holds Try.pinned (OpenSpec.ofChange joinKnownWrong)

/- THE SECOND FORM. 'bulk': how many values and letters a reading holds, each counted each time it is reached (what is shared counts as often as it is met; a slice's spare places count too). A statement '..UptoSaid' is the law's where the arguments, and the package variables that the reading takes, are together of bulk at most 1048576: NARROWER than '..Said'. Prove '..Said' where nothing that the law and all that it calls make is longer than what came in: it says more and counts as full. Else prove '..UptoSaid'. A law counts once. -/
mutual
def uptoBulk {H : Type} : DataW H → Nat
  | .lit (.string bytes) => bytes.length + 1
  | .lit _ => 1
  | .nil => 1
  | .ptr d => uptoBulk d + 1
  | .slice elems spare => uptoBulkAll elems + uptoBulkAll spare + 1
  | .agg parts => uptoBulkAll parts + 1
  | .iface _ d => uptoBulk d + 1
  | .map entries => uptoBulkEntries entries + 1
  | .held _ => 1
def uptoBulkAll {H : Type} : List (DataW H) → Nat
  | [] => 0
  | d :: r => uptoBulk d + uptoBulkAll r
def uptoBulkEntries {H : Type} : List (Lit × DataW H) → Nat
  | [] => 0
  | x :: r => uptoBulkEntry x + uptoBulkEntries r
def uptoBulkEntry {H : Type} : Lit × DataW H → Nat
  | (.string bytes, d) => bytes.length + uptoBulk d + 1
  | (_, d) => uptoBulk d + 1
 end
def uptoSmall : (H : Type) → List (DataW H) → Bool := fun _ ds => decide (uptoBulkAll ds ≤ 1048576)
def OpenSpec.upto (s : _root_.Go.ChangeSpec) : _root_.Go.OpenSpec := { _root_.Go.OpenSpec.ofChange s with cond := some uptoSmall }

/-- 'plaitlaw10.JoinLays', WHERE WHAT IT READS IS OF BULK AT MOST 1048576: true; the input reads as it did. -/
def joinLaysUptoRow : OpenClaim := { program := "ytmngnhbnicgjfaa", sum := "4298b5a69302b955848c66b5c0e6cf307563e5dae6e366e5ede78c6072c015a9", func := "plait/plaitlaw10.JoinLays", spec := "joinLays", unfollowed := true, recurses := true, apart := false, narrowed := true }
def JoinLaysUptoSaid : Prop := joinLaysUptoRow.holds Try.pinned (OpenSpec.upto joinLaysSpec)

/-- 'plaitlaw10.JoinReads', WHERE WHAT IT READS IS OF BULK AT MOST 1048576: true; the input reads as it did. -/
def joinReadsUptoRow : OpenClaim := { program := "ytmngnhbnicgjfaa", sum := "4298b5a69302b955848c66b5c0e6cf307563e5dae6e366e5ede78c6072c015a9", func := "plait/plaitlaw10.JoinReads", spec := "joinReads", unfollowed := true, recurses := true, apart := false, narrowed := true }
def JoinReadsUptoSaid : Prop := joinReadsUptoRow.holds Try.pinned (OpenSpec.upto joinReadsSpec)

/-- 'plaitlaw10.JoinBack', WHERE WHAT IT READS IS OF BULK AT MOST 1048576: true; the input reads as it did. -/
def joinBackUptoRow : OpenClaim := { program := "ytmngnhbnicgjfaa", sum := "4298b5a69302b955848c66b5c0e6cf307563e5dae6e366e5ede78c6072c015a9", func := "plait/plaitlaw10.JoinBack", spec := "joinBack", unfollowed := true, recurses := true, apart := false, narrowed := true }
def JoinBackUptoSaid : Prop := joinBackUptoRow.holds Try.pinned (OpenSpec.upto joinBackSpec)

/-- 'plaitlaw10.JoinPasses', WHERE WHAT IT READS IS OF BULK AT MOST 1048576: true; the input reads as it did. -/
def joinPassesUptoRow : OpenClaim := { program := "ytmngnhbnicgjfaa", sum := "4298b5a69302b955848c66b5c0e6cf307563e5dae6e366e5ede78c6072c015a9", func := "plait/plaitlaw10.JoinPasses", spec := "joinPasses", unfollowed := true, recurses := true, apart := false, narrowed := true }
def JoinPassesUptoSaid : Prop := joinPassesUptoRow.holds Try.pinned (OpenSpec.upto joinPassesSpec)

/-- 'plaitlaw10.JoinCut', WHERE WHAT IT READS IS OF BULK AT MOST 1048576: true; the input reads as it did. -/
def joinCutUptoRow : OpenClaim := { program := "ytmngnhbnicgjfaa", sum := "4298b5a69302b955848c66b5c0e6cf307563e5dae6e366e5ede78c6072c015a9", func := "plait/plaitlaw10.JoinCut", spec := "joinCut", unfollowed := true, recurses := true, apart := false, narrowed := true }
def JoinCutUptoSaid : Prop := joinCutUptoRow.holds Try.pinned (OpenSpec.upto joinCutSpec)

/-- 'plaitlaw10.JoinKnown', WHERE WHAT IT READS IS OF BULK AT MOST 1048576: true; the input reads as it did. -/
def joinKnownUptoRow : OpenClaim := { program := "ytmngnhbnicgjfaa", sum := "4298b5a69302b955848c66b5c0e6cf307563e5dae6e366e5ede78c6072c015a9", func := "plait/plaitlaw10.JoinKnown", spec := "joinKnown", unfollowed := true, recurses := true, apart := false, narrowed := true }
def JoinKnownUptoSaid : Prop := joinKnownUptoRow.holds Try.pinned (OpenSpec.upto joinKnownSpec)

end Rows
end Go.Proofs.Ytmngnhbnicgjfaa
