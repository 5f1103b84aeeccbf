/-
  NARROWER THAN 'FOR EVERY INPUT', by the rows' own cells (each row's printed sentence says how): EnterDeaf: laid · EnterKnown: laid · EnterTells: laid · EnterThrough: laid · EnterForged: laid.
  DERIVED. THE GIVEN ROWS OF THIS SEAT. 5 by the template 'for every input the law returns true; each argument reads behind the call as it read before'; 0 by the template 'total and deterministic' (their statements: YtacgamdbmllaoaaDoorTotals.lean).
  GIVEN WITH THE SEED: the statements are not yours to turn. If you find one false, say at which input.
  Laid BY PROGRAM, IN A SANDBOX (cutbox-rows.mjs): the forced cells as the released guide's own fill.sh prints them over the translation 1ea10596d4fef521… (all of the seat's roots in one cut). By AI agents, Wed Nov 11 2026. No macro, syntax, notation, axiom, sorry.
-/
import Derived.Test.YtacgamdbmllaoaaDoorChecked
import GoSem.Claim
import GoSem.ClaimJoined
import GoSem.ClaimMapViews
import Derived.JoinedTies
import Derived.KernelRfl
namespace Go.Proofs.YtacgamdbmllaoaaDoor
/- THE CELL 'sum', in the pinned program and in every row, IS THE sha256 OF THE DUMP (.gsa) THAT YtacgamdbmllaoaaDoorProg.lean LOADS. Nothing in Lean hashes anything: it is a label: what it is worth is what the hold of that sum in a sandbox is worth. -/
noncomputable def Tryd.pinned : Pinned := { name := "ytacgamdbmllaoaadoor", sum := "1ea10596d4fef521f2d4e823f36940171a7a3b73bcd65c46b5a70cd9041de6d2", checked := Tryd.checked }
namespace Rows
def none {H : Type} : Left H := { results := [], args := [] }

/- WHAT THE LISTED PACKAGE-LEVEL VARIABLES READ AS WHEN THE CALL BEGINS. Each datum BY PROGRAM (the guide's laid-datum.mjs) off the statement by which the dump's own 'gosem.cut.vars' lays the variable. In a bare row this is a premise. The card (YtacgamdbmllaoaaDoorCards.lean) ties it to the program's text. -/
def laid_plait_sha_rounds {H : Type} : DataW H := .agg [.lit (.int .u32 1116352408), .lit (.int .u32 1899447441), .lit (.int .u32 3049323471), .lit (.int .u32 3921009573), .lit (.int .u32 961987163), .lit (.int .u32 1508970993), .lit (.int .u32 2453635748), .lit (.int .u32 2870763221), .lit (.int .u32 3624381080), .lit (.int .u32 310598401), .lit (.int .u32 607225278), .lit (.int .u32 1426881987), .lit (.int .u32 1925078388), .lit (.int .u32 2162078206), .lit (.int .u32 2614888103), .lit (.int .u32 3248222580), .lit (.int .u32 3835390401), .lit (.int .u32 4022224774), .lit (.int .u32 264347078), .lit (.int .u32 604807628), .lit (.int .u32 770255983), .lit (.int .u32 1249150122), .lit (.int .u32 1555081692), .lit (.int .u32 1996064986), .lit (.int .u32 2554220882), .lit (.int .u32 2821834349), .lit (.int .u32 2952996808), .lit (.int .u32 3210313671), .lit (.int .u32 3336571891), .lit (.int .u32 3584528711), .lit (.int .u32 113926993), .lit (.int .u32 338241895), .lit (.int .u32 666307205), .lit (.int .u32 773529912), .lit (.int .u32 1294757372), .lit (.int .u32 1396182291), .lit (.int .u32 1695183700), .lit (.int .u32 1986661051), .lit (.int .u32 2177026350), .lit (.int .u32 2456956037), .lit (.int .u32 2730485921), .lit (.int .u32 2820302411), .lit (.int .u32 3259730800), .lit (.int .u32 3345764771), .lit (.int .u32 3516065817), .lit (.int .u32 3600352804), .lit (.int .u32 4094571909), .lit (.int .u32 275423344), .lit (.int .u32 430227734), .lit (.int .u32 506948616), .lit (.int .u32 659060556), .lit (.int .u32 883997877), .lit (.int .u32 958139571), .lit (.int .u32 1322822218), .lit (.int .u32 1537002063), .lit (.int .u32 1747873779), .lit (.int .u32 1955562222), .lit (.int .u32 2024104815), .lit (.int .u32 2227730452), .lit (.int .u32 2361852424), .lit (.int .u32 2428436474), .lit (.int .u32 2756734187), .lit (.int .u32 3204031479), .lit (.int .u32 3329325298)]

/-- 'plaitlaw23.EnterDeaf': WHATEVER THE INPUT: true; the input reads as it did. -/
def enterDeafSpec : ChangeSpec := { name := "enterDeaf", fn := fun _ => fun
  | [d1, d2, d3, d4] => { results := [.lit (.bool true)], args := [d1, d2, d3, d4] }
  | _ => none }
def enterDeafRow : OpenClaim := { program := "ytacgamdbmllaoaadoor", sum := "1ea10596d4fef521f2d4e823f36940171a7a3b73bcd65c46b5a70cd9041de6d2", func := "plait/plaitlaw23.EnterDeaf", spec := "enterDeaf", inPlace := ["internal/abi.NoEscape", "internal/bytealg.MakeNoZero"], unfollowed := true, recurses := true, named := ["plait/sha.rounds"], apart := false, laid := [("plait/sha.rounds", laid_plait_sha_rounds)] }
def EnterDeafSaid : Prop := enterDeafRow.holds Tryd.pinned (OpenSpec.ofChange enterDeafSpec)

/-- ITS FALSE NEIGHBOUR: 'it returns false'. Refute it at one input. -/
def enterDeafWrong : ChangeSpec := { name := "enterDeaf", fn := fun _ => fun
  | [d1, d2, d3, d4] => { results := [.lit (.bool false)], args := [d1, d2, d3, d4] }
  | _ => none }
def EnterDeafWrongFalsely : Prop := enterDeafRow.holds Tryd.pinned (OpenSpec.ofChange enterDeafWrong)

/-- 'plaitlaw23.EnterKnown': WHATEVER THE INPUT: true; the input reads as it did. -/
def enterKnownSpec : ChangeSpec := { name := "enterKnown", fn := fun _ => fun
  | [] => { results := [.lit (.bool true)], args := [] }
  | _ => none }
def enterKnownRow : OpenClaim := { program := "ytacgamdbmllaoaadoor", sum := "1ea10596d4fef521f2d4e823f36940171a7a3b73bcd65c46b5a70cd9041de6d2", func := "plait/plaitlaw23.EnterKnown", spec := "enterKnown", inPlace := ["internal/abi.NoEscape", "internal/bytealg.MakeNoZero"], unfollowed := true, recurses := true, named := ["plait/sha.rounds"], apart := false, laid := [("plait/sha.rounds", laid_plait_sha_rounds)] }
def EnterKnownSaid : Prop := enterKnownRow.holds Tryd.pinned (OpenSpec.ofChange enterKnownSpec)

/-- ITS FALSE NEIGHBOUR: 'it returns false'. Refute it at one input. -/
def enterKnownWrong : ChangeSpec := { name := "enterKnown", fn := fun _ => fun
  | [] => { results := [.lit (.bool false)], args := [] }
  | _ => none }
def EnterKnownWrongFalsely : Prop := enterKnownRow.holds Tryd.pinned (OpenSpec.ofChange enterKnownWrong)

/-- 'plaitlaw23.EnterTells': WHATEVER THE INPUT: true; the input reads as it did. -/
def enterTellsSpec : ChangeSpec := { name := "enterTells", fn := fun _ => fun
  | [d1, d2] => { results := [.lit (.bool true)], args := [d1, d2] }
  | _ => none }
def enterTellsRow : OpenClaim := { program := "ytacgamdbmllaoaadoor", sum := "1ea10596d4fef521f2d4e823f36940171a7a3b73bcd65c46b5a70cd9041de6d2", func := "plait/plaitlaw23.EnterTells", spec := "enterTells", inPlace := ["internal/abi.NoEscape", "internal/bytealg.MakeNoZero"], unfollowed := true, recurses := true, named := ["plait/sha.rounds"], apart := false, laid := [("plait/sha.rounds", laid_plait_sha_rounds)] }
def EnterTellsSaid : Prop := enterTellsRow.holds Tryd.pinned (OpenSpec.ofChange enterTellsSpec)

/-- ITS FALSE NEIGHBOUR: 'it returns false'. Refute it at one input. -/
def enterTellsWrong : ChangeSpec := { name := "enterTells", fn := fun _ => fun
  | [d1, d2] => { results := [.lit (.bool false)], args := [d1, d2] }
  | _ => none }
def EnterTellsWrongFalsely : Prop := enterTellsRow.holds Tryd.pinned (OpenSpec.ofChange enterTellsWrong)

/-- 'plaitlaw23.EnterThrough': WHATEVER THE INPUT: true; the input reads as it did. -/
def enterThroughSpec : ChangeSpec := { name := "enterThrough", fn := fun _ => fun
  | [d1, d2, d3, d4] => { results := [.lit (.bool true)], args := [d1, d2, d3, d4] }
  | _ => none }
def enterThroughRow : OpenClaim := { program := "ytacgamdbmllaoaadoor", sum := "1ea10596d4fef521f2d4e823f36940171a7a3b73bcd65c46b5a70cd9041de6d2", func := "plait/plaitlaw23.EnterThrough", spec := "enterThrough", inPlace := ["internal/abi.NoEscape", "internal/bytealg.MakeNoZero"], unfollowed := true, recurses := true, named := ["plait/sha.rounds"], apart := false, laid := [("plait/sha.rounds", laid_plait_sha_rounds)] }
def EnterThroughSaid : Prop := enterThroughRow.holds Tryd.pinned (OpenSpec.ofChange enterThroughSpec)

/-- ITS FALSE NEIGHBOUR: 'it returns false'. Refute it at one input. -/
def enterThroughWrong : ChangeSpec := { name := "enterThrough", fn := fun _ => fun
  | [d1, d2, d3, d4] => { results := [.lit (.bool false)], args := [d1, d2, d3, d4] }
  | _ => none }
def EnterThroughWrongFalsely : Prop := enterThroughRow.holds Tryd.pinned (OpenSpec.ofChange enterThroughWrong)

/-- 'plaitlaw23.EnterForged': WHATEVER THE INPUT: true; the input reads as it did. -/
def enterForgedSpec : ChangeSpec := { name := "enterForged", fn := fun _ => fun
  | [d1, d2, d3, d4] => { results := [.lit (.bool true)], args := [d1, d2, d3, d4] }
  | _ => none }
def enterForgedRow : OpenClaim := { program := "ytacgamdbmllaoaadoor", sum := "1ea10596d4fef521f2d4e823f36940171a7a3b73bcd65c46b5a70cd9041de6d2", func := "plait/plaitlaw23.EnterForged", spec := "enterForged", inPlace := ["internal/abi.NoEscape", "internal/bytealg.MakeNoZero"], unfollowed := true, recurses := true, named := ["plait/sha.rounds"], apart := false, laid := [("plait/sha.rounds", laid_plait_sha_rounds)] }
def EnterForgedSaid : Prop := enterForgedRow.holds Tryd.pinned (OpenSpec.ofChange enterForgedSpec)

/-- ITS FALSE NEIGHBOUR: 'it returns false'. Refute it at one input. -/
def enterForgedWrong : ChangeSpec := { name := "enterForged", fn := fun _ => fun
  | [d1, d2, d3, d4] => { results := [.lit (.bool false)], args := [d1, d2, d3, d4] }
  | _ => none }
def EnterForgedWrongFalsely : Prop := enterForgedRow.holds Tryd.pinned (OpenSpec.ofChange enterForgedWrong)

/- THE SECOND FORM. 'bulk': how many values and letters a reading holds, each counted each time it is reached (what is shared counts as often as it is met; a slice's spare places count too). A statement '..UptoSaid' is the law's where the arguments, and the package variables that the reading takes, are together of bulk at most 1048576: NARROWER than '..Said'. Prove '..Said' where nothing that the law and all that it calls make is longer than what came in: it says more and counts as full. Else prove '..UptoSaid'. A law counts once. -/
mutual
def uptoBulk {H : Type} : DataW H → Nat
  | .lit (.string bytes) => bytes.length + 1
  | .lit _ => 1
  | .nil => 1
  | .ptr d => uptoBulk d + 1
  | .slice elems spare => uptoBulkAll elems + uptoBulkAll spare + 1
  | .agg parts => uptoBulkAll parts + 1
  | .iface _ d => uptoBulk d + 1
  | .map entries => uptoBulkEntries entries + 1
  | .held _ => 1
def uptoBulkAll {H : Type} : List (DataW H) → Nat
  | [] => 0
  | d :: r => uptoBulk d + uptoBulkAll r
def uptoBulkEntries {H : Type} : List (Lit × DataW H) → Nat
  | [] => 0
  | x :: r => uptoBulkEntry x + uptoBulkEntries r
def uptoBulkEntry {H : Type} : Lit × DataW H → Nat
  | (.string bytes, d) => bytes.length + uptoBulk d + 1
  | (_, d) => uptoBulk d + 1
 end
def uptoSmall : (H : Type) → List (DataW H) → Bool := fun _ ds => decide (uptoBulkAll ds ≤ 1048576)
def OpenSpec.upto (s : _root_.Go.ChangeSpec) : _root_.Go.OpenSpec := { _root_.Go.OpenSpec.ofChange s with cond := some uptoSmall }

/-- 'plaitlaw23.EnterDeaf', WHERE WHAT IT READS IS OF BULK AT MOST 1048576: true; the input reads as it did. -/
def enterDeafUptoRow : OpenClaim := { program := "ytacgamdbmllaoaadoor", sum := "1ea10596d4fef521f2d4e823f36940171a7a3b73bcd65c46b5a70cd9041de6d2", func := "plait/plaitlaw23.EnterDeaf", spec := "enterDeaf", inPlace := ["internal/abi.NoEscape", "internal/bytealg.MakeNoZero"], unfollowed := true, recurses := true, named := ["plait/sha.rounds"], apart := false, laid := [("plait/sha.rounds", laid_plait_sha_rounds)], narrowed := true }
def EnterDeafUptoSaid : Prop := enterDeafUptoRow.holds Tryd.pinned (OpenSpec.upto enterDeafSpec)

/-- 'plaitlaw23.EnterKnown', WHERE WHAT IT READS IS OF BULK AT MOST 1048576: true; the input reads as it did. -/
def enterKnownUptoRow : OpenClaim := { program := "ytacgamdbmllaoaadoor", sum := "1ea10596d4fef521f2d4e823f36940171a7a3b73bcd65c46b5a70cd9041de6d2", func := "plait/plaitlaw23.EnterKnown", spec := "enterKnown", inPlace := ["internal/abi.NoEscape", "internal/bytealg.MakeNoZero"], unfollowed := true, recurses := true, named := ["plait/sha.rounds"], apart := false, laid := [("plait/sha.rounds", laid_plait_sha_rounds)], narrowed := true }
def EnterKnownUptoSaid : Prop := enterKnownUptoRow.holds Tryd.pinned (OpenSpec.upto enterKnownSpec)

/-- 'plaitlaw23.EnterTells', WHERE WHAT IT READS IS OF BULK AT MOST 1048576: true; the input reads as it did. -/
def enterTellsUptoRow : OpenClaim := { program := "ytacgamdbmllaoaadoor", sum := "1ea10596d4fef521f2d4e823f36940171a7a3b73bcd65c46b5a70cd9041de6d2", func := "plait/plaitlaw23.EnterTells", spec := "enterTells", inPlace := ["internal/abi.NoEscape", "internal/bytealg.MakeNoZero"], unfollowed := true, recurses := true, named := ["plait/sha.rounds"], apart := false, laid := [("plait/sha.rounds", laid_plait_sha_rounds)], narrowed := true }
def EnterTellsUptoSaid : Prop := enterTellsUptoRow.holds Tryd.pinned (OpenSpec.upto enterTellsSpec)

/-- 'plaitlaw23.EnterThrough', WHERE WHAT IT READS IS OF BULK AT MOST 1048576: true; the input reads as it did. -/
def enterThroughUptoRow : OpenClaim := { program := "ytacgamdbmllaoaadoor", sum := "1ea10596d4fef521f2d4e823f36940171a7a3b73bcd65c46b5a70cd9041de6d2", func := "plait/plaitlaw23.EnterThrough", spec := "enterThrough", inPlace := ["internal/abi.NoEscape", "internal/bytealg.MakeNoZero"], unfollowed := true, recurses := true, named := ["plait/sha.rounds"], apart := false, laid := [("plait/sha.rounds", laid_plait_sha_rounds)], narrowed := true }
def EnterThroughUptoSaid : Prop := enterThroughUptoRow.holds Tryd.pinned (OpenSpec.upto enterThroughSpec)

/-- 'plaitlaw23.EnterForged', WHERE WHAT IT READS IS OF BULK AT MOST 1048576: true; the input reads as it did. -/
def enterForgedUptoRow : OpenClaim := { program := "ytacgamdbmllaoaadoor", sum := "1ea10596d4fef521f2d4e823f36940171a7a3b73bcd65c46b5a70cd9041de6d2", func := "plait/plaitlaw23.EnterForged", spec := "enterForged", inPlace := ["internal/abi.NoEscape", "internal/bytealg.MakeNoZero"], unfollowed := true, recurses := true, named := ["plait/sha.rounds"], apart := false, laid := [("plait/sha.rounds", laid_plait_sha_rounds)], narrowed := true }
def EnterForgedUptoSaid : Prop := enterForgedUptoRow.holds Tryd.pinned (OpenSpec.upto enterForgedSpec)

end Rows
end Go.Proofs.YtacgamdbmllaoaaDoor
