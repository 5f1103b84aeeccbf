/-
  NARROWER THAN 'FOR EVERY INPUT', by the rows' own cells (each row's printed sentence says how): HashTells: laid · HashEdges: laid · HashWrites: laid · HashPieces: laid · HashForks: laid · HashKnown: laid.
  DERIVED. THE GIVEN ROWS OF THIS SEAT. 6 by the template 'for every input the law returns true; each argument reads behind the call as it read before'; 0 by the template 'total and deterministic' (their statements: YtgefcokanfbpbaaDoorTotals.lean).
  GIVEN WITH THE SEED: the statements are not yours to turn. If you find one false, say at which input.
  Laid BY PROGRAM, IN A SANDBOX (cutbox-rows.mjs): the forced cells as the released guide's own fill.sh prints them over the translation 206d35cbf892af40… (all of the seat's roots in one cut). By AI agents, Wed Nov 11 2026. No macro, syntax, notation, axiom, sorry.
-/
import Derived.Test.YtgefcokanfbpbaaDoorChecked
import GoSem.Claim
import GoSem.ClaimJoined
import GoSem.ClaimMapViews
import Derived.JoinedTies
import Derived.KernelRfl
namespace Go.Proofs.YtgefcokanfbpbaaDoor
/- THE CELL 'sum', in the pinned program and in every row, IS THE sha256 OF THE DUMP (.gsa) THAT YtgefcokanfbpbaaDoorProg.lean LOADS. Nothing in Lean hashes anything: it is a label: what it is worth is what the hold of that sum in a sandbox is worth. -/
noncomputable def Tryd.pinned : Pinned := { name := "ytgefcokanfbpbaadoor", sum := "206d35cbf892af40e3490474bf0a0e440a81039c51bdc2e7ddb08fa7da3c59fb", checked := Tryd.checked }
namespace Rows
def none {H : Type} : Left H := { results := [], args := [] }

/- WHAT THE LISTED PACKAGE-LEVEL VARIABLES READ AS WHEN THE CALL BEGINS. Each datum BY PROGRAM (the guide's laid-datum.mjs) off the statement by which the dump's own 'gosem.cut.vars' lays the variable. In a bare row this is a premise. The card (YtgefcokanfbpbaaDoorCards.lean) ties it to the program's text. -/
def laid_plait_sha_rounds {H : Type} : DataW H := .agg [.lit (.int .u32 1116352408), .lit (.int .u32 1899447441), .lit (.int .u32 3049323471), .lit (.int .u32 3921009573), .lit (.int .u32 961987163), .lit (.int .u32 1508970993), .lit (.int .u32 2453635748), .lit (.int .u32 2870763221), .lit (.int .u32 3624381080), .lit (.int .u32 310598401), .lit (.int .u32 607225278), .lit (.int .u32 1426881987), .lit (.int .u32 1925078388), .lit (.int .u32 2162078206), .lit (.int .u32 2614888103), .lit (.int .u32 3248222580), .lit (.int .u32 3835390401), .lit (.int .u32 4022224774), .lit (.int .u32 264347078), .lit (.int .u32 604807628), .lit (.int .u32 770255983), .lit (.int .u32 1249150122), .lit (.int .u32 1555081692), .lit (.int .u32 1996064986), .lit (.int .u32 2554220882), .lit (.int .u32 2821834349), .lit (.int .u32 2952996808), .lit (.int .u32 3210313671), .lit (.int .u32 3336571891), .lit (.int .u32 3584528711), .lit (.int .u32 113926993), .lit (.int .u32 338241895), .lit (.int .u32 666307205), .lit (.int .u32 773529912), .lit (.int .u32 1294757372), .lit (.int .u32 1396182291), .lit (.int .u32 1695183700), .lit (.int .u32 1986661051), .lit (.int .u32 2177026350), .lit (.int .u32 2456956037), .lit (.int .u32 2730485921), .lit (.int .u32 2820302411), .lit (.int .u32 3259730800), .lit (.int .u32 3345764771), .lit (.int .u32 3516065817), .lit (.int .u32 3600352804), .lit (.int .u32 4094571909), .lit (.int .u32 275423344), .lit (.int .u32 430227734), .lit (.int .u32 506948616), .lit (.int .u32 659060556), .lit (.int .u32 883997877), .lit (.int .u32 958139571), .lit (.int .u32 1322822218), .lit (.int .u32 1537002063), .lit (.int .u32 1747873779), .lit (.int .u32 1955562222), .lit (.int .u32 2024104815), .lit (.int .u32 2227730452), .lit (.int .u32 2361852424), .lit (.int .u32 2428436474), .lit (.int .u32 2756734187), .lit (.int .u32 3204031479), .lit (.int .u32 3329325298)]

/-- 'plaitlaw06.HashTells': WHATEVER THE INPUT: true; the input reads as it did. -/
def hashTellsSpec : ChangeSpec := { name := "hashTells", fn := fun _ => fun
  | [d1, d2, d3] => { results := [.lit (.bool true)], args := [d1, d2, d3] }
  | _ => none }
def hashTellsRow : OpenClaim := { program := "ytgefcokanfbpbaadoor", sum := "206d35cbf892af40e3490474bf0a0e440a81039c51bdc2e7ddb08fa7da3c59fb", func := "plait/plaitlaw06.HashTells", spec := "hashTells", unfollowed := true, recurses := true, named := ["plait/sha.rounds"], apart := false, laid := [("plait/sha.rounds", laid_plait_sha_rounds)] }
def HashTellsSaid : Prop := hashTellsRow.holds Tryd.pinned (OpenSpec.ofChange hashTellsSpec)

/-- ITS FALSE NEIGHBOUR: 'it returns false'. Refute it at one input. -/
def hashTellsWrong : ChangeSpec := { name := "hashTells", fn := fun _ => fun
  | [d1, d2, d3] => { results := [.lit (.bool false)], args := [d1, d2, d3] }
  | _ => none }
def HashTellsWrongFalsely : Prop := hashTellsRow.holds Tryd.pinned (OpenSpec.ofChange hashTellsWrong)

/-- 'plaitlaw06.HashEdges': WHATEVER THE INPUT: true; the input reads as it did. -/
def hashEdgesSpec : ChangeSpec := { name := "hashEdges", fn := fun _ => fun
  | [d1, d2] => { results := [.lit (.bool true)], args := [d1, d2] }
  | _ => none }
def hashEdgesRow : OpenClaim := { program := "ytgefcokanfbpbaadoor", sum := "206d35cbf892af40e3490474bf0a0e440a81039c51bdc2e7ddb08fa7da3c59fb", func := "plait/plaitlaw06.HashEdges", spec := "hashEdges", unfollowed := true, recurses := true, named := ["plait/sha.rounds"], apart := false, laid := [("plait/sha.rounds", laid_plait_sha_rounds)] }
def HashEdgesSaid : Prop := hashEdgesRow.holds Tryd.pinned (OpenSpec.ofChange hashEdgesSpec)

/-- ITS FALSE NEIGHBOUR: 'it returns false'. Refute it at one input. -/
def hashEdgesWrong : ChangeSpec := { name := "hashEdges", fn := fun _ => fun
  | [d1, d2] => { results := [.lit (.bool false)], args := [d1, d2] }
  | _ => none }
def HashEdgesWrongFalsely : Prop := hashEdgesRow.holds Tryd.pinned (OpenSpec.ofChange hashEdgesWrong)

/-- 'plaitlaw06.HashWrites': WHATEVER THE INPUT: true; the input reads as it did. -/
def hashWritesSpec : ChangeSpec := { name := "hashWrites", fn := fun _ => fun
  | [d] => { results := [.lit (.bool true)], args := [d] }
  | _ => none }
def hashWritesRow : OpenClaim := { program := "ytgefcokanfbpbaadoor", sum := "206d35cbf892af40e3490474bf0a0e440a81039c51bdc2e7ddb08fa7da3c59fb", func := "plait/plaitlaw06.HashWrites", spec := "hashWrites", unfollowed := true, recurses := true, named := ["plait/sha.rounds"], apart := false, laid := [("plait/sha.rounds", laid_plait_sha_rounds)] }
def HashWritesSaid : Prop := hashWritesRow.holds Tryd.pinned (OpenSpec.ofChange hashWritesSpec)

/-- ITS FALSE NEIGHBOUR: 'it returns false'. Refute it at one input. -/
def hashWritesWrong : ChangeSpec := { name := "hashWrites", fn := fun _ => fun
  | [d] => { results := [.lit (.bool false)], args := [d] }
  | _ => none }
def HashWritesWrongFalsely : Prop := hashWritesRow.holds Tryd.pinned (OpenSpec.ofChange hashWritesWrong)

/-- 'plaitlaw06.HashPieces': WHATEVER THE INPUT: true; the input reads as it did. -/
def hashPiecesSpec : ChangeSpec := { name := "hashPieces", fn := fun _ => fun
  | [d1, d2] => { results := [.lit (.bool true)], args := [d1, d2] }
  | _ => none }
def hashPiecesRow : OpenClaim := { program := "ytgefcokanfbpbaadoor", sum := "206d35cbf892af40e3490474bf0a0e440a81039c51bdc2e7ddb08fa7da3c59fb", func := "plait/plaitlaw06.HashPieces", spec := "hashPieces", unfollowed := true, recurses := true, named := ["plait/sha.rounds"], apart := false, laid := [("plait/sha.rounds", laid_plait_sha_rounds)] }
def HashPiecesSaid : Prop := hashPiecesRow.holds Tryd.pinned (OpenSpec.ofChange hashPiecesSpec)

/-- ITS FALSE NEIGHBOUR: 'it returns false'. Refute it at one input. -/
def hashPiecesWrong : ChangeSpec := { name := "hashPieces", fn := fun _ => fun
  | [d1, d2] => { results := [.lit (.bool false)], args := [d1, d2] }
  | _ => none }
def HashPiecesWrongFalsely : Prop := hashPiecesRow.holds Tryd.pinned (OpenSpec.ofChange hashPiecesWrong)

/-- 'plaitlaw06.HashForks': WHATEVER THE INPUT: true; the input reads as it did. -/
def hashForksSpec : ChangeSpec := { name := "hashForks", fn := fun _ => fun
  | [d1, d2, d3] => { results := [.lit (.bool true)], args := [d1, d2, d3] }
  | _ => none }
def hashForksRow : OpenClaim := { program := "ytgefcokanfbpbaadoor", sum := "206d35cbf892af40e3490474bf0a0e440a81039c51bdc2e7ddb08fa7da3c59fb", func := "plait/plaitlaw06.HashForks", spec := "hashForks", unfollowed := true, recurses := true, named := ["plait/sha.rounds"], apart := false, laid := [("plait/sha.rounds", laid_plait_sha_rounds)] }
def HashForksSaid : Prop := hashForksRow.holds Tryd.pinned (OpenSpec.ofChange hashForksSpec)

/-- ITS FALSE NEIGHBOUR: 'it returns false'. Refute it at one input. -/
def hashForksWrong : ChangeSpec := { name := "hashForks", fn := fun _ => fun
  | [d1, d2, d3] => { results := [.lit (.bool false)], args := [d1, d2, d3] }
  | _ => none }
def HashForksWrongFalsely : Prop := hashForksRow.holds Tryd.pinned (OpenSpec.ofChange hashForksWrong)

/-- 'plaitlaw06.HashKnown': WHATEVER THE INPUT: true; the input reads as it did. -/
def hashKnownSpec : ChangeSpec := { name := "hashKnown", fn := fun _ => fun
  | [] => { results := [.lit (.bool true)], args := [] }
  | _ => none }
def hashKnownRow : OpenClaim := { program := "ytgefcokanfbpbaadoor", sum := "206d35cbf892af40e3490474bf0a0e440a81039c51bdc2e7ddb08fa7da3c59fb", func := "plait/plaitlaw06.HashKnown", spec := "hashKnown", unfollowed := true, recurses := true, named := ["plait/sha.rounds"], apart := false, laid := [("plait/sha.rounds", laid_plait_sha_rounds)] }
def HashKnownSaid : Prop := hashKnownRow.holds Tryd.pinned (OpenSpec.ofChange hashKnownSpec)

/-- ITS FALSE NEIGHBOUR: 'it returns false'. Refute it at one input. -/
def hashKnownWrong : ChangeSpec := { name := "hashKnown", fn := fun _ => fun
  | [] => { results := [.lit (.bool false)], args := [] }
  | _ => none }
def HashKnownWrongFalsely : Prop := hashKnownRow.holds Tryd.pinned (OpenSpec.ofChange hashKnownWrong)

/- THE SECOND FORM. 'bulk': how many values and letters a reading holds, each counted each time it is reached (what is shared counts as often as it is met; a slice's spare places count too). A statement '..UptoSaid' is the law's where the arguments, and the package variables that the reading takes, are together of bulk at most 1048576: NARROWER than '..Said'. Prove '..Said' where nothing that the law and all that it calls make is longer than what came in: it says more and counts as full. Else prove '..UptoSaid'. A law counts once. -/
mutual
def uptoBulk {H : Type} : DataW H → Nat
  | .lit (.string bytes) => bytes.length + 1
  | .lit _ => 1
  | .nil => 1
  | .ptr d => uptoBulk d + 1
  | .slice elems spare => uptoBulkAll elems + uptoBulkAll spare + 1
  | .agg parts => uptoBulkAll parts + 1
  | .iface _ d => uptoBulk d + 1
  | .map entries => uptoBulkEntries entries + 1
  | .held _ => 1
def uptoBulkAll {H : Type} : List (DataW H) → Nat
  | [] => 0
  | d :: r => uptoBulk d + uptoBulkAll r
def uptoBulkEntries {H : Type} : List (Lit × DataW H) → Nat
  | [] => 0
  | x :: r => uptoBulkEntry x + uptoBulkEntries r
def uptoBulkEntry {H : Type} : Lit × DataW H → Nat
  | (.string bytes, d) => bytes.length + uptoBulk d + 1
  | (_, d) => uptoBulk d + 1
 end
def uptoSmall : (H : Type) → List (DataW H) → Bool := fun _ ds => decide (uptoBulkAll ds ≤ 1048576)
def OpenSpec.upto (s : _root_.Go.ChangeSpec) : _root_.Go.OpenSpec := { _root_.Go.OpenSpec.ofChange s with cond := some uptoSmall }

/-- 'plaitlaw06.HashTells', WHERE WHAT IT READS IS OF BULK AT MOST 1048576: true; the input reads as it did. -/
def hashTellsUptoRow : OpenClaim := { program := "ytgefcokanfbpbaadoor", sum := "206d35cbf892af40e3490474bf0a0e440a81039c51bdc2e7ddb08fa7da3c59fb", func := "plait/plaitlaw06.HashTells", spec := "hashTells", unfollowed := true, recurses := true, named := ["plait/sha.rounds"], apart := false, laid := [("plait/sha.rounds", laid_plait_sha_rounds)], narrowed := true }
def HashTellsUptoSaid : Prop := hashTellsUptoRow.holds Tryd.pinned (OpenSpec.upto hashTellsSpec)

/-- 'plaitlaw06.HashEdges', WHERE WHAT IT READS IS OF BULK AT MOST 1048576: true; the input reads as it did. -/
def hashEdgesUptoRow : OpenClaim := { program := "ytgefcokanfbpbaadoor", sum := "206d35cbf892af40e3490474bf0a0e440a81039c51bdc2e7ddb08fa7da3c59fb", func := "plait/plaitlaw06.HashEdges", spec := "hashEdges", unfollowed := true, recurses := true, named := ["plait/sha.rounds"], apart := false, laid := [("plait/sha.rounds", laid_plait_sha_rounds)], narrowed := true }
def HashEdgesUptoSaid : Prop := hashEdgesUptoRow.holds Tryd.pinned (OpenSpec.upto hashEdgesSpec)

/-- 'plaitlaw06.HashWrites', WHERE WHAT IT READS IS OF BULK AT MOST 1048576: true; the input reads as it did. -/
def hashWritesUptoRow : OpenClaim := { program := "ytgefcokanfbpbaadoor", sum := "206d35cbf892af40e3490474bf0a0e440a81039c51bdc2e7ddb08fa7da3c59fb", func := "plait/plaitlaw06.HashWrites", spec := "hashWrites", unfollowed := true, recurses := true, named := ["plait/sha.rounds"], apart := false, laid := [("plait/sha.rounds", laid_plait_sha_rounds)], narrowed := true }
def HashWritesUptoSaid : Prop := hashWritesUptoRow.holds Tryd.pinned (OpenSpec.upto hashWritesSpec)

/-- 'plaitlaw06.HashPieces', WHERE WHAT IT READS IS OF BULK AT MOST 1048576: true; the input reads as it did. -/
def hashPiecesUptoRow : OpenClaim := { program := "ytgefcokanfbpbaadoor", sum := "206d35cbf892af40e3490474bf0a0e440a81039c51bdc2e7ddb08fa7da3c59fb", func := "plait/plaitlaw06.HashPieces", spec := "hashPieces", unfollowed := true, recurses := true, named := ["plait/sha.rounds"], apart := false, laid := [("plait/sha.rounds", laid_plait_sha_rounds)], narrowed := true }
def HashPiecesUptoSaid : Prop := hashPiecesUptoRow.holds Tryd.pinned (OpenSpec.upto hashPiecesSpec)

/-- 'plaitlaw06.HashForks', WHERE WHAT IT READS IS OF BULK AT MOST 1048576: true; the input reads as it did. -/
def hashForksUptoRow : OpenClaim := { program := "ytgefcokanfbpbaadoor", sum := "206d35cbf892af40e3490474bf0a0e440a81039c51bdc2e7ddb08fa7da3c59fb", func := "plait/plaitlaw06.HashForks", spec := "hashForks", unfollowed := true, recurses := true, named := ["plait/sha.rounds"], apart := false, laid := [("plait/sha.rounds", laid_plait_sha_rounds)], narrowed := true }
def HashForksUptoSaid : Prop := hashForksUptoRow.holds Tryd.pinned (OpenSpec.upto hashForksSpec)

/-- 'plaitlaw06.HashKnown', WHERE WHAT IT READS IS OF BULK AT MOST 1048576: true; the input reads as it did. -/
def hashKnownUptoRow : OpenClaim := { program := "ytgefcokanfbpbaadoor", sum := "206d35cbf892af40e3490474bf0a0e440a81039c51bdc2e7ddb08fa7da3c59fb", func := "plait/plaitlaw06.HashKnown", spec := "hashKnown", unfollowed := true, recurses := true, named := ["plait/sha.rounds"], apart := false, laid := [("plait/sha.rounds", laid_plait_sha_rounds)], narrowed := true }
def HashKnownUptoSaid : Prop := hashKnownUptoRow.holds Tryd.pinned (OpenSpec.upto hashKnownSpec)

end Rows
end Go.Proofs.YtgefcokanfbpbaaDoor
