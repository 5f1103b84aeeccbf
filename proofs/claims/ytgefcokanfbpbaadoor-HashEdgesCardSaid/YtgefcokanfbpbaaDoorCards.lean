/-
  DERIVED. GIVEN WITH THE SEED: THE CARDS: each row of YtgefcokanfbpbaaDoorRows.lean that lists a variable, with what it lists TIED to the program's text (the seventh form; the later family's looks); each row that meets fmt, with fmt's text TOLD by the authors' own Lean function (tested against real Go, not proved from fmt's source: count such statements apart). THE CARD IS WHAT COUNTS. Prove the row's statement (the work); the ties are given (YtgefcokanfbpbaaDoorTie.lean); close each card by the builder's one call (the guide's Derived/Test/ToyasCard.lean, 'card_holds'). Laid BY PROGRAM, IN A SANDBOX (cutbox-door.mjs). By AI agents, Wed Nov 11 2026. No macro, syntax, notation, axiom, sorry.
-/
import Derived.Test.YtgefcokanfbpbaaDoorRows
import GoSem.ClaimSeven
namespace Go.Proofs.YtgefcokanfbpbaaDoor
namespace Rows

/-- THE TIED CARD OF 'plaitlaw06.HashTells'. -/
def hashTellsCard : Claim7 := { stood := { row := hashTellsRow, standIns := [], harness := (true, "e0fa5907c2e1b4edf385be27c5d160ccce484b095ed7f6520272a764994f0aa5"), looks := false }, kinds := [], alts := [], laidByText := true, laidKinds := [.data], laidTests := true, laidLooks := .later }
def HashTellsCardSaid : Prop := Claim7.holds Tryd.pinned (.plain (OpenSpec.ofChange hashTellsSpec)) hashTellsCard

/-- THE TIED CARD OF 'plaitlaw06.HashEdges'. -/
def hashEdgesCard : Claim7 := { stood := { row := hashEdgesRow, standIns := [], harness := (true, "e0fa5907c2e1b4edf385be27c5d160ccce484b095ed7f6520272a764994f0aa5"), looks := false }, kinds := [], alts := [], laidByText := true, laidKinds := [.data], laidTests := true, laidLooks := .later }
def HashEdgesCardSaid : Prop := Claim7.holds Tryd.pinned (.plain (OpenSpec.ofChange hashEdgesSpec)) hashEdgesCard

/-- THE TIED CARD OF 'plaitlaw06.HashWrites'. -/
def hashWritesCard : Claim7 := { stood := { row := hashWritesRow, standIns := [], harness := (true, "e0fa5907c2e1b4edf385be27c5d160ccce484b095ed7f6520272a764994f0aa5"), looks := false }, kinds := [], alts := [], laidByText := true, laidKinds := [.data], laidTests := true, laidLooks := .later }
def HashWritesCardSaid : Prop := Claim7.holds Tryd.pinned (.plain (OpenSpec.ofChange hashWritesSpec)) hashWritesCard

/-- THE TIED CARD OF 'plaitlaw06.HashPieces'. -/
def hashPiecesCard : Claim7 := { stood := { row := hashPiecesRow, standIns := [], harness := (true, "e0fa5907c2e1b4edf385be27c5d160ccce484b095ed7f6520272a764994f0aa5"), looks := false }, kinds := [], alts := [], laidByText := true, laidKinds := [.data], laidTests := true, laidLooks := .later }
def HashPiecesCardSaid : Prop := Claim7.holds Tryd.pinned (.plain (OpenSpec.ofChange hashPiecesSpec)) hashPiecesCard

/-- THE TIED CARD OF 'plaitlaw06.HashForks'. -/
def hashForksCard : Claim7 := { stood := { row := hashForksRow, standIns := [], harness := (true, "e0fa5907c2e1b4edf385be27c5d160ccce484b095ed7f6520272a764994f0aa5"), looks := false }, kinds := [], alts := [], laidByText := true, laidKinds := [.data], laidTests := true, laidLooks := .later }
def HashForksCardSaid : Prop := Claim7.holds Tryd.pinned (.plain (OpenSpec.ofChange hashForksSpec)) hashForksCard

/-- THE TIED CARD OF 'plaitlaw06.HashKnown'. -/
def hashKnownCard : Claim7 := { stood := { row := hashKnownRow, standIns := [], harness := (true, "e0fa5907c2e1b4edf385be27c5d160ccce484b095ed7f6520272a764994f0aa5"), looks := false }, kinds := [], alts := [], laidByText := true, laidKinds := [.data], laidTests := true, laidLooks := .later }
def HashKnownCardSaid : Prop := Claim7.holds Tryd.pinned (.plain (OpenSpec.ofChange hashKnownSpec)) hashKnownCard

/-- THE SECOND FORM's CARD OF 'plaitlaw06.HashTells'. -/
def hashTellsUptoCard : Claim7 := { stood := { row := hashTellsUptoRow, standIns := [], harness := (true, "e0fa5907c2e1b4edf385be27c5d160ccce484b095ed7f6520272a764994f0aa5"), looks := false }, kinds := [], alts := [], laidByText := true, laidKinds := [.data], laidTests := true, laidLooks := .later }
def HashTellsUptoCardSaid : Prop := Claim7.holds Tryd.pinned (.plain (OpenSpec.upto hashTellsSpec)) hashTellsUptoCard

/-- THE SECOND FORM's CARD OF 'plaitlaw06.HashEdges'. -/
def hashEdgesUptoCard : Claim7 := { stood := { row := hashEdgesUptoRow, standIns := [], harness := (true, "e0fa5907c2e1b4edf385be27c5d160ccce484b095ed7f6520272a764994f0aa5"), looks := false }, kinds := [], alts := [], laidByText := true, laidKinds := [.data], laidTests := true, laidLooks := .later }
def HashEdgesUptoCardSaid : Prop := Claim7.holds Tryd.pinned (.plain (OpenSpec.upto hashEdgesSpec)) hashEdgesUptoCard

/-- THE SECOND FORM's CARD OF 'plaitlaw06.HashWrites'. -/
def hashWritesUptoCard : Claim7 := { stood := { row := hashWritesUptoRow, standIns := [], harness := (true, "e0fa5907c2e1b4edf385be27c5d160ccce484b095ed7f6520272a764994f0aa5"), looks := false }, kinds := [], alts := [], laidByText := true, laidKinds := [.data], laidTests := true, laidLooks := .later }
def HashWritesUptoCardSaid : Prop := Claim7.holds Tryd.pinned (.plain (OpenSpec.upto hashWritesSpec)) hashWritesUptoCard

/-- THE SECOND FORM's CARD OF 'plaitlaw06.HashPieces'. -/
def hashPiecesUptoCard : Claim7 := { stood := { row := hashPiecesUptoRow, standIns := [], harness := (true, "e0fa5907c2e1b4edf385be27c5d160ccce484b095ed7f6520272a764994f0aa5"), looks := false }, kinds := [], alts := [], laidByText := true, laidKinds := [.data], laidTests := true, laidLooks := .later }
def HashPiecesUptoCardSaid : Prop := Claim7.holds Tryd.pinned (.plain (OpenSpec.upto hashPiecesSpec)) hashPiecesUptoCard

/-- THE SECOND FORM's CARD OF 'plaitlaw06.HashForks'. -/
def hashForksUptoCard : Claim7 := { stood := { row := hashForksUptoRow, standIns := [], harness := (true, "e0fa5907c2e1b4edf385be27c5d160ccce484b095ed7f6520272a764994f0aa5"), looks := false }, kinds := [], alts := [], laidByText := true, laidKinds := [.data], laidTests := true, laidLooks := .later }
def HashForksUptoCardSaid : Prop := Claim7.holds Tryd.pinned (.plain (OpenSpec.upto hashForksSpec)) hashForksUptoCard

/-- THE SECOND FORM's CARD OF 'plaitlaw06.HashKnown'. -/
def hashKnownUptoCard : Claim7 := { stood := { row := hashKnownUptoRow, standIns := [], harness := (true, "e0fa5907c2e1b4edf385be27c5d160ccce484b095ed7f6520272a764994f0aa5"), looks := false }, kinds := [], alts := [], laidByText := true, laidKinds := [.data], laidTests := true, laidLooks := .later }
def HashKnownUptoCardSaid : Prop := Claim7.holds Tryd.pinned (.plain (OpenSpec.upto hashKnownSpec)) hashKnownUptoCard
end Rows
end Go.Proofs.YtgefcokanfbpbaaDoor
