/-
  DERIVED. GIVEN WITH THE SEED: THE CARDS: each row of YtacgamdbmllaoaaDoorRows.lean that lists a variable, with what it lists TIED to the program's text (the seventh form; the later family's looks); each row that meets fmt, with fmt's text TOLD by the authors' own Lean function (tested against real Go, not proved from fmt's source: count such statements apart). THE CARD IS WHAT COUNTS. Prove the row's statement (the work); the ties are given (YtacgamdbmllaoaaDoorTie.lean); close each card by the builder's one call (the guide's Derived/Test/ToyasCard.lean, 'card_holds'). Laid BY PROGRAM, IN A SANDBOX (cutbox-door.mjs). By AI agents, Wed Nov 11 2026. No macro, syntax, notation, axiom, sorry.
-/
import Derived.Test.YtacgamdbmllaoaaDoorRows
import GoSem.ClaimSeven
namespace Go.Proofs.YtacgamdbmllaoaaDoor
namespace Rows

/-- THE TIED CARD OF 'plaitlaw23.EnterDeaf'. -/
def enterDeafCard : Claim7 := { stood := { row := enterDeafRow, standIns := [], harness := (true, "712718fd8bc457794a3f0a1de34878048826cd629d5822be8bb47cfe0c189ce8"), looks := false }, kinds := [], alts := [], laidByText := true, laidKinds := [.data], laidTests := true, laidLooks := .later }
def EnterDeafCardSaid : Prop := Claim7.holds Tryd.pinned (.plain (OpenSpec.ofChange enterDeafSpec)) enterDeafCard

/-- THE TIED CARD OF 'plaitlaw23.EnterKnown'. -/
def enterKnownCard : Claim7 := { stood := { row := enterKnownRow, standIns := [], harness := (true, "712718fd8bc457794a3f0a1de34878048826cd629d5822be8bb47cfe0c189ce8"), looks := false }, kinds := [], alts := [], laidByText := true, laidKinds := [.data], laidTests := true, laidLooks := .later }
def EnterKnownCardSaid : Prop := Claim7.holds Tryd.pinned (.plain (OpenSpec.ofChange enterKnownSpec)) enterKnownCard

/-- THE TIED CARD OF 'plaitlaw23.EnterTells'. -/
def enterTellsCard : Claim7 := { stood := { row := enterTellsRow, standIns := [], harness := (true, "712718fd8bc457794a3f0a1de34878048826cd629d5822be8bb47cfe0c189ce8"), looks := false }, kinds := [], alts := [], laidByText := true, laidKinds := [.data], laidTests := true, laidLooks := .later }
def EnterTellsCardSaid : Prop := Claim7.holds Tryd.pinned (.plain (OpenSpec.ofChange enterTellsSpec)) enterTellsCard

/-- THE TIED CARD OF 'plaitlaw23.EnterThrough'. -/
def enterThroughCard : Claim7 := { stood := { row := enterThroughRow, standIns := [], harness := (true, "712718fd8bc457794a3f0a1de34878048826cd629d5822be8bb47cfe0c189ce8"), looks := false }, kinds := [], alts := [], laidByText := true, laidKinds := [.data], laidTests := true, laidLooks := .later }
def EnterThroughCardSaid : Prop := Claim7.holds Tryd.pinned (.plain (OpenSpec.ofChange enterThroughSpec)) enterThroughCard

/-- THE TIED CARD OF 'plaitlaw23.EnterForged'. -/
def enterForgedCard : Claim7 := { stood := { row := enterForgedRow, standIns := [], harness := (true, "712718fd8bc457794a3f0a1de34878048826cd629d5822be8bb47cfe0c189ce8"), looks := false }, kinds := [], alts := [], laidByText := true, laidKinds := [.data], laidTests := true, laidLooks := .later }
def EnterForgedCardSaid : Prop := Claim7.holds Tryd.pinned (.plain (OpenSpec.ofChange enterForgedSpec)) enterForgedCard

/-- THE SECOND FORM's CARD OF 'plaitlaw23.EnterDeaf'. -/
def enterDeafUptoCard : Claim7 := { stood := { row := enterDeafUptoRow, standIns := [], harness := (true, "712718fd8bc457794a3f0a1de34878048826cd629d5822be8bb47cfe0c189ce8"), looks := false }, kinds := [], alts := [], laidByText := true, laidKinds := [.data], laidTests := true, laidLooks := .later }
def EnterDeafUptoCardSaid : Prop := Claim7.holds Tryd.pinned (.plain (OpenSpec.upto enterDeafSpec)) enterDeafUptoCard

/-- THE SECOND FORM's CARD OF 'plaitlaw23.EnterKnown'. -/
def enterKnownUptoCard : Claim7 := { stood := { row := enterKnownUptoRow, standIns := [], harness := (true, "712718fd8bc457794a3f0a1de34878048826cd629d5822be8bb47cfe0c189ce8"), looks := false }, kinds := [], alts := [], laidByText := true, laidKinds := [.data], laidTests := true, laidLooks := .later }
def EnterKnownUptoCardSaid : Prop := Claim7.holds Tryd.pinned (.plain (OpenSpec.upto enterKnownSpec)) enterKnownUptoCard

/-- THE SECOND FORM's CARD OF 'plaitlaw23.EnterTells'. -/
def enterTellsUptoCard : Claim7 := { stood := { row := enterTellsUptoRow, standIns := [], harness := (true, "712718fd8bc457794a3f0a1de34878048826cd629d5822be8bb47cfe0c189ce8"), looks := false }, kinds := [], alts := [], laidByText := true, laidKinds := [.data], laidTests := true, laidLooks := .later }
def EnterTellsUptoCardSaid : Prop := Claim7.holds Tryd.pinned (.plain (OpenSpec.upto enterTellsSpec)) enterTellsUptoCard

/-- THE SECOND FORM's CARD OF 'plaitlaw23.EnterThrough'. -/
def enterThroughUptoCard : Claim7 := { stood := { row := enterThroughUptoRow, standIns := [], harness := (true, "712718fd8bc457794a3f0a1de34878048826cd629d5822be8bb47cfe0c189ce8"), looks := false }, kinds := [], alts := [], laidByText := true, laidKinds := [.data], laidTests := true, laidLooks := .later }
def EnterThroughUptoCardSaid : Prop := Claim7.holds Tryd.pinned (.plain (OpenSpec.upto enterThroughSpec)) enterThroughUptoCard

/-- THE SECOND FORM's CARD OF 'plaitlaw23.EnterForged'. -/
def enterForgedUptoCard : Claim7 := { stood := { row := enterForgedUptoRow, standIns := [], harness := (true, "712718fd8bc457794a3f0a1de34878048826cd629d5822be8bb47cfe0c189ce8"), looks := false }, kinds := [], alts := [], laidByText := true, laidKinds := [.data], laidTests := true, laidLooks := .later }
def EnterForgedUptoCardSaid : Prop := Claim7.holds Tryd.pinned (.plain (OpenSpec.upto enterForgedSpec)) enterForgedUptoCard
end Rows
end Go.Proofs.YtacgamdbmllaoaaDoor
