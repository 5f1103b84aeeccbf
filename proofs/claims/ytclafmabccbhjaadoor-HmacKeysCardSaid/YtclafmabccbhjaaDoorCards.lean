/-
  DERIVED. GIVEN WITH THE SEED: THE CARDS: each row of YtclafmabccbhjaaDoorRows.lean that lists a variable, with what it lists TIED to the program's text (the seventh form; the later family's looks); each row that meets fmt, with fmt's text TOLD by the authors' own Lean function (tested against real Go, not proved from fmt's source: count such statements apart). THE CARD IS WHAT COUNTS. Prove the row's statement (the work); the ties are given (YtclafmabccbhjaaDoorTie.lean); close each card by the builder's one call (the guide's Derived/Test/ToyasCard.lean, 'card_holds'). Laid BY PROGRAM, IN A SANDBOX (cutbox-door.mjs). By AI agents, Wed Nov 11 2026. No macro, syntax, notation, axiom, sorry.
-/
import Derived.Test.YtclafmabccbhjaaDoorRows
import GoSem.ClaimSeven
namespace Go.Proofs.YtclafmabccbhjaaDoor
namespace Rows

/-- THE TIED CARD OF 'plaitlaw07.HmacTells'. -/
def hmacTellsCard : Claim7 := { stood := { row := hmacTellsRow, standIns := [], harness := (true, "b40959cacbda0c8b30d30cd09f0c538b42c9e227317d7be0061df96220e0a52f"), looks := false }, kinds := [], alts := [], laidByText := true, laidKinds := [.data], laidTests := true, laidLooks := .later }
def HmacTellsCardSaid : Prop := Claim7.holds Tryd.pinned (.plain (OpenSpec.ofChange hmacTellsSpec)) hmacTellsCard

/-- THE TIED CARD OF 'plaitlaw07.HmacEnds'. -/
def hmacEndsCard : Claim7 := { stood := { row := hmacEndsRow, standIns := [], harness := (true, "b40959cacbda0c8b30d30cd09f0c538b42c9e227317d7be0061df96220e0a52f"), looks := false }, kinds := [], alts := [], laidByText := true, laidKinds := [.data], laidTests := true, laidLooks := .later }
def HmacEndsCardSaid : Prop := Claim7.holds Tryd.pinned (.plain (OpenSpec.ofChange hmacEndsSpec)) hmacEndsCard

/-- THE TIED CARD OF 'plaitlaw07.HmacKeys'. -/
def hmacKeysCard : Claim7 := { stood := { row := hmacKeysRow, standIns := [], harness := (true, "b40959cacbda0c8b30d30cd09f0c538b42c9e227317d7be0061df96220e0a52f"), looks := false }, kinds := [], alts := [], laidByText := true, laidKinds := [.data], laidTests := true, laidLooks := .later }
def HmacKeysCardSaid : Prop := Claim7.holds Tryd.pinned (.plain (OpenSpec.ofChange hmacKeysSpec)) hmacKeysCard

/-- THE TIED CARD OF 'plaitlaw07.HmacWhole'. -/
def hmacWholeCard : Claim7 := { stood := { row := hmacWholeRow, standIns := [], harness := (true, "b40959cacbda0c8b30d30cd09f0c538b42c9e227317d7be0061df96220e0a52f"), looks := false }, kinds := [], alts := [], laidByText := true, laidKinds := [.data], laidTests := true, laidLooks := .later }
def HmacWholeCardSaid : Prop := Claim7.holds Tryd.pinned (.plain (OpenSpec.ofChange hmacWholeSpec)) hmacWholeCard

/-- THE TIED CARD OF 'plaitlaw07.HmacKnown'. -/
def hmacKnownCard : Claim7 := { stood := { row := hmacKnownRow, standIns := [], harness := (true, "b40959cacbda0c8b30d30cd09f0c538b42c9e227317d7be0061df96220e0a52f"), looks := false }, kinds := [], alts := [], laidByText := true, laidKinds := [.data], laidTests := true, laidLooks := .later }
def HmacKnownCardSaid : Prop := Claim7.holds Tryd.pinned (.plain (OpenSpec.ofChange hmacKnownSpec)) hmacKnownCard

/-- THE SECOND FORM's CARD OF 'plaitlaw07.HmacTells'. -/
def hmacTellsUptoCard : Claim7 := { stood := { row := hmacTellsUptoRow, standIns := [], harness := (true, "b40959cacbda0c8b30d30cd09f0c538b42c9e227317d7be0061df96220e0a52f"), looks := false }, kinds := [], alts := [], laidByText := true, laidKinds := [.data], laidTests := true, laidLooks := .later }
def HmacTellsUptoCardSaid : Prop := Claim7.holds Tryd.pinned (.plain (OpenSpec.upto hmacTellsSpec)) hmacTellsUptoCard

/-- THE SECOND FORM's CARD OF 'plaitlaw07.HmacEnds'. -/
def hmacEndsUptoCard : Claim7 := { stood := { row := hmacEndsUptoRow, standIns := [], harness := (true, "b40959cacbda0c8b30d30cd09f0c538b42c9e227317d7be0061df96220e0a52f"), looks := false }, kinds := [], alts := [], laidByText := true, laidKinds := [.data], laidTests := true, laidLooks := .later }
def HmacEndsUptoCardSaid : Prop := Claim7.holds Tryd.pinned (.plain (OpenSpec.upto hmacEndsSpec)) hmacEndsUptoCard

/-- THE SECOND FORM's CARD OF 'plaitlaw07.HmacKeys'. -/
def hmacKeysUptoCard : Claim7 := { stood := { row := hmacKeysUptoRow, standIns := [], harness := (true, "b40959cacbda0c8b30d30cd09f0c538b42c9e227317d7be0061df96220e0a52f"), looks := false }, kinds := [], alts := [], laidByText := true, laidKinds := [.data], laidTests := true, laidLooks := .later }
def HmacKeysUptoCardSaid : Prop := Claim7.holds Tryd.pinned (.plain (OpenSpec.upto hmacKeysSpec)) hmacKeysUptoCard

/-- THE SECOND FORM's CARD OF 'plaitlaw07.HmacWhole'. -/
def hmacWholeUptoCard : Claim7 := { stood := { row := hmacWholeUptoRow, standIns := [], harness := (true, "b40959cacbda0c8b30d30cd09f0c538b42c9e227317d7be0061df96220e0a52f"), looks := false }, kinds := [], alts := [], laidByText := true, laidKinds := [.data], laidTests := true, laidLooks := .later }
def HmacWholeUptoCardSaid : Prop := Claim7.holds Tryd.pinned (.plain (OpenSpec.upto hmacWholeSpec)) hmacWholeUptoCard

/-- THE SECOND FORM's CARD OF 'plaitlaw07.HmacKnown'. -/
def hmacKnownUptoCard : Claim7 := { stood := { row := hmacKnownUptoRow, standIns := [], harness := (true, "b40959cacbda0c8b30d30cd09f0c538b42c9e227317d7be0061df96220e0a52f"), looks := false }, kinds := [], alts := [], laidByText := true, laidKinds := [.data], laidTests := true, laidLooks := .later }
def HmacKnownUptoCardSaid : Prop := Claim7.holds Tryd.pinned (.plain (OpenSpec.upto hmacKnownSpec)) hmacKnownUptoCard
end Rows
end Go.Proofs.YtclafmabccbhjaaDoor
