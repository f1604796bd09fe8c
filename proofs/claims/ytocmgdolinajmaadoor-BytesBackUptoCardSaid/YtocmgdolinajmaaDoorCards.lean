/-
  DERIVED. GIVEN WITH THE SEED: THE CARDS: each row of YtocmgdolinajmaaDoorRows.lean that lists a variable, with what it lists TIED to the program's text (the seventh form; the later family's looks); each row that meets fmt, with fmt's text TOLD by the authors' own Lean function (tested against real Go, not proved from fmt's source: count such statements apart). THE CARD IS WHAT COUNTS. Prove the row's statement (the work); the ties are given (YtocmgdolinajmaaDoorTie.lean); close each card by the builder's one call (the guide's Derived/Test/ToyasCard.lean, 'card_holds'). Laid BY PROGRAM, IN A SANDBOX (cutbox-door.mjs). By AI agents, Wed Nov 11 2026. No macro, syntax, notation, axiom, sorry.
-/
import Derived.Test.YtocmgdolinajmaaDoorRows
import GoSem.ClaimSeven
namespace Go.Proofs.YtocmgdolinajmaaDoor
namespace Rows

/-- THE TIED CARD OF 'bobbinlaw7.BytesUnescape'. -/
def bytesUnescapeCard : Claim7 := { stood := { row := bytesUnescapeRow, standIns := [], harness := (true, "ce934e6975509b3ae5210526241d2cf72925d55fa1024123754dec35c924ec8d"), looks := true }, kinds := [], alts := [], laidByText := true, laidKinds := [.data, .pinned], laidTests := true, laidLooks := .later }
def BytesUnescapeCardSaid : Prop := Claim7.holds Tryd.pinned (.plain (OpenSpec.ofChange bytesUnescapeSpec)) bytesUnescapeCard

/-- THE TIED CARD OF 'bobbinlaw7.BytesCompare'. -/
def bytesCompareCard : Claim7 := { stood := { row := bytesCompareRow, standIns := [], harness := (true, "ce934e6975509b3ae5210526241d2cf72925d55fa1024123754dec35c924ec8d"), looks := true }, kinds := [], alts := [], laidByText := true, laidKinds := [.data, .pinned], laidTests := true, laidLooks := .later }
def BytesCompareCardSaid : Prop := Claim7.holds Tryd.pinned (.plain (OpenSpec.ofChange bytesCompareSpec)) bytesCompareCard

/-- THE TIED CARD OF 'bobbinlaw7.BytesBack'. -/
def bytesBackCard : Claim7 := { stood := { row := bytesBackRow, standIns := [], harness := (true, "ce934e6975509b3ae5210526241d2cf72925d55fa1024123754dec35c924ec8d"), looks := true }, kinds := [], alts := [], laidByText := true, laidKinds := [.data, .pinned], laidTests := true, laidLooks := .later }
def BytesBackCardSaid : Prop := Claim7.holds Tryd.pinned (.plain (OpenSpec.ofChange bytesBackSpec)) bytesBackCard

/-- THE SECOND FORM's CARD OF 'bobbinlaw7.BytesUnescape'. -/
def bytesUnescapeUptoCard : Claim7 := { stood := { row := bytesUnescapeUptoRow, standIns := [], harness := (true, "ce934e6975509b3ae5210526241d2cf72925d55fa1024123754dec35c924ec8d"), looks := true }, kinds := [], alts := [], laidByText := true, laidKinds := [.data, .pinned], laidTests := true, laidLooks := .later }
def BytesUnescapeUptoCardSaid : Prop := Claim7.holds Tryd.pinned (.plain (OpenSpec.upto bytesUnescapeSpec)) bytesUnescapeUptoCard

/-- THE SECOND FORM's CARD OF 'bobbinlaw7.BytesCompare'. -/
def bytesCompareUptoCard : Claim7 := { stood := { row := bytesCompareUptoRow, standIns := [], harness := (true, "ce934e6975509b3ae5210526241d2cf72925d55fa1024123754dec35c924ec8d"), looks := true }, kinds := [], alts := [], laidByText := true, laidKinds := [.data, .pinned], laidTests := true, laidLooks := .later }
def BytesCompareUptoCardSaid : Prop := Claim7.holds Tryd.pinned (.plain (OpenSpec.upto bytesCompareSpec)) bytesCompareUptoCard

/-- THE SECOND FORM's CARD OF 'bobbinlaw7.BytesBack'. -/
def bytesBackUptoCard : Claim7 := { stood := { row := bytesBackUptoRow, standIns := [], harness := (true, "ce934e6975509b3ae5210526241d2cf72925d55fa1024123754dec35c924ec8d"), looks := true }, kinds := [], alts := [], laidByText := true, laidKinds := [.data, .pinned], laidTests := true, laidLooks := .later }
def BytesBackUptoCardSaid : Prop := Claim7.holds Tryd.pinned (.plain (OpenSpec.upto bytesBackSpec)) bytesBackUptoCard
end Rows
end Go.Proofs.YtocmgdolinajmaaDoor
