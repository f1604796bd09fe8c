/-
  DERIVED. GIVEN WITH THE SEED: THE CARDS: each row of YtpkfkipnagajkaaDoorRows.lean that lists a variable, with what it lists TIED to the program's text (the seventh form; the later family's looks); each row that meets fmt, with fmt's text TOLD by the authors' own Lean function (tested against real Go, not proved from fmt's source: count such statements apart). THE CARD IS WHAT COUNTS. Prove the row's statement (the work); the ties are given (YtpkfkipnagajkaaDoorTie.lean); close each card by the builder's one call (the guide's Derived/Test/ToyasCard.lean, 'card_holds'). Laid BY PROGRAM, IN A SANDBOX (cutbox-door.mjs). By AI agents, Wed Nov 11 2026. No macro, syntax, notation, axiom, sorry.
-/
import Derived.Test.YtpkfkipnagajkaaDoorRows
import GoSem.ClaimSeven
namespace Go.Proofs.YtpkfkipnagajkaaDoor
namespace Rows

/-- THE TIED CARD OF 'bobbinlaw6.XcharDecodes'. -/
def xcharDecodesCard : Claim7 := { stood := { row := xcharDecodesRow, standIns := [], harness := (true, "c193caafdef9a53de27530e1f9036f864ccaf4afd65327239d5f2593d17bb9d3"), looks := false }, kinds := [], alts := [], laidByText := true, laidKinds := [.data, .pinned], laidTests := true, laidLooks := .later }
def XcharDecodesCardSaid : Prop := Claim7.holds Tryd.pinned (.plain (OpenSpec.ofChange xcharDecodesSpec)) xcharDecodesCard

/-- THE TIED CARD OF 'bobbinlaw6.XcharEnds'. -/
def xcharEndsCard : Claim7 := { stood := { row := xcharEndsRow, standIns := [], harness := (true, "c193caafdef9a53de27530e1f9036f864ccaf4afd65327239d5f2593d17bb9d3"), looks := false }, kinds := [], alts := [], laidByText := true, laidKinds := [.data, .pinned], laidTests := true, laidLooks := .later }
def XcharEndsCardSaid : Prop := Claim7.holds Tryd.pinned (.plain (OpenSpec.ofChange xcharEndsSpec)) xcharEndsCard

/-- THE TIED CARD OF 'bobbinlaw6.XcharGarbage'. -/
def xcharGarbageCard : Claim7 := { stood := { row := xcharGarbageRow, standIns := [], harness := (true, "c193caafdef9a53de27530e1f9036f864ccaf4afd65327239d5f2593d17bb9d3"), looks := false }, kinds := [], alts := [], laidByText := true, laidKinds := [.data, .pinned], laidTests := true, laidLooks := .later }
def XcharGarbageCardSaid : Prop := Claim7.holds Tryd.pinned (.plain (OpenSpec.ofChange xcharGarbageSpec)) xcharGarbageCard

/-- THE TIED CARD OF 'bobbinlaw6.XcharBack'. -/
def xcharBackCard : Claim7 := { stood := { row := xcharBackRow, standIns := [], harness := (true, "c193caafdef9a53de27530e1f9036f864ccaf4afd65327239d5f2593d17bb9d3"), looks := false }, kinds := [], alts := [], laidByText := true, laidKinds := [.data, .pinned], laidTests := true, laidLooks := .later }
def XcharBackCardSaid : Prop := Claim7.holds Tryd.pinned (.plain (OpenSpec.ofChange xcharBackSpec)) xcharBackCard

/-- THE SECOND FORM's CARD OF 'bobbinlaw6.XcharDecodes'. -/
def xcharDecodesUptoCard : Claim7 := { stood := { row := xcharDecodesUptoRow, standIns := [], harness := (true, "c193caafdef9a53de27530e1f9036f864ccaf4afd65327239d5f2593d17bb9d3"), looks := false }, kinds := [], alts := [], laidByText := true, laidKinds := [.data, .pinned], laidTests := true, laidLooks := .later }
def XcharDecodesUptoCardSaid : Prop := Claim7.holds Tryd.pinned (.plain (OpenSpec.upto xcharDecodesSpec)) xcharDecodesUptoCard

/-- THE SECOND FORM's CARD OF 'bobbinlaw6.XcharEnds'. -/
def xcharEndsUptoCard : Claim7 := { stood := { row := xcharEndsUptoRow, standIns := [], harness := (true, "c193caafdef9a53de27530e1f9036f864ccaf4afd65327239d5f2593d17bb9d3"), looks := false }, kinds := [], alts := [], laidByText := true, laidKinds := [.data, .pinned], laidTests := true, laidLooks := .later }
def XcharEndsUptoCardSaid : Prop := Claim7.holds Tryd.pinned (.plain (OpenSpec.upto xcharEndsSpec)) xcharEndsUptoCard

/-- THE SECOND FORM's CARD OF 'bobbinlaw6.XcharGarbage'. -/
def xcharGarbageUptoCard : Claim7 := { stood := { row := xcharGarbageUptoRow, standIns := [], harness := (true, "c193caafdef9a53de27530e1f9036f864ccaf4afd65327239d5f2593d17bb9d3"), looks := false }, kinds := [], alts := [], laidByText := true, laidKinds := [.data, .pinned], laidTests := true, laidLooks := .later }
def XcharGarbageUptoCardSaid : Prop := Claim7.holds Tryd.pinned (.plain (OpenSpec.upto xcharGarbageSpec)) xcharGarbageUptoCard

/-- THE SECOND FORM's CARD OF 'bobbinlaw6.XcharBack'. -/
def xcharBackUptoCard : Claim7 := { stood := { row := xcharBackUptoRow, standIns := [], harness := (true, "c193caafdef9a53de27530e1f9036f864ccaf4afd65327239d5f2593d17bb9d3"), looks := false }, kinds := [], alts := [], laidByText := true, laidKinds := [.data, .pinned], laidTests := true, laidLooks := .later }
def XcharBackUptoCardSaid : Prop := Claim7.holds Tryd.pinned (.plain (OpenSpec.upto xcharBackSpec)) xcharBackUptoCard
end Rows
end Go.Proofs.YtpkfkipnagajkaaDoor
