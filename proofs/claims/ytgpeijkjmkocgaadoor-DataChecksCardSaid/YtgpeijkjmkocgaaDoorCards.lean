/-
  DERIVED. GIVEN WITH THE SEED: THE CARDS: each row of YtgpeijkjmkocgaaDoorRows.lean that lists a variable, with what it lists TIED to the program's text (the seventh form; the later family's looks); each row that meets fmt, with fmt's text TOLD by the authors' own Lean function (tested against real Go, not proved from fmt's source: count such statements apart). THE CARD IS WHAT COUNTS. Prove the row's statement (the work); the ties are given (YtgpeijkjmkocgaaDoorTie.lean); close each card by the builder's one call (the guide's Derived/Test/ToyasCard.lean, 'card_holds'). Laid BY PROGRAM, IN A SANDBOX (cutbox-door.mjs). By AI agents, Wed Nov 11 2026. No macro, syntax, notation, axiom, sorry.
-/
import Derived.Test.YtgpeijkjmkocgaaDoorRows
import GoSem.ClaimSeven
namespace Go.Proofs.YtgpeijkjmkocgaaDoor
namespace Rows

/-- THE TIED CARD OF 'usufructlaw13.DataKnown'. -/
def dataKnownCard : Claim7 := { stood := { row := dataKnownRow, standIns := [], harness := (true, "c5cf6bd511413352650bc9af480a1a43a0ca3fb84803318df905d7864ff59f66"), looks := false }, kinds := [], alts := [], laidByText := true, laidKinds := [.data, .data, .data], laidTests := true, laidLooks := .later }
def DataKnownCardSaid : Prop := Claim7.holds Tryd.pinned (.plain (OpenSpec.ofChange dataKnownSpec)) dataKnownCard

/-- THE TIED CARD OF 'usufructlaw13.DataChecks'. -/
def dataChecksCard : Claim7 := { stood := { row := dataChecksRow, standIns := [], harness := (true, "c5cf6bd511413352650bc9af480a1a43a0ca3fb84803318df905d7864ff59f66"), looks := false }, kinds := [], alts := [], laidByText := true, laidKinds := [.data, .data, .data], laidTests := true, laidLooks := .later }
def DataChecksCardSaid : Prop := Claim7.holds Tryd.pinned (.plain (OpenSpec.ofChange dataChecksSpec)) dataChecksCard

/-- THE TIED CARD OF 'usufructlaw13.DataWell'. -/
def dataWellCard : Claim7 := { stood := { row := dataWellRow, standIns := [], harness := (true, "c5cf6bd511413352650bc9af480a1a43a0ca3fb84803318df905d7864ff59f66"), looks := false }, kinds := [], alts := [], laidByText := true, laidKinds := [.data, .data, .data], laidTests := true, laidLooks := .later }
def DataWellCardSaid : Prop := Claim7.holds Tryd.pinned (.plain (OpenSpec.ofChange dataWellSpec)) dataWellCard

/-- THE TIED CARD OF 'usufructlaw13.DataTells'. -/
def dataTellsCard : Claim7 := { stood := { row := dataTellsRow, standIns := [], harness := (true, "c5cf6bd511413352650bc9af480a1a43a0ca3fb84803318df905d7864ff59f66"), looks := false }, kinds := [], alts := [], laidByText := true, laidKinds := [.data, .data, .data], laidTests := true, laidLooks := .later }
def DataTellsCardSaid : Prop := Claim7.holds Tryd.pinned (.plain (OpenSpec.ofChange dataTellsSpec)) dataTellsCard

/-- THE TIED CARD OF 'usufructlaw13.DataNames'. -/
def dataNamesCard : Claim7 := { stood := { row := dataNamesRow, standIns := [], harness := (true, "c5cf6bd511413352650bc9af480a1a43a0ca3fb84803318df905d7864ff59f66"), looks := false }, kinds := [], alts := [], laidByText := true, laidKinds := [.data, .data, .data], laidTests := true, laidLooks := .later }
def DataNamesCardSaid : Prop := Claim7.holds Tryd.pinned (.plain (OpenSpec.ofChange dataNamesSpec)) dataNamesCard

/-- THE SECOND FORM's CARD OF 'usufructlaw13.DataKnown'. -/
def dataKnownUptoCard : Claim7 := { stood := { row := dataKnownUptoRow, standIns := [], harness := (true, "c5cf6bd511413352650bc9af480a1a43a0ca3fb84803318df905d7864ff59f66"), looks := false }, kinds := [], alts := [], laidByText := true, laidKinds := [.data, .data, .data], laidTests := true, laidLooks := .later }
def DataKnownUptoCardSaid : Prop := Claim7.holds Tryd.pinned (.plain (OpenSpec.upto dataKnownSpec)) dataKnownUptoCard

/-- THE SECOND FORM's CARD OF 'usufructlaw13.DataChecks'. -/
def dataChecksUptoCard : Claim7 := { stood := { row := dataChecksUptoRow, standIns := [], harness := (true, "c5cf6bd511413352650bc9af480a1a43a0ca3fb84803318df905d7864ff59f66"), looks := false }, kinds := [], alts := [], laidByText := true, laidKinds := [.data, .data, .data], laidTests := true, laidLooks := .later }
def DataChecksUptoCardSaid : Prop := Claim7.holds Tryd.pinned (.plain (OpenSpec.upto dataChecksSpec)) dataChecksUptoCard

/-- THE SECOND FORM's CARD OF 'usufructlaw13.DataWell'. -/
def dataWellUptoCard : Claim7 := { stood := { row := dataWellUptoRow, standIns := [], harness := (true, "c5cf6bd511413352650bc9af480a1a43a0ca3fb84803318df905d7864ff59f66"), looks := false }, kinds := [], alts := [], laidByText := true, laidKinds := [.data, .data, .data], laidTests := true, laidLooks := .later }
def DataWellUptoCardSaid : Prop := Claim7.holds Tryd.pinned (.plain (OpenSpec.upto dataWellSpec)) dataWellUptoCard

/-- THE SECOND FORM's CARD OF 'usufructlaw13.DataTells'. -/
def dataTellsUptoCard : Claim7 := { stood := { row := dataTellsUptoRow, standIns := [], harness := (true, "c5cf6bd511413352650bc9af480a1a43a0ca3fb84803318df905d7864ff59f66"), looks := false }, kinds := [], alts := [], laidByText := true, laidKinds := [.data, .data, .data], laidTests := true, laidLooks := .later }
def DataTellsUptoCardSaid : Prop := Claim7.holds Tryd.pinned (.plain (OpenSpec.upto dataTellsSpec)) dataTellsUptoCard

/-- THE SECOND FORM's CARD OF 'usufructlaw13.DataNames'. -/
def dataNamesUptoCard : Claim7 := { stood := { row := dataNamesUptoRow, standIns := [], harness := (true, "c5cf6bd511413352650bc9af480a1a43a0ca3fb84803318df905d7864ff59f66"), looks := false }, kinds := [], alts := [], laidByText := true, laidKinds := [.data, .data, .data], laidTests := true, laidLooks := .later }
def DataNamesUptoCardSaid : Prop := Claim7.holds Tryd.pinned (.plain (OpenSpec.upto dataNamesSpec)) dataNamesUptoCard
end Rows
end Go.Proofs.YtgpeijkjmkocgaaDoor
