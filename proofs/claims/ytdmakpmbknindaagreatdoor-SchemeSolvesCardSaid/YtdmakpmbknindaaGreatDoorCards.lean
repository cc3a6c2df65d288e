/-
  DERIVED. GIVEN WITH THE SEED: THE CARDS: each row of YtdmakpmbknindaaGreatDoorRows.lean that lists a variable, with what it lists TIED to the program's text (the seventh form; the later family's looks); each row that meets fmt, with fmt's text TOLD by the authors' own Lean function (tested against real Go, not proved from fmt's source: count such statements apart). THE CARD IS WHAT COUNTS. Prove the row's statement (the work); the ties are given (YtdmakpmbknindaaGreatDoorTie.lean); close each card by the builder's one call (the guide's Derived/Test/ToyasCard.lean, 'card_holds'). Laid BY PROGRAM, IN A SANDBOX (cutbox-door.mjs). By AI agents, Wed Nov 11 2026. No macro, syntax, notation, axiom, sorry.
-/
import Derived.Test.YtdmakpmbknindaaGreatDoorRows
import GoSem.ClaimSeven
namespace Go.Proofs.YtdmakpmbknindaaGreatDoor
namespace Rows

/-- THE TIED CARD OF 'usufructlaw08.SchemeCloses'. -/
def schemeClosesCard : Claim7 := { stood := { row := schemeClosesRow, standIns := [], harness := (true, "0e7717f7543a9067b73fc061b95eb6cdf2a0b4da349bd560872f7acc9c4b74eb"), looks := false }, kinds := [], alts := [], laidByText := true, laidKinds := [.data, .data, .data], laidTests := true, laidLooks := .later }
def SchemeClosesCardSaid : Prop := Claim7.holds Tryz.pinned (.plain (OpenSpec.ofChange schemeClosesSpec)) schemeClosesCard

/-- THE TIED CARD OF 'usufructlaw08.SchemePuts'. -/
def schemePutsCard : Claim7 := { stood := { row := schemePutsRow, standIns := [], harness := (true, "0e7717f7543a9067b73fc061b95eb6cdf2a0b4da349bd560872f7acc9c4b74eb"), looks := false }, kinds := [], alts := [], laidByText := true, laidKinds := [.data, .data, .data], laidTests := true, laidLooks := .later }
def SchemePutsCardSaid : Prop := Claim7.holds Tryz.pinned (.plain (OpenSpec.ofChange schemePutsSpec)) schemePutsCard

/-- THE TIED CARD OF 'usufructlaw08.SchemeSolves'. -/
def schemeSolvesCard : Claim7 := { stood := { row := schemeSolvesRow, standIns := [], harness := (true, "0e7717f7543a9067b73fc061b95eb6cdf2a0b4da349bd560872f7acc9c4b74eb"), looks := false }, kinds := [], alts := [], laidByText := true, laidKinds := [.data, .data, .data], laidTests := true, laidLooks := .later }
def SchemeSolvesCardSaid : Prop := Claim7.holds Tryz.pinned (.plain (OpenSpec.ofChange schemeSolvesSpec)) schemeSolvesCard

/-- THE TIED CARD OF 'usufructlaw08.SchemeKnown'. -/
def schemeKnownCard : Claim7 := { stood := { row := schemeKnownRow, standIns := [], harness := (true, "0e7717f7543a9067b73fc061b95eb6cdf2a0b4da349bd560872f7acc9c4b74eb"), looks := false }, kinds := [], alts := [], laidByText := true, laidKinds := [.data, .data, .data], laidTests := true, laidLooks := .later }
def SchemeKnownCardSaid : Prop := Claim7.holds Tryz.pinned (.plain (OpenSpec.ofChange schemeKnownSpec)) schemeKnownCard

/-- THE TIED CARD OF 'usufructlaw08.SchemeMores'. -/
def schemeMoresCard : Claim7 := { stood := { row := schemeMoresRow, standIns := [], harness := (true, "0e7717f7543a9067b73fc061b95eb6cdf2a0b4da349bd560872f7acc9c4b74eb"), looks := false }, kinds := [], alts := [], laidByText := true, laidKinds := [.data, .data, .data], laidTests := true, laidLooks := .later }
def SchemeMoresCardSaid : Prop := Claim7.holds Tryz.pinned (.plain (OpenSpec.ofChange schemeMoresSpec)) schemeMoresCard

/-- THE TIED CARD OF 'usufructlaw08.SchemeOrder'. -/
def schemeOrderCard : Claim7 := { stood := { row := schemeOrderRow, standIns := [], harness := (true, "0e7717f7543a9067b73fc061b95eb6cdf2a0b4da349bd560872f7acc9c4b74eb"), looks := false }, kinds := [], alts := [], laidByText := true, laidKinds := [.data, .data, .data], laidTests := true, laidLooks := .later }
def SchemeOrderCardSaid : Prop := Claim7.holds Tryz.pinned (.plain (OpenSpec.ofChange schemeOrderSpec)) schemeOrderCard

/-- THE SECOND FORM's CARD OF 'usufructlaw08.SchemeCloses'. -/
def schemeClosesUptoCard : Claim7 := { stood := { row := schemeClosesUptoRow, standIns := [], harness := (true, "0e7717f7543a9067b73fc061b95eb6cdf2a0b4da349bd560872f7acc9c4b74eb"), looks := false }, kinds := [], alts := [], laidByText := true, laidKinds := [.data, .data, .data], laidTests := true, laidLooks := .later }
def SchemeClosesUptoCardSaid : Prop := Claim7.holds Tryz.pinned (.plain (OpenSpec.upto schemeClosesSpec)) schemeClosesUptoCard

/-- THE SECOND FORM's CARD OF 'usufructlaw08.SchemePuts'. -/
def schemePutsUptoCard : Claim7 := { stood := { row := schemePutsUptoRow, standIns := [], harness := (true, "0e7717f7543a9067b73fc061b95eb6cdf2a0b4da349bd560872f7acc9c4b74eb"), looks := false }, kinds := [], alts := [], laidByText := true, laidKinds := [.data, .data, .data], laidTests := true, laidLooks := .later }
def SchemePutsUptoCardSaid : Prop := Claim7.holds Tryz.pinned (.plain (OpenSpec.upto schemePutsSpec)) schemePutsUptoCard

/-- THE SECOND FORM's CARD OF 'usufructlaw08.SchemeSolves'. -/
def schemeSolvesUptoCard : Claim7 := { stood := { row := schemeSolvesUptoRow, standIns := [], harness := (true, "0e7717f7543a9067b73fc061b95eb6cdf2a0b4da349bd560872f7acc9c4b74eb"), looks := false }, kinds := [], alts := [], laidByText := true, laidKinds := [.data, .data, .data], laidTests := true, laidLooks := .later }
def SchemeSolvesUptoCardSaid : Prop := Claim7.holds Tryz.pinned (.plain (OpenSpec.upto schemeSolvesSpec)) schemeSolvesUptoCard

/-- THE SECOND FORM's CARD OF 'usufructlaw08.SchemeKnown'. -/
def schemeKnownUptoCard : Claim7 := { stood := { row := schemeKnownUptoRow, standIns := [], harness := (true, "0e7717f7543a9067b73fc061b95eb6cdf2a0b4da349bd560872f7acc9c4b74eb"), looks := false }, kinds := [], alts := [], laidByText := true, laidKinds := [.data, .data, .data], laidTests := true, laidLooks := .later }
def SchemeKnownUptoCardSaid : Prop := Claim7.holds Tryz.pinned (.plain (OpenSpec.upto schemeKnownSpec)) schemeKnownUptoCard

/-- THE SECOND FORM's CARD OF 'usufructlaw08.SchemeMores'. -/
def schemeMoresUptoCard : Claim7 := { stood := { row := schemeMoresUptoRow, standIns := [], harness := (true, "0e7717f7543a9067b73fc061b95eb6cdf2a0b4da349bd560872f7acc9c4b74eb"), looks := false }, kinds := [], alts := [], laidByText := true, laidKinds := [.data, .data, .data], laidTests := true, laidLooks := .later }
def SchemeMoresUptoCardSaid : Prop := Claim7.holds Tryz.pinned (.plain (OpenSpec.upto schemeMoresSpec)) schemeMoresUptoCard

/-- THE SECOND FORM's CARD OF 'usufructlaw08.SchemeOrder'. -/
def schemeOrderUptoCard : Claim7 := { stood := { row := schemeOrderUptoRow, standIns := [], harness := (true, "0e7717f7543a9067b73fc061b95eb6cdf2a0b4da349bd560872f7acc9c4b74eb"), looks := false }, kinds := [], alts := [], laidByText := true, laidKinds := [.data, .data, .data], laidTests := true, laidLooks := .later }
def SchemeOrderUptoCardSaid : Prop := Claim7.holds Tryz.pinned (.plain (OpenSpec.upto schemeOrderSpec)) schemeOrderUptoCard
end Rows
end Go.Proofs.YtdmakpmbknindaaGreatDoor
