/-
  DERIVED. GIVEN WITH THE SEED: THE CARDS: each row of YtbccnfgceabopaaDoorRows.lean that lists a variable, with what it lists TIED to the program's text (the seventh form; the later family's looks); each row that meets fmt, with fmt's text TOLD by the authors' own Lean function (tested against real Go, not proved from fmt's source: count such statements apart). THE CARD IS WHAT COUNTS. Prove the row's statement (the work); the ties are given (YtbccnfgceabopaaDoorTie.lean); close each card by the builder's one call (the guide's Derived/Test/ToyasCard.lean, 'card_holds'). Laid BY PROGRAM, IN A SANDBOX (cutbox-door.mjs). By AI agents, Wed Nov 11 2026. No macro, syntax, notation, axiom, sorry.
-/
import Derived.Test.YtbccnfgceabopaaDoorRows
import GoSem.ClaimSeven
namespace Go.Proofs.YtbccnfgceabopaaDoor
namespace Rows

/-- THE TIED CARD OF 'usufructlaw03.IneqKnown'. -/
def ineqKnownCard : Claim7 := { stood := { row := ineqKnownRow, standIns := [], harness := (true, "4fddc8652a2a3cc7bcdaf7af2ea2145400e9648f5e7066f226067500c1110a45"), looks := false }, kinds := [], alts := [], laidByText := true, laidKinds := [.data, .data, .data], laidTests := true, laidLooks := .later }
def IneqKnownCardSaid : Prop := Claim7.holds Tryd.pinned (.plain (OpenSpec.ofChange ineqKnownSpec)) ineqKnownCard

/-- THE TIED CARD OF 'usufructlaw03.IneqHolds'. -/
def ineqHoldsCard : Claim7 := { stood := { row := ineqHoldsRow, standIns := [], harness := (true, "4fddc8652a2a3cc7bcdaf7af2ea2145400e9648f5e7066f226067500c1110a45"), looks := false }, kinds := [], alts := [], laidByText := true, laidKinds := [.data, .data, .data], laidTests := true, laidLooks := .later }
def IneqHoldsCardSaid : Prop := Claim7.holds Tryd.pinned (.plain (OpenSpec.ofChange ineqHoldsSpec)) ineqHoldsCard

/-- THE TIED CARD OF 'usufructlaw03.IneqFits'. -/
def ineqFitsCard : Claim7 := { stood := { row := ineqFitsRow, standIns := [], harness := (true, "4fddc8652a2a3cc7bcdaf7af2ea2145400e9648f5e7066f226067500c1110a45"), looks := false }, kinds := [], alts := [], laidByText := true, laidKinds := [.data, .data, .data], laidTests := true, laidLooks := .later }
def IneqFitsCardSaid : Prop := Claim7.holds Tryd.pinned (.plain (OpenSpec.ofChange ineqFitsSpec)) ineqFitsCard

/-- THE TIED CARD OF 'usufructlaw03.IneqOrder'. -/
def ineqOrderCard : Claim7 := { stood := { row := ineqOrderRow, standIns := [], harness := (true, "4fddc8652a2a3cc7bcdaf7af2ea2145400e9648f5e7066f226067500c1110a45"), looks := false }, kinds := [], alts := [], laidByText := true, laidKinds := [.data, .data, .data], laidTests := true, laidLooks := .later }
def IneqOrderCardSaid : Prop := Claim7.holds Tryd.pinned (.plain (OpenSpec.ofChange ineqOrderSpec)) ineqOrderCard

/-- THE TIED CARD OF 'usufructlaw03.IneqTexts'. -/
def ineqTextsCard : Claim7 := { stood := { row := ineqTextsRow, standIns := [], harness := (true, "4fddc8652a2a3cc7bcdaf7af2ea2145400e9648f5e7066f226067500c1110a45"), looks := false }, kinds := [], alts := [], laidByText := true, laidKinds := [.data, .data, .data], laidTests := true, laidLooks := .later }
def IneqTextsCardSaid : Prop := Claim7.holds Tryd.pinned (.plain (OpenSpec.ofChange ineqTextsSpec)) ineqTextsCard

/-- THE TIED CARD OF 'usufructlaw03.IneqMeans'. -/
def ineqMeansCard : Claim7 := { stood := { row := ineqMeansRow, standIns := [], harness := (true, "4fddc8652a2a3cc7bcdaf7af2ea2145400e9648f5e7066f226067500c1110a45"), looks := false }, kinds := [], alts := [], laidByText := true, laidKinds := [.data, .data, .data], laidTests := true, laidLooks := .later }
def IneqMeansCardSaid : Prop := Claim7.holds Tryd.pinned (.plain (OpenSpec.ofChange ineqMeansSpec)) ineqMeansCard

/-- THE TIED CARD OF 'usufructlaw02.TermKnown'. -/
def termKnownCard : Claim7 := { stood := { row := termKnownRow, standIns := [], harness := (true, "4fddc8652a2a3cc7bcdaf7af2ea2145400e9648f5e7066f226067500c1110a45"), looks := false }, kinds := [], alts := [], laidByText := true, laidKinds := [.data, .data, .data], laidTests := true, laidLooks := .later }
def TermKnownCardSaid : Prop := Claim7.holds Tryd.pinned (.plain (OpenSpec.ofChange termKnownSpec)) termKnownCard

/-- THE TIED CARD OF 'usufructlaw02.TermOps'. -/
def termOpsCard : Claim7 := { stood := { row := termOpsRow, standIns := [], harness := (true, "4fddc8652a2a3cc7bcdaf7af2ea2145400e9648f5e7066f226067500c1110a45"), looks := false }, kinds := [], alts := [], laidByText := true, laidKinds := [.data, .data, .data], laidTests := true, laidLooks := .later }
def TermOpsCardSaid : Prop := Claim7.holds Tryd.pinned (.plain (OpenSpec.ofChange termOpsSpec)) termOpsCard

/-- THE TIED CARD OF 'usufructlaw02.TermCloses'. -/
def termClosesCard : Claim7 := { stood := { row := termClosesRow, standIns := [], harness := (true, "4fddc8652a2a3cc7bcdaf7af2ea2145400e9648f5e7066f226067500c1110a45"), looks := false }, kinds := [], alts := [], laidByText := true, laidKinds := [.data, .data, .data], laidTests := true, laidLooks := .later }
def TermClosesCardSaid : Prop := Claim7.holds Tryd.pinned (.plain (OpenSpec.ofChange termClosesSpec)) termClosesCard

/-- THE SECOND FORM's CARD OF 'usufructlaw03.IneqKnown'. -/
def ineqKnownUptoCard : Claim7 := { stood := { row := ineqKnownUptoRow, standIns := [], harness := (true, "4fddc8652a2a3cc7bcdaf7af2ea2145400e9648f5e7066f226067500c1110a45"), looks := false }, kinds := [], alts := [], laidByText := true, laidKinds := [.data, .data, .data], laidTests := true, laidLooks := .later }
def IneqKnownUptoCardSaid : Prop := Claim7.holds Tryd.pinned (.plain (OpenSpec.upto ineqKnownSpec)) ineqKnownUptoCard

/-- THE SECOND FORM's CARD OF 'usufructlaw03.IneqHolds'. -/
def ineqHoldsUptoCard : Claim7 := { stood := { row := ineqHoldsUptoRow, standIns := [], harness := (true, "4fddc8652a2a3cc7bcdaf7af2ea2145400e9648f5e7066f226067500c1110a45"), looks := false }, kinds := [], alts := [], laidByText := true, laidKinds := [.data, .data, .data], laidTests := true, laidLooks := .later }
def IneqHoldsUptoCardSaid : Prop := Claim7.holds Tryd.pinned (.plain (OpenSpec.upto ineqHoldsSpec)) ineqHoldsUptoCard

/-- THE SECOND FORM's CARD OF 'usufructlaw03.IneqFits'. -/
def ineqFitsUptoCard : Claim7 := { stood := { row := ineqFitsUptoRow, standIns := [], harness := (true, "4fddc8652a2a3cc7bcdaf7af2ea2145400e9648f5e7066f226067500c1110a45"), looks := false }, kinds := [], alts := [], laidByText := true, laidKinds := [.data, .data, .data], laidTests := true, laidLooks := .later }
def IneqFitsUptoCardSaid : Prop := Claim7.holds Tryd.pinned (.plain (OpenSpec.upto ineqFitsSpec)) ineqFitsUptoCard

/-- THE SECOND FORM's CARD OF 'usufructlaw03.IneqOrder'. -/
def ineqOrderUptoCard : Claim7 := { stood := { row := ineqOrderUptoRow, standIns := [], harness := (true, "4fddc8652a2a3cc7bcdaf7af2ea2145400e9648f5e7066f226067500c1110a45"), looks := false }, kinds := [], alts := [], laidByText := true, laidKinds := [.data, .data, .data], laidTests := true, laidLooks := .later }
def IneqOrderUptoCardSaid : Prop := Claim7.holds Tryd.pinned (.plain (OpenSpec.upto ineqOrderSpec)) ineqOrderUptoCard

/-- THE SECOND FORM's CARD OF 'usufructlaw03.IneqTexts'. -/
def ineqTextsUptoCard : Claim7 := { stood := { row := ineqTextsUptoRow, standIns := [], harness := (true, "4fddc8652a2a3cc7bcdaf7af2ea2145400e9648f5e7066f226067500c1110a45"), looks := false }, kinds := [], alts := [], laidByText := true, laidKinds := [.data, .data, .data], laidTests := true, laidLooks := .later }
def IneqTextsUptoCardSaid : Prop := Claim7.holds Tryd.pinned (.plain (OpenSpec.upto ineqTextsSpec)) ineqTextsUptoCard

/-- THE SECOND FORM's CARD OF 'usufructlaw03.IneqMeans'. -/
def ineqMeansUptoCard : Claim7 := { stood := { row := ineqMeansUptoRow, standIns := [], harness := (true, "4fddc8652a2a3cc7bcdaf7af2ea2145400e9648f5e7066f226067500c1110a45"), looks := false }, kinds := [], alts := [], laidByText := true, laidKinds := [.data, .data, .data], laidTests := true, laidLooks := .later }
def IneqMeansUptoCardSaid : Prop := Claim7.holds Tryd.pinned (.plain (OpenSpec.upto ineqMeansSpec)) ineqMeansUptoCard

/-- THE SECOND FORM's CARD OF 'usufructlaw02.TermKnown'. -/
def termKnownUptoCard : Claim7 := { stood := { row := termKnownUptoRow, standIns := [], harness := (true, "4fddc8652a2a3cc7bcdaf7af2ea2145400e9648f5e7066f226067500c1110a45"), looks := false }, kinds := [], alts := [], laidByText := true, laidKinds := [.data, .data, .data], laidTests := true, laidLooks := .later }
def TermKnownUptoCardSaid : Prop := Claim7.holds Tryd.pinned (.plain (OpenSpec.upto termKnownSpec)) termKnownUptoCard

/-- THE SECOND FORM's CARD OF 'usufructlaw02.TermOps'. -/
def termOpsUptoCard : Claim7 := { stood := { row := termOpsUptoRow, standIns := [], harness := (true, "4fddc8652a2a3cc7bcdaf7af2ea2145400e9648f5e7066f226067500c1110a45"), looks := false }, kinds := [], alts := [], laidByText := true, laidKinds := [.data, .data, .data], laidTests := true, laidLooks := .later }
def TermOpsUptoCardSaid : Prop := Claim7.holds Tryd.pinned (.plain (OpenSpec.upto termOpsSpec)) termOpsUptoCard

/-- THE SECOND FORM's CARD OF 'usufructlaw02.TermCloses'. -/
def termClosesUptoCard : Claim7 := { stood := { row := termClosesUptoRow, standIns := [], harness := (true, "4fddc8652a2a3cc7bcdaf7af2ea2145400e9648f5e7066f226067500c1110a45"), looks := false }, kinds := [], alts := [], laidByText := true, laidKinds := [.data, .data, .data], laidTests := true, laidLooks := .later }
def TermClosesUptoCardSaid : Prop := Claim7.holds Tryd.pinned (.plain (OpenSpec.upto termClosesSpec)) termClosesUptoCard
end Rows
end Go.Proofs.YtbccnfgceabopaaDoor
