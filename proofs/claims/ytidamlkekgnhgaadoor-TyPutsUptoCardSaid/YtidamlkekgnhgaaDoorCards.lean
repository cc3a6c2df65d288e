/-
  DERIVED. GIVEN WITH THE SEED: THE CARDS: each row of YtidamlkekgnhgaaDoorRows.lean that lists a variable, with what it lists TIED to the program's text (the seventh form; the later family's looks); each row that meets fmt, with fmt's text TOLD by the authors' own Lean function (tested against real Go, not proved from fmt's source: count such statements apart). THE CARD IS WHAT COUNTS. Prove the row's statement (the work); the ties are given (YtidamlkekgnhgaaDoorTie.lean); close each card by the builder's one call (the guide's Derived/Test/ToyasCard.lean, 'card_holds'). Laid BY PROGRAM, IN A SANDBOX (cutbox-door.mjs). By AI agents, Wed Nov 11 2026. No macro, syntax, notation, axiom, sorry.
-/
import Derived.Test.YtidamlkekgnhgaaDoorRows
import GoSem.ClaimSeven
namespace Go.Proofs.YtidamlkekgnhgaaDoor
namespace Rows

/-- THE TIED CARD OF 'usufructlaw06.TyKnown'. -/
def tyKnownCard : Claim7 := { stood := { row := tyKnownRow, standIns := [], harness := (true, "1c9971ca5af14251e022dbe19dcd271fd085f15149de6974654937efeb0f84dc"), looks := false }, kinds := [], alts := [], laidByText := true, laidKinds := [.data, .data, .data], laidTests := true, laidLooks := .later }
def TyKnownCardSaid : Prop := Claim7.holds Tryd.pinned (.plain (OpenSpec.ofChange tyKnownSpec)) tyKnownCard

/-- THE TIED CARD OF 'usufructlaw06.TyMay'. -/
def tyMayCard : Claim7 := { stood := { row := tyMayRow, standIns := [], harness := (true, "1c9971ca5af14251e022dbe19dcd271fd085f15149de6974654937efeb0f84dc"), looks := false }, kinds := [], alts := [], laidByText := true, laidKinds := [.data, .data, .data], laidTests := true, laidLooks := .later }
def TyMayCardSaid : Prop := Claim7.holds Tryd.pinned (.plain (OpenSpec.ofChange tyMaySpec)) tyMayCard

/-- THE TIED CARD OF 'usufructlaw06.TyTexts'. -/
def tyTextsCard : Claim7 := { stood := { row := tyTextsRow, standIns := [], harness := (true, "1c9971ca5af14251e022dbe19dcd271fd085f15149de6974654937efeb0f84dc"), looks := false }, kinds := [], alts := [], laidByText := true, laidKinds := [.data, .data, .data], laidTests := true, laidLooks := .later }
def TyTextsCardSaid : Prop := Claim7.holds Tryd.pinned (.plain (OpenSpec.ofChange tyTextsSpec)) tyTextsCard

/-- THE TIED CARD OF 'usufructlaw06.TyPutPut'. -/
def tyPutPutCard : Claim7 := { stood := { row := tyPutPutRow, standIns := [], harness := (true, "1c9971ca5af14251e022dbe19dcd271fd085f15149de6974654937efeb0f84dc"), looks := false }, kinds := [], alts := [], laidByText := true, laidKinds := [.data, .data, .data], laidTests := true, laidLooks := .later }
def TyPutPutCardSaid : Prop := Claim7.holds Tryd.pinned (.plain (OpenSpec.ofChange tyPutPutSpec)) tyPutPutCard

/-- THE TIED CARD OF 'usufructlaw06.TyCanons'. -/
def tyCanonsCard : Claim7 := { stood := { row := tyCanonsRow, standIns := [], harness := (true, "1c9971ca5af14251e022dbe19dcd271fd085f15149de6974654937efeb0f84dc"), looks := false }, kinds := [], alts := [], laidByText := true, laidKinds := [.data, .data, .data], laidTests := true, laidLooks := .later }
def TyCanonsCardSaid : Prop := Claim7.holds Tryd.pinned (.plain (OpenSpec.ofChange tyCanonsSpec)) tyCanonsCard

/-- THE TIED CARD OF 'usufructlaw06.TyPuts'. -/
def tyPutsCard : Claim7 := { stood := { row := tyPutsRow, standIns := [], harness := (true, "1c9971ca5af14251e022dbe19dcd271fd085f15149de6974654937efeb0f84dc"), looks := false }, kinds := [], alts := [], laidByText := true, laidKinds := [.data, .data, .data], laidTests := true, laidLooks := .later }
def TyPutsCardSaid : Prop := Claim7.holds Tryd.pinned (.plain (OpenSpec.ofChange tyPutsSpec)) tyPutsCard

/-- THE SECOND FORM's CARD OF 'usufructlaw06.TyKnown'. -/
def tyKnownUptoCard : Claim7 := { stood := { row := tyKnownUptoRow, standIns := [], harness := (true, "1c9971ca5af14251e022dbe19dcd271fd085f15149de6974654937efeb0f84dc"), looks := false }, kinds := [], alts := [], laidByText := true, laidKinds := [.data, .data, .data], laidTests := true, laidLooks := .later }
def TyKnownUptoCardSaid : Prop := Claim7.holds Tryd.pinned (.plain (OpenSpec.upto tyKnownSpec)) tyKnownUptoCard

/-- THE SECOND FORM's CARD OF 'usufructlaw06.TyMay'. -/
def tyMayUptoCard : Claim7 := { stood := { row := tyMayUptoRow, standIns := [], harness := (true, "1c9971ca5af14251e022dbe19dcd271fd085f15149de6974654937efeb0f84dc"), looks := false }, kinds := [], alts := [], laidByText := true, laidKinds := [.data, .data, .data], laidTests := true, laidLooks := .later }
def TyMayUptoCardSaid : Prop := Claim7.holds Tryd.pinned (.plain (OpenSpec.upto tyMaySpec)) tyMayUptoCard

/-- THE SECOND FORM's CARD OF 'usufructlaw06.TyTexts'. -/
def tyTextsUptoCard : Claim7 := { stood := { row := tyTextsUptoRow, standIns := [], harness := (true, "1c9971ca5af14251e022dbe19dcd271fd085f15149de6974654937efeb0f84dc"), looks := false }, kinds := [], alts := [], laidByText := true, laidKinds := [.data, .data, .data], laidTests := true, laidLooks := .later }
def TyTextsUptoCardSaid : Prop := Claim7.holds Tryd.pinned (.plain (OpenSpec.upto tyTextsSpec)) tyTextsUptoCard

/-- THE SECOND FORM's CARD OF 'usufructlaw06.TyPutPut'. -/
def tyPutPutUptoCard : Claim7 := { stood := { row := tyPutPutUptoRow, standIns := [], harness := (true, "1c9971ca5af14251e022dbe19dcd271fd085f15149de6974654937efeb0f84dc"), looks := false }, kinds := [], alts := [], laidByText := true, laidKinds := [.data, .data, .data], laidTests := true, laidLooks := .later }
def TyPutPutUptoCardSaid : Prop := Claim7.holds Tryd.pinned (.plain (OpenSpec.upto tyPutPutSpec)) tyPutPutUptoCard

/-- THE SECOND FORM's CARD OF 'usufructlaw06.TyCanons'. -/
def tyCanonsUptoCard : Claim7 := { stood := { row := tyCanonsUptoRow, standIns := [], harness := (true, "1c9971ca5af14251e022dbe19dcd271fd085f15149de6974654937efeb0f84dc"), looks := false }, kinds := [], alts := [], laidByText := true, laidKinds := [.data, .data, .data], laidTests := true, laidLooks := .later }
def TyCanonsUptoCardSaid : Prop := Claim7.holds Tryd.pinned (.plain (OpenSpec.upto tyCanonsSpec)) tyCanonsUptoCard

/-- THE SECOND FORM's CARD OF 'usufructlaw06.TyPuts'. -/
def tyPutsUptoCard : Claim7 := { stood := { row := tyPutsUptoRow, standIns := [], harness := (true, "1c9971ca5af14251e022dbe19dcd271fd085f15149de6974654937efeb0f84dc"), looks := false }, kinds := [], alts := [], laidByText := true, laidKinds := [.data, .data, .data], laidTests := true, laidLooks := .later }
def TyPutsUptoCardSaid : Prop := Claim7.holds Tryd.pinned (.plain (OpenSpec.upto tyPutsSpec)) tyPutsUptoCard
end Rows
end Go.Proofs.YtidamlkekgnhgaaDoor
