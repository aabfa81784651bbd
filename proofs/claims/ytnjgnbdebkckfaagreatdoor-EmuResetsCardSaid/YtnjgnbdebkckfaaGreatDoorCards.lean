/-
  DERIVED. GIVEN WITH THE SEED: THE CARDS: each row of YtnjgnbdebkckfaaGreatDoorRows.lean that lists a variable, with what it lists TIED to the program's text (the seventh form; the later family's looks); each row that meets fmt, with fmt's text TOLD by the authors' own Lean function (tested against real Go, not proved from fmt's source: count such statements apart). THE CARD IS WHAT COUNTS. Prove the row's statement (the work); the ties are given (YtnjgnbdebkckfaaGreatDoorTie.lean); close each card by the builder's one call (the guide's Derived/Test/ToyasCard.lean, 'card_holds'). Laid BY PROGRAM, IN A SANDBOX (cutbox-door.mjs). By AI agents, Wed Nov 11 2026. No macro, syntax, notation, axiom, sorry.
-/
import Derived.Test.YtnjgnbdebkckfaaGreatDoorRows
import GoSem.ClaimSeven
namespace Go.Proofs.YtnjgnbdebkckfaaGreatDoor
namespace Rows

/-- THE TIED CARD OF 'pontoonlaw17.EmuPrints'. -/
def emuPrintsCard : Claim7 := { stood := { row := emuPrintsRow, standIns := [], harness := (true, "47d13521e9e02976b42a309ff4313999d530c10f421f9f89dac10be15f7e8d66"), looks := false }, kinds := [], alts := [], laidByText := true, laidKinds := [.data, .data, .data], laidTests := true, laidLooks := .later }
def EmuPrintsCardSaid : Prop := Claim7.holds Tryz.pinned (.plain (OpenSpec.ofChange emuPrintsSpec)) emuPrintsCard

/-- THE TIED CARD OF 'pontoonlaw17.EmuLines'. -/
def emuLinesCard : Claim7 := { stood := { row := emuLinesRow, standIns := [], harness := (true, "47d13521e9e02976b42a309ff4313999d530c10f421f9f89dac10be15f7e8d66"), looks := false }, kinds := [], alts := [], laidByText := true, laidKinds := [.data, .data, .data], laidTests := true, laidLooks := .later }
def EmuLinesCardSaid : Prop := Claim7.holds Tryz.pinned (.plain (OpenSpec.ofChange emuLinesSpec)) emuLinesCard

/-- THE TIED CARD OF 'pontoonlaw17.EmuSets'. -/
def emuSetsCard : Claim7 := { stood := { row := emuSetsRow, standIns := [], harness := (true, "47d13521e9e02976b42a309ff4313999d530c10f421f9f89dac10be15f7e8d66"), looks := false }, kinds := [], alts := [], laidByText := true, laidKinds := [.data, .data, .data], laidTests := true, laidLooks := .later }
def EmuSetsCardSaid : Prop := Claim7.holds Tryz.pinned (.plain (OpenSpec.ofChange emuSetsSpec)) emuSetsCard

/-- THE TIED CARD OF 'pontoonlaw17.EmuRegions'. -/
def emuRegionsCard : Claim7 := { stood := { row := emuRegionsRow, standIns := [], harness := (true, "47d13521e9e02976b42a309ff4313999d530c10f421f9f89dac10be15f7e8d66"), looks := false }, kinds := [], alts := [], laidByText := true, laidKinds := [.data, .data, .data], laidTests := true, laidLooks := .later }
def EmuRegionsCardSaid : Prop := Claim7.holds Tryz.pinned (.plain (OpenSpec.ofChange emuRegionsSpec)) emuRegionsCard

/-- THE TIED CARD OF 'pontoonlaw17.EmuCuts'. -/
def emuCutsCard : Claim7 := { stood := { row := emuCutsRow, standIns := [], harness := (true, "47d13521e9e02976b42a309ff4313999d530c10f421f9f89dac10be15f7e8d66"), looks := false }, kinds := [], alts := [], laidByText := true, laidKinds := [.data, .data, .data], laidTests := true, laidLooks := .later }
def EmuCutsCardSaid : Prop := Claim7.holds Tryz.pinned (.plain (OpenSpec.ofChange emuCutsSpec)) emuCutsCard

/-- THE TIED CARD OF 'pontoonlaw17.EmuReports'. -/
def emuReportsCard : Claim7 := { stood := { row := emuReportsRow, standIns := [], harness := (true, "47d13521e9e02976b42a309ff4313999d530c10f421f9f89dac10be15f7e8d66"), looks := false }, kinds := [], alts := [], laidByText := true, laidKinds := [.data, .data, .data], laidTests := true, laidLooks := .later }
def EmuReportsCardSaid : Prop := Claim7.holds Tryz.pinned (.plain (OpenSpec.ofChange emuReportsSpec)) emuReportsCard

/-- THE TIED CARD OF 'pontoonlaw17.EmuErases'. -/
def emuErasesCard : Claim7 := { stood := { row := emuErasesRow, standIns := [], harness := (true, "47d13521e9e02976b42a309ff4313999d530c10f421f9f89dac10be15f7e8d66"), looks := false }, kinds := [], alts := [], laidByText := true, laidKinds := [.data, .data, .data], laidTests := true, laidLooks := .later }
def EmuErasesCardSaid : Prop := Claim7.holds Tryz.pinned (.plain (OpenSpec.ofChange emuErasesSpec)) emuErasesCard

/-- THE TIED CARD OF 'pontoonlaw17.EmuChars'. -/
def emuCharsCard : Claim7 := { stood := { row := emuCharsRow, standIns := [], harness := (true, "47d13521e9e02976b42a309ff4313999d530c10f421f9f89dac10be15f7e8d66"), looks := false }, kinds := [], alts := [], laidByText := true, laidKinds := [.data, .data, .data], laidTests := true, laidLooks := .later }
def EmuCharsCardSaid : Prop := Claim7.holds Tryz.pinned (.plain (OpenSpec.ofChange emuCharsSpec)) emuCharsCard

/-- THE TIED CARD OF 'pontoonlaw17.EmuTabs'. -/
def emuTabsCard : Claim7 := { stood := { row := emuTabsRow, standIns := [], harness := (true, "47d13521e9e02976b42a309ff4313999d530c10f421f9f89dac10be15f7e8d66"), looks := false }, kinds := [], alts := [], laidByText := true, laidKinds := [.data, .data, .data], laidTests := true, laidLooks := .later }
def EmuTabsCardSaid : Prop := Claim7.holds Tryz.pinned (.plain (OpenSpec.ofChange emuTabsSpec)) emuTabsCard

/-- THE TIED CARD OF 'pontoonlaw17.EmuOrigins'. -/
def emuOriginsCard : Claim7 := { stood := { row := emuOriginsRow, standIns := [], harness := (true, "47d13521e9e02976b42a309ff4313999d530c10f421f9f89dac10be15f7e8d66"), looks := false }, kinds := [], alts := [], laidByText := true, laidKinds := [.data, .data, .data], laidTests := true, laidLooks := .later }
def EmuOriginsCardSaid : Prop := Claim7.holds Tryz.pinned (.plain (OpenSpec.ofChange emuOriginsSpec)) emuOriginsCard

/-- THE TIED CARD OF 'pontoonlaw17.EmuWraps'. -/
def emuWrapsCard : Claim7 := { stood := { row := emuWrapsRow, standIns := [], harness := (true, "47d13521e9e02976b42a309ff4313999d530c10f421f9f89dac10be15f7e8d66"), looks := false }, kinds := [], alts := [], laidByText := true, laidKinds := [.data, .data, .data], laidTests := true, laidLooks := .later }
def EmuWrapsCardSaid : Prop := Claim7.holds Tryz.pinned (.plain (OpenSpec.ofChange emuWrapsSpec)) emuWrapsCard

/-- THE TIED CARD OF 'pontoonlaw17.EmuPens'. -/
def emuPensCard : Claim7 := { stood := { row := emuPensRow, standIns := [], harness := (true, "47d13521e9e02976b42a309ff4313999d530c10f421f9f89dac10be15f7e8d66"), looks := false }, kinds := [], alts := [], laidByText := true, laidKinds := [.data, .data, .data], laidTests := true, laidLooks := .later }
def EmuPensCardSaid : Prop := Claim7.holds Tryz.pinned (.plain (OpenSpec.ofChange emuPensSpec)) emuPensCard

/-- THE TIED CARD OF 'pontoonlaw17.EmuMoves'. -/
def emuMovesCard : Claim7 := { stood := { row := emuMovesRow, standIns := [], harness := (true, "47d13521e9e02976b42a309ff4313999d530c10f421f9f89dac10be15f7e8d66"), looks := false }, kinds := [], alts := [], laidByText := true, laidKinds := [.data, .data, .data], laidTests := true, laidLooks := .later }
def EmuMovesCardSaid : Prop := Claim7.holds Tryz.pinned (.plain (OpenSpec.ofChange emuMovesSpec)) emuMovesCard

/-- THE TIED CARD OF 'pontoonlaw17.EmuAlts'. -/
def emuAltsCard : Claim7 := { stood := { row := emuAltsRow, standIns := [], harness := (true, "47d13521e9e02976b42a309ff4313999d530c10f421f9f89dac10be15f7e8d66"), looks := false }, kinds := [], alts := [], laidByText := true, laidKinds := [.data, .data, .data], laidTests := true, laidLooks := .later }
def EmuAltsCardSaid : Prop := Claim7.holds Tryz.pinned (.plain (OpenSpec.ofChange emuAltsSpec)) emuAltsCard

/-- THE TIED CARD OF 'pontoonlaw17.EmuResets'. -/
def emuResetsCard : Claim7 := { stood := { row := emuResetsRow, standIns := [], harness := (true, "47d13521e9e02976b42a309ff4313999d530c10f421f9f89dac10be15f7e8d66"), looks := false }, kinds := [], alts := [], laidByText := true, laidKinds := [.data, .data, .data], laidTests := true, laidLooks := .later }
def EmuResetsCardSaid : Prop := Claim7.holds Tryz.pinned (.plain (OpenSpec.ofChange emuResetsSpec)) emuResetsCard

/-- THE TIED CARD OF 'pontoonlaw17.EmuHides'. -/
def emuHidesCard : Claim7 := { stood := { row := emuHidesRow, standIns := [], harness := (true, "47d13521e9e02976b42a309ff4313999d530c10f421f9f89dac10be15f7e8d66"), looks := false }, kinds := [], alts := [], laidByText := true, laidKinds := [.data, .data, .data], laidTests := true, laidLooks := .later }
def EmuHidesCardSaid : Prop := Claim7.holds Tryz.pinned (.plain (OpenSpec.ofChange emuHidesSpec)) emuHidesCard

/-- THE TIED CARD OF 'pontoonlaw17.EmuSaves'. -/
def emuSavesCard : Claim7 := { stood := { row := emuSavesRow, standIns := [], harness := (true, "47d13521e9e02976b42a309ff4313999d530c10f421f9f89dac10be15f7e8d66"), looks := false }, kinds := [], alts := [], laidByText := true, laidKinds := [.data, .data, .data], laidTests := true, laidLooks := .later }
def EmuSavesCardSaid : Prop := Claim7.holds Tryz.pinned (.plain (OpenSpec.ofChange emuSavesSpec)) emuSavesCard

/-- THE TIED CARD OF 'pontoonlaw17.EmuStays'. -/
def emuStaysCard : Claim7 := { stood := { row := emuStaysRow, standIns := [], harness := (true, "47d13521e9e02976b42a309ff4313999d530c10f421f9f89dac10be15f7e8d66"), looks := false }, kinds := [], alts := [], laidByText := true, laidKinds := [.data, .data, .data], laidTests := true, laidLooks := .later }
def EmuStaysCardSaid : Prop := Claim7.holds Tryz.pinned (.plain (OpenSpec.ofChange emuStaysSpec)) emuStaysCard

/-- THE SECOND FORM's CARD OF 'pontoonlaw17.EmuPrints'. -/
def emuPrintsUptoCard : Claim7 := { stood := { row := emuPrintsUptoRow, standIns := [], harness := (true, "47d13521e9e02976b42a309ff4313999d530c10f421f9f89dac10be15f7e8d66"), looks := false }, kinds := [], alts := [], laidByText := true, laidKinds := [.data, .data, .data], laidTests := true, laidLooks := .later }
def EmuPrintsUptoCardSaid : Prop := Claim7.holds Tryz.pinned (.plain (OpenSpec.upto emuPrintsSpec)) emuPrintsUptoCard

/-- THE SECOND FORM's CARD OF 'pontoonlaw17.EmuLines'. -/
def emuLinesUptoCard : Claim7 := { stood := { row := emuLinesUptoRow, standIns := [], harness := (true, "47d13521e9e02976b42a309ff4313999d530c10f421f9f89dac10be15f7e8d66"), looks := false }, kinds := [], alts := [], laidByText := true, laidKinds := [.data, .data, .data], laidTests := true, laidLooks := .later }
def EmuLinesUptoCardSaid : Prop := Claim7.holds Tryz.pinned (.plain (OpenSpec.upto emuLinesSpec)) emuLinesUptoCard

/-- THE SECOND FORM's CARD OF 'pontoonlaw17.EmuSets'. -/
def emuSetsUptoCard : Claim7 := { stood := { row := emuSetsUptoRow, standIns := [], harness := (true, "47d13521e9e02976b42a309ff4313999d530c10f421f9f89dac10be15f7e8d66"), looks := false }, kinds := [], alts := [], laidByText := true, laidKinds := [.data, .data, .data], laidTests := true, laidLooks := .later }
def EmuSetsUptoCardSaid : Prop := Claim7.holds Tryz.pinned (.plain (OpenSpec.upto emuSetsSpec)) emuSetsUptoCard

/-- THE SECOND FORM's CARD OF 'pontoonlaw17.EmuRegions'. -/
def emuRegionsUptoCard : Claim7 := { stood := { row := emuRegionsUptoRow, standIns := [], harness := (true, "47d13521e9e02976b42a309ff4313999d530c10f421f9f89dac10be15f7e8d66"), looks := false }, kinds := [], alts := [], laidByText := true, laidKinds := [.data, .data, .data], laidTests := true, laidLooks := .later }
def EmuRegionsUptoCardSaid : Prop := Claim7.holds Tryz.pinned (.plain (OpenSpec.upto emuRegionsSpec)) emuRegionsUptoCard

/-- THE SECOND FORM's CARD OF 'pontoonlaw17.EmuCuts'. -/
def emuCutsUptoCard : Claim7 := { stood := { row := emuCutsUptoRow, standIns := [], harness := (true, "47d13521e9e02976b42a309ff4313999d530c10f421f9f89dac10be15f7e8d66"), looks := false }, kinds := [], alts := [], laidByText := true, laidKinds := [.data, .data, .data], laidTests := true, laidLooks := .later }
def EmuCutsUptoCardSaid : Prop := Claim7.holds Tryz.pinned (.plain (OpenSpec.upto emuCutsSpec)) emuCutsUptoCard

/-- THE SECOND FORM's CARD OF 'pontoonlaw17.EmuReports'. -/
def emuReportsUptoCard : Claim7 := { stood := { row := emuReportsUptoRow, standIns := [], harness := (true, "47d13521e9e02976b42a309ff4313999d530c10f421f9f89dac10be15f7e8d66"), looks := false }, kinds := [], alts := [], laidByText := true, laidKinds := [.data, .data, .data], laidTests := true, laidLooks := .later }
def EmuReportsUptoCardSaid : Prop := Claim7.holds Tryz.pinned (.plain (OpenSpec.upto emuReportsSpec)) emuReportsUptoCard

/-- THE SECOND FORM's CARD OF 'pontoonlaw17.EmuErases'. -/
def emuErasesUptoCard : Claim7 := { stood := { row := emuErasesUptoRow, standIns := [], harness := (true, "47d13521e9e02976b42a309ff4313999d530c10f421f9f89dac10be15f7e8d66"), looks := false }, kinds := [], alts := [], laidByText := true, laidKinds := [.data, .data, .data], laidTests := true, laidLooks := .later }
def EmuErasesUptoCardSaid : Prop := Claim7.holds Tryz.pinned (.plain (OpenSpec.upto emuErasesSpec)) emuErasesUptoCard

/-- THE SECOND FORM's CARD OF 'pontoonlaw17.EmuChars'. -/
def emuCharsUptoCard : Claim7 := { stood := { row := emuCharsUptoRow, standIns := [], harness := (true, "47d13521e9e02976b42a309ff4313999d530c10f421f9f89dac10be15f7e8d66"), looks := false }, kinds := [], alts := [], laidByText := true, laidKinds := [.data, .data, .data], laidTests := true, laidLooks := .later }
def EmuCharsUptoCardSaid : Prop := Claim7.holds Tryz.pinned (.plain (OpenSpec.upto emuCharsSpec)) emuCharsUptoCard

/-- THE SECOND FORM's CARD OF 'pontoonlaw17.EmuTabs'. -/
def emuTabsUptoCard : Claim7 := { stood := { row := emuTabsUptoRow, standIns := [], harness := (true, "47d13521e9e02976b42a309ff4313999d530c10f421f9f89dac10be15f7e8d66"), looks := false }, kinds := [], alts := [], laidByText := true, laidKinds := [.data, .data, .data], laidTests := true, laidLooks := .later }
def EmuTabsUptoCardSaid : Prop := Claim7.holds Tryz.pinned (.plain (OpenSpec.upto emuTabsSpec)) emuTabsUptoCard

/-- THE SECOND FORM's CARD OF 'pontoonlaw17.EmuOrigins'. -/
def emuOriginsUptoCard : Claim7 := { stood := { row := emuOriginsUptoRow, standIns := [], harness := (true, "47d13521e9e02976b42a309ff4313999d530c10f421f9f89dac10be15f7e8d66"), looks := false }, kinds := [], alts := [], laidByText := true, laidKinds := [.data, .data, .data], laidTests := true, laidLooks := .later }
def EmuOriginsUptoCardSaid : Prop := Claim7.holds Tryz.pinned (.plain (OpenSpec.upto emuOriginsSpec)) emuOriginsUptoCard

/-- THE SECOND FORM's CARD OF 'pontoonlaw17.EmuWraps'. -/
def emuWrapsUptoCard : Claim7 := { stood := { row := emuWrapsUptoRow, standIns := [], harness := (true, "47d13521e9e02976b42a309ff4313999d530c10f421f9f89dac10be15f7e8d66"), looks := false }, kinds := [], alts := [], laidByText := true, laidKinds := [.data, .data, .data], laidTests := true, laidLooks := .later }
def EmuWrapsUptoCardSaid : Prop := Claim7.holds Tryz.pinned (.plain (OpenSpec.upto emuWrapsSpec)) emuWrapsUptoCard

/-- THE SECOND FORM's CARD OF 'pontoonlaw17.EmuPens'. -/
def emuPensUptoCard : Claim7 := { stood := { row := emuPensUptoRow, standIns := [], harness := (true, "47d13521e9e02976b42a309ff4313999d530c10f421f9f89dac10be15f7e8d66"), looks := false }, kinds := [], alts := [], laidByText := true, laidKinds := [.data, .data, .data], laidTests := true, laidLooks := .later }
def EmuPensUptoCardSaid : Prop := Claim7.holds Tryz.pinned (.plain (OpenSpec.upto emuPensSpec)) emuPensUptoCard

/-- THE SECOND FORM's CARD OF 'pontoonlaw17.EmuMoves'. -/
def emuMovesUptoCard : Claim7 := { stood := { row := emuMovesUptoRow, standIns := [], harness := (true, "47d13521e9e02976b42a309ff4313999d530c10f421f9f89dac10be15f7e8d66"), looks := false }, kinds := [], alts := [], laidByText := true, laidKinds := [.data, .data, .data], laidTests := true, laidLooks := .later }
def EmuMovesUptoCardSaid : Prop := Claim7.holds Tryz.pinned (.plain (OpenSpec.upto emuMovesSpec)) emuMovesUptoCard

/-- THE SECOND FORM's CARD OF 'pontoonlaw17.EmuAlts'. -/
def emuAltsUptoCard : Claim7 := { stood := { row := emuAltsUptoRow, standIns := [], harness := (true, "47d13521e9e02976b42a309ff4313999d530c10f421f9f89dac10be15f7e8d66"), looks := false }, kinds := [], alts := [], laidByText := true, laidKinds := [.data, .data, .data], laidTests := true, laidLooks := .later }
def EmuAltsUptoCardSaid : Prop := Claim7.holds Tryz.pinned (.plain (OpenSpec.upto emuAltsSpec)) emuAltsUptoCard

/-- THE SECOND FORM's CARD OF 'pontoonlaw17.EmuResets'. -/
def emuResetsUptoCard : Claim7 := { stood := { row := emuResetsUptoRow, standIns := [], harness := (true, "47d13521e9e02976b42a309ff4313999d530c10f421f9f89dac10be15f7e8d66"), looks := false }, kinds := [], alts := [], laidByText := true, laidKinds := [.data, .data, .data], laidTests := true, laidLooks := .later }
def EmuResetsUptoCardSaid : Prop := Claim7.holds Tryz.pinned (.plain (OpenSpec.upto emuResetsSpec)) emuResetsUptoCard

/-- THE SECOND FORM's CARD OF 'pontoonlaw17.EmuHides'. -/
def emuHidesUptoCard : Claim7 := { stood := { row := emuHidesUptoRow, standIns := [], harness := (true, "47d13521e9e02976b42a309ff4313999d530c10f421f9f89dac10be15f7e8d66"), looks := false }, kinds := [], alts := [], laidByText := true, laidKinds := [.data, .data, .data], laidTests := true, laidLooks := .later }
def EmuHidesUptoCardSaid : Prop := Claim7.holds Tryz.pinned (.plain (OpenSpec.upto emuHidesSpec)) emuHidesUptoCard

/-- THE SECOND FORM's CARD OF 'pontoonlaw17.EmuSaves'. -/
def emuSavesUptoCard : Claim7 := { stood := { row := emuSavesUptoRow, standIns := [], harness := (true, "47d13521e9e02976b42a309ff4313999d530c10f421f9f89dac10be15f7e8d66"), looks := false }, kinds := [], alts := [], laidByText := true, laidKinds := [.data, .data, .data], laidTests := true, laidLooks := .later }
def EmuSavesUptoCardSaid : Prop := Claim7.holds Tryz.pinned (.plain (OpenSpec.upto emuSavesSpec)) emuSavesUptoCard

/-- THE SECOND FORM's CARD OF 'pontoonlaw17.EmuStays'. -/
def emuStaysUptoCard : Claim7 := { stood := { row := emuStaysUptoRow, standIns := [], harness := (true, "47d13521e9e02976b42a309ff4313999d530c10f421f9f89dac10be15f7e8d66"), looks := false }, kinds := [], alts := [], laidByText := true, laidKinds := [.data, .data, .data], laidTests := true, laidLooks := .later }
def EmuStaysUptoCardSaid : Prop := Claim7.holds Tryz.pinned (.plain (OpenSpec.upto emuStaysSpec)) emuStaysUptoCard
end Rows
end Go.Proofs.YtnjgnbdebkckfaaGreatDoor
