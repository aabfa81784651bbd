/-
  DERIVED. GIVEN WITH THE SEED: THE CARDS: each row of YtjlamnioknbcaaaDoorRows.lean that lists a variable, with what it lists TIED to the program's text (the seventh form; the later family's looks); each row that meets fmt, with fmt's text TOLD by the authors' own Lean function (tested against real Go, not proved from fmt's source: count such statements apart). THE CARD IS WHAT COUNTS. Prove the row's statement (the work); the ties are given (YtjlamnioknbcaaaDoorTie.lean); close each card by the builder's one call (the guide's Derived/Test/ToyasCard.lean, 'card_holds'). Laid BY PROGRAM, IN A SANDBOX (cutbox-door.mjs). By AI agents, Wed Nov 11 2026. No macro, syntax, notation, axiom, sorry.
-/
import Derived.Test.YtjlamnioknbcaaaDoorRows
import GoSem.ClaimSeven
namespace Go.Proofs.YtjlamnioknbcaaaDoor
namespace Rows

/-- THE TIED CARD OF 'pontoonlaw11.PactRefuses'. -/
def pactRefusesCard : Claim7 := { stood := { row := pactRefusesRow, standIns := [], harness := (true, "ce9d1a3434ef34d6e54685cf37a17da76404f2438344ca861be17e2aaeb0e935"), looks := false }, kinds := [], alts := [], laidByText := true, laidKinds := [.data, .pinned], laidTests := true, laidLooks := .later }
def PactRefusesCardSaid : Prop := Claim7.holds Tryd.pinned (.plain (OpenSpec.ofChange pactRefusesSpec)) pactRefusesCard

/-- THE TIED CARD OF 'pontoonlaw11.PactTypes'. -/
def pactTypesCard : Claim7 := { stood := { row := pactTypesRow, standIns := [], harness := (true, "ce9d1a3434ef34d6e54685cf37a17da76404f2438344ca861be17e2aaeb0e935"), looks := false }, kinds := [], alts := [], laidByText := true, laidKinds := [.data, .pinned], laidTests := true, laidLooks := .later }
def PactTypesCardSaid : Prop := Claim7.holds Tryd.pinned (.plain (OpenSpec.ofChange pactTypesSpec)) pactTypesCard

/-- THE TIED CARD OF 'pontoonlaw11.PactOff'. -/
def pactOffCard : Claim7 := { stood := { row := pactOffRow, standIns := [], harness := (true, "ce9d1a3434ef34d6e54685cf37a17da76404f2438344ca861be17e2aaeb0e935"), looks := false }, kinds := [], alts := [], laidByText := true, laidKinds := [.data, .pinned], laidTests := true, laidLooks := .later }
def PactOffCardSaid : Prop := Claim7.holds Tryd.pinned (.plain (OpenSpec.ofChange pactOffSpec)) pactOffCard

/-- THE TIED CARD OF 'pontoonlaw11.PactSizes'. -/
def pactSizesCard : Claim7 := { stood := { row := pactSizesRow, standIns := [], harness := (true, "ce9d1a3434ef34d6e54685cf37a17da76404f2438344ca861be17e2aaeb0e935"), looks := false }, kinds := [], alts := [], laidByText := true, laidKinds := [.data, .pinned], laidTests := true, laidLooks := .later }
def PactSizesCardSaid : Prop := Claim7.holds Tryd.pinned (.plain (OpenSpec.ofChange pactSizesSpec)) pactSizesCard

/-- THE SECOND FORM's CARD OF 'pontoonlaw11.PactRefuses'. -/
def pactRefusesUptoCard : Claim7 := { stood := { row := pactRefusesUptoRow, standIns := [], harness := (true, "ce9d1a3434ef34d6e54685cf37a17da76404f2438344ca861be17e2aaeb0e935"), looks := false }, kinds := [], alts := [], laidByText := true, laidKinds := [.data, .pinned], laidTests := true, laidLooks := .later }
def PactRefusesUptoCardSaid : Prop := Claim7.holds Tryd.pinned (.plain (OpenSpec.upto pactRefusesSpec)) pactRefusesUptoCard

/-- THE SECOND FORM's CARD OF 'pontoonlaw11.PactTypes'. -/
def pactTypesUptoCard : Claim7 := { stood := { row := pactTypesUptoRow, standIns := [], harness := (true, "ce9d1a3434ef34d6e54685cf37a17da76404f2438344ca861be17e2aaeb0e935"), looks := false }, kinds := [], alts := [], laidByText := true, laidKinds := [.data, .pinned], laidTests := true, laidLooks := .later }
def PactTypesUptoCardSaid : Prop := Claim7.holds Tryd.pinned (.plain (OpenSpec.upto pactTypesSpec)) pactTypesUptoCard

/-- THE SECOND FORM's CARD OF 'pontoonlaw11.PactOff'. -/
def pactOffUptoCard : Claim7 := { stood := { row := pactOffUptoRow, standIns := [], harness := (true, "ce9d1a3434ef34d6e54685cf37a17da76404f2438344ca861be17e2aaeb0e935"), looks := false }, kinds := [], alts := [], laidByText := true, laidKinds := [.data, .pinned], laidTests := true, laidLooks := .later }
def PactOffUptoCardSaid : Prop := Claim7.holds Tryd.pinned (.plain (OpenSpec.upto pactOffSpec)) pactOffUptoCard

/-- THE SECOND FORM's CARD OF 'pontoonlaw11.PactSizes'. -/
def pactSizesUptoCard : Claim7 := { stood := { row := pactSizesUptoRow, standIns := [], harness := (true, "ce9d1a3434ef34d6e54685cf37a17da76404f2438344ca861be17e2aaeb0e935"), looks := false }, kinds := [], alts := [], laidByText := true, laidKinds := [.data, .pinned], laidTests := true, laidLooks := .later }
def PactSizesUptoCardSaid : Prop := Claim7.holds Tryd.pinned (.plain (OpenSpec.upto pactSizesSpec)) pactSizesUptoCard
end Rows
end Go.Proofs.YtjlamnioknbcaaaDoor
