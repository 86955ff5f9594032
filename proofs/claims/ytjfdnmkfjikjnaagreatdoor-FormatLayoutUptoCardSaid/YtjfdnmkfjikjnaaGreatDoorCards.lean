/-
  DERIVED. GIVEN WITH THE SEED: THE CARDS: each row of YtjfdnmkfjikjnaaGreatDoorRows.lean that lists a variable, with what it lists TIED to the program's text (the seventh form; the later family's looks); each row that meets fmt, with fmt's text TOLD by the authors' own Lean function (tested against real Go, not proved from fmt's source: count such statements apart). THE CARD IS WHAT COUNTS. Prove the row's statement (the work); the ties are given (YtjfdnmkfjikjnaaGreatDoorTie.lean); close each card by the builder's one call (the guide's Derived/Test/ToyasCard.lean, 'card_holds'). Laid BY PROGRAM, IN A SANDBOX (cutbox-door.mjs). By AI agents, Wed Nov 11 2026. No macro, syntax, notation, axiom, sorry.
-/
import Derived.Test.YtjfdnmkfjikjnaaGreatDoorRows
import GoSem.ClaimSeven
namespace Go.Proofs.YtjfdnmkfjikjnaaGreatDoor
namespace Rows

/-- THE TIED CARD OF 'wireschemalaw10.FormatChecks'. -/
def formatChecksCard : Claim7 := { stood := { row := formatChecksRow, standIns := [], harness := (true, "eff41fbf81df4439833ac06a0b155dad718cbeaf3432640e03230c4ac85801c2"), looks := true }, kinds := [], alts := [], laidByText := true, laidKinds := [.data, .data, .data, .data, .pinned], laidTests := true, laidLooks := .later }
def FormatChecksCardSaid : Prop := Claim7.holds Tryz.pinned (.plain (OpenSpec.ofChange formatChecksSpec)) formatChecksCard

/-- THE TIED CARD OF 'wireschemalaw10.FormatPrints'. -/
def formatPrintsCard : Claim7 := { stood := { row := formatPrintsRow, standIns := [], harness := (true, "eff41fbf81df4439833ac06a0b155dad718cbeaf3432640e03230c4ac85801c2"), looks := true }, kinds := [], alts := [], laidByText := true, laidKinds := [.data, .data, .data, .data, .pinned], laidTests := true, laidLooks := .later }
def FormatPrintsCardSaid : Prop := Claim7.holds Tryz.pinned (.plain (OpenSpec.ofChange formatPrintsSpec)) formatPrintsCard

/-- THE TIED CARD OF 'wireschemalaw10.FormatApart'. -/
def formatApartCard : Claim7 := { stood := { row := formatApartRow, standIns := [], harness := (true, "eff41fbf81df4439833ac06a0b155dad718cbeaf3432640e03230c4ac85801c2"), looks := true }, kinds := [], alts := [], laidByText := true, laidKinds := [.data, .data, .data, .data, .pinned], laidTests := true, laidLooks := .later }
def FormatApartCardSaid : Prop := Claim7.holds Tryz.pinned (.plain (OpenSpec.ofChange formatApartSpec)) formatApartCard

/-- THE TIED CARD OF 'wireschemalaw10.FormatParts'. -/
def formatPartsCard : Claim7 := { stood := { row := formatPartsRow, standIns := [], harness := (true, "eff41fbf81df4439833ac06a0b155dad718cbeaf3432640e03230c4ac85801c2"), looks := true }, kinds := [], alts := [], laidByText := true, laidKinds := [.data, .data, .data, .data, .pinned], laidTests := true, laidLooks := .later }
def FormatPartsCardSaid : Prop := Claim7.holds Tryz.pinned (.plain (OpenSpec.ofChange formatPartsSpec)) formatPartsCard

/-- THE TIED CARD OF 'wireschemalaw10.FormatSames'. -/
def formatSamesCard : Claim7 := { stood := { row := formatSamesRow, standIns := [], harness := (true, "eff41fbf81df4439833ac06a0b155dad718cbeaf3432640e03230c4ac85801c2"), looks := true }, kinds := [], alts := [], laidByText := true, laidKinds := [.data, .data, .data, .data, .pinned], laidTests := true, laidLooks := .later }
def FormatSamesCardSaid : Prop := Claim7.holds Tryz.pinned (.plain (OpenSpec.ofChange formatSamesSpec)) formatSamesCard

/-- THE TIED CARD OF 'wireschemalaw10.FormatLayout'. -/
def formatLayoutCard : Claim7 := { stood := { row := formatLayoutRow, standIns := [], harness := (true, "eff41fbf81df4439833ac06a0b155dad718cbeaf3432640e03230c4ac85801c2"), looks := true }, kinds := [], alts := [], laidByText := true, laidKinds := [.data, .data, .data, .data, .sentinel, .sentinel, .pinned], laidTests := true, laidLooks := .later }
def FormatLayoutCardSaid : Prop := Claim7.holds Tryz.pinned (.plain (OpenSpec.ofChange formatLayoutSpec)) formatLayoutCard

/-- THE TIED CARD OF 'wireschemalaw10.FormatRoundTrips'. -/
def formatRoundTripsCard : Claim7 := { stood := { row := formatRoundTripsRow, standIns := [], harness := (true, "eff41fbf81df4439833ac06a0b155dad718cbeaf3432640e03230c4ac85801c2"), looks := true }, kinds := [], alts := [], laidByText := true, laidKinds := [.data, .data, .data, .data, .sentinel, .sentinel, .pinned], laidTests := true, laidLooks := .later }
def FormatRoundTripsCardSaid : Prop := Claim7.holds Tryz.pinned (.plain (OpenSpec.ofChange formatRoundTripsSpec)) formatRoundTripsCard

/-- THE TIED CARD OF 'wireschemalaw10.FormatReprints'. -/
def formatReprintsCard : Claim7 := { stood := { row := formatReprintsRow, standIns := [], harness := (true, "eff41fbf81df4439833ac06a0b155dad718cbeaf3432640e03230c4ac85801c2"), looks := true }, kinds := [], alts := [], laidByText := true, laidKinds := [.data, .data, .data, .data, .sentinel, .sentinel, .pinned], laidTests := true, laidLooks := .later }
def FormatReprintsCardSaid : Prop := Claim7.holds Tryz.pinned (.plain (OpenSpec.ofChange formatReprintsSpec)) formatReprintsCard

/-- THE SECOND FORM's CARD OF 'wireschemalaw10.FormatChecks'. -/
def formatChecksUptoCard : Claim7 := { stood := { row := formatChecksUptoRow, standIns := [], harness := (true, "eff41fbf81df4439833ac06a0b155dad718cbeaf3432640e03230c4ac85801c2"), looks := true }, kinds := [], alts := [], laidByText := true, laidKinds := [.data, .data, .data, .data, .pinned], laidTests := true, laidLooks := .later }
def FormatChecksUptoCardSaid : Prop := Claim7.holds Tryz.pinned (.plain (OpenSpec.upto formatChecksSpec)) formatChecksUptoCard

/-- THE SECOND FORM's CARD OF 'wireschemalaw10.FormatPrints'. -/
def formatPrintsUptoCard : Claim7 := { stood := { row := formatPrintsUptoRow, standIns := [], harness := (true, "eff41fbf81df4439833ac06a0b155dad718cbeaf3432640e03230c4ac85801c2"), looks := true }, kinds := [], alts := [], laidByText := true, laidKinds := [.data, .data, .data, .data, .pinned], laidTests := true, laidLooks := .later }
def FormatPrintsUptoCardSaid : Prop := Claim7.holds Tryz.pinned (.plain (OpenSpec.upto formatPrintsSpec)) formatPrintsUptoCard

/-- THE SECOND FORM's CARD OF 'wireschemalaw10.FormatApart'. -/
def formatApartUptoCard : Claim7 := { stood := { row := formatApartUptoRow, standIns := [], harness := (true, "eff41fbf81df4439833ac06a0b155dad718cbeaf3432640e03230c4ac85801c2"), looks := true }, kinds := [], alts := [], laidByText := true, laidKinds := [.data, .data, .data, .data, .pinned], laidTests := true, laidLooks := .later }
def FormatApartUptoCardSaid : Prop := Claim7.holds Tryz.pinned (.plain (OpenSpec.upto formatApartSpec)) formatApartUptoCard

/-- THE SECOND FORM's CARD OF 'wireschemalaw10.FormatParts'. -/
def formatPartsUptoCard : Claim7 := { stood := { row := formatPartsUptoRow, standIns := [], harness := (true, "eff41fbf81df4439833ac06a0b155dad718cbeaf3432640e03230c4ac85801c2"), looks := true }, kinds := [], alts := [], laidByText := true, laidKinds := [.data, .data, .data, .data, .pinned], laidTests := true, laidLooks := .later }
def FormatPartsUptoCardSaid : Prop := Claim7.holds Tryz.pinned (.plain (OpenSpec.upto formatPartsSpec)) formatPartsUptoCard

/-- THE SECOND FORM's CARD OF 'wireschemalaw10.FormatSames'. -/
def formatSamesUptoCard : Claim7 := { stood := { row := formatSamesUptoRow, standIns := [], harness := (true, "eff41fbf81df4439833ac06a0b155dad718cbeaf3432640e03230c4ac85801c2"), looks := true }, kinds := [], alts := [], laidByText := true, laidKinds := [.data, .data, .data, .data, .pinned], laidTests := true, laidLooks := .later }
def FormatSamesUptoCardSaid : Prop := Claim7.holds Tryz.pinned (.plain (OpenSpec.upto formatSamesSpec)) formatSamesUptoCard

/-- THE SECOND FORM's CARD OF 'wireschemalaw10.FormatLayout'. -/
def formatLayoutUptoCard : Claim7 := { stood := { row := formatLayoutUptoRow, standIns := [], harness := (true, "eff41fbf81df4439833ac06a0b155dad718cbeaf3432640e03230c4ac85801c2"), looks := true }, kinds := [], alts := [], laidByText := true, laidKinds := [.data, .data, .data, .data, .sentinel, .sentinel, .pinned], laidTests := true, laidLooks := .later }
def FormatLayoutUptoCardSaid : Prop := Claim7.holds Tryz.pinned (.plain (OpenSpec.upto formatLayoutSpec)) formatLayoutUptoCard

/-- THE SECOND FORM's CARD OF 'wireschemalaw10.FormatRoundTrips'. -/
def formatRoundTripsUptoCard : Claim7 := { stood := { row := formatRoundTripsUptoRow, standIns := [], harness := (true, "eff41fbf81df4439833ac06a0b155dad718cbeaf3432640e03230c4ac85801c2"), looks := true }, kinds := [], alts := [], laidByText := true, laidKinds := [.data, .data, .data, .data, .sentinel, .sentinel, .pinned], laidTests := true, laidLooks := .later }
def FormatRoundTripsUptoCardSaid : Prop := Claim7.holds Tryz.pinned (.plain (OpenSpec.upto formatRoundTripsSpec)) formatRoundTripsUptoCard

/-- THE SECOND FORM's CARD OF 'wireschemalaw10.FormatReprints'. -/
def formatReprintsUptoCard : Claim7 := { stood := { row := formatReprintsUptoRow, standIns := [], harness := (true, "eff41fbf81df4439833ac06a0b155dad718cbeaf3432640e03230c4ac85801c2"), looks := true }, kinds := [], alts := [], laidByText := true, laidKinds := [.data, .data, .data, .data, .sentinel, .sentinel, .pinned], laidTests := true, laidLooks := .later }
def FormatReprintsUptoCardSaid : Prop := Claim7.holds Tryz.pinned (.plain (OpenSpec.upto formatReprintsSpec)) formatReprintsUptoCard
end Rows
end Go.Proofs.YtjfdnmkfjikjnaaGreatDoor
