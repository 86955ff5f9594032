/-
  DERIVED. GIVEN WITH THE SEED: THE CARDS: each row of YtcpkdafleaddlaaGreatDoorRows.lean that lists a variable, with what it lists TIED to the program's text (the seventh form; the later family's looks); each row that meets fmt, with fmt's text TOLD by the authors' own Lean function (tested against real Go, not proved from fmt's source: count such statements apart). THE CARD IS WHAT COUNTS. Prove the row's statement (the work); the ties are given (YtcpkdafleaddlaaGreatDoorTie.lean); close each card by the builder's one call (the guide's Derived/Test/ToyasCard.lean, 'card_holds'). Laid BY PROGRAM, IN A SANDBOX (cutbox-door.mjs). By AI agents, Wed Nov 11 2026. No macro, syntax, notation, axiom, sorry.
-/
import Derived.Test.YtcpkdafleaddlaaGreatDoorRows
import GoSem.ClaimSeven
namespace Go.Proofs.YtcpkdafleaddlaaGreatDoor
namespace Rows

/-- THE TIED CARD OF 'wireschemalaw09.ParseFiles'. -/
def parseFilesCard : Claim7 := { stood := { row := parseFilesRow, standIns := [], harness := (true, "e2335fc019601a71edbc80daca5f7bbfe5dbc458e1e38d157fa853e20e137137"), looks := true }, kinds := [], alts := [], laidByText := true, laidKinds := [.data, .data, .data, .data, .sentinel, .sentinel, .pinned], laidTests := true, laidLooks := .later }
def ParseFilesCardSaid : Prop := Claim7.holds Tryz.pinned (.plain (OpenSpec.ofChange parseFilesSpec)) parseFilesCard

/-- THE TIED CARD OF 'wireschemalaw09.ParseWords'. -/
def parseWordsCard : Claim7 := { stood := { row := parseWordsRow, standIns := [], harness := (true, "e2335fc019601a71edbc80daca5f7bbfe5dbc458e1e38d157fa853e20e137137"), looks := true }, kinds := [], alts := [], laidByText := true, laidKinds := [.data, .data, .data, .data, .sentinel, .sentinel, .pinned], laidTests := true, laidLooks := .later }
def ParseWordsCardSaid : Prop := Claim7.holds Tryz.pinned (.plain (OpenSpec.ofChange parseWordsSpec)) parseWordsCard

/-- THE TIED CARD OF 'wireschemalaw09.ParseTypes'. -/
def parseTypesCard : Claim7 := { stood := { row := parseTypesRow, standIns := [], harness := (true, "e2335fc019601a71edbc80daca5f7bbfe5dbc458e1e38d157fa853e20e137137"), looks := true }, kinds := [], alts := [], laidByText := true, laidKinds := [.data, .data, .data, .data, .sentinel, .sentinel, .pinned], laidTests := true, laidLooks := .later }
def ParseTypesCardSaid : Prop := Claim7.holds Tryz.pinned (.plain (OpenSpec.ofChange parseTypesSpec)) parseTypesCard

/-- THE TIED CARD OF 'wireschemalaw09.ParseLines'. -/
def parseLinesCard : Claim7 := { stood := { row := parseLinesRow, standIns := [], harness := (true, "e2335fc019601a71edbc80daca5f7bbfe5dbc458e1e38d157fa853e20e137137"), looks := true }, kinds := [], alts := [], laidByText := true, laidKinds := [.data, .data, .data, .data, .sentinel, .sentinel, .pinned], laidTests := true, laidLooks := .later }
def ParseLinesCardSaid : Prop := Claim7.holds Tryz.pinned (.plain (OpenSpec.ofChange parseLinesSpec)) parseLinesCard

/-- THE TIED CARD OF 'wireschemalaw09.ParseFields'. -/
def parseFieldsCard : Claim7 := { stood := { row := parseFieldsRow, standIns := [], harness := (true, "e2335fc019601a71edbc80daca5f7bbfe5dbc458e1e38d157fa853e20e137137"), looks := true }, kinds := [], alts := [], laidByText := true, laidKinds := [.data, .data, .data, .data, .sentinel, .sentinel, .pinned], laidTests := true, laidLooks := .later }
def ParseFieldsCardSaid : Prop := Claim7.holds Tryz.pinned (.plain (OpenSpec.ofChange parseFieldsSpec)) parseFieldsCard

/-- THE TIED CARD OF 'wireschemalaw09.ParseInside'. -/
def parseInsideCard : Claim7 := { stood := { row := parseInsideRow, standIns := [], harness := (true, "e2335fc019601a71edbc80daca5f7bbfe5dbc458e1e38d157fa853e20e137137"), looks := true }, kinds := [], alts := [], laidByText := true, laidKinds := [.data, .data, .data, .data, .sentinel, .sentinel, .pinned], laidTests := true, laidLooks := .later }
def ParseInsideCardSaid : Prop := Claim7.holds Tryz.pinned (.plain (OpenSpec.ofChange parseInsideSpec)) parseInsideCard

/-- THE TIED CARD OF 'wireschemalaw09.ParseLiterals'. -/
def parseLiteralsCard : Claim7 := { stood := { row := parseLiteralsRow, standIns := [], harness := (true, "e2335fc019601a71edbc80daca5f7bbfe5dbc458e1e38d157fa853e20e137137"), looks := true }, kinds := [], alts := [], laidByText := true, laidKinds := [.data, .data, .data, .data, .sentinel, .sentinel, .pinned], laidTests := true, laidLooks := .later }
def ParseLiteralsCardSaid : Prop := Claim7.holds Tryz.pinned (.plain (OpenSpec.ofChange parseLiteralsSpec)) parseLiteralsCard

/-- THE TIED CARD OF 'wireschemalaw09.ParseRoundTrips'. -/
def parseRoundTripsCard : Claim7 := { stood := { row := parseRoundTripsRow, standIns := [], harness := (true, "e2335fc019601a71edbc80daca5f7bbfe5dbc458e1e38d157fa853e20e137137"), looks := true }, kinds := [], alts := [], laidByText := true, laidKinds := [.data, .data, .data, .data, .sentinel, .sentinel, .pinned], laidTests := true, laidLooks := .later }
def ParseRoundTripsCardSaid : Prop := Claim7.holds Tryz.pinned (.plain (OpenSpec.ofChange parseRoundTripsSpec)) parseRoundTripsCard

/-- THE TIED CARD OF 'wireschemalaw08.NoteRoundTrips'. -/
def noteRoundTripsCard : Claim7 := { stood := { row := noteRoundTripsRow, standIns := [], harness := (true, "e2335fc019601a71edbc80daca5f7bbfe5dbc458e1e38d157fa853e20e137137"), looks := true }, kinds := [], alts := [], laidByText := true, laidKinds := [.data, .data, .data, .data, .sentinel, .sentinel, .pinned], laidTests := true, laidLooks := .later }
def NoteRoundTripsCardSaid : Prop := Claim7.holds Tryz.pinned (.plain (OpenSpec.ofChange noteRoundTripsSpec)) noteRoundTripsCard

/-- THE TIED CARD OF 'wireschemalaw10.FormatRoundTrips'. -/
def formatRoundTripsCard : Claim7 := { stood := { row := formatRoundTripsRow, standIns := [], harness := (true, "e2335fc019601a71edbc80daca5f7bbfe5dbc458e1e38d157fa853e20e137137"), looks := true }, kinds := [], alts := [], laidByText := true, laidKinds := [.data, .data, .data, .data, .sentinel, .sentinel, .pinned], laidTests := true, laidLooks := .later }
def FormatRoundTripsCardSaid : Prop := Claim7.holds Tryz.pinned (.plain (OpenSpec.ofChange formatRoundTripsSpec)) formatRoundTripsCard

/-- THE TIED CARD OF 'wireschemalaw10.FormatReprints'. -/
def formatReprintsCard : Claim7 := { stood := { row := formatReprintsRow, standIns := [], harness := (true, "e2335fc019601a71edbc80daca5f7bbfe5dbc458e1e38d157fa853e20e137137"), looks := true }, kinds := [], alts := [], laidByText := true, laidKinds := [.data, .data, .data, .data, .sentinel, .sentinel, .pinned], laidTests := true, laidLooks := .later }
def FormatReprintsCardSaid : Prop := Claim7.holds Tryz.pinned (.plain (OpenSpec.ofChange formatReprintsSpec)) formatReprintsCard

/-- THE SECOND FORM's CARD OF 'wireschemalaw09.ParseFiles'. -/
def parseFilesUptoCard : Claim7 := { stood := { row := parseFilesUptoRow, standIns := [], harness := (true, "e2335fc019601a71edbc80daca5f7bbfe5dbc458e1e38d157fa853e20e137137"), looks := true }, kinds := [], alts := [], laidByText := true, laidKinds := [.data, .data, .data, .data, .sentinel, .sentinel, .pinned], laidTests := true, laidLooks := .later }
def ParseFilesUptoCardSaid : Prop := Claim7.holds Tryz.pinned (.plain (OpenSpec.upto parseFilesSpec)) parseFilesUptoCard

/-- THE SECOND FORM's CARD OF 'wireschemalaw09.ParseWords'. -/
def parseWordsUptoCard : Claim7 := { stood := { row := parseWordsUptoRow, standIns := [], harness := (true, "e2335fc019601a71edbc80daca5f7bbfe5dbc458e1e38d157fa853e20e137137"), looks := true }, kinds := [], alts := [], laidByText := true, laidKinds := [.data, .data, .data, .data, .sentinel, .sentinel, .pinned], laidTests := true, laidLooks := .later }
def ParseWordsUptoCardSaid : Prop := Claim7.holds Tryz.pinned (.plain (OpenSpec.upto parseWordsSpec)) parseWordsUptoCard

/-- THE SECOND FORM's CARD OF 'wireschemalaw09.ParseTypes'. -/
def parseTypesUptoCard : Claim7 := { stood := { row := parseTypesUptoRow, standIns := [], harness := (true, "e2335fc019601a71edbc80daca5f7bbfe5dbc458e1e38d157fa853e20e137137"), looks := true }, kinds := [], alts := [], laidByText := true, laidKinds := [.data, .data, .data, .data, .sentinel, .sentinel, .pinned], laidTests := true, laidLooks := .later }
def ParseTypesUptoCardSaid : Prop := Claim7.holds Tryz.pinned (.plain (OpenSpec.upto parseTypesSpec)) parseTypesUptoCard

/-- THE SECOND FORM's CARD OF 'wireschemalaw09.ParseLines'. -/
def parseLinesUptoCard : Claim7 := { stood := { row := parseLinesUptoRow, standIns := [], harness := (true, "e2335fc019601a71edbc80daca5f7bbfe5dbc458e1e38d157fa853e20e137137"), looks := true }, kinds := [], alts := [], laidByText := true, laidKinds := [.data, .data, .data, .data, .sentinel, .sentinel, .pinned], laidTests := true, laidLooks := .later }
def ParseLinesUptoCardSaid : Prop := Claim7.holds Tryz.pinned (.plain (OpenSpec.upto parseLinesSpec)) parseLinesUptoCard

/-- THE SECOND FORM's CARD OF 'wireschemalaw09.ParseFields'. -/
def parseFieldsUptoCard : Claim7 := { stood := { row := parseFieldsUptoRow, standIns := [], harness := (true, "e2335fc019601a71edbc80daca5f7bbfe5dbc458e1e38d157fa853e20e137137"), looks := true }, kinds := [], alts := [], laidByText := true, laidKinds := [.data, .data, .data, .data, .sentinel, .sentinel, .pinned], laidTests := true, laidLooks := .later }
def ParseFieldsUptoCardSaid : Prop := Claim7.holds Tryz.pinned (.plain (OpenSpec.upto parseFieldsSpec)) parseFieldsUptoCard

/-- THE SECOND FORM's CARD OF 'wireschemalaw09.ParseInside'. -/
def parseInsideUptoCard : Claim7 := { stood := { row := parseInsideUptoRow, standIns := [], harness := (true, "e2335fc019601a71edbc80daca5f7bbfe5dbc458e1e38d157fa853e20e137137"), looks := true }, kinds := [], alts := [], laidByText := true, laidKinds := [.data, .data, .data, .data, .sentinel, .sentinel, .pinned], laidTests := true, laidLooks := .later }
def ParseInsideUptoCardSaid : Prop := Claim7.holds Tryz.pinned (.plain (OpenSpec.upto parseInsideSpec)) parseInsideUptoCard

/-- THE SECOND FORM's CARD OF 'wireschemalaw09.ParseLiterals'. -/
def parseLiteralsUptoCard : Claim7 := { stood := { row := parseLiteralsUptoRow, standIns := [], harness := (true, "e2335fc019601a71edbc80daca5f7bbfe5dbc458e1e38d157fa853e20e137137"), looks := true }, kinds := [], alts := [], laidByText := true, laidKinds := [.data, .data, .data, .data, .sentinel, .sentinel, .pinned], laidTests := true, laidLooks := .later }
def ParseLiteralsUptoCardSaid : Prop := Claim7.holds Tryz.pinned (.plain (OpenSpec.upto parseLiteralsSpec)) parseLiteralsUptoCard

/-- THE SECOND FORM's CARD OF 'wireschemalaw09.ParseRoundTrips'. -/
def parseRoundTripsUptoCard : Claim7 := { stood := { row := parseRoundTripsUptoRow, standIns := [], harness := (true, "e2335fc019601a71edbc80daca5f7bbfe5dbc458e1e38d157fa853e20e137137"), looks := true }, kinds := [], alts := [], laidByText := true, laidKinds := [.data, .data, .data, .data, .sentinel, .sentinel, .pinned], laidTests := true, laidLooks := .later }
def ParseRoundTripsUptoCardSaid : Prop := Claim7.holds Tryz.pinned (.plain (OpenSpec.upto parseRoundTripsSpec)) parseRoundTripsUptoCard

/-- THE SECOND FORM's CARD OF 'wireschemalaw08.NoteRoundTrips'. -/
def noteRoundTripsUptoCard : Claim7 := { stood := { row := noteRoundTripsUptoRow, standIns := [], harness := (true, "e2335fc019601a71edbc80daca5f7bbfe5dbc458e1e38d157fa853e20e137137"), looks := true }, kinds := [], alts := [], laidByText := true, laidKinds := [.data, .data, .data, .data, .sentinel, .sentinel, .pinned], laidTests := true, laidLooks := .later }
def NoteRoundTripsUptoCardSaid : Prop := Claim7.holds Tryz.pinned (.plain (OpenSpec.upto noteRoundTripsSpec)) noteRoundTripsUptoCard

/-- THE SECOND FORM's CARD OF 'wireschemalaw10.FormatRoundTrips'. -/
def formatRoundTripsUptoCard : Claim7 := { stood := { row := formatRoundTripsUptoRow, standIns := [], harness := (true, "e2335fc019601a71edbc80daca5f7bbfe5dbc458e1e38d157fa853e20e137137"), looks := true }, kinds := [], alts := [], laidByText := true, laidKinds := [.data, .data, .data, .data, .sentinel, .sentinel, .pinned], laidTests := true, laidLooks := .later }
def FormatRoundTripsUptoCardSaid : Prop := Claim7.holds Tryz.pinned (.plain (OpenSpec.upto formatRoundTripsSpec)) formatRoundTripsUptoCard

/-- THE SECOND FORM's CARD OF 'wireschemalaw10.FormatReprints'. -/
def formatReprintsUptoCard : Claim7 := { stood := { row := formatReprintsUptoRow, standIns := [], harness := (true, "e2335fc019601a71edbc80daca5f7bbfe5dbc458e1e38d157fa853e20e137137"), looks := true }, kinds := [], alts := [], laidByText := true, laidKinds := [.data, .data, .data, .data, .sentinel, .sentinel, .pinned], laidTests := true, laidLooks := .later }
def FormatReprintsUptoCardSaid : Prop := Claim7.holds Tryz.pinned (.plain (OpenSpec.upto formatReprintsSpec)) formatReprintsUptoCard
end Rows
end Go.Proofs.YtcpkdafleaddlaaGreatDoor
