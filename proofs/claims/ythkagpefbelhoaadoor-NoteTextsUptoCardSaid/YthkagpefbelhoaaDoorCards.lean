/-
  DERIVED. GIVEN WITH THE SEED: THE CARDS: each row of YthkagpefbelhoaaDoorRows.lean that lists a variable, with what it lists TIED to the program's text (the seventh form; the later family's looks); each row that meets fmt, with fmt's text TOLD by the authors' own Lean function (tested against real Go, not proved from fmt's source: count such statements apart). THE CARD IS WHAT COUNTS. Prove the row's statement (the work); the ties are given (YthkagpefbelhoaaDoorTie.lean); close each card by the builder's one call (the guide's Derived/Test/ToyasCard.lean, 'card_holds'). Laid BY PROGRAM, IN A SANDBOX (cutbox-door.mjs). By AI agents, Wed Nov 11 2026. No macro, syntax, notation, axiom, sorry.
-/
import Derived.Test.YthkagpefbelhoaaDoorRows
import GoSem.ClaimSeven
namespace Go.Proofs.YthkagpefbelhoaaDoor
namespace Rows

/-- THE TIED CARD OF 'wireschemalaw08.NoteChecks'. -/
def noteChecksCard : Claim7 := { stood := { row := noteChecksRow, standIns := [], harness := (true, "d2ef39b5c545137fe4a2e626dccc4df92b08353c9e4e9268e82d623c5a5aa147"), looks := false }, kinds := [], alts := [], laidByText := true, laidKinds := [.data, .data, .data], laidTests := true, laidLooks := .later }
def NoteChecksCardSaid : Prop := Claim7.holds Tryd.pinned (.plain (OpenSpec.ofChange noteChecksSpec)) noteChecksCard

/-- THE TIED CARD OF 'wireschemalaw08.NoteTexts'. -/
def noteTextsCard : Claim7 := { stood := { row := noteTextsRow, standIns := [], harness := (true, "d2ef39b5c545137fe4a2e626dccc4df92b08353c9e4e9268e82d623c5a5aa147"), looks := false }, kinds := [], alts := [], laidByText := true, laidKinds := [.data, .data, .data], laidTests := true, laidLooks := .later }
def NoteTextsCardSaid : Prop := Claim7.holds Tryd.pinned (.plain (OpenSpec.ofChange noteTextsSpec)) noteTextsCard

/-- THE TIED CARD OF 'wireschemalaw08.NoteFinds'. -/
def noteFindsCard : Claim7 := { stood := { row := noteFindsRow, standIns := [], harness := (true, "d2ef39b5c545137fe4a2e626dccc4df92b08353c9e4e9268e82d623c5a5aa147"), looks := false }, kinds := [], alts := [], laidByText := true, laidKinds := [.data, .data, .data], laidTests := true, laidLooks := .later }
def NoteFindsCardSaid : Prop := Claim7.holds Tryd.pinned (.plain (OpenSpec.ofChange noteFindsSpec)) noteFindsCard

/-- THE TIED CARD OF 'wireschemalaw08.NoteStays'. -/
def noteStaysCard : Claim7 := { stood := { row := noteStaysRow, standIns := [], harness := (true, "d2ef39b5c545137fe4a2e626dccc4df92b08353c9e4e9268e82d623c5a5aa147"), looks := false }, kinds := [], alts := [], laidByText := true, laidKinds := [.data, .data, .data], laidTests := true, laidLooks := .later }
def NoteStaysCardSaid : Prop := Claim7.holds Tryd.pinned (.plain (OpenSpec.ofChange noteStaysSpec)) noteStaysCard

/-- THE TIED CARD OF 'wireschemalaw08.NoteSets'. -/
def noteSetsCard : Claim7 := { stood := { row := noteSetsRow, standIns := [], harness := (true, "d2ef39b5c545137fe4a2e626dccc4df92b08353c9e4e9268e82d623c5a5aa147"), looks := false }, kinds := [], alts := [], laidByText := true, laidKinds := [.data, .data, .data], laidTests := true, laidLooks := .later }
def NoteSetsCardSaid : Prop := Claim7.holds Tryd.pinned (.plain (OpenSpec.ofChange noteSetsSpec)) noteSetsCard

/-- THE SECOND FORM's CARD OF 'wireschemalaw08.NoteChecks'. -/
def noteChecksUptoCard : Claim7 := { stood := { row := noteChecksUptoRow, standIns := [], harness := (true, "d2ef39b5c545137fe4a2e626dccc4df92b08353c9e4e9268e82d623c5a5aa147"), looks := false }, kinds := [], alts := [], laidByText := true, laidKinds := [.data, .data, .data], laidTests := true, laidLooks := .later }
def NoteChecksUptoCardSaid : Prop := Claim7.holds Tryd.pinned (.plain (OpenSpec.upto noteChecksSpec)) noteChecksUptoCard

/-- THE SECOND FORM's CARD OF 'wireschemalaw08.NoteTexts'. -/
def noteTextsUptoCard : Claim7 := { stood := { row := noteTextsUptoRow, standIns := [], harness := (true, "d2ef39b5c545137fe4a2e626dccc4df92b08353c9e4e9268e82d623c5a5aa147"), looks := false }, kinds := [], alts := [], laidByText := true, laidKinds := [.data, .data, .data], laidTests := true, laidLooks := .later }
def NoteTextsUptoCardSaid : Prop := Claim7.holds Tryd.pinned (.plain (OpenSpec.upto noteTextsSpec)) noteTextsUptoCard

/-- THE SECOND FORM's CARD OF 'wireschemalaw08.NoteFinds'. -/
def noteFindsUptoCard : Claim7 := { stood := { row := noteFindsUptoRow, standIns := [], harness := (true, "d2ef39b5c545137fe4a2e626dccc4df92b08353c9e4e9268e82d623c5a5aa147"), looks := false }, kinds := [], alts := [], laidByText := true, laidKinds := [.data, .data, .data], laidTests := true, laidLooks := .later }
def NoteFindsUptoCardSaid : Prop := Claim7.holds Tryd.pinned (.plain (OpenSpec.upto noteFindsSpec)) noteFindsUptoCard

/-- THE SECOND FORM's CARD OF 'wireschemalaw08.NoteStays'. -/
def noteStaysUptoCard : Claim7 := { stood := { row := noteStaysUptoRow, standIns := [], harness := (true, "d2ef39b5c545137fe4a2e626dccc4df92b08353c9e4e9268e82d623c5a5aa147"), looks := false }, kinds := [], alts := [], laidByText := true, laidKinds := [.data, .data, .data], laidTests := true, laidLooks := .later }
def NoteStaysUptoCardSaid : Prop := Claim7.holds Tryd.pinned (.plain (OpenSpec.upto noteStaysSpec)) noteStaysUptoCard

/-- THE SECOND FORM's CARD OF 'wireschemalaw08.NoteSets'. -/
def noteSetsUptoCard : Claim7 := { stood := { row := noteSetsUptoRow, standIns := [], harness := (true, "d2ef39b5c545137fe4a2e626dccc4df92b08353c9e4e9268e82d623c5a5aa147"), looks := false }, kinds := [], alts := [], laidByText := true, laidKinds := [.data, .data, .data], laidTests := true, laidLooks := .later }
def NoteSetsUptoCardSaid : Prop := Claim7.holds Tryd.pinned (.plain (OpenSpec.upto noteSetsSpec)) noteSetsUptoCard
end Rows
end Go.Proofs.YthkagpefbelhoaaDoor
