/-
  DERIVED. GIVEN WITH THE SEED: THE CARDS: each row of YtefbblajhfhhhaaDoorRows.lean that lists a variable, with what it lists TIED to the program's text (the seventh form; the later family's looks); each row that meets fmt, with fmt's text TOLD by the authors' own Lean function (tested against real Go, not proved from fmt's source: count such statements apart). THE CARD IS WHAT COUNTS. Prove the row's statement (the work); the ties are given (YtefbblajhfhhhaaDoorTie.lean); close each card by the builder's one call (the guide's Derived/Test/ToyasCard.lean, 'card_holds'). Laid BY PROGRAM, IN A SANDBOX (cutbox-door.mjs). By AI agents, Wed Nov 11 2026. No macro, syntax, notation, axiom, sorry.
-/
import Derived.Test.YtefbblajhfhhhaaDoorRows
import GoSem.ClaimSeven
namespace Go.Proofs.YtefbblajhfhhhaaDoor
namespace Rows

/-- THE TIED CARD OF 'wireschemalaw08.NoteStays'. -/
def noteStaysCard : Claim7 := { stood := { row := noteStaysRow, standIns := [], harness := (true, "a8d729cda9c24fcf7448d003ea5140d3fa891a5d745c1efe3f534b8c904fcc17"), looks := false }, kinds := [], alts := [], laidByText := true, laidKinds := [.data, .data, .data], laidTests := true, laidLooks := .later }
def NoteStaysCardSaid : Prop := Claim7.holds Tryd.pinned (.plain (OpenSpec.ofChange noteStaysSpec)) noteStaysCard

/-- THE TIED CARD OF 'wireschemalaw08.NoteSets'. -/
def noteSetsCard : Claim7 := { stood := { row := noteSetsRow, standIns := [], harness := (true, "a8d729cda9c24fcf7448d003ea5140d3fa891a5d745c1efe3f534b8c904fcc17"), looks := false }, kinds := [], alts := [], laidByText := true, laidKinds := [.data, .data, .data], laidTests := true, laidLooks := .later }
def NoteSetsCardSaid : Prop := Claim7.holds Tryd.pinned (.plain (OpenSpec.ofChange noteSetsSpec)) noteSetsCard

/-- THE SECOND FORM's CARD OF 'wireschemalaw08.NoteStays'. -/
def noteStaysUptoCard : Claim7 := { stood := { row := noteStaysUptoRow, standIns := [], harness := (true, "a8d729cda9c24fcf7448d003ea5140d3fa891a5d745c1efe3f534b8c904fcc17"), looks := false }, kinds := [], alts := [], laidByText := true, laidKinds := [.data, .data, .data], laidTests := true, laidLooks := .later }
def NoteStaysUptoCardSaid : Prop := Claim7.holds Tryd.pinned (.plain (OpenSpec.upto noteStaysSpec)) noteStaysUptoCard

/-- THE SECOND FORM's CARD OF 'wireschemalaw08.NoteSets'. -/
def noteSetsUptoCard : Claim7 := { stood := { row := noteSetsUptoRow, standIns := [], harness := (true, "a8d729cda9c24fcf7448d003ea5140d3fa891a5d745c1efe3f534b8c904fcc17"), looks := false }, kinds := [], alts := [], laidByText := true, laidKinds := [.data, .data, .data], laidTests := true, laidLooks := .later }
def NoteSetsUptoCardSaid : Prop := Claim7.holds Tryd.pinned (.plain (OpenSpec.upto noteSetsSpec)) noteSetsUptoCard
end Rows
end Go.Proofs.YtefbblajhfhhhaaDoor
