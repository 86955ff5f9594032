/-
  DERIVED. GIVEN WITH THE SEED: THE CARDS: each row of YthkagpefbelhoaaGreatDoorRows.lean that lists a variable, with what it lists TIED to the program's text (the seventh form; the later family's looks); each row that meets fmt, with fmt's text TOLD by the authors' own Lean function (tested against real Go, not proved from fmt's source: count such statements apart). THE CARD IS WHAT COUNTS. Prove the row's statement (the work); the ties are given (YthkagpefbelhoaaGreatDoorTie.lean); close each card by the builder's one call (the guide's Derived/Test/ToyasCard.lean, 'card_holds'). Laid BY PROGRAM, IN A SANDBOX (cutbox-door.mjs). By AI agents, Wed Nov 11 2026. No macro, syntax, notation, axiom, sorry.
-/
import Derived.Test.YthkagpefbelhoaaGreatDoorRows
import GoSem.ClaimSeven
namespace Go.Proofs.YthkagpefbelhoaaGreatDoor
namespace Rows

/-- THE TIED CARD OF 'wireschemalaw08.NoteReads'. -/
def noteReadsCard : Claim7 := { stood := { row := noteReadsRow, standIns := [], harness := (true, "b928748a8b82380c2c4fe581de3e1671190992bf29f4c22a8e369bfc6c835b50"), looks := true }, kinds := [], alts := [], laidByText := true, laidKinds := [.data, .data, .data, .sentinel, .sentinel], laidTests := true, laidLooks := .later }
def NoteReadsCardSaid : Prop := Claim7.holds Tryz.pinned (.plain (OpenSpec.ofChange noteReadsSpec)) noteReadsCard

/-- THE TIED CARD OF 'wireschemalaw08.NoteRoundTrips'. -/
def noteRoundTripsCard : Claim7 := { stood := { row := noteRoundTripsRow, standIns := [], harness := (true, "b928748a8b82380c2c4fe581de3e1671190992bf29f4c22a8e369bfc6c835b50"), looks := true }, kinds := [], alts := [], laidByText := true, laidKinds := [.data, .data, .data, .data, .sentinel, .sentinel, .pinned], laidTests := true, laidLooks := .later }
def NoteRoundTripsCardSaid : Prop := Claim7.holds Tryz.pinned (.plain (OpenSpec.ofChange noteRoundTripsSpec)) noteRoundTripsCard

/-- THE SECOND FORM's CARD OF 'wireschemalaw08.NoteReads'. -/
def noteReadsUptoCard : Claim7 := { stood := { row := noteReadsUptoRow, standIns := [], harness := (true, "b928748a8b82380c2c4fe581de3e1671190992bf29f4c22a8e369bfc6c835b50"), looks := true }, kinds := [], alts := [], laidByText := true, laidKinds := [.data, .data, .data, .sentinel, .sentinel], laidTests := true, laidLooks := .later }
def NoteReadsUptoCardSaid : Prop := Claim7.holds Tryz.pinned (.plain (OpenSpec.upto noteReadsSpec)) noteReadsUptoCard

/-- THE SECOND FORM's CARD OF 'wireschemalaw08.NoteRoundTrips'. -/
def noteRoundTripsUptoCard : Claim7 := { stood := { row := noteRoundTripsUptoRow, standIns := [], harness := (true, "b928748a8b82380c2c4fe581de3e1671190992bf29f4c22a8e369bfc6c835b50"), looks := true }, kinds := [], alts := [], laidByText := true, laidKinds := [.data, .data, .data, .data, .sentinel, .sentinel, .pinned], laidTests := true, laidLooks := .later }
def NoteRoundTripsUptoCardSaid : Prop := Claim7.holds Tryz.pinned (.plain (OpenSpec.upto noteRoundTripsSpec)) noteRoundTripsUptoCard
end Rows
end Go.Proofs.YthkagpefbelhoaaGreatDoor
