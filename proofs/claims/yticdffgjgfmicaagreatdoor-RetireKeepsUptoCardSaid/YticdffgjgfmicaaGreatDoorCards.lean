/-
  DERIVED. GIVEN WITH THE SEED: THE CARDS: each row of YticdffgjgfmicaaGreatDoorRows.lean that lists a variable, with what it lists TIED to the program's text (the seventh form; the later family's looks); each row that meets fmt, with fmt's text TOLD by the authors' own Lean function (tested against real Go, not proved from fmt's source: count such statements apart). THE CARD IS WHAT COUNTS. Prove the row's statement (the work); the ties are given (YticdffgjgfmicaaGreatDoorTie.lean); close each card by the builder's one call (the guide's Derived/Test/ToyasCard.lean, 'card_holds'). Laid BY PROGRAM, IN A SANDBOX (cutbox-door.mjs). By AI agents, Wed Nov 11 2026. No macro, syntax, notation, axiom, sorry.
-/
import Derived.Test.YticdffgjgfmicaaGreatDoorRows
import GoSem.ClaimSeven
namespace Go.Proofs.YticdffgjgfmicaaGreatDoor
namespace Rows

/-- THE TIED CARD OF 'wireschemalaw40.RetireKeeps'. -/
def retireKeepsCard : Claim7 := { stood := { row := retireKeepsRow, standIns := [], harness := (true, "2257466846092ad4e82abba2ef5d64768ed940ff2105336d6521f41ee22f735f"), looks := false }, kinds := [], alts := [], laidByText := true, laidKinds := [.data, .data, .data, .data, .pinned], laidTests := true, laidLooks := .later }
def RetireKeepsCardSaid : Prop := Claim7.holds Tryz.pinned (.plain (OpenSpec.ofChange retireKeepsSpec)) retireKeepsCard

/-- THE SECOND FORM's CARD OF 'wireschemalaw40.RetireKeeps'. -/
def retireKeepsUptoCard : Claim7 := { stood := { row := retireKeepsUptoRow, standIns := [], harness := (true, "2257466846092ad4e82abba2ef5d64768ed940ff2105336d6521f41ee22f735f"), looks := false }, kinds := [], alts := [], laidByText := true, laidKinds := [.data, .data, .data, .data, .pinned], laidTests := true, laidLooks := .later }
def RetireKeepsUptoCardSaid : Prop := Claim7.holds Tryz.pinned (.plain (OpenSpec.upto retireKeepsSpec)) retireKeepsUptoCard
end Rows
end Go.Proofs.YticdffgjgfmicaaGreatDoor
