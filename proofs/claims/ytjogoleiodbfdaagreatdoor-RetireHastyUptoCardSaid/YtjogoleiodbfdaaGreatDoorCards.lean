/-
  DERIVED. GIVEN WITH THE SEED: THE CARDS: each row of YtjogoleiodbfdaaGreatDoorRows.lean that lists a variable, with what it lists TIED to the program's text (the seventh form; the later family's looks); each row that meets fmt, with fmt's text TOLD by the authors' own Lean function (tested against real Go, not proved from fmt's source: count such statements apart). THE CARD IS WHAT COUNTS. Prove the row's statement (the work); the ties are given (YtjogoleiodbfdaaGreatDoorTie.lean); close each card by the builder's one call (the guide's Derived/Test/ToyasCard.lean, 'card_holds'). Laid BY PROGRAM, IN A SANDBOX (cutbox-door.mjs). By AI agents, Wed Nov 11 2026. No macro, syntax, notation, axiom, sorry.
-/
import Derived.Test.YtjogoleiodbfdaaGreatDoorRows
import GoSem.ClaimSeven
namespace Go.Proofs.YtjogoleiodbfdaaGreatDoor
namespace Rows

/-- THE TIED CARD OF 'wireschemalaw40.RetireHasty'. -/
def retireHastyCard : Claim7 := { stood := { row := retireHastyRow, standIns := [], harness := (true, "9aef75f86968402fb3dd0b4f1b5bd68a04d60476e264db459b25d30f2c07ee7b"), looks := false }, kinds := [], alts := [], laidByText := true, laidKinds := [.data, .data, .data, .data, .pinned], laidTests := true, laidLooks := .later }
def RetireHastyCardSaid : Prop := Claim7.holds Tryz.pinned (.plain (OpenSpec.ofChange retireHastySpec)) retireHastyCard

/-- THE SECOND FORM's CARD OF 'wireschemalaw40.RetireHasty'. -/
def retireHastyUptoCard : Claim7 := { stood := { row := retireHastyUptoRow, standIns := [], harness := (true, "9aef75f86968402fb3dd0b4f1b5bd68a04d60476e264db459b25d30f2c07ee7b"), looks := false }, kinds := [], alts := [], laidByText := true, laidKinds := [.data, .data, .data, .data, .pinned], laidTests := true, laidLooks := .later }
def RetireHastyUptoCardSaid : Prop := Claim7.holds Tryz.pinned (.plain (OpenSpec.upto retireHastySpec)) retireHastyUptoCard
end Rows
end Go.Proofs.YtjogoleiodbfdaaGreatDoor
