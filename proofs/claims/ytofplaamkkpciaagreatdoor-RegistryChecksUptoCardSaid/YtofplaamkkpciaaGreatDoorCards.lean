/-
  DERIVED. GIVEN WITH THE SEED: THE CARDS: each row of YtofplaamkkpciaaGreatDoorRows.lean that lists a variable, with what it lists TIED to the program's text (the seventh form; the later family's looks); each row that meets fmt, with fmt's text TOLD by the authors' own Lean function (tested against real Go, not proved from fmt's source: count such statements apart). THE CARD IS WHAT COUNTS. Prove the row's statement (the work); the ties are given (YtofplaamkkpciaaGreatDoorTie.lean); close each card by the builder's one call (the guide's Derived/Test/ToyasCard.lean, 'card_holds'). Laid BY PROGRAM, IN A SANDBOX (cutbox-door.mjs). By AI agents, Wed Nov 11 2026. No macro, syntax, notation, axiom, sorry.
-/
import Derived.Test.YtofplaamkkpciaaGreatDoorRows
import GoSem.ClaimSeven
namespace Go.Proofs.YtofplaamkkpciaaGreatDoor
namespace Rows

/-- THE TIED CARD OF 'wireschemalaw39.RegistryChecks'. -/
def registryChecksCard : Claim7 := { stood := { row := registryChecksRow, standIns := [], harness := (true, "690e61963b01eea29d572d2e3201519c3ee7728fddf49b6f6ed8b5e827cabe35"), looks := false }, kinds := [], alts := [], laidByText := true, laidKinds := [.data, .data, .data, .data, .data, .data, .pinned], laidTests := true, laidLooks := .later }
def RegistryChecksCardSaid : Prop := Claim7.holds Tryz.pinned (.plain (OpenSpec.ofChange registryChecksSpec)) registryChecksCard

/-- THE SECOND FORM's CARD OF 'wireschemalaw39.RegistryChecks'. -/
def registryChecksUptoCard : Claim7 := { stood := { row := registryChecksUptoRow, standIns := [], harness := (true, "690e61963b01eea29d572d2e3201519c3ee7728fddf49b6f6ed8b5e827cabe35"), looks := false }, kinds := [], alts := [], laidByText := true, laidKinds := [.data, .data, .data, .data, .data, .data, .pinned], laidTests := true, laidLooks := .later }
def RegistryChecksUptoCardSaid : Prop := Claim7.holds Tryz.pinned (.plain (OpenSpec.upto registryChecksSpec)) registryChecksUptoCard
end Rows
end Go.Proofs.YtofplaamkkpciaaGreatDoor
