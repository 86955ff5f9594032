/-
  DERIVED. GIVEN WITH THE SEED: THE CARDS: each row of YtodichgnoiaanaaGreatDoorRows.lean that lists a variable, with what it lists TIED to the program's text (the seventh form; the later family's looks); each row that meets fmt, with fmt's text TOLD by the authors' own Lean function (tested against real Go, not proved from fmt's source: count such statements apart). THE CARD IS WHAT COUNTS. Prove the row's statement (the work); the ties are given (YtodichgnoiaanaaGreatDoorTie.lean); close each card by the builder's one call (the guide's Derived/Test/ToyasCard.lean, 'card_holds'). Laid BY PROGRAM, IN A SANDBOX (cutbox-door.mjs). By AI agents, Wed Nov 11 2026. No macro, syntax, notation, axiom, sorry.
-/
import Derived.Test.YtodichgnoiaanaaGreatDoorRows
import GoSem.ClaimSeven
namespace Go.Proofs.YtodichgnoiaanaaGreatDoor
namespace Rows

/-- THE TIED CARD OF 'wireschemalaw36.EvolveTouches'. -/
def evolveTouchesCard : Claim7 := { stood := { row := evolveTouchesRow, standIns := [], harness := (true, "e441a320292c0a732457288d66f42e16b25569a45119467a3d26082c1b22b7bd"), looks := false }, kinds := [], alts := [], laidByText := true, laidKinds := [.data, .data, .data, .data, .pinned], laidTests := true, laidLooks := .later }
def EvolveTouchesCardSaid : Prop := Claim7.holds Tryz.pinned (.plain (OpenSpec.ofChange evolveTouchesSpec)) evolveTouchesCard

/-- THE SECOND FORM's CARD OF 'wireschemalaw36.EvolveTouches'. -/
def evolveTouchesUptoCard : Claim7 := { stood := { row := evolveTouchesUptoRow, standIns := [], harness := (true, "e441a320292c0a732457288d66f42e16b25569a45119467a3d26082c1b22b7bd"), looks := false }, kinds := [], alts := [], laidByText := true, laidKinds := [.data, .data, .data, .data, .pinned], laidTests := true, laidLooks := .later }
def EvolveTouchesUptoCardSaid : Prop := Claim7.holds Tryz.pinned (.plain (OpenSpec.upto evolveTouchesSpec)) evolveTouchesUptoCard
end Rows
end Go.Proofs.YtodichgnoiaanaaGreatDoor
