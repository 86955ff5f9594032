/-
  DERIVED. GIVEN WITH THE SEED: THE CARDS: each row of YthokbeimbdnnoaaGreatDoorRows.lean that lists a variable, with what it lists TIED to the program's text (the seventh form; the later family's looks); each row that meets fmt, with fmt's text TOLD by the authors' own Lean function (tested against real Go, not proved from fmt's source: count such statements apart). THE CARD IS WHAT COUNTS. Prove the row's statement (the work); the ties are given (YthokbeimbdnnoaaGreatDoorTie.lean); close each card by the builder's one call (the guide's Derived/Test/ToyasCard.lean, 'card_holds'). Laid BY PROGRAM, IN A SANDBOX (cutbox-door.mjs). By AI agents, Wed Nov 11 2026. No macro, syntax, notation, axiom, sorry.
-/
import Derived.Test.YthokbeimbdnnoaaGreatDoorRows
import GoSem.ClaimSeven
namespace Go.Proofs.YthokbeimbdnnoaaGreatDoor
namespace Rows

/-- THE TIED CARD OF 'wireschemalaw36.EvolveCompares'. -/
def evolveComparesCard : Claim7 := { stood := { row := evolveComparesRow, standIns := [], harness := (true, "87cfb2e24f6f33087f9bfc729fbe3da8fb4d8e75bbd9e594973140bcc4e6ae54"), looks := false }, kinds := [], alts := [], laidByText := true, laidKinds := [.data, .data, .data, .data, .pinned], laidTests := true, laidLooks := .later }
def EvolveComparesCardSaid : Prop := Claim7.holds Tryz.pinned (.plain (OpenSpec.ofChange evolveComparesSpec)) evolveComparesCard

/-- THE TIED CARD OF 'wireschemalaw36.EvolveLists'. -/
def evolveListsCard : Claim7 := { stood := { row := evolveListsRow, standIns := [], harness := (true, "87cfb2e24f6f33087f9bfc729fbe3da8fb4d8e75bbd9e594973140bcc4e6ae54"), looks := false }, kinds := [], alts := [], laidByText := true, laidKinds := [.data, .data, .data, .data, .pinned], laidTests := true, laidLooks := .later }
def EvolveListsCardSaid : Prop := Claim7.holds Tryz.pinned (.plain (OpenSpec.ofChange evolveListsSpec)) evolveListsCard

/-- THE TIED CARD OF 'wireschemalaw36.EvolveFinds'. -/
def evolveFindsCard : Claim7 := { stood := { row := evolveFindsRow, standIns := [], harness := (true, "87cfb2e24f6f33087f9bfc729fbe3da8fb4d8e75bbd9e594973140bcc4e6ae54"), looks := false }, kinds := [], alts := [], laidByText := true, laidKinds := [.data, .data, .data, .data, .pinned], laidTests := true, laidLooks := .later }
def EvolveFindsCardSaid : Prop := Claim7.holds Tryz.pinned (.plain (OpenSpec.ofChange evolveFindsSpec)) evolveFindsCard

/-- THE TIED CARD OF 'wireschemalaw36.EvolveTurns'. -/
def evolveTurnsCard : Claim7 := { stood := { row := evolveTurnsRow, standIns := [], harness := (true, "87cfb2e24f6f33087f9bfc729fbe3da8fb4d8e75bbd9e594973140bcc4e6ae54"), looks := false }, kinds := [], alts := [], laidByText := true, laidKinds := [.data, .data, .data, .data, .pinned], laidTests := true, laidLooks := .later }
def EvolveTurnsCardSaid : Prop := Claim7.holds Tryz.pinned (.plain (OpenSpec.ofChange evolveTurnsSpec)) evolveTurnsCard

/-- THE TIED CARD OF 'wireschemalaw36.EvolveTouches'. -/
def evolveTouchesCard : Claim7 := { stood := { row := evolveTouchesRow, standIns := [], harness := (true, "87cfb2e24f6f33087f9bfc729fbe3da8fb4d8e75bbd9e594973140bcc4e6ae54"), looks := false }, kinds := [], alts := [], laidByText := true, laidKinds := [.data, .data, .data, .data, .pinned], laidTests := true, laidLooks := .later }
def EvolveTouchesCardSaid : Prop := Claim7.holds Tryz.pinned (.plain (OpenSpec.ofChange evolveTouchesSpec)) evolveTouchesCard

/-- THE TIED CARD OF 'wireschemalaw36.EvolveOrders'. -/
def evolveOrdersCard : Claim7 := { stood := { row := evolveOrdersRow, standIns := [], harness := (true, "87cfb2e24f6f33087f9bfc729fbe3da8fb4d8e75bbd9e594973140bcc4e6ae54"), looks := false }, kinds := [], alts := [], laidByText := true, laidKinds := [.data, .data, .data, .data, .pinned], laidTests := true, laidLooks := .later }
def EvolveOrdersCardSaid : Prop := Claim7.holds Tryz.pinned (.plain (OpenSpec.ofChange evolveOrdersSpec)) evolveOrdersCard

/-- THE TIED CARD OF 'wireschemalaw36.EvolveSorted'. -/
def evolveSortedCard : Claim7 := { stood := { row := evolveSortedRow, standIns := [], harness := (true, "87cfb2e24f6f33087f9bfc729fbe3da8fb4d8e75bbd9e594973140bcc4e6ae54"), looks := false }, kinds := [], alts := [], laidByText := true, laidKinds := [.data, .data, .data, .data, .pinned], laidTests := true, laidLooks := .later }
def EvolveSortedCardSaid : Prop := Claim7.holds Tryz.pinned (.plain (OpenSpec.ofChange evolveSortedSpec)) evolveSortedCard

/-- THE TIED CARD OF 'wireschemalaw40.RetireHasty'. -/
def retireHastyCard : Claim7 := { stood := { row := retireHastyRow, standIns := [], harness := (true, "87cfb2e24f6f33087f9bfc729fbe3da8fb4d8e75bbd9e594973140bcc4e6ae54"), looks := false }, kinds := [], alts := [], laidByText := true, laidKinds := [.data, .data, .data, .data, .pinned], laidTests := true, laidLooks := .later }
def RetireHastyCardSaid : Prop := Claim7.holds Tryz.pinned (.plain (OpenSpec.ofChange retireHastySpec)) retireHastyCard

/-- THE SECOND FORM's CARD OF 'wireschemalaw36.EvolveCompares'. -/
def evolveComparesUptoCard : Claim7 := { stood := { row := evolveComparesUptoRow, standIns := [], harness := (true, "87cfb2e24f6f33087f9bfc729fbe3da8fb4d8e75bbd9e594973140bcc4e6ae54"), looks := false }, kinds := [], alts := [], laidByText := true, laidKinds := [.data, .data, .data, .data, .pinned], laidTests := true, laidLooks := .later }
def EvolveComparesUptoCardSaid : Prop := Claim7.holds Tryz.pinned (.plain (OpenSpec.upto evolveComparesSpec)) evolveComparesUptoCard

/-- THE SECOND FORM's CARD OF 'wireschemalaw36.EvolveLists'. -/
def evolveListsUptoCard : Claim7 := { stood := { row := evolveListsUptoRow, standIns := [], harness := (true, "87cfb2e24f6f33087f9bfc729fbe3da8fb4d8e75bbd9e594973140bcc4e6ae54"), looks := false }, kinds := [], alts := [], laidByText := true, laidKinds := [.data, .data, .data, .data, .pinned], laidTests := true, laidLooks := .later }
def EvolveListsUptoCardSaid : Prop := Claim7.holds Tryz.pinned (.plain (OpenSpec.upto evolveListsSpec)) evolveListsUptoCard

/-- THE SECOND FORM's CARD OF 'wireschemalaw36.EvolveFinds'. -/
def evolveFindsUptoCard : Claim7 := { stood := { row := evolveFindsUptoRow, standIns := [], harness := (true, "87cfb2e24f6f33087f9bfc729fbe3da8fb4d8e75bbd9e594973140bcc4e6ae54"), looks := false }, kinds := [], alts := [], laidByText := true, laidKinds := [.data, .data, .data, .data, .pinned], laidTests := true, laidLooks := .later }
def EvolveFindsUptoCardSaid : Prop := Claim7.holds Tryz.pinned (.plain (OpenSpec.upto evolveFindsSpec)) evolveFindsUptoCard

/-- THE SECOND FORM's CARD OF 'wireschemalaw36.EvolveTurns'. -/
def evolveTurnsUptoCard : Claim7 := { stood := { row := evolveTurnsUptoRow, standIns := [], harness := (true, "87cfb2e24f6f33087f9bfc729fbe3da8fb4d8e75bbd9e594973140bcc4e6ae54"), looks := false }, kinds := [], alts := [], laidByText := true, laidKinds := [.data, .data, .data, .data, .pinned], laidTests := true, laidLooks := .later }
def EvolveTurnsUptoCardSaid : Prop := Claim7.holds Tryz.pinned (.plain (OpenSpec.upto evolveTurnsSpec)) evolveTurnsUptoCard

/-- THE SECOND FORM's CARD OF 'wireschemalaw36.EvolveTouches'. -/
def evolveTouchesUptoCard : Claim7 := { stood := { row := evolveTouchesUptoRow, standIns := [], harness := (true, "87cfb2e24f6f33087f9bfc729fbe3da8fb4d8e75bbd9e594973140bcc4e6ae54"), looks := false }, kinds := [], alts := [], laidByText := true, laidKinds := [.data, .data, .data, .data, .pinned], laidTests := true, laidLooks := .later }
def EvolveTouchesUptoCardSaid : Prop := Claim7.holds Tryz.pinned (.plain (OpenSpec.upto evolveTouchesSpec)) evolveTouchesUptoCard

/-- THE SECOND FORM's CARD OF 'wireschemalaw36.EvolveOrders'. -/
def evolveOrdersUptoCard : Claim7 := { stood := { row := evolveOrdersUptoRow, standIns := [], harness := (true, "87cfb2e24f6f33087f9bfc729fbe3da8fb4d8e75bbd9e594973140bcc4e6ae54"), looks := false }, kinds := [], alts := [], laidByText := true, laidKinds := [.data, .data, .data, .data, .pinned], laidTests := true, laidLooks := .later }
def EvolveOrdersUptoCardSaid : Prop := Claim7.holds Tryz.pinned (.plain (OpenSpec.upto evolveOrdersSpec)) evolveOrdersUptoCard

/-- THE SECOND FORM's CARD OF 'wireschemalaw36.EvolveSorted'. -/
def evolveSortedUptoCard : Claim7 := { stood := { row := evolveSortedUptoRow, standIns := [], harness := (true, "87cfb2e24f6f33087f9bfc729fbe3da8fb4d8e75bbd9e594973140bcc4e6ae54"), looks := false }, kinds := [], alts := [], laidByText := true, laidKinds := [.data, .data, .data, .data, .pinned], laidTests := true, laidLooks := .later }
def EvolveSortedUptoCardSaid : Prop := Claim7.holds Tryz.pinned (.plain (OpenSpec.upto evolveSortedSpec)) evolveSortedUptoCard

/-- THE SECOND FORM's CARD OF 'wireschemalaw40.RetireHasty'. -/
def retireHastyUptoCard : Claim7 := { stood := { row := retireHastyUptoRow, standIns := [], harness := (true, "87cfb2e24f6f33087f9bfc729fbe3da8fb4d8e75bbd9e594973140bcc4e6ae54"), looks := false }, kinds := [], alts := [], laidByText := true, laidKinds := [.data, .data, .data, .data, .pinned], laidTests := true, laidLooks := .later }
def RetireHastyUptoCardSaid : Prop := Claim7.holds Tryz.pinned (.plain (OpenSpec.upto retireHastySpec)) retireHastyUptoCard
end Rows
end Go.Proofs.YthokbeimbdnnoaaGreatDoor
