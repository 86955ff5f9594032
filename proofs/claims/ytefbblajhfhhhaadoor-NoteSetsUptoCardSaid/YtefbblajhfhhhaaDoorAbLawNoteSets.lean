/- What every law of this seat's row gives and wants beyond its own plain law. -/
import Derived.Test.YtefbblajhfhhhaaDoorAbEndS
import Derived.Lib.TrailingZeros
set_option linter.unusedVariables false
set_option linter.unusedSimpArgs false
set_option linter.unnecessarySimpa false
namespace Go.Proofs.YtefbblajhfhhhaaDoor
open Go Go.Ab Go.ChangeShapes Go.WideShapes Go.ChangeAt Go.RowKit

theorem own : ownKnob Tryd.prog.godebug = none := by kernel_rfl
theorem laidOut : laidOutB Tryd.prog = true := by kernel_rfl
theorem gPow : Tryd.prog.globalNamed "internal/strconv.uint64pow10" = some 0 := by kernel_rfl
theorem gPowType : (Tryd.prog.globals[0]?).map (·.type) = some 106 := by kernel_rfl
theorem gDb : Tryd.prog.globalNamed "math/bits.deBruijn64tab" = some 3 := by kernel_rfl
theorem gDbType : (Tryd.prog.globals[3]?).map (·.type) = some 111 := by kernel_rfl
theorem cellsPow : Tryd.prog.cellsOf 106 = 20 := by kernel_rfl
theorem cellsDb : Tryd.prog.cellsOf 111 = 64 := by kernel_rfl
theorem cellsU : Tryd.prog.cellsOf 23 = 1 := by kernel_rfl
theorem cellsB : Tryd.prog.cellsOf 5 = 1 := by kernel_rfl
theorem tabs {W : World} (h : laidMetH Tryd.prog Rows.noteSetsUptoRow.laid W) : Tabs Tryd.prog (fun _ => none) W := by
  have h2 : laidMet Tryd.prog Rows.noteSetsUptoRow.laid W := h
  have h0 := laidMet.tail h2
  have h3 := laidMet.tail h0
  have h4 : Lib.TabIs Tryd.prog W "internal/strconv.uint64pow10" .u64 ((List.range 20).map fun i => ((10 ^ i : Nat) : Int)) :=
    Lib.tabIs_of_head gPow gPowType Tryd.underlying106 Tryd.underlying23 cellsU cellsPow h3
  have h5 : Lib.TabIs Tryd.prog W "math/bits.deBruijn64tab" .u8 (Lib.deBruijn64tab.map fun n => ((n : Nat) : Int)) :=
    Lib.tabIs_of_head gDb gDbType Tryd.underlying111 Tryd.underlying5 cellsB cellsDb h0
  intro p hp g hg
  simp only [knownTabs, List.mem_cons, List.not_mem_nil, or_false] at hp
  rcases hp with rfl | rfl
  · obtain ⟨T, fr, hh⟩ := tab_of h4 hg
    exact ⟨rfl, _, T, fr, hh, by simp⟩
  · obtain ⟨T, fr, hh⟩ := tab_of h5 hg
    exact ⟨rfl, _, T, fr, hh, by rfl⟩
/-- The types of this seat's data. -/
def dataTypes : List TypeId := [3, 9, 22, 23, 24, 25, 26, 27, 29, 31, 125, 127, 129]
theorem dataTypes_plain : plainSet Tryd.prog dataTypes = true := by kernel_rfl
theorem under4 : Tryd.prog.underlying 4 = some .bool := Tryd.underlying4
end Go.Proofs.YtefbblajhfhhhaaDoor
