/- What every law of this seat's row gives and wants beyond its own plain law. -/
import Derived.Test.YthkagpefbelhoaaDoorAbEndD
set_option linter.unusedVariables false
set_option linter.unusedSimpArgs false
set_option linter.unnecessarySimpa false
namespace Go.Proofs.YthkagpefbelhoaaDoor
open Go Go.Ab Go.ChangeShapes Go.WideShapes Go.ChangeAt Go.RowKit

theorem own : ownKnob Tryd.prog.godebug = none := by kernel_rfl
theorem laidOut : laidOutB Tryd.prog = true := by kernel_rfl
theorem gPow : Tryd.prog.globalNamed "internal/strconv.uint64pow10" = some 0 := by kernel_rfl
theorem gPowType : (Tryd.prog.globals[0]?).map (·.type) = some 116 := by kernel_rfl
theorem cellsPow : Tryd.prog.cellsOf 116 = 20 := by kernel_rfl
theorem cellsU : Tryd.prog.cellsOf 30 = 1 := by kernel_rfl
theorem tabs {W : World} (h : laidMetH Tryd.prog Rows.noteChecksUptoRow.laid W) : Tabs Tryd.prog (fun _ => none) W := by
  have h2 : laidMet Tryd.prog Rows.noteChecksUptoRow.laid W := h
  have h3 := (laidMet.tail (laidMet.tail h2))
  have h4 : Lib.TabIs Tryd.prog W "internal/strconv.uint64pow10" .u64 ((List.range 20).map fun i => ((10 ^ i : Nat) : Int)) :=
    Lib.tabIs_of_head (rest := []) gPow gPowType Tryd.underlying116 Tryd.underlying30 cellsU cellsPow h3
  intro p hp g hg
  simp only [knownTabs, List.mem_singleton] at hp
  subst hp
  obtain ⟨T, fr, hh⟩ := tab_of h4 hg
  refine ⟨rfl, _, T, fr, hh, ?_⟩
  simp
/-- The types of this seat's data. -/
def dataTypes : List TypeId := [3,4,9,22,30,31,32,33,34,36,44,135,137,139]
theorem dataTypes_plain : plainSet Tryd.prog dataTypes = true := by kernel_rfl
theorem under4 : Tryd.prog.underlying 4 = some .bool := Tryd.underlying4
end Go.Proofs.YthkagpefbelhoaaDoor
