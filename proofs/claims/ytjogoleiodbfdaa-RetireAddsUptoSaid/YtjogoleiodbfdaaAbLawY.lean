/- What every law of this seat's row gives and wants beyond its own plain law (no listed variable). -/
import Derived.Test.YtjogoleiodbfdaaAbEndY
set_option linter.unusedVariables false
set_option linter.unusedSimpArgs false
set_option linter.unnecessarySimpa false
namespace Go.Proofs.Ytjogoleiodbfdaa
open Go Go.Ab Go.ChangeShapes Go.WideShapes Go.ChangeAt Go.RowKit

theorem own : ownKnob Try.prog.godebug = none := by kernel_rfl
theorem laidOut : laidOutB Try.prog = true := by kernel_rfl
theorem tabs0 (W : World) : Tabs Try.prog (fun _ => none) W := fun p hp => by cases hp
/-- The types of this seat's data. -/
def dataTypes : List TypeId := [3, 9, 22, 28]
theorem dataTypes_plain : plainSet Try.prog dataTypes = true := by kernel_rfl
end Go.Proofs.Ytjogoleiodbfdaa
