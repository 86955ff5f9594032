/- What every law of this seat's row gives and wants beyond its own plain law (no listed variable). -/
import Derived.Test.YtjogoleiodbfdaaGreatAbEndZ
set_option linter.unusedVariables false
set_option linter.unusedSimpArgs false
set_option linter.unnecessarySimpa false
namespace Go.Proofs.YtjogoleiodbfdaaGreat
open Go Go.Ab Go.ChangeShapes Go.WideShapes Go.ChangeAt Go.RowKit
theorem own:ownKnob Tryz.prog.godebug=none:=by kernel_rfl
theorem aw1:laidOutB Tryz.prog=true:=by kernel_rfl
theorem tabs0 (W:World):Tabs Tryz.prog (fun _=>none) W:=fun p hp=>by cases hp
def ao5:List TypeId:=[3,4,9,22,23,24,26,27,28,29,30,31,33,44,45,46,47,48,50,52,56,58,60,64,66,76,121,123,129,161,186]
theorem akn:agv Tryz.prog ao5=true:=by kernel_rfl
end Go.Proofs.YtjogoleiodbfdaaGreat
