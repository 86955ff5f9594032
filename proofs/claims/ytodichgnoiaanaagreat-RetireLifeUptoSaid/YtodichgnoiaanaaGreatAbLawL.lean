/- What every law of this seat's row gives and wants beyond its own plain law (no listed variable). -/
import Derived.Test.YtodichgnoiaanaaGreatAbEndZ
set_option linter.unusedVariables false
set_option linter.unusedSimpArgs false
set_option linter.unnecessarySimpa false
namespace Go.Proofs.YtodichgnoiaanaaGreat
open Go Go.Ab Go.ChangeShapes Go.WideShapes Go.ChangeAt Go.RowKit
theorem own:ownKnob Tryz.prog.godebug=none:=by kernel_rfl
theorem az1:laidOutB Tryz.prog=true:=by kernel_rfl
theorem tabs0 (W:World):Tabs Tryz.prog (fun _=>none) W:=fun p hp=>by cases hp
def aqw:List TypeId:=[3,4,9,22,24,25,35,36,37,39,40,42,46,48,57,58,59,60,61,63,65,66,68,69,70,71,73,77,114,116,118,120,134,164,166,219,241]
theorem als:ahj Tryz.prog aqw=true:=by kernel_rfl
end Go.Proofs.YtodichgnoiaanaaGreat
