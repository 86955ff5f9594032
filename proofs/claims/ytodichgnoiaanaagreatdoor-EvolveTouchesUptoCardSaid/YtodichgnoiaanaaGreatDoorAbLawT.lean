/- What every law of this seat's row gives and wants beyond its own plain law. -/
import Derived.Test.YtodichgnoiaanaaGreatDoorAbEndE
import Derived.Lib.TrailingZeros
import Derived.Sort.Row
set_option linter.unusedVariables false
set_option linter.unusedSimpArgs false
set_option linter.unnecessarySimpa false
namespace Go.Proofs.YtodichgnoiaanaaGreatDoor
open Go Go.Ab Go.ChangeShapes Go.WideShapes Go.ChangeAt Go.RowKit
theorem own:ownKnob Tryz.prog.godebug=none:=by kernel_rfl
theorem a4i:laidOutB Tryz.prog=true:=by kernel_rfl
theorem gPow:Tryz.prog.globalNamed "internal/strconv.uint64pow10"=some 1:=by kernel_rfl
theorem a8i:(Tryz.prog.globals[1]?).map (·.type)=some 238:=by kernel_rfl
theorem gDb:Tryz.prog.globalNamed "math/bits.deBruijn64tab"=some 3:=by kernel_rfl
theorem bb7:(Tryz.prog.globals[3]?).map (·.type)=some 247:=by kernel_rfl
theorem gMax:Tryz.prog.globalNamed "internal/bytealg.MaxLen"=some 0:=by kernel_rfl
theorem a7r:Tryz.prog.cellsOf 238=20:=by kernel_rfl
theorem bbx:Tryz.prog.cellsOf 247=64:=by kernel_rfl
theorem bdm:Tryz.prog.cellsOf 36=1:=by kernel_rfl
theorem bdl:Tryz.prog.cellsOf 5=1:=by kernel_rfl
theorem bd8 {W:World} (o:W.ShapedOpen Tryz.prog):∃ cs T h,W.heap[0]?=some (.cells cs T h)/\∃ m,cs[0]?=some (.int .i64 m):=by obtain ⟨m,z⟩:∃ m,W.cell? ⟨0,0,none⟩=some (.int .i64 m):=Go.Proofs.cell_of_shapedOpen_int (zero:=#[.int .i64 0]) (t:=3) o (of_decide_eq_true (by kernel_rfl)) (by kernel_rfl) rfl (by kernel_rfl) (by kernel_rfl) Tryz.underlying3;grind [Sort.cells_of_cell?]
theorem tabs {W:World} (h:laidMetH Tryz.prog Rows.evolveTouchesUptoRow.laid W) (hs:W.ShapedOpen Tryz.prog):Tabs Tryz.prog (λ_=>none) W:=by
 have M:laidMet Tryz.prog Rows.evolveTouchesUptoRow.laid W:=h;have I:=laidMet.tail M;have O:=laidMet.tail I;have Z:Lib.TabIs Tryz.prog W "internal/strconv.uint64pow10" .u64 ((List.range 20).map λi=>((10^i:Nat):Int)):=
  Lib.tabIs_of_head gPow a8i Tryz.underlying238 Tryz.underlying36 bdm a7r O
 have h5:Lib.TabIs Tryz.prog W "math/bits.deBruijn64tab" .u8 (Lib.deBruijn64tab.map λn=>((n:Nat):Int)):=
  Lib.tabIs_of_head gDb bb7 Tryz.underlying247 Tryz.underlying5 bdl bbx I
 intro p J g z;simp only [an9,List.mem_cons,List.not_mem_nil,or_false] at J;rcases J with rfl | rfl | rfl
 ·obtain ⟨T,o,H⟩:=bbj Z z;grind
 ·obtain ⟨T,o,H⟩:=bbj h5 z;exact ⟨rfl,_,T,o,H,by rfl⟩
 ·obtain ⟨cs,T,o,H,hm⟩:=bd8 hs;have e:=gMax.symm.trans z;grind
def ati:List TypeId:=[3,4,9,22,23,24,26,29,35,36,37,38,39,40,42,43,45,46,47,49,70,72,74,76,131,133,181,213,279,281,283]
theorem anu:ait Tryz.prog ati=true:=by kernel_rfl
end Go.Proofs.YtodichgnoiaanaaGreatDoor
