/- What every law of this seat's row gives and wants beyond its own plain law. -/
import Derived.Test.YthokbeimbdnnoaaGreatDoorAbEndE
import Derived.Lib.TrailingZeros
import Derived.Sort.Row
set_option linter.unusedVariables false
set_option linter.unusedSimpArgs false
set_option linter.unnecessarySimpa false
namespace Go.Proofs.YthokbeimbdnnoaaGreatDoor
open Go Go.Ab Go.ChangeShapes Go.WideShapes Go.ChangeAt Go.RowKit
theorem own:ownKnob Tryz.prog.godebug=none:=by kernel_rfl
theorem ayw:laidOutB Tryz.prog=true:=by kernel_rfl
theorem gPow:Tryz.prog.globalNamed "internal/strconv.uint64pow10"=some 1:=by kernel_rfl
theorem a1j:(Tryz.prog.globals[1]?).map (·.type)=some 302:=by kernel_rfl
theorem gDb:Tryz.prog.globalNamed "math/bits.deBruijn64tab"=some 3:=by kernel_rfl
theorem a5l:(Tryz.prog.globals[3]?).map (·.type)=some 327:=by kernel_rfl
theorem gMax:Tryz.prog.globalNamed "internal/bytealg.MaxLen"=some 0:=by kernel_rfl
theorem a01:Tryz.prog.cellsOf 302=20:=by kernel_rfl
theorem a5b:Tryz.prog.cellsOf 327=64:=by kernel_rfl
theorem a7g:Tryz.prog.cellsOf 50=1:=by kernel_rfl
theorem a7f:Tryz.prog.cellsOf 5=1:=by kernel_rfl
theorem a7y {W:World} (I:W.ShapedOpen Tryz.prog):∃ cs T h,W.heap[0]?=some (.cells cs T h)/\∃ m,cs[0]?=some (.int .i64 m):=by obtain ⟨m,H⟩:∃ m,W.cell? ⟨0,0,none⟩=some (.int .i64 m):=Go.Proofs.cell_of_shapedOpen_int (zero:=#[.int .i64 0]) (t:=3) I (of_decide_eq_true (by kernel_rfl)) (by kernel_rfl) rfl (by kernel_rfl) (by kernel_rfl) Tryz.underlying3;obtain ⟨cs,T,h,o,z⟩:=Sort.cells_of_cell? H;exact ⟨cs,T,h,o,m,z⟩
theorem tabs {W:World} (h:laidMetH Tryz.prog Rows.evolveComparesUptoRow.laid W) (hs:W.ShapedOpen Tryz.prog):Tabs Tryz.prog (λ_=>none) W:=by
 have M:laidMet Tryz.prog Rows.evolveComparesUptoRow.laid W:=h;have I:=laidMet.tail M;have O:=laidMet.tail I;have Z:Lib.TabIs Tryz.prog W "internal/strconv.uint64pow10" .u64 ((List.range 20).map λi=>((10^i:Nat):Int)):=
  Lib.tabIs_of_head gPow a1j Tryz.underlying302 Tryz.underlying50 a7g a01 O
 have h5:Lib.TabIs Tryz.prog W "math/bits.deBruijn64tab" .u8 (Lib.deBruijn64tab.map λn=>((n:Nat):Int)):=
  Lib.tabIs_of_head gDb a5l Tryz.underlying327 Tryz.underlying5 a7f a5b I
 intro p J g H;simp only [aly,Bl,List.not_mem_nil,or_false] at J;rcases J with rfl | rfl | rfl
 ·obtain ⟨T,o,z⟩:=a4m Z H;exact ⟨rfl,_,T,o,z,by simp⟩
 ·obtain ⟨T,o,z⟩:=a4m h5 H;exact ⟨rfl,_,T,o,z,by rfl⟩
 ·obtain ⟨cs,T,o,z,hm⟩:=a7y hs;have e:=gMax.symm.trans H;cases e;exact ⟨rfl,cs,T,o,z,hm⟩
def aqd:List TypeId:=[3,4,9,22,23,24,26,40,49,50,51,52,53,54,56,57,59,60,61,63,71,73,76,78,103,105,114,118,235,285,360]
theorem alk:ahq Tryz.prog aqd=true:=by kernel_rfl
end Go.Proofs.YthokbeimbdnnoaaGreatDoor
