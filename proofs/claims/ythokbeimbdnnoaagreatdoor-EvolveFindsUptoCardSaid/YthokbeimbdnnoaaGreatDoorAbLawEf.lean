/- What every law of this seat's row gives and wants beyond its own plain law. -/
import Derived.Test.YthokbeimbdnnoaaGreatDoorAbEndE
import Derived.Test.YthokbeimbdnnoaaGreatDoorTryzShelf
import Derived.Lib.TrailingZeros
import Derived.Sort.Row
set_option linter.unusedVariables false
set_option linter.unusedSimpArgs false
set_option linter.unnecessarySimpa false
namespace Go.Proofs.YthokbeimbdnnoaaGreatDoor
open Go Go.Ab Go.ChangeShapes Go.WideShapes Go.ChangeAt Go.RowKit
theorem own:ownKnob Tryz.prog.godebug=none:=by kernel_rfl
theorem axn:laidOutB Tryz.prog=true:=by kernel_rfl
theorem gPow:Tryz.prog.globalNamed "internal/strconv.uint64pow10"=some 1:=by kernel_rfl
theorem az6:(Tryz.prog.globals[1]?).map (·.type)=some 302:=by kernel_rfl
theorem gDb:Tryz.prog.globalNamed "math/bits.deBruijn64tab"=some 3:=by kernel_rfl
theorem a2x:(Tryz.prog.globals[3]?).map (·.type)=some 327:=by kernel_rfl
theorem gMax:Tryz.prog.globalNamed "internal/bytealg.MaxLen"=some 0:=by kernel_rfl
theorem azs:Tryz.prog.cellsOf 302=20:=by kernel_rfl
theorem a2p:Tryz.prog.cellsOf 327=64:=by kernel_rfl
theorem a4r:Tryz.prog.cellsOf 50=1:=by kernel_rfl
theorem a4q:Tryz.prog.cellsOf 5=1:=by kernel_rfl
theorem a5k {W:World} (hs:W.ShapedOpen Tryz.prog):∃ cs T fr,W.heap[0]?=some (.cells cs T fr)/\∃ m,cs[0]?=some (.int .i64 m):=by
 obtain ⟨m,hm⟩:∃ m,W.cell? ⟨0,0,none⟩=some (.int .i64 m):=Go.Proofs.cell_of_shapedOpen_int (zero:=#[.int .i64 0]) (t:=3) hs (of_decide_eq_true (by kernel_rfl)) (by kernel_rfl) rfl (by kernel_rfl) (by kernel_rfl) Tryz.underlying3
 obtain ⟨cs,T,fr,h1,h2⟩:=Sort.cells_of_cell? hm
 exact ⟨cs,T,fr,h1,m,h2⟩
theorem tabs {W:World} (h:laidMetH Tryz.prog Rows.evolveFindsUptoRow.laid W) (hs:W.ShapedOpen Tryz.prog):Tabs Tryz.prog (fun _=>none) W:=by
 have h2:laidMet Tryz.prog Rows.evolveFindsUptoRow.laid W:=h
 have h0:=laidMet.tail h2
 have h3:=laidMet.tail h0
 have h4:Lib.TabIs Tryz.prog W "internal/strconv.uint64pow10" .u64 ((List.range 20).map fun i=>((10^i:Nat):Int)):=
  Lib.tabIs_of_head gPow az6 Tryz.underlying302 Tryz.underlying50 a4r azs h3
 have h5:Lib.TabIs Tryz.prog W "math/bits.deBruijn64tab" .u8 (Lib.deBruijn64tab.map fun n=>((n:Nat):Int)):=
  Lib.tabIs_of_head gDb a2x Tryz.underlying327 Tryz.underlying5 a4q a2p h0
 intro p hp g hg
 simp only [alb,List.mem_cons,List.not_mem_nil,or_false] at hp
 rcases hp with rfl | rfl | rfl
 ·obtain ⟨T,fr,hh⟩:=a2d h4 hg
  exact ⟨rfl,_,T,fr,hh,by simp⟩
 ·obtain ⟨T,fr,hh⟩:=a2d h5 hg
  exact ⟨rfl,_,T,fr,hh,by rfl⟩
 ·obtain ⟨cs,T,fr,hh,hm⟩:=a5k hs
  have e:=gMax.symm.trans hg
  cases e
  exact ⟨rfl,cs,T,fr,hh,hm⟩
def ao6:List TypeId:=[3,4,9,22,23,24,26,40,49,50,51,52,53,54,56,57,59,60,61,63,71,73,76,78,103,105,114,118,235,285,360]
theorem ak0:aha Tryz.prog ao6=true:=by kernel_rfl
end Go.Proofs.YthokbeimbdnnoaaGreatDoor
