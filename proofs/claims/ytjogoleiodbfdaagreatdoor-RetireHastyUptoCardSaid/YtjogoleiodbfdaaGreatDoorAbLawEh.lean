/- What every law of this seat's row gives and wants beyond its own plain law. -/
import Derived.Test.YtjogoleiodbfdaaGreatDoorAbEndE
import Derived.Lib.TrailingZeros
import Derived.Sort.Row
set_option linter.unusedVariables false
set_option linter.unusedSimpArgs false
set_option linter.unnecessarySimpa false
namespace Go.Proofs.YtjogoleiodbfdaaGreatDoor
open Go Go.Ab Go.ChangeShapes Go.WideShapes Go.ChangeAt Go.RowKit
theorem own:ownKnob Tryz.prog.godebug=none:=by kernel_rfl
theorem a0x:laidOutB Tryz.prog=true:=by kernel_rfl
theorem gPow:Tryz.prog.globalNamed "internal/strconv.uint64pow10"=some 1:=by kernel_rfl
theorem a4e:(Tryz.prog.globals[1]?).map (·.type)=some 295:=by kernel_rfl
theorem gDb:Tryz.prog.globalNamed "math/bits.deBruijn64tab"=some 5:=by kernel_rfl
theorem a8g:(Tryz.prog.globals[5]?).map (·.type)=some 303:=by kernel_rfl
theorem gMax:Tryz.prog.globalNamed "internal/bytealg.MaxLen"=some 0:=by kernel_rfl
theorem a3p:Tryz.prog.cellsOf 295=20:=by kernel_rfl
theorem a7t:Tryz.prog.cellsOf 303=64:=by kernel_rfl
theorem a98:Tryz.prog.cellsOf 39=1:=by kernel_rfl
theorem a97:Tryz.prog.cellsOf 5=1:=by kernel_rfl
theorem baw {W:World} (J:W.ShapedOpen Tryz.prog):∃ cs T h,W.heap[0]?=some (.cells cs T h)/\∃ m,cs[0]?=some (.int .i64 m):=by obtain ⟨m,I⟩:∃ m,W.cell? ⟨0,0,none⟩=some (.int .i64 m):=Go.Proofs.cell_of_shapedOpen_int (zero:=#[.int .i64 0]) (t:=3) J (of_decide_eq_true (by kernel_rfl)) (by kernel_rfl) rfl (by kernel_rfl) (by kernel_rfl) Tryz.underlying3;obtain ⟨cs,T,h,o,H⟩:=Sort.cells_of_cell? I;exact ⟨cs,T,h,o,m,H⟩
theorem tabs {W:World} (h:laidMetH Tryz.prog Rows.retireHastyUptoRow.laid W) (hs:W.ShapedOpen Tryz.prog):Tabs Tryz.prog (λ_=>none) W:=by
 have O:laidMet Tryz.prog Rows.retireHastyUptoRow.laid W:=h;have J:=laidMet.tail O;have Z:=laidMet.tail J;have h4:Lib.TabIs Tryz.prog W "internal/strconv.uint64pow10" .u64 ((List.range 20).map λi=>((10^i:Nat):Int)):=
  Lib.tabIs_of_head gPow a4e Tryz.underlying295 Tryz.underlying39 a98 a3p Z
 have h5:Lib.TabIs Tryz.prog W "math/bits.deBruijn64tab" .u8 (Lib.deBruijn64tab.map λn=>((n:Nat):Int)):=
  Lib.tabIs_of_head gDb a8g Tryz.underlying303 Tryz.underlying5 a97 a7t J
 intro p M g I;simp only [amv,Bn,List.not_mem_nil,or_false] at M;rcases M with rfl | rfl | rfl
 ·obtain ⟨T,o,H⟩:=a7c h4 I;exact ⟨rfl,_,T,o,H,by simp⟩
 ·obtain ⟨T,o,H⟩:=a7c h5 I;exact ⟨rfl,_,T,o,H,by rfl⟩
 ·obtain ⟨cs,T,o,H,hm⟩:=baw hs;have e:=gMax.symm.trans I;cases e;exact ⟨rfl,cs,T,o,H,hm⟩
def arh:List TypeId:=[3,4,9,22,23,24,26,38,39,40,41,42,43,45,47,48,50,51,52,53,55,59,83,85,88,90,98,102,193,210,317]
theorem amg:ah8 Tryz.prog arh=true:=by kernel_rfl
end Go.Proofs.YtjogoleiodbfdaaGreatDoor
