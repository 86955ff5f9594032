/- What every law of this seat's row gives and wants beyond its own plain law. -/
import Derived.Test.YtcpkdafleaddlaaGreatDoorAbEndP
import Derived.Lib.TrailingZeros
set_option linter.unusedVariables false
set_option linter.unusedSimpArgs false
set_option linter.unnecessarySimpa false
namespace Go.Proofs.YtcpkdafleaddlaaGreatDoor
open Go Go.Ab Go.ChangeShapes Go.WideShapes Go.ChangeAt Go.RowKit
theorem own:ownKnob Tryz.prog.godebug=none:=by kernel_rfl
theorem a4z:laidOutB Tryz.prog=true:=by kernel_rfl
theorem gPow:Tryz.prog.globalNamed "internal/strconv.uint64pow10"=some 1:=by kernel_rfl
theorem a8x:(Tryz.prog.globals[1]?).map (·.type)=some 289:=by kernel_rfl
theorem gDb:Tryz.prog.globalNamed "math/bits.deBruijn64tab"=some 5:=by kernel_rfl
theorem bci:(Tryz.prog.globals[5]?).map (·.type)=some 308:=by kernel_rfl
theorem a8e:Tryz.prog.cellsOf 289=20:=by kernel_rfl
theorem bb9:Tryz.prog.cellsOf 308=64:=by kernel_rfl
theorem bd2:Tryz.prog.cellsOf 45=1:=by kernel_rfl
theorem bd1:Tryz.prog.cellsOf 5=1:=by kernel_rfl
theorem tabs {W:World} (h:laidMetH Tryz.prog Rows.parseFilesUptoRow.laid W):Tabs Tryz.prog (λ_=>none) W:=by
 have U:laidMet Tryz.prog Rows.parseFilesUptoRow.laid W:=h;have M:=laidMet.tail U;have H:=laidMet.tail M;have V:Lib.TabIs Tryz.prog W "internal/strconv.uint64pow10" .u64 ((List.range 20).map λi=>((10^i:Nat):Int)):=
  Lib.tabIs_of_head gPow a8x Tryz.underlying289 Tryz.underlying45 bd2 a8e H
 have X:Lib.TabIs Tryz.prog W "math/bits.deBruijn64tab" .u8 (Lib.deBruijn64tab.map λn=>((n:Nat):Int)):=
  Lib.tabIs_of_head gDb bci Tryz.underlying308 Tryz.underlying5 bd1 bb9 M
 intro p O g o;simp only [akm,Bl,List.not_mem_nil,or_false] at O;rcases O with rfl | rfl | rfl | rfl
 ·obtain ⟨T,d,m⟩:=bbv V o;exact ⟨rfl,_,T,d,m,by simp⟩
 ·obtain ⟨T,d,m⟩:=bbv X o;exact ⟨rfl,_,T,d,m,by rfl⟩
 ·have e:Tryz.prog.globalNamed "strconv.ErrSyntax"=some 2:=by kernel_rfl
  have z:(Tryz.prog.globals[2]?).map (·.type)=some 109:=by kernel_rfl
  obtain ⟨T,d,t,q,m⟩:=avo (laidMet.tail (laidMet.tail (laidMet.tail H))) e z Tryz.underlying109;rw [e] at o;cases o;exact ⟨rfl,_,T,d,m,t,q,rfl⟩
 ·have e:Tryz.prog.globalNamed "strconv.ErrRange"=some 3:=by kernel_rfl
  have z:(Tryz.prog.globals[3]?).map (·.type)=some 109:=by kernel_rfl
  obtain ⟨T,d,t,q,m⟩:=avo (laidMet.tail (laidMet.tail H)) e z Tryz.underlying109;rw [e] at o;cases o;exact ⟨rfl,_,T,d,m,t,q,rfl⟩
def at3:List TypeId:=[9]
theorem ant:ai0 Tryz.prog at3=true:=by kernel_rfl
end Go.Proofs.YtcpkdafleaddlaaGreatDoor
