/- What every law of this seat's row gives and wants beyond its own plain law. -/
import Derived.Test.YtcpkdafleaddlaaGreatDoorAbEndP
import Derived.Lib.TrailingZeros
set_option linter.unusedVariables false
set_option linter.unusedSimpArgs false
set_option linter.unnecessarySimpa false
namespace Go.Proofs.YtcpkdafleaddlaaGreatDoor
open Go Go.Ab Go.ChangeShapes Go.WideShapes Go.ChangeAt Go.RowKit
theorem own:ownKnob Tryz.prog.godebug=none:=by kernel_rfl
theorem bb9:laidOutB Tryz.prog=true:=by kernel_rfl
theorem gPow:Tryz.prog.globalNamed "internal/strconv.uint64pow10"=some 1:=by kernel_rfl
theorem bf5:(Tryz.prog.globals[1]?).map (·.type)=some 289:=by kernel_rfl
theorem gDb:Tryz.prog.globalNamed "math/bits.deBruijn64tab"=some 5:=by kernel_rfl
theorem bk0:(Tryz.prog.globals[5]?).map (·.type)=some 308:=by kernel_rfl
theorem bfi:Tryz.prog.cellsOf 289=20:=by kernel_rfl
theorem bkd:Tryz.prog.cellsOf 308=64:=by kernel_rfl
theorem bnn:Tryz.prog.cellsOf 45=1:=by kernel_rfl
theorem bnm:Tryz.prog.cellsOf 5=1:=by kernel_rfl
theorem tabs {W:World} (h:laidMetH Tryz.prog Rows.formatReprintsUptoRow.laid W):Tabs Tryz.prog (λ_=>none) W:=by
 have U:laidMet Tryz.prog Rows.formatReprintsUptoRow.laid W:=h;have M:=laidMet.tail U;have H:=laidMet.tail M;have V:Lib.TabIs Tryz.prog W "internal/strconv.uint64pow10" .u64 ((List.range 20).map λi=>((10^i:Nat):Int)):=
  Lib.tabIs_of_head gPow bf5 Tryz.underlying289 Tryz.underlying45 bnn bfi H
 have X:Lib.TabIs Tryz.prog W "math/bits.deBruijn64tab" .u8 (Lib.deBruijn64tab.map λn=>((n:Nat):Int)):=
  Lib.tabIs_of_head gDb bk0 Tryz.underlying308 Tryz.underlying5 bnm bkd M
 intro p O g o;simp only [ame,Bl,List.not_mem_nil,or_false] at O;rcases O with rfl | rfl | rfl | rfl
 ·obtain ⟨T,d,m⟩:=bjz V o;exact ⟨rfl,_,T,d,m,by simp⟩
 ·obtain ⟨T,d,m⟩:=bjz X o;exact ⟨rfl,_,T,d,m,by rfl⟩
 ·have e:Tryz.prog.globalNamed "strconv.ErrSyntax"=some 2:=by kernel_rfl
  have z:(Tryz.prog.globals[2]?).map (·.type)=some 109:=by kernel_rfl
  obtain ⟨T,d,t,q,m⟩:=azl (laidMet.tail (laidMet.tail (laidMet.tail H))) e z Tryz.underlying109;rw [e] at o;cases o;exact ⟨rfl,_,T,d,m,t,q,rfl⟩
 ·have e:Tryz.prog.globalNamed "strconv.ErrRange"=some 3:=by kernel_rfl
  have z:(Tryz.prog.globals[3]?).map (·.type)=some 109:=by kernel_rfl
  obtain ⟨T,d,t,q,m⟩:=azl (laidMet.tail (laidMet.tail H)) e z Tryz.underlying109;rw [e] at o;cases o;exact ⟨rfl,_,T,d,m,t,q,rfl⟩
def axo:List TypeId:=[9]
theorem aqv:akh Tryz.prog axo=true:=by kernel_rfl
end Go.Proofs.YtcpkdafleaddlaaGreatDoor
