/- What every law of this seat's row gives and wants beyond its own plain law. -/
import Derived.Test.YtcpkdafleaddlaaGreatDoorAbEndP
import Derived.Lib.TrailingZeros
set_option linter.unusedVariables false
set_option linter.unusedSimpArgs false
set_option linter.unnecessarySimpa false
namespace Go.Proofs.YtcpkdafleaddlaaGreatDoor
open Go Go.Ab Go.ChangeShapes Go.WideShapes Go.ChangeAt Go.RowKit
theorem own:ownKnob Tryz.prog.godebug=none:=by kernel_rfl
theorem a1x:laidOutB Tryz.prog=true:=by kernel_rfl
theorem gPow:Tryz.prog.globalNamed "internal/strconv.uint64pow10"=some 1:=by kernel_rfl
theorem a7t:(Tryz.prog.globals[1]?).map (·.type)=some 289:=by kernel_rfl
theorem gDb:Tryz.prog.globalNamed "math/bits.deBruijn64tab"=some 5:=by kernel_rfl
theorem a9p:(Tryz.prog.globals[5]?).map (·.type)=some 308:=by kernel_rfl
theorem a6t:Tryz.prog.cellsOf 289=20:=by kernel_rfl
theorem a9d:Tryz.prog.cellsOf 308=64:=by kernel_rfl
theorem a99:Tryz.prog.cellsOf 45=1:=by kernel_rfl
theorem bay:Tryz.prog.cellsOf 5=1:=by kernel_rfl
theorem tabs {W:World} (h:laidMetH Tryz.prog Rows.parseInsideUptoRow.laid W):Tabs Tryz.prog (fun _=>none) W:=by
 have h2:laidMet Tryz.prog Rows.parseInsideUptoRow.laid W:=h
 have h0:=laidMet.tail h2
 have h3:=laidMet.tail h0
 have h4:Lib.TabIs Tryz.prog W "internal/strconv.uint64pow10" .u64 ((List.range 20).map fun i=>((10^i:Nat):Int)):=
  Lib.tabIs_of_head gPow a7t Tryz.underlying289 Tryz.underlying45 a99 a6t h3
 have h5:Lib.TabIs Tryz.prog W "math/bits.deBruijn64tab" .u8 (Lib.deBruijn64tab.map fun n=>((n:Nat):Int)):=
  Lib.tabIs_of_head gDb a9p Tryz.underlying308 Tryz.underlying5 bay a9d h0
 intro p hp g hg
 simp only [ajs,List.mem_cons,List.not_mem_nil,or_false] at hp
 rcases hp with rfl | rfl | rfl | rfl
 ·obtain ⟨T,fr,hh⟩:=a7w h4 hg
  exact ⟨rfl,_,T,fr,hh,by simp⟩
 ·obtain ⟨T,fr,hh⟩:=a7w h5 hg
  exact ⟨rfl,_,T,fr,hh,by rfl⟩
 ·have e:Tryz.prog.globalNamed "strconv.ErrSyntax"=some 2:=by kernel_rfl
  have e2:(Tryz.prog.globals[2]?).map (·.type)=some 109:=by kernel_rfl
  obtain ⟨T,fr,t,q,hh⟩:=ass (laidMet.tail (laidMet.tail (laidMet.tail h3))) e e2 Tryz.underlying109
  rw [e] at hg;cases hg
  exact ⟨rfl,_,T,fr,hh,t,q,rfl⟩
 ·have e:Tryz.prog.globalNamed "strconv.ErrRange"=some 3:=by kernel_rfl
  have e2:(Tryz.prog.globals[3]?).map (·.type)=some 109:=by kernel_rfl
  obtain ⟨T,fr,t,q,hh⟩:=ass (laidMet.tail (laidMet.tail h3)) e e2 Tryz.underlying109
  rw [e] at hg;cases hg
  exact ⟨rfl,_,T,fr,hh,t,q,rfl⟩
def atf:List TypeId:=[9]
theorem al8:aht Tryz.prog atf=true:=by kernel_rfl
end Go.Proofs.YtcpkdafleaddlaaGreatDoor
