/- What every law of this seat's row gives and wants beyond its own plain law. -/
import Derived.Test.YtcpkdafleaddlaaGreatDoorAbEndP
import Derived.Lib.TrailingZeros
set_option linter.unusedVariables false
set_option linter.unusedSimpArgs false
set_option linter.unnecessarySimpa false
namespace Go.Proofs.YtcpkdafleaddlaaGreatDoor
open Go Go.Ab Go.ChangeShapes Go.WideShapes Go.ChangeAt Go.RowKit
theorem own:ownKnob Tryz.prog.godebug=none:=by kernel_rfl
theorem a0s:laidOutB Tryz.prog=true:=by kernel_rfl
theorem gPow:Tryz.prog.globalNamed "internal/strconv.uint64pow10"=some 1:=by kernel_rfl
theorem a4q:(Tryz.prog.globals[1]?).map (·.type)=some 289:=by kernel_rfl
theorem gDb:Tryz.prog.globalNamed "math/bits.deBruijn64tab"=some 5:=by kernel_rfl
theorem a8c:(Tryz.prog.globals[5]?).map (·.type)=some 308:=by kernel_rfl
theorem a7d:Tryz.prog.cellsOf 289=20:=by kernel_rfl
theorem a8x:Tryz.prog.cellsOf 308=64:=by kernel_rfl
theorem a93:Tryz.prog.cellsOf 45=1:=by kernel_rfl
theorem a99:Tryz.prog.cellsOf 5=1:=by kernel_rfl
theorem tabs {W:World} (h:laidMetH Tryz.prog Rows.parseRoundTripsUptoRow.laid W):Tabs Tryz.prog (fun _=>none) W:=by
 have h2:laidMet Tryz.prog Rows.parseRoundTripsUptoRow.laid W:=h
 have h0:=laidMet.tail h2
 have h3:=laidMet.tail h0
 have h4:Lib.TabIs Tryz.prog W "internal/strconv.uint64pow10" .u64 ((List.range 20).map fun i=>((10^i:Nat):Int)):=
  Lib.tabIs_of_head gPow a4q Tryz.underlying289 Tryz.underlying45 a93 a7d h3
 have h5:Lib.TabIs Tryz.prog W "math/bits.deBruijn64tab" .u8 (Lib.deBruijn64tab.map fun n=>((n:Nat):Int)):=
  Lib.tabIs_of_head gDb a8c Tryz.underlying308 Tryz.underlying5 a99 a8x h0
 intro p hp g hg
 simp only [aio,List.mem_cons,List.not_mem_nil,or_false] at hp
 rcases hp with rfl | rfl | rfl | rfl
 ·obtain ⟨T,fr,hh⟩:=a7z h4 hg
  exact ⟨rfl,_,T,fr,hh,by simp⟩
 ·obtain ⟨T,fr,hh⟩:=a7z h5 hg
  exact ⟨rfl,_,T,fr,hh,by rfl⟩
 ·have e:Tryz.prog.globalNamed "strconv.ErrSyntax"=some 2:=by kernel_rfl
  have e2:(Tryz.prog.globals[2]?).map (·.type)=some 109:=by kernel_rfl
  obtain ⟨T,fr,t,q,hh⟩:=asu (laidMet.tail (laidMet.tail (laidMet.tail h3))) e e2 Tryz.underlying109
  rw [e] at hg;cases hg
  exact ⟨rfl,_,T,fr,hh,t,q,rfl⟩
 ·have e:Tryz.prog.globalNamed "strconv.ErrRange"=some 3:=by kernel_rfl
  have e2:(Tryz.prog.globals[3]?).map (·.type)=some 109:=by kernel_rfl
  obtain ⟨T,fr,t,q,hh⟩:=asu (laidMet.tail (laidMet.tail h3)) e e2 Tryz.underlying109
  rw [e] at hg;cases hg
  exact ⟨rfl,_,T,fr,hh,t,q,rfl⟩
def asx:List TypeId:=[9]
theorem amw:ahp Tryz.prog asx=true:=by kernel_rfl
end Go.Proofs.YtcpkdafleaddlaaGreatDoor
