/- A function that runs its argument and hands back what it panics with. -/
import Derived.Test.YtcpkdafleaddlaaGreatDoorAbLoop
import Derived.Test.YtcpkdafleaddlaaGreatDoorAbPrsP
import Derived.Tactics
import Derived.Tactics2
import Derived.Defers
import Derived.Recover
set_option linter.unusedVariables false
set_option linter.unusedSimpArgs false
set_option linter.unnecessarySimpa false
namespace Go.Ab
open Go Go.Proofs
section
variable {P:Program} {D:Dom} {ow:Own} {μ:Nat→Nat} {st:List BX} {w w':World}
end
structure ButOne (c:Nat) (w w':World):Prop where
 os:w'.os=w.os
 tape:w'.tape=w.tape
 output:w'.output=w.output
 size:w'.heap.size=w.heap.size
 blk:∀ b,b≠c→w'.heap[b]?=w.heap[b]?
theorem ButOne.cell (c o:Nat) (w:World) (v:Value):ButOne c w (w.setCell ⟨c,o,none⟩ v):=⟨rfl,rfl,rfl,by simp [World.setCell],fun b hb=>RowKit.Below.heap_setCell w _ v b hb⟩
theorem ButOne.row (c:Nat) (w:World) (cs:Array Value):ButOne c w (w.setRow c cs):=⟨rfl,rfl,rfl,by simp [World.setRow],fun b hb=>setRow_other w c b cs hb⟩
theorem ButOne.trans {c:Nat} {w w' w'':World} (h:ButOne c w w') (k:ButOne c w' w''):ButOne c w w'':=
 ⟨k.os.trans h.os,k.tape.trans h.tape,k.output.trans h.output,k.size.trans h.size,fun b hb=>(k.blk b hb).trans (h.blk b hb)⟩
section
variable {D:Dom} {ow:Own} {μ:Nat→Nat} {st:List BX} {w:World}
end
end Go.Ab
