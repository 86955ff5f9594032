/- The awake of chapter 40 runs. -/
import Derived.Test.YticdffgjgfmicaaGreatDoorAbSrt1K
set_option linter.unusedVariables false
set_option linter.unusedSimpArgs false
set_option linter.unnecessarySimpa false
namespace Go.Ab
open Go Go.Proofs
set_option maxRecDepth 100000
noncomputable def S40:RSet:={ P:=Tryz.prog,calls:=[a6i 0],ps:=[],known:=2^80,mask:=891203239646337662742444988679103239699535412898664628219918419471766934633225003280434304 ||| 2^50,own:=0,rounds:=30,fz:=λg=>Nat.beq g 50 }
theorem bhy:S40.fit=true:=by kernel_rfl
theorem bhz:avf S40 12 10=true:=by kernel_rfl
def bb4(m:Nat):Option Bool:=some true
def avu(m:Nat):CallE:=bkg 10
theorem a2z(m:Nat):(avu m).Ok Tryz.prog:=
 bfg (avg bhy (λc o=>by rw[List.mem_singleton.1 o];exact bb5 0) (λc o=>nomatch o) (bgl rfl) bhz)
end Go.Ab
