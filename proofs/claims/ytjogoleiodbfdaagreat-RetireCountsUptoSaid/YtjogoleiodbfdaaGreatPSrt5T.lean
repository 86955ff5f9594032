/- Changes are sorted: the whole sort. -/
import Derived.Test.YtjogoleiodbfdaaGreatPSrt3T
set_option linter.unusedVariables false
set_option linter.unusedSimpArgs false
set_option linter.unnecessarySimpa false
namespace Go.Ab
open Go
set_option maxRecDepth 100000
inductive Ch (s:Nat):List PV->Prop
 | last {S:List PV}:S.length<=s->Srt S->Ch s S
 | cons {S R:List PV}:S.length=s->Srt S->Ch s R->Ch s (S++R)
theorem Ch.split {s:Nat}{R:List PV} (h:Ch s R) (hs:s<=R.length):∃ S R2,R=S++R2/\S.length=s/\Srt S/\Ch s R2:=by
 cases h with
 | last h1 h2=>exact ⟨R,[],by simp,by omega,h2,.last (by simp) List.Pairwise.nil⟩
 | cons h1 h2 h3=>exact ⟨_,_,rfl,h1,h2,h3⟩
end Go.Ab
namespace Go.Ab
open Go
set_option maxRecDepth 100000
end Go.Ab
