/- The law EvolveSorted: what comparing gives ascends strictly, and is of definitions of one of both. -/
import Derived.Test.YtjogoleiodbfdaaGreatPRefT
set_option linter.unusedVariables false
set_option linter.unusedSimpArgs false
set_option linter.unnecessarySimpa false
namespace Go.Ab
open Go
set_option maxRecDepth 100000
end Go.Ab
namespace Go.Ab
open Go
set_option maxRecDepth 100000
section
variable {κ:Type} [BEq κ] [LawfulBEq κ] {key:PV->κ}{c:κ->κ->Int}
end
end Go.Ab
namespace Go.Ab
open Go
set_option maxRecDepth 100000
section
variable {κ:Type} [BEq κ] [LawfulBEq κ] {key:PV->κ}{c:κ->κ->Int}
end
theorem ax9 {s:PV} (hs:SOk s) (bs:aac s<=1048576):∃ v,F15 0 s=some v/\(v=true->SchemaV s):=aya hs bs
end Go.Ab
