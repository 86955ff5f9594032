/- The pieces of a text between the places of a byte. -/
import Derived.Test.YtjogoleiodbfdaaGreatAbPlain
import Derived.Lib.IndexMore
set_option linter.unusedVariables false
set_option linter.unusedSimpArgs false
set_option linter.unnecessarySimpa false
namespace Go.Ab
open Go
def abf (c:UInt8):List UInt8->List (List UInt8)
 | []=>[[]]
 | b::r=>bif b==c then []::abf c r else match abf c r with | x::q=>(b::x)::q | []=>[[b]]
theorem air (c:UInt8):∀ s,abf c s≠[]:=by
 intro s
 cases s with
 | nil=>simp [abf]
 | cons b r=>
  simp only [abf]
  cases (b==c)
  ·simp only [cond_false];split<;>simp
  ·simp
end Go.Ab
