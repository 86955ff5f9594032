/- Package-level variables whose contents are laid (by the seat's rows), and what they hold. -/
import Derived.WalkKit
set_option linter.unusedVariables false
set_option linter.unusedSimpArgs false
set_option linter.unnecessarySimpa false
namespace Go.Ab
open Go
def knownTabs : List (String × (Array Value → Prop)) :=
  [("internal/strconv.uint64pow10", fun cs => cs = ((List.range 20).map fun i => Value.int .u64 ((10 ^ i : Nat) : Int)).toArray)]
end Go.Ab
