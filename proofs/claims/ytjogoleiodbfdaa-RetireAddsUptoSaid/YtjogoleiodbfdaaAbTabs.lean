/- Package-level variables whose contents are laid (by the seat's rows): none. -/
import Derived.WalkKit
set_option linter.unusedVariables false
set_option linter.unusedSimpArgs false
set_option linter.unnecessarySimpa false
namespace Go.Ab
open Go
def knownTabs : List (String × (Array Value → Prop)) := []
end Go.Ab
