/- Changes are sorted: two sorted parts are merged in place. -/
import Derived.Test.YtjogoleiodbfdaaGreatPOrdT
set_option linter.unusedVariables false
set_option linter.unusedSimpArgs false
set_option linter.unnecessarySimpa false
namespace Go.Ab
open Go
set_option maxRecDepth 100000
end Go.Ab
namespace Go.Ab
open Go
set_option maxRecDepth 100000
end Go.Ab
