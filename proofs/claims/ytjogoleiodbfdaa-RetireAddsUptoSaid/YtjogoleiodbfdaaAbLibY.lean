/- What the library's contracts lean on. -/
import Derived.Test.YtjogoleiodbfdaaAbLoop
import Derived.Test.YtjogoleiodbfdaaTryShelf
import Derived.Lib.Strings
set_option linter.unusedVariables false
set_option linter.unusedSimpArgs false
set_option linter.unnecessarySimpa false

