/- What the library's contracts lean on. -/
import Derived.Test.YtodichgnoiaanaaGreatAbLoop
import Derived.Test.YtodichgnoiaanaaGreatTryzShelf
import Derived.Test.YtodichgnoiaanaaGreatAbSpl
import Derived.Lib.Strings
set_option linter.unusedVariables false
set_option linter.unusedSimpArgs false
set_option linter.unnecessarySimpa false

