/- Special methods as steps: attempts. -/
import Derived.Test.YtdekjkgfohlmgaaGreatDoorA1
namespace Go.Ab
set_option linter.unusedVariables false
set_option linter.unusedSimpArgs false
end Go.Ab
