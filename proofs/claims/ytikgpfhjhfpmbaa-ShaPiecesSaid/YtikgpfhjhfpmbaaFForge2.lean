/- Building a forge, a cell at a time. -/
import Derived.Test.YtikgpfhjhfpmbaaFForge
set_option linter.unusedVariables false
set_option linter.unusedSimpArgs false
set_option maxRecDepth 8192
namespace Go.F
open Go Go.RowKit
end Go.F
