/- A struct of two numbers and two rows of hashes that came in. -/
import Derived.Test.YtikgpfhjhfpmbaaFLaidAll
set_option linter.unusedVariables false
set_option linter.unusedSimpArgs false
set_option maxRecDepth 8192
namespace Go.F
open Go Go.RowKit Go.ChangeShapes Go.WideShapes Go.Deep
end Go.F
