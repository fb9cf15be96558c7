/- The helps of the statements: Lend, Intact, Copy. -/
import Derived.Test.YtikgpfhjhfpmbaaShaE
import Derived.Test.YtikgpfhjhfpmbaaFRest
set_option linter.unusedVariables false
set_option linter.unusedSimpArgs false
set_option maxRecDepth 8192
namespace Go.Proofs.Ytikgpfhjhfpmbaa
open Go Go.F Go.RowKit

end Go.Proofs.Ytikgpfhjhfpmbaa
