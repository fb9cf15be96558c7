/- Rows and roots: the document's. -/
import Derived.Test.YtmjmjjkigblbgaaDoorTreeA
set_option linter.unusedVariables false
set_option linter.unusedSimpArgs false
set_option maxRecDepth 8192
namespace Go.Proofs.YtmjmjjkigblbgaaDoor
open Go Go.F Go.RowKit

end Go.Proofs.YtmjmjjkigblbgaaDoor
