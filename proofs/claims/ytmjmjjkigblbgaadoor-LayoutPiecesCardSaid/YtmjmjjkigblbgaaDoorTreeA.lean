/- Leaves, nodes, powers of two: the program's and the document's. -/
import Derived.Test.YtmjmjjkigblbgaaDoorKeepN
import Derived.Test.YtmjmjjkigblbgaaDoorLaid
import Derived.Test.YtmjmjjkigblbgaaDoorAuAll
import Derived.Test.YtmjmjjkigblbgaaDoorFRest
set_option linter.unusedVariables false
set_option linter.unusedSimpArgs false
set_option maxRecDepth 8192
namespace Go.Proofs.YtmjmjjkigblbgaaDoor
open Go Go.F Go.RowKit

end Go.Proofs.YtmjmjjkigblbgaaDoor
