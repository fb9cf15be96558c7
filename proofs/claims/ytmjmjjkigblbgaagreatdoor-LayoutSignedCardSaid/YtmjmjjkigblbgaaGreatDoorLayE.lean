/- Shares as bytes, and back. -/
import Derived.Test.YtmjmjjkigblbgaaGreatDoorLayD
set_option linter.unusedVariables false
set_option linter.unusedSimpArgs false
set_option maxRecDepth 8192
namespace Go.Proofs.YtmjmjjkigblbgaaGreatDoor
open Go Go.F Go.RowKit

end Go.Proofs.YtmjmjjkigblbgaaGreatDoor
