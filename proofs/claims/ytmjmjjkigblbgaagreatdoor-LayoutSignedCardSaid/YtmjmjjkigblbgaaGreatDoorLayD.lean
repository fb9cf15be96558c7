/- Rows of hashes out of bytes; rows from the beginning. -/
import Derived.Test.YtmjmjjkigblbgaaGreatDoorLaw14
import Derived.Test.YtmjmjjkigblbgaaGreatDoorTreeB
import Derived.Test.YtmjmjjkigblbgaaGreatDoorAuDoor
import Derived.Test.YtmjmjjkigblbgaaGreatDoorFDoor
set_option linter.unusedVariables false
set_option linter.unusedSimpArgs false
set_option maxRecDepth 8192


namespace Go.Proofs.YtmjmjjkigblbgaaGreatDoor
open Go Go.F Go.RowKit

end Go.Proofs.YtmjmjjkigblbgaaGreatDoor
