/- The hashes beside a way: the program's and the document's. -/
import Derived.Test.YtmjmjjkigblbgaaGreatDoorTreeB
import Derived.Test.YtmjmjjkigblbgaaGreatDoorFDoor
import Derived.Test.YtmjmjjkigblbgaaGreatDoorAuAll
set_option linter.unusedVariables false
set_option linter.unusedSimpArgs false
set_option maxRecDepth 8192
namespace Go.Proofs.YtmjmjjkigblbgaaGreatDoor
open Go Go.F Go.RowKit

theorem half_int (i k : Nat) : ((i / 2 ^ k : Nat) : Int) / ((2 : Int)) = ((i / 2 ^ (k + 1) : Nat) : Int) := by rw [← Go.Au.half_succ]; omega
end Go.Proofs.YtmjmjjkigblbgaaGreatDoor
