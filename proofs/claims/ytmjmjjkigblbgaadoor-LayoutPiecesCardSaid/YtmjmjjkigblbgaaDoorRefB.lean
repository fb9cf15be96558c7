/- The document's own SHA-256, the sum: what aumbryref01.Sum computes. -/
import Derived.Test.YtmjmjjkigblbgaaDoorRefA
set_option linter.unusedVariables false
set_option linter.unusedSimpArgs false
set_option maxRecDepth 8192
namespace Go.Proofs.YtmjmjjkigblbgaaDoor
open Go Go.F Go.RowKit

/-- The plan of the regions with calls of 'turn': they are quiet. -/
noncomputable def planT : Plan := ⟨fun o => match o.op with | .call ⟨.value (.func f), _, _⟩ => (if f = 100 then .pure else .loud) | op => cls Tryd.prog op, fun _ => True⟩
/-- The plan of the region that writes the bytes: what it loads is held. -/
noncomputable def planH (hb : Nat) (hs : List (BitVec 32)) : Plan := ⟨fun o => match o.op with | .load _ _ => .pure | op => cls Tryd.prog op, fun u => u.heap[hb]? = some (.cells (W8 hs) 130 (0, 0))⟩

end Go.Proofs.YtmjmjjkigblbgaaDoor
