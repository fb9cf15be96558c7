/- A struct of four numbers and two arrays of bytes that came in. -/
import Derived.Test.YtikgpfhjhfpmbaaFOpenS
import Derived.Test.YtikgpfhjhfpmbaaFQuad
set_option linter.unusedVariables false
set_option linter.unusedSimpArgs false
set_option maxRecDepth 8192
namespace Go.F
open Go Go.RowKit Go.ChangeShapes Go.WideShapes Go.Deep
section
variable {H : Type} {enc : TypeId × Value → H} {P : Program} {w : World} {spare : Nat → Bool} {held : Bool} {n : Nat} {ft e : TypeId} {l : List Value} {x : DataW H × List MemPlace}
end
end Go.F
