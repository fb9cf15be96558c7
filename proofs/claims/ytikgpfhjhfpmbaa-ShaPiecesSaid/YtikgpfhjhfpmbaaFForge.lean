/- How a signature was forged, as a value: a break, a mark, three numbers, a hash. -/
import Derived.Test.YtikgpfhjhfpmbaaFMss2
set_option linter.unusedVariables false
set_option linter.unusedSimpArgs false
set_option maxRecDepth 8192
namespace Go.F
open Go Go.RowKit
def fV (leak : Bool) (leaf chain place : Int) (v : List UInt8) : Value := .agg ([Value.slice none 0 0, .slice none 0 0, .bool leak, .int .i64 leaf, .int .i64 chain, .int .i64 place] ++ v.map bV).toArray
def fz : Value := fV false 0 0 0 (List.replicate 32 0)
section
variable {k : Bool} {a b c : Int} {v : List UInt8}
end
end Go.F
