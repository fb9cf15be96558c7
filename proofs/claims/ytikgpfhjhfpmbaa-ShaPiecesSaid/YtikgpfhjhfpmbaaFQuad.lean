/- A struct of four numbers and two arrays of bytes, as a value. -/
import Derived.Test.YtikgpfhjhfpmbaaFForge2
set_option linter.unusedVariables false
set_option linter.unusedSimpArgs false
set_option maxRecDepth 8192
namespace Go.F
open Go Go.RowKit
def qV (a b c d : Int) (s t : List UInt8) : Value := .agg ([Value.int .i64 a, .int .i64 b, .int .i64 c, .int .i64 d] ++ (s.map bV ++ t.map bV)).toArray
section
variable {a b c d : Int} {s t : List UInt8}
end
/-! Building one, a field at a time. -/
section
variable {a b c d z : Int} {s t x : List UInt8} {place : Nat → Option (Nat × Nat)} {i : Nat} {rest : List (Nat × Value)}
end
/-- Nought, of 32 and 32 bytes; of 16 and 32. -/
def qz32 : Value := qV 0 0 0 0 (List.replicate 32 0) (List.replicate 32 0)
def qz16 : Value := qV 0 0 0 0 (List.replicate 16 0) (List.replicate 32 0)
section
variable {a b c d : Int} {s t : List UInt8}
end
/-- The first bytes of an array put in, one at a time. -/
def hashTo (m : Nat) (D : List UInt8) : Nat → List UInt8
  | 0 => List.replicate m 0
  | k + 1 => (hashTo m D k).set k (D.getD k 0)
section
variable {P : Program} {N : Plan} {n : Nat} {ops : Array Oper} {K : Env → World → Prop} {rest : List Oper} {ρ : Env} {w : World}
end
end Go.F
