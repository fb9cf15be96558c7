/- Many signatures under one hash, in plain words. -/
import Derived.Test.YtmjmjjkigblbgaaDoorAuAll
set_option linter.unusedVariables false
set_option linter.unusedSimpArgs false
set_option maxRecDepth 8192
namespace Go.Au
def mayH (h : Int) : Bool := decide (0 ≤ h ∧ h ≤ 4)
def mleavesTo (seed : List UInt8) (k : Nat) : List (List UInt8) := (List.range k).map fun (i : Nat) => pub seed (i : Int)
def mleaves (seed : List UInt8) (h : Nat) : List (List UInt8) := mleavesTo seed (2 ^ h)
/-- What a print is the hash of. -/
def printT (h : Int) (r : List UInt8) : List UInt8 := text [112, 114, 105, 110, 116] [Go.Sha.put (max 0 h).toNat 1, r]
def mprint (seed : List UInt8) (h : Int) : List UInt8 := Go.Sha.sha (printT h (root (mleaves seed h.toNat)))
/-- A signature. -/
structure SigP where
  height : Int
  leaf : Int
  values : List (List UInt8)
  proof : List (List UInt8)
/-- The root that a signature makes, where it makes one. -/
def okS (h l : Int) (v p : List (List UInt8)) : Bool := mayH h && (decide (v.length = 67) && okW ((2 ^ h.toNat : Nat) : Int) l p.length)
def climbS (m : List UInt8) (h l : Int) (v p : List (List UInt8)) : List UInt8 := if mayH h && decide (v.length = 67) then climbH ((2 ^ h.toNat : Nat) : Int) l (pubH (ends m v 67)) p else List.replicate 32 0
/-- Is a signature right? -/
def vrf (fp m : List UInt8) (h l : Int) (v p : List (List UInt8)) : Bool := okS h l v p && decide (Go.Sha.sha (printT h (climbS m h l v p)) = fp)
end Go.Au
