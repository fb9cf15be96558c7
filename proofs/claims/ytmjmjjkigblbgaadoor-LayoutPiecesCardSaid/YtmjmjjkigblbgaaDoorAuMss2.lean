/- Signatures spoilt; whether they are right: in plain words. -/
import Derived.Test.YtmjmjjkigblbgaaDoorAuMss
set_option linter.unusedVariables false
set_option linter.unusedSimpArgs false
set_option maxRecDepth 8192
namespace Go.Au
/-- A signature, one thing of which is turned. -/
def spH (w b h : Int) : Int := if w % 8 = 1 then h + (1 - 2 * (b % 2)) else h
def spL (w b l : Int) : Int := if w % 8 = 2 then l + (1 - 2 * (b % 2)) else l
def turnAt (v : List (List UInt8)) (y c : Nat) (x : UInt8) : List (List UInt8) := v.set y ((v.getD y []).set c ((v.getD y []).getD c 0 ^^^ x))
def spV (w b : Int) (v : List (List UInt8)) : List (List UInt8) :=
  if w % 8 = 3 then turnAt v (b % (v.length : Int)).toNat (b % 32).toNat 1 else if w % 8 = 5 then v.take (v.length - 1) else v
def spP (w b : Int) (p : List (List UInt8)) : List (List UInt8) :=
  if w % 8 = 4 ∧ 0 < p.length then turnAt p (b % (p.length : Int)).toNat 3 8 else if w % 8 = 6 then p ++ [List.replicate 32 0] else p
section
variable {fp m : List UInt8} {h l : Int} {v p : List (List UInt8)}
end
end Go.Au
