/- Shares as bytes, in plain words. -/
import Derived.Test.YtmjmjjkigblbgaaDoorAuLay
import Derived.Test.YtmjmjjkigblbgaaDoorAuMss3
set_option linter.unusedVariables false
set_option linter.unusedSimpArgs false
set_option maxRecDepth 8192
namespace Go.Au
def ntTk (n : Nat) (b : List UInt8) : List (List UInt8) := if NtOks n b then ntRows n b else []
def ntTr (n : Nat) (b : List UInt8) : List UInt8 := if NtOks n b then ntRest n b else []
def row4 (b : List UInt8) (i : Nat) : List UInt8 := tn1 (ntRest i b)
def hashN (b : List UInt8) : List (List UInt8) := if b.length % 32 = 0 then chunks b (b.length / 32) else []
theorem hashN_yes {b : List UInt8} (h : b.length % 32 = 0) : hashN b = chunks b (b.length / 32) := if_pos h
theorem hashN_no {b : List UInt8} (h : ¬ b.length % 32 = 0) : hashN b = [] := if_neg h
/-- How many blocks a share says to have. -/
def shK (b : List UInt8) : Nat := ((row4 b 3).getD 0 0).toNat
/-- A share stands there. -/
def ShOk (b : List UInt8) : Prop :=
  b.length ≤ 16384 ∧ NtOks 4 b ∧ (row4 b 0).length = 1 ∧ (row4 b 3).length = 1 ∧ ((row4 b 0).getD 0 0).toNat < 16 ∧ shK b ≤ 16 ∧ (row4 b 2).length % 32 = 0 ∧ NtAll (shK b) (ntRest 4 b)
instance (b : List UInt8) : Decidable (ShOk b) := by unfold ShOk; infer_instance
def shN (b : List UInt8) : Int := if ShOk b then ((((row4 b 0).getD 0 0).toNat : Nat) : Int) else 0
def shU (b : List UInt8) : List UInt8 := if ShOk b then row4 b 1 else []
def shP (b : List UInt8) : List (List UInt8) := if ShOk b then hashN (row4 b 2) else []
def shB (b : List UInt8) : List (List UInt8) := if ShOk b then ntRows (shK b) (ntRest 4 b) else []
section
variable {b : List UInt8}
/-- The document looks for the number of blocks. -/
def ShAt (b : List UInt8) (m : Nat) : Prop := NtAll (4 + m) b ∧ (row4 b 0).length = 1 ∧ ((row4 b 0).getD 0 0).toNat < 16 ∧ (row4 b 3).length = 1 ∧ shK b = m
end
/-- A share's bytes. -/
def packS (n : Int) (u : List UInt8) (p B : List (List UInt8)) : List UInt8 := nets [Go.Sha.put (max 0 n).toNat 1, u, flatTo [] p p.length, Go.Sha.put (max 0 ((B.length : Nat) : Int)).toNat 1] ++ nets B
/-- The first of some rows, each cut. -/
def cutN (m : Nat) (l : List (List UInt8)) (k : Nat) : List (List UInt8) := (l.take k).map fun x => x.take m
def leavesH (B : List (List UInt8)) (k : Nat) : List (List UInt8) := (B.take k).map leafH
end Go.Au
