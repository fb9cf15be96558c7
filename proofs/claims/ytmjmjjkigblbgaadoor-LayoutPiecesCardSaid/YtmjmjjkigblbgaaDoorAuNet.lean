/- Reading netstrings, in plain words: what was written is read, in one way. -/
import Derived.Test.YtmjmjjkigblbgaaDoorAuAll
set_option linter.unusedVariables false
set_option linter.unusedSimpArgs false
set_option maxRecDepth 8192
namespace Go.Au
/-- The number that digits say. -/
def dval (l : List UInt8) : Nat := l.foldl (fun v c => 10 * v + (c.toNat - 48)) 0
theorem dval_nil : dval [] = 0 := rfl
theorem dval_snoc (l : List UInt8) (c : UInt8) : dval (l ++ [c]) = 10 * dval l + (c.toNat - 48) := by simp [dval]
theorem digit_nat {n : Nat} (h : n < 10) : (digit n).toNat = 48 + n := by simp only [digit, UInt8.toNat_ofNat']; omega
theorem dval_take {l : List UInt8} {k : Nat} (h : k < l.length) : dval (l.take (k + 1)) = 10 * dval (l.take k) + ((l.getD k 0).toNat - 48) := by
  rw [List.take_succ_eq_append_getElem h, dval_snoc]
  congr 1
  rw [List.getD_eq_getElem?_getD, List.getElem?_eq_getElem h]; rfl
theorem dval_le (l : List UInt8) : ∀ d k, k + d = l.length → dval (l.take k) ≤ dval l
  | 0, k, h => by rw [List.take_of_length_le (by omega)]; exact Nat.le_refl _
  | d + 1, k, h => by
    have h1 := dval_le l d (k + 1) (by omega)
    rw [dval_take (by omega)] at h1
    omega
theorem dec_len4 {n : Nat} (h : n ≤ 99999) : (dec n).length ≤ 5 := dec_len_le 4 n (by omega)
theorem net_eq (a s : List UInt8) : net a ++ s = dec a.length ++ 58 :: (a ++ 44 :: s) := by simp [net]
/-! What stands in a net: its digits, a colon, the row, a comma. -/
section
variable {b r t : List UInt8}
end
end Go.Au
