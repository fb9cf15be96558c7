/- Signatures as bytes, as the document reads them. -/
import Derived.Test.YtmjmjjkigblbgaaDoorAuMss3
set_option linter.unusedVariables false
set_option linter.unusedSimpArgs false
set_option maxRecDepth 8192
namespace Go.Au
/-- The first bytes of a row, the rest nought. -/
def hTo (D : List UInt8) : Nat → List UInt8
  | 0 => List.replicate 32 0
  | k + 1 => (hTo D k).set k (D.getD k 0)
theorem hTo_len (D : List UInt8) : ∀ k, (hTo D k).length = 32
  | 0 => List.length_replicate
  | k + 1 => by rw [hTo, List.length_set]; exact hTo_len D k
theorem hTo_eq {D : List UInt8} (h : 32 ≤ D.length) : ∀ k, k ≤ 32 → hTo D k = D.take k ++ List.replicate (32 - k) 0
  | 0, _ => by simp [hTo]
  | k + 1, hk => by
    have h1 : (D.take k).length = k := by rw [List.length_take]; omega
    have hr : List.replicate (32 - k) (0 : UInt8) = 0 :: List.replicate (32 - (k + 1)) 0 := by
      rw [show 32 - k = (32 - (k + 1)) + 1 by omega, List.replicate_succ]
    rw [hTo, hTo_eq h k (by omega), List.set_append_right _ _ (by omega), h1, Nat.sub_self, hr, ← take_snoc (d := 0) (show k < D.length by omega), List.append_assoc]
    rfl
theorem hTo_full {D : List UInt8} (h : 32 ≤ D.length) : hTo D 32 = D.take 32 := by rw [hTo_eq h 32 (by omega)]; simp
theorem getD_dropB (l : List UInt8) (n i : Nat) : (l.drop n).getD i 0 = l.getD (n + i) 0 := by
  rw [List.getD_eq_getElem?_getD, List.getD_eq_getElem?_getD, List.getElem?_drop]
theorem gval2 {b : List UInt8} (h : 3 ≤ b.length) : 256 * (b.getD 1 0).toNat + (b.getD 2 0).toNat = gval ((b.drop 1).take (3 - 1)) := by
  have e : (b.drop 1).take (3 - 1) = [b.getD 1 0, b.getD 2 0] := by
    match b, h with
    | _ :: x :: y :: t, _ => rfl
  rw [e]; simp [gval]
end Go.Au
