/- A hash cut to a key, byte by byte. -/
import Derived.Test.YtmjmjjkigblbgaaGreatDoorFDoor
import Derived.Test.YtmjmjjkigblbgaaGreatDoorAuAll
set_option linter.unusedVariables false
set_option linter.unusedSimpArgs false
set_option maxRecDepth 8192

namespace Go.Au
def keyTo (D : List UInt8) : Nat → List UInt8
  | 0 => List.replicate 16 0
  | k + 1 => (keyTo D k).set k (D.getD k 0)
theorem keyTo_len (D : List UInt8) : ∀ k, (keyTo D k).length = 16
  | 0 => List.length_replicate
  | k + 1 => by rw [keyTo, List.length_set]; exact keyTo_len D k
theorem keyTo_eq {D : List UInt8} (h : 16 ≤ D.length) : ∀ k, k ≤ 16 → keyTo D k = D.take k ++ List.replicate (16 - k) 0
  | 0, _ => by simp [keyTo]
  | k + 1, hk => by
    have h1 : (D.take k).length = k := by rw [List.length_take]; omega
    have hr : List.replicate (16 - k) (0 : UInt8) = 0 :: List.replicate (16 - (k + 1)) 0 := by
      rw [show 16 - k = (16 - (k + 1)) + 1 by omega, List.replicate_succ]
    rw [keyTo, keyTo_eq h k (by omega), List.set_append_right _ _ (by omega), h1, Nat.sub_self, hr, ← take_snoc (d := 0) (show k < D.length by omega), List.append_assoc]
    rfl
theorem keyTo_full {D : List UInt8} (h : 16 ≤ D.length) : keyTo D 16 = D.take 16 := by rw [keyTo_eq h 16 (by omega)]; simp
end Go.Au
namespace Go.F
open Go Go.RowKit
theorem keyTo_put {D : List UInt8} {k : Nat} : (hV (Go.Au.keyTo D k)).cells.setIfInBounds k (bV (D.getD k 0)) = (hV (Go.Au.keyTo D (k + 1))).cells := by
  show ((Go.Au.keyTo D k).map bV).toArray.setIfInBounds k (bV (D.getD k 0)) = (((Go.Au.keyTo D k).set k (D.getD k 0)).map bV).toArray
  apply Array.toList_inj.1
  rw [Array.toList_setIfInBounds, List.map_set]
theorem key_len (tag : List UInt8) (l : List (List UInt8)) : ((Go.Au.tagged tag l).take 16).length = 16 := by rw [List.length_take, Go.Au.tagged_len]; rfl
end Go.F
