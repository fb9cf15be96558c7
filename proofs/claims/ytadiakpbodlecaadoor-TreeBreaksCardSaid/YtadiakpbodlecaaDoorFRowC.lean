/- A piece of a row of rows. -/
import Derived.Test.YtadiakpbodlecaaDoorFRowH
set_option linter.unusedVariables false
set_option linter.unusedSimpArgs false
set_option maxRecDepth 8192
namespace Go.F
open Go Go.RowKit
theorem RdsH.cut {G : Hp} {hs : List Value} {ls : List (List (List UInt8))} (h : RdsH G hs ls) (lo m : Nat) : RdsH G ((hs.drop (lo * 1)).take (m * 1)) ((ls.drop lo).take m) := by
  rw [Nat.mul_one, Nat.mul_one]
  refine ⟨by simp only [List.length_take, List.length_drop, h.1], fun i v l hv hl => ?_⟩
  rw [List.getElem?_take, List.getElem?_drop] at hv hl
  split at hv
  · rename_i hi; rw [if_pos hi] at hl; exact h.2 _ v l hv hl
  · cases hv
theorem Rds.cut {G : Hp} {hs : List Value} {ls : List (List UInt8)} (h : Rds G hs ls) (lo m : Nat) : Rds G ((hs.drop (lo * 1)).take (m * 1)) ((ls.drop lo).take m) := by
  rw [Nat.mul_one, Nat.mul_one]
  refine ⟨by simp only [List.length_take, List.length_drop, h.1], fun i v l hv hl => ?_⟩
  rw [List.getElem?_take, List.getElem?_drop] at hv hl
  split at hv
  · rename_i hi; rw [if_pos hi] at hl; exact h.2 _ v l hv hl
  · cases hv
end Go.F
