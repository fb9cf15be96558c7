/- What was signed is right, in plain words. -/
import Derived.Test.YtfcejolipdcoaaaGreatDoorAuDoor
set_option linter.unusedVariables false
set_option linter.unusedSimpArgs false
set_option maxRecDepth 8192
namespace Go.Au
theorem mleaves_at {seed : List UInt8} {h i : Nat} (hi : i < 2 ^ h) : (mleaves seed h).getD i [] = pub seed ((i : Nat) : Int) := by
  unfold mleaves mleavesTo; exact range_at _ _ hi
section
variable {seed m fp : List UInt8} {h l : Int}
end
theorem set_get {n q : Nat} {m : List UInt8} (h : q < n) : ((List.replicate n ([] : List UInt8)).set q m).getD q [] = m := by
  rw [List.getD_eq_getElem?_getD, List.getElem?_set_self (by simpa using h)]; rfl
theorem set_oth {n q r : Nat} {m : List UInt8} (h : q ≠ r) : ((List.replicate n ([] : List UInt8)).set q m).getD r [] = [] := by
  rw [List.getD_eq_getElem?_getD, List.getElem?_set_ne h, List.getElem?_replicate]
  split <;> rfl
end Go.Au
