/- Whether a leak is one, in plain words. -/
import Derived.Test.YtfcejolipdcoaaaGreatDoorAuMss5
set_option linter.unusedVariables false
set_option linter.unusedSimpArgs false
set_option maxRecDepth 8192
namespace Go.Au
def holds (seed : List UInt8) (h : Int) (L : List (List UInt8)) (a c q : Int) (v : List UInt8) : Bool :=
  if (0 ≤ a ∧ a < ((2 ^ h.toNat : Nat) : Int)) ∧ (0 ≤ c ∧ c < 67) ∧ 0 ≤ q ∧ q ≤ 15 then
    decide (v = steps (max (0 : Int) (min q 15)).toNat (start seed a c)) && (decide (((L.getD a.toNat []).length : Int) = 0) || decide (q < (digits (L.getD a.toNat [])).getD c.toNat 0))
  else false
section
variable {seed : List UInt8} {h a c q : Int} {L : List (List UInt8)} {v : List UInt8}
theorem hd_e (r : (0 ≤ a ∧ a < ((2 ^ h.toNat : Nat) : Int)) ∧ (0 ≤ c ∧ c < 67) ∧ 0 ≤ q ∧ q ≤ 15) (e : v = steps (max (0 : Int) (min q 15)).toNat (start seed a c)) (x : ((L.getD a.toNat []).length : Int) = 0) : holds seed h L a c q v = true := by
  unfold holds; rw [if_pos r, decide_eq_true e, decide_eq_true x]; rfl
theorem hd_d (r : (0 ≤ a ∧ a < ((2 ^ h.toNat : Nat) : Int)) ∧ (0 ≤ c ∧ c < 67) ∧ 0 ≤ q ∧ q ≤ 15) (e : v = steps (max (0 : Int) (min q 15)).toNat (start seed a c)) (x : ¬ ((L.getD a.toNat []).length : Int) = 0) : holds seed h L a c q v = decide (q < (digits (L.getD a.toNat [])).getD c.toNat 0) := by
  unfold holds; rw [if_pos r, decide_eq_true e, decide_eq_false x]; rfl
end
end Go.Au
