/- Whether a leak is one, in plain words. -/
import Derived.Test.YtbkdncmjfhbafaaDoorAuMss5
set_option linter.unusedVariables false
set_option linter.unusedSimpArgs false
set_option maxRecDepth 8192
namespace Go.Au
/-- Does a leak hold? -/
def holds (seed : List UInt8) (h : Int) (L : List (List UInt8)) (a c q : Int) (v : List UInt8) : Bool :=
  if (0 ≤ a ∧ a < ((2 ^ h.toNat : Nat) : Int)) ∧ (0 ≤ c ∧ c < 67) ∧ 0 ≤ q ∧ q ≤ 15 then
    decide (v = steps (max (0 : Int) (min q 15)).toNat (start seed a c)) && (decide (((L.getD a.toNat []).length : Int) = 0) || decide (q < (digits (L.getD a.toNat [])).getD c.toNat 0))
  else false
section
variable {seed : List UInt8} {h a c q : Int} {L : List (List UInt8)} {v : List UInt8}
theorem hd_no (e : ¬ ((0 ≤ a ∧ a < ((2 ^ h.toNat : Nat) : Int)) ∧ (0 ≤ c ∧ c < 67) ∧ 0 ≤ q ∧ q ≤ 15)) : holds seed h L a c q v = false := if_neg e
theorem hd_v (r : (0 ≤ a ∧ a < ((2 ^ h.toNat : Nat) : Int)) ∧ (0 ≤ c ∧ c < 67) ∧ 0 ≤ q ∧ q ≤ 15) (e : ¬ v = steps (max (0 : Int) (min q 15)).toNat (start seed a c)) : holds seed h L a c q v = false := by
  unfold holds; rw [if_pos r, decide_eq_false e]; rfl
theorem hd_e (r : (0 ≤ a ∧ a < ((2 ^ h.toNat : Nat) : Int)) ∧ (0 ≤ c ∧ c < 67) ∧ 0 ≤ q ∧ q ≤ 15) (e : v = steps (max (0 : Int) (min q 15)).toNat (start seed a c)) (x : ((L.getD a.toNat []).length : Int) = 0) : holds seed h L a c q v = true := by
  unfold holds; rw [if_pos r, decide_eq_true e, decide_eq_true x]; rfl
theorem hd_d (r : (0 ≤ a ∧ a < ((2 ^ h.toNat : Nat) : Int)) ∧ (0 ≤ c ∧ c < 67) ∧ 0 ≤ q ∧ q ≤ 15) (e : v = steps (max (0 : Int) (min q 15)).toNat (start seed a c)) (x : ¬ ((L.getD a.toNat []).length : Int) = 0) : holds seed h L a c q v = decide (q < (digits (L.getD a.toNat [])).getD c.toNat 0) := by
  unfold holds; rw [if_pos r, decide_eq_true e, decide_eq_false x]; rfl
end
theorem sign_steps {seed M : List UInt8} {l : Int} {k : Nat} (h : k < 67) : (sign seed l M 67).getD k [] = steps (max (0 : Int) (min ((digits M).getD k 0) 15)).toNat (start seed l (k : Int)) := by
  have hd := digits_at M k h
  rw [sign_at _ _ _ _ _ h]
  exact congrArg (fun z => steps z _) (by omega)
theorem leak_was {seed M : List UInt8} {lf k : Nat} (hl : lf < 2) (h : k < 67) (hM : 0 < M.length) :
    holds seed 1 ((List.replicate 2 ([] : List UInt8)).set lf M) ((lf : Nat) : Int) ((k : Nat) : Int) ((digits M).getD k 0) ((sign seed ((lf : Nat) : Int) M 67).getD k []) = false := by
  have hd := digits_at M k h
  have e : ((List.replicate 2 ([] : List UInt8)).set lf M).getD ((lf : Nat) : Int).toNat [] = M := set_get hl
  rw [hd_d ⟨⟨by omega, by show _ < (2 : Int); omega⟩, ⟨by omega, by omega⟩, hd.1, hd.2⟩ (sign_steps h) (by rw [e]; omega), e]
  exact decide_eq_false (by show ¬ _ < (digits M).getD k 0; omega)
theorem leak_is {seed M : List UInt8} {lf k : Nat} (hl : lf < 2) (h : k < 67) :
    holds seed 1 ((List.replicate 2 ([] : List UInt8)).set lf M) (((1 - lf : Nat) : Nat) : Int) ((k : Nat) : Int) ((digits M).getD k 0) ((sign seed (((1 - lf : Nat) : Nat) : Int) M 67).getD k []) = true := by
  have hd := digits_at M k h
  have e : ((List.replicate 2 ([] : List UInt8)).set lf M).getD ((1 - lf : Nat) : Int).toNat [] = [] := set_oth (r := 1 - lf) (by omega)
  refine hd_e ⟨⟨by omega, by show _ < (2 : Int); omega⟩, ⟨by omega, by omega⟩, hd.1, hd.2⟩ (sign_steps h) ?_
  rw [e]; rfl
end Go.Au
