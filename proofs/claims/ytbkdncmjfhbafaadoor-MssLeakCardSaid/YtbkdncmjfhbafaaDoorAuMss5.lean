/- What was signed is right, in plain words. -/
import Derived.Test.YtbkdncmjfhbafaaDoorAuMss4
set_option linter.unusedVariables false
set_option linter.unusedSimpArgs false
set_option maxRecDepth 8192
namespace Go.Au
theorem mleaves_at {seed : List UInt8} {h i : Nat} (hi : i < 2 ^ h) : (mleaves seed h).getD i [] = pub seed ((i : Nat) : Int) := by
  unfold mleaves mleavesTo; exact range_at _ _ hi
section
variable {seed m fp : List UInt8} {h l : Int}
theorem own_ok (hm : 0 ≤ h ∧ h ≤ 4) (hl : 0 ≤ l ∧ l < ((2 ^ h.toNat : Nat) : Int)) :
    okS h l (sign seed l m 67) (beside (rowP (mleaves seed h.toNat)) l.toNat (lg (mleaves seed h.toNat).length)) = true := by
  rw [okS_c hm (sign_len _ _ _ _)]
  have hp := pow16 hm.1 hm.2
  exact okW_mk ⟨hl.1, hl.2, by omega, by rw [beside_len, mleaves_len, Int.toNat_natCast]⟩
theorem own_climb (hm : 0 ≤ h ∧ h ≤ 4) (hl : 0 ≤ l ∧ l < ((2 ^ h.toNat : Nat) : Int)) :
    climbS m h l (sign seed l m 67) (beside (rowP (mleaves seed h.toNat)) l.toNat (lg (mleaves seed h.toNat).length)) = root (mleaves seed h.toNat) := by
  have hp := pow16 hm.1 hm.2
  rw [climbS_c hm (sign_len _ _ _ _), ends_sign]
  have e := climbH_root (mleaves_all seed h.toNat) (by rw [mleaves_len]; omega) hl.1 (by rw [mleaves_len]; exact hl.2)
  rw [mleaves_at (by omega), show ((l.toNat : Nat) : Int) = l by omega] at e
  rw [mleaves_len] at e ⊢
  exact e
theorem vrf_own (hm : 0 ≤ h ∧ h ≤ 4) (hl : 0 ≤ l ∧ l < ((2 ^ h.toNat : Nat) : Int)) :
    vrf fp m h l (sign seed l m 67) (beside (rowP (mleaves seed h.toNat)) l.toNat (lg (mleaves seed h.toNat).length)) = decide (mprint seed h = fp) := by
  rw [vrf_yes (own_ok hm hl), own_climb hm hl]; rfl
theorem vrf_self (hm : 0 ≤ h ∧ h ≤ 4) (hl : 0 ≤ l ∧ l < ((2 ^ h.toNat : Nat) : Int)) :
    vrf (mprint seed h) m h l (sign seed l m 67) (beside (rowP (mleaves seed h.toNat)) l.toNat (lg (mleaves seed h.toNat).length)) = true := by
  rw [vrf_own hm hl]; exact decide_eq_true rfl
end
theorem set_get {n q : Nat} {m : List UInt8} (h : q < n) : ((List.replicate n ([] : List UInt8)).set q m).getD q [] = m := by
  rw [List.getD_eq_getElem?_getD, List.getElem?_set_self (by simpa using h)]; rfl
theorem set_oth {n q r : Nat} {m : List UInt8} (h : q ≠ r) : ((List.replicate n ([] : List UInt8)).set q m).getD r [] = [] := by
  rw [List.getD_eq_getElem?_getD, List.getElem?_set_ne h, List.getElem?_replicate]
  split <;> rfl
end Go.Au
