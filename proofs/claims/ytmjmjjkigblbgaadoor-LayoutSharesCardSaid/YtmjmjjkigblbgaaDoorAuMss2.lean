/- Signatures spoilt; whether they are right: in plain words. -/
import Derived.Test.YtmjmjjkigblbgaaDoorAuMss
set_option linter.unusedVariables false
set_option linter.unusedSimpArgs false
set_option maxRecDepth 8192
namespace Go.Au
/-- A signature, one thing of which is turned. -/
def spH (w b h : Int) : Int := if w % 8 = 1 then h + (1 - 2 * (b % 2)) else h
def spL (w b l : Int) : Int := if w % 8 = 2 then l + (1 - 2 * (b % 2)) else l
def turnAt (v : List (List UInt8)) (y c : Nat) (x : UInt8) : List (List UInt8) := v.set y ((v.getD y []).set c ((v.getD y []).getD c 0 ^^^ x))
def spV (w b : Int) (v : List (List UInt8)) : List (List UInt8) :=
  if w % 8 = 3 then turnAt v (b % (v.length : Int)).toNat (b % 32).toNat 1 else if w % 8 = 5 then v.take (v.length - 1) else v
def spP (w b : Int) (p : List (List UInt8)) : List (List UInt8) :=
  if w % 8 = 4 ∧ 0 < p.length then turnAt p (b % (p.length : Int)).toNat 3 8 else if w % 8 = 6 then p ++ [List.replicate 32 0] else p
theorem spV_3 {w b : Int} {v : List (List UInt8)} {y c : Nat} (h : w % 8 = 3) (hy : b % (v.length : Int) = (y : Int)) (hc : b % 32 = (c : Int)) : turnAt v y c 1 = spV w b v := by
  unfold spV; rw [if_pos h, hy, hc, Int.toNat_natCast, Int.toNat_natCast]
theorem spV_5 {w b : Int} {v : List (List UInt8)} (h : w % 8 = 5) : v.take (v.length - 1) = spV w b v := by
  unfold spV; rw [if_neg (by omega), if_pos h]
theorem spV_n {w b : Int} {v : List (List UInt8)} (h : ¬ w % 8 = 3) (h' : ¬ w % 8 = 5) : v = spV w b v := by
  unfold spV; rw [if_neg h, if_neg h']
theorem spP_4 {w b : Int} {p : List (List UInt8)} {y : Nat} (h : w % 8 = 4) (h0 : 0 < p.length) (hy : b % (p.length : Int) = (y : Int)) : turnAt p y 3 8 = spP w b p := by
  unfold spP; rw [if_pos ⟨h, h0⟩, hy, Int.toNat_natCast]
theorem spP_6 {w b : Int} {p : List (List UInt8)} (h : w % 8 = 6) : p ++ [List.replicate 32 0] = spP w b p := by
  unfold spP; rw [if_neg (by omega), if_pos h]
theorem spP_n {w b : Int} {p : List (List UInt8)} (h : ¬ (w % 8 = 4 ∧ 0 < p.length)) (h' : ¬ w % 8 = 6) : p = spP w b p := by
  unfold spP; rw [if_neg h, if_neg h']
section
variable {fp m : List UInt8} {h l : Int} {v p : List (List UInt8)}
theorem okS_may (e : okS h l v p = true) : (0 ≤ h ∧ h ≤ 4) ∧ v.length = 67 ∧ okW ((2 ^ h.toNat : Nat) : Int) l p.length = true := by
  unfold okS mayH at e
  simp only [Bool.and_eq_true, decide_eq_true_eq] at e
  exact e
theorem okS_a (e : ¬ (0 ≤ h ∧ h ≤ 4)) : okS h l v p = false := by unfold okS mayH; rw [decide_eq_false e]; rfl
theorem okS_b (e : ¬ v.length = 67) : okS h l v p = false := by unfold okS; rw [decide_eq_false e]; simp
theorem okS_c (e : 0 ≤ h ∧ h ≤ 4) (e2 : v.length = 67) : okS h l v p = okW ((2 ^ h.toNat : Nat) : Int) l p.length := by unfold okS mayH; rw [decide_eq_true e, decide_eq_true e2]; simp
theorem climbS_a (e : ¬ (0 ≤ h ∧ h ≤ 4)) : climbS m h l v p = List.replicate 32 0 := by unfold climbS mayH; rw [decide_eq_false e]; rfl
theorem climbS_b (e : ¬ v.length = 67) : climbS m h l v p = List.replicate 32 0 := by unfold climbS; rw [decide_eq_false e]; simp
theorem climbS_c (e : 0 ≤ h ∧ h ≤ 4) (e2 : v.length = 67) : climbS m h l v p = climbH ((2 ^ h.toNat : Nat) : Int) l (pubH (ends m v 67)) p := by unfold climbS mayH; rw [decide_eq_true e, decide_eq_true e2]; rfl
theorem vrf_no (e : okS h l v p = false) : vrf fp m h l v p = false := by unfold vrf; rw [e]; rfl
theorem vrf_yes (e : okS h l v p = true) : vrf fp m h l v p = decide (Go.Sha.sha (printT h (climbS m h l v p)) = fp) := by unfold vrf; rw [e]; rfl
end
end Go.Au
