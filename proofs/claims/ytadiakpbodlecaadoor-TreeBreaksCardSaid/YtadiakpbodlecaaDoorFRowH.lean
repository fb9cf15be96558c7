/- Rows of rows of hashes. -/
import Derived.Test.YtadiakpbodlecaaDoorFMark
set_option linter.unusedVariables false
set_option linter.unusedSimpArgs false
set_option maxRecDepth 8192
namespace Go.F
open Go Go.RowKit

/-- Headers of rows of hashes. -/
def RdsH (G : Hp) (hs : List Value) (ls : List (List (List UInt8))) : Prop := hs.length = ls.length ∧ ∀ (i : Nat) v l, hs[i]? = some v → ls[i]? = some l → RdH G v 32 l
theorem RdsH.nil (G : Hp) : RdsH G [] [] := ⟨rfl, fun i v l h => by simp at h⟩
theorem RdsH.mono {G G' : Hp} {hs : List Value} {ls : List (List (List UInt8))} (h : RdsH G hs ls) (hl : G.le G') : RdsH G' hs ls := ⟨h.1, fun i v l a b => (h.2 i v l a b).mono hl⟩
theorem RdsH.cons {G : Hp} {v : Value} {l : List (List UInt8)} {hs : List Value} {ls : List (List (List UInt8))} (r : RdH G v 32 l) (h : RdsH G hs ls) : RdsH G (v :: hs) (l :: ls) :=
  ⟨by simp [h.1], fun i u m a b => by
    cases i with
    | zero => simp at a b; subst a; subst b; exact r
    | succ i => exact h.2 i u m (by simpa using a) (by simpa using b)⟩
theorem RdsH.append {G : Hp} {hs hs' : List Value} {ls ls' : List (List (List UInt8))} (h : RdsH G hs ls) (h' : RdsH G hs' ls') : RdsH G (hs ++ hs') (ls ++ ls') :=
  ⟨by simp [h.1, h'.1], fun i u m a b => by
    rw [List.getElem?_append] at a b
    rw [h.1] at a
    split at a
    · rename_i hi; rw [if_pos hi] at b; exact h.2 i u m a b
    · rename_i hi; rw [if_neg hi] at b; exact h'.2 _ u m a b⟩
/-- A row of rows of hashes that stands still. -/
def RdLH (G : Hp) (v : Value) (ls : List (List (List UInt8))) : Prop := ∃ hs, Rd G v ls.length 1 hs ∧ RdsH G hs ls
theorem RdLH.mono {G G' : Hp} {v : Value} {ls : List (List (List UInt8))} (h : RdLH G v ls) (hl : G.le G') : RdLH G' v ls := by obtain ⟨hs, a, b⟩ := h; exact ⟨hs, a.mono hl, b.mono hl⟩
theorem RdLH.mk {G : Hp} {v : Value} {hs : List Value} {ls : List (List (List UInt8))} {m : Nat} (r : Rd G v m 1 hs) (h : RdsH G hs ls) : RdLH G v ls := ⟨hs, r.canon (by have := r.1; have := h.1; omega), h⟩
theorem RdLH.shape {G : Hp} {v : Value} {ls : List (List (List UInt8))} (h : RdLH G v ls) : ∃ a c, v = .slice a ls.length c ∧ ls.length ≤ c := by obtain ⟨hs, a, _⟩ := h; exact a.shape
theorem RdLH.len {G : Hp} {a : Option Addr} {m c : Nat} {ls : List (List (List UInt8))} (r : RdLH G (.slice a m c) ls) : m = ls.length := by
  obtain ⟨b, d, e, _⟩ := r.shape; cases e; rfl
theorem RdsH.one {G : Hp} {hs : List Value} {ls : List (List (List UInt8))} (h : RdsH G hs ls) : ∀ u ∈ hs, u.oneCell' = true := by
  intro u hu
  obtain ⟨i, hi⟩ := List.getElem?_of_mem hu
  have hlt : i < ls.length := by rw [← h.1]; exact (List.getElem?_eq_some_iff.1 hi).1
  obtain ⟨a, c, e, _⟩ := (h.2 i u _ hi (List.getElem?_eq_getElem hlt)).shape
  rw [e]; rfl
theorem RdsH.at {G : Hp} {hs : List Value} {ls : List (List (List UInt8))} (r : RdsH G hs ls) (q : Nat) (h : q < ls.length) :
    ∃ a c, (ls.getD q []).length ≤ c ∧ hs[q]? = some (.slice a (ls.getD q []).length c) ∧ RdH G (.slice a (ls.getD q []).length c) 32 (ls.getD q []) := by
  have hq : q < hs.length := by rw [r.1]; exact h
  have e : ls[q]? = some (ls.getD q []) := by rw [List.getD_eq_getElem?_getD, List.getElem?_eq_getElem h]; rfl
  have h1 := r.2 q _ _ (List.getElem?_eq_getElem hq) e
  obtain ⟨a, c, hv, hc⟩ := h1.shape
  rw [hv] at h1
  exact ⟨a, c, hc, by rw [List.getElem?_eq_getElem hq, hv], h1⟩
end Go.F
