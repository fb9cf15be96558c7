/- Rows of rows of bytes that are made and written into. -/
import Derived.Test.YtikgpfhjhfpmbaaFMss
set_option linter.unusedVariables false
set_option linter.unusedSimpArgs false
set_option maxRecDepth 8192
namespace Go.F
open Go Go.RowKit
theorem Rds.set {G : Hp} {hs : List Value} {ls : List (List UInt8)} {v : Value} {l : List UInt8} (h : Rds G hs ls) (q : Nat) (r : Rd G v l.length 1 (l.map bV)) : Rds G (hs.set q v) (ls.set q l) := by
  refine ⟨by simp [h.1], fun i u m a b => ?_⟩
  rw [List.getElem?_set] at a b
  by_cases e : q = i
  · subst e
    rw [if_pos rfl] at a b
    split at a
    · rename_i h1
      rw [if_pos (by rw [← h.1]; exact h1)] at b
      cases a; cases b; exact r
    · cases a
  · rw [if_neg e] at a b; exact h.2 i u m a b
end Go.F
