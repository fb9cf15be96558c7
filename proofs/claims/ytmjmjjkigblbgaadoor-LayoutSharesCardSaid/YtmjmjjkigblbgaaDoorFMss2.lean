/- Rows of rows of bytes that are made and written into. -/
import Derived.Test.YtmjmjjkigblbgaaDoorFMss
set_option linter.unusedVariables false
set_option linter.unusedSimpArgs false
set_option maxRecDepth 8192
namespace Go.F
open Go Go.RowKit
theorem Rds.nils (G : Hp) (n : Nat) : Rds G (List.replicate n (.slice none 0 0)) (List.replicate n []) := by
  refine ⟨by simp, fun i v l a b => ?_⟩
  have ha := List.eq_of_mem_replicate (List.mem_of_getElem? a)
  have hb := List.eq_of_mem_replicate (List.mem_of_getElem? b)
  subst ha; subst hb
  exact nilB G
theorem Rds.set {G : Hp} {hs : List Value} {ls : List (List UInt8)} {v : Value} {l : List UInt8} (h : Rds G hs ls) (q : Nat) (r : Rd G v l.length 1 (l.map bV)) : Rds G (hs.set q v) (ls.set q l) := by
  refine ⟨by simp [h.1], fun i u m a b => ?_⟩
  rw [List.getElem?_set] at a b
  by_cases e : q = i
  · subst e
    rw [if_pos rfl] at a b
    split at a
    · rename_i h1
      rw [if_pos (by rw [← h.1]; exact h1)] at b
      cases a; cases b; exact r
    · cases a
  · rw [if_neg e] at a b; exact h.2 i u m a b
theorem made_s {z : Value} {m : Nat} (hz : z.cells = #[.slice none 0 0]) : (madeCells z.cells (m * 1)).toList = List.replicate m (.slice none 0 0) := by
  apply List.ext_getElem
  · simp [madeCells]
  · intro i h2 h3
    simp only [madeCells, Array.toList_map, Array.toList_range, List.getElem_map, List.getElem_range, List.getElem_replicate, hz]
    simp [Nat.mod_one]
theorem set_cells {xs : List Value} {q : Nat} {v : Value} (h : q < xs.length) (hv : v.cells = #[v]) : xs.take (q * 1) ++ v.cells.toList ++ xs.drop (q * 1 + v.cells.size) = xs.set q v := by
  rw [hv, Nat.mul_one, List.set_eq_take_append_cons_drop, if_pos h]; simp
end Go.F
