/- Structs of parts of any width, as values. -/
import Derived.Test.YtikgpfhjhfpmbaaFOpenQ
set_option linter.unusedVariables false
set_option linter.unusedSimpArgs false
set_option maxRecDepth 8192
namespace Go.F
open Go Go.RowKit Go.ChangeShapes Go.WideShapes Go.Deep
/-- Parts, one behind the other. -/
def gV (L : List (List Value)) : Value := .agg L.flatten.toArray
/-- How wide the parts are. -/
inductive Shp : List (List Value) → List Nat → Prop where
  | nil : Shp [] []
  | cons {c : List Value} {L : List (List Value)} {n : Nat} {ns : List Nat} : c.length = n → Shp L ns → Shp (c :: L) (n :: ns)
section
variable {L A B M : List (List Value)} {ns as bs : List Nat} {off : Nat}
theorem Shp.len (h : Shp L ns) : L.flatten.length = ns.sum := by
  induction h with
  | nil => rfl
  | cons h _ ih => rw [List.flatten_cons, List.length_append, h, ih, List.sum_cons]
theorem Shp.take (h : Shp L ns) : ∀ j, Shp (L.take j) (ns.take j) := by
  induction h with
  | nil => intro j; rw [List.take_nil, List.take_nil]; exact .nil
  | cons h _ ih => intro j; cases j with
    | zero => exact .nil
    | succ j => exact .cons h (ih j)
theorem Shp.drop (h : Shp L ns) : ∀ j, Shp (L.drop j) (ns.drop j) := by
  induction h with
  | nil => intro j; rw [List.drop_nil, List.drop_nil]; exact .nil
  | cons h h' ih => intro j; cases j with
    | zero => exact .cons h h'
    | succ j => exact ih j
def OneL (L : List (List Value)) : Prop := ∀ c ∈ L, ∀ u ∈ c, u.oneCell' = true
theorem OneL.nil : OneL [] := fun _ h => by cases h
theorem OneL.one {v : Value} (h : v.oneCell' = true) (hL : OneL L) : OneL ([v] :: L) := fun c hc u hu => by
  rcases List.mem_cons.1 hc with rfl | hc
  · rw [List.mem_singleton.1 hu]; exact h
  · exact hL c hc u hu
end
end Go.F
