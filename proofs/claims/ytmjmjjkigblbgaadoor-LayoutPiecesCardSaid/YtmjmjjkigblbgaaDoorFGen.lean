/- Structs of parts of any width, as values. -/
import Derived.Test.YtmjmjjkigblbgaaDoorFOpenQ
set_option linter.unusedVariables false
set_option linter.unusedSimpArgs false
set_option maxRecDepth 8192
namespace Go.F
open Go Go.RowKit Go.ChangeShapes Go.WideShapes Go.Deep
/-- Parts, one behind the other. -/
def gV (L : List (List Value)) : Value := .agg L.flatten.toArray
/-- How wide the parts are. -/
inductive Shp : List (List Value) → List Nat → Prop where
  | nil : Shp [] []
  | cons {c : List Value} {L : List (List Value)} {n : Nat} {ns : List Nat} : c.length = n → Shp L ns → Shp (c :: L) (n :: ns)
section
variable {L A B M : List (List Value)} {ns as bs : List Nat} {off : Nat}
theorem Shp.len (h : Shp L ns) : L.flatten.length = ns.sum := by
  induction h with
  | nil => rfl
  | cons h _ ih => rw [List.flatten_cons, List.length_append, h, ih, List.sum_cons]
theorem Shp.take (h : Shp L ns) : ∀ j, Shp (L.take j) (ns.take j) := by
  induction h with
  | nil => intro j; rw [List.take_nil, List.take_nil]; exact .nil
  | cons h _ ih => intro j; cases j with
    | zero => exact .nil
    | succ j => exact .cons h (ih j)
theorem Shp.drop (h : Shp L ns) : ∀ j, Shp (L.drop j) (ns.drop j) := by
  induction h with
  | nil => intro j; rw [List.drop_nil, List.drop_nil]; exact .nil
  | cons h h' ih => intro j; cases j with
    | zero => exact .cons h h'
    | succ j => exact ih j
theorem lenB {s : List UInt8} {n : Nat} (h : s.length = n) : (s.map bV).length = n := by rw [List.length_map, h]
theorem gV_size {n : Nat} (h : Shp L ns) (hn : ns.sum = n) : (gV L).cells.size = n := by
  show L.flatten.toArray.size = n
  rw [List.size_toArray, h.len, hn]
def OneL (L : List (List Value)) : Prop := ∀ c ∈ L, ∀ u ∈ c, u.oneCell' = true
theorem OneL.nil : OneL [] := fun _ h => by cases h
theorem OneL.one {v : Value} (h : v.oneCell' = true) (hL : OneL L) : OneL ([v] :: L) := fun c hc u hu => by
  rcases List.mem_cons.1 hc with rfl | hc
  · rw [List.mem_singleton.1 hu]; exact h
  · exact hL c hc u hu
theorem OneL.arr {s : List UInt8} (hL : OneL L) : OneL (s.map bV :: L) := fun c hc u hu => by
  rcases List.mem_cons.1 hc with rfl | hc
  · obtain ⟨x, _, rfl⟩ := List.mem_map.1 hu; rfl
  · exact hL c hc u hu
theorem gV_one (h : OneL L) : ∀ u ∈ (gV L).cells.toList, u.oneCell' = true := fun u hu => by
  obtain ⟨c, hc, hu⟩ := List.mem_flatten.1 (show u ∈ L.flatten from hu)
  exact h c hc u hu
theorem flat1 {c : List Value} : [c].flatten = c := by simp
theorem qV_flat {a b c d : Int} {s t : List UInt8} : [[Value.int .i64 a], [.int .i64 b], [.int .i64 c], [.int .i64 d], s.map bV, t.map bV].flatten = (qV a b c d s t).cells.toList := by
  simp [qV, Value.cells]
theorem split3 (L : List (List Value)) (j m : Nat) : L.flatten = (L.take j).flatten ++ (((L.drop j).take m).flatten ++ ((L.drop j).drop m).flatten) := by
  rw [← List.flatten_append, List.take_append_drop, ← List.flatten_append, List.take_append_drop]
/-- Some parts in a row. -/
theorem gV_sub (h : Shp L ns) (j m : Nat) {c : List Value} (hc : ((L.drop j).take m).flatten = c) (ho : (ns.take j).sum = off) : ∀ (q : Nat) u, c.toArray[q]? = some u → (gV L).cells[off + q]? = some u := by
  intro q u hq
  have h1 := (h.take j).len
  show L.flatten.toArray[off + q]? = some u
  rw [List.getElem?_toArray] at hq ⊢
  rw [split3 L j m, hc, List.getElem?_append_right (by omega), show off + q - (L.take j).flatten.length = q by omega, List.getElem?_append_left (List.getElem?_eq_some_iff.1 hq).1]
  exact hq
theorem gV_cell (h : Shp L ns) (j : Nat) {v : Value} (hj : ((L.drop j).take 1).flatten = [v]) (ho : (ns.take j).sum = off) : (gV L).cells[off]? = some v := gV_sub h j 1 hj ho 0 v rfl
/-- Some parts put in the place of others of that width. -/
theorem gV_put (h : Shp L ns) (j m : Nat) (M : List (List Value)) {c : List Value} (hc : M.flatten = c) (hw : ((ns.drop j).take m).sum = c.length) (ho : (ns.take j).sum = off) :
    ((gV L).cells.toList.take off ++ c ++ (gV L).cells.toList.drop (off + c.length)).toArray = (gV (L.take j ++ M ++ (L.drop j).drop m)).cells := by
  have h1 := (h.take j).len
  have h2 := ((h.drop j).take m).len
  have e : (gV L).cells.toList = (L.take j).flatten ++ (((L.drop j).take m).flatten ++ ((L.drop j).drop m).flatten) := split3 L j m
  show _ = (L.take j ++ M ++ (L.drop j).drop m).flatten.toArray
  rw [e, List.take_append, List.take_of_length_le (by omega), show off - (L.take j).flatten.length = 0 by omega, List.take_zero, List.append_nil,
    List.drop_append, List.drop_of_length_le (by omega), List.nil_append, List.drop_append, List.drop_of_length_le (by omega), List.nil_append,
    show off + c.length - (L.take j).flatten.length - ((L.drop j).take m).flatten.length = 0 by omega, List.drop_zero, List.flatten_append, List.flatten_append, hc]
theorem gV_set (h : Shp L ns) (j : Nat) (v : Value) (hw : ((ns.drop j).take 1).sum = 1) (ho : (ns.take j).sum = off) : (gV L).cells.setIfInBounds off v = (gV (L.take j ++ [[v]] ++ (L.drop j).drop 1)).cells := by
  have h1 := (h.take j).len
  have h2 := ((h.drop j).take 1).len
  have h3 := congrArg List.length (split3 L j 1)
  simp only [List.length_append] at h3
  have hs : off < (gV L).cells.size := by show off < L.flatten.toArray.size; rw [List.size_toArray]; omega
  rw [← seg1 hs]
  exact gV_put h j 1 [[v]] flat1 hw ho
end
theorem foldl_put (v : List Value) (off : Nat) (cells : Array Value) (h : off + v.length ≤ cells.size) :
    (v.toArray.zipIdx.foldl (fun cs (x : Value × Nat) => cs.setIfInBounds (off + x.2) x.1) cells) = (cells.toList.take off ++ v ++ cells.toList.drop (off + v.length)).toArray := by
  have hz := Go.Great.foldl_set off v 0 cells
  have e : (v.toArray.zipIdx.foldl (fun cs (x : Value × Nat) => cs.setIfInBounds (off + x.2) x.1) cells) = ((v.zipIdx 0).foldl (fun cs (x : Value × Nat) => cs.setIfInBounds (off + x.2) x.1) cells) := by
    rw [← Array.foldl_toList, Array.toList_zipIdx]
  rw [e]
  apply Array.ext_getElem?
  intro k
  rw [hz.2 k]
  have ht : (cells.toList.take off).length = off := by rw [List.length_take, Array.length_toList]; omega
  have er : (cells.toList.take off ++ v ++ cells.toList.drop (off + v.length)).toArray[k]? = (cells.toList.take off ++ v ++ cells.toList.drop (off + v.length))[k]? := by simp
  rw [er, List.append_assoc]
  by_cases h1 : k < off
  · rw [if_neg (by omega), List.getElem?_append_left (by omega), List.getElem?_take, if_pos h1, Array.getElem?_toList]
  · by_cases h2 : k < off + v.length
    · rw [if_pos (by omega), List.getElem?_append_right (by omega), ht, List.getElem?_append_left (by omega)]
      simp
    · rw [if_neg (by omega), List.getElem?_append_right (by omega), ht, List.getElem?_append_right (by omega), List.getElem?_drop, show off + v.length + (k - off - v.length) = k by omega, Array.getElem?_toList]
theorem fill_g {place : Nat → Option (Nat × Nat)} {L : List (List Value)} {ns : List Nat} {i off k : Nat} {v : Value} {rest : List (Nat × Value)} {R : Array Value} (hp : place i = some (off, k)) (h : Shp L ns) (j m : Nat) (M : List (List Value)) (hc : M.flatten = v.cells.toList) (hk : v.cells.size = k) (hw : ((ns.drop j).take m).sum = k) (ho : (ns.take j).sum = off)
    (hr : Instr.fill place (gV (L.take j ++ M ++ (L.drop j).drop m)).cells rest = some R) : Instr.fill place (gV L).cells ((i, v) :: rest) = some R := by
  have hl : v.cells.toList.length = k := by rw [Array.length_toList, hk]
  have h1 := (h.take j).len
  have h2 := ((h.drop j).take m).len
  have h3 := congrArg List.length (split3 L j m)
  simp only [List.length_append] at h3
  have hs : off + v.cells.toList.length ≤ (gV L).cells.size := by show _ ≤ L.flatten.toArray.size; rw [List.size_toArray]; omega
  rw [Instr.fill, hp]
  simp only
  rw [if_neg (by rw [hk]; simp; omega)]
  rw [← hr]
  congr 1
  rw [← gV_put h j m M hc (by rw [hw, hl]) ho]
  have := foldl_put v.cells.toList off (gV L).cells hs
  rw [Array.toArray_toList] at this
  exact this
theorem fill_gnil {place : Nat → Option (Nat × Nat)} {cells : Array Value} : Instr.fill place cells [] = some cells := rfl
end Go.F
