/- How a signature was forged, as a value: a break, a mark, three numbers, a hash. -/
import Derived.Test.YtmjmjjkigblbgaaDoorFMss2
set_option linter.unusedVariables false
set_option linter.unusedSimpArgs false
set_option maxRecDepth 8192
namespace Go.F
open Go Go.RowKit
def fV (leak : Bool) (leaf chain place : Int) (v : List UInt8) : Value := .agg ([Value.slice none 0 0, .slice none 0 0, .bool leak, .int .i64 leaf, .int .i64 chain, .int .i64 place] ++ v.map bV).toArray
def fz : Value := fV false 0 0 0 (List.replicate 32 0)
section
variable {k : Bool} {a b c : Int} {v : List UInt8}
theorem fV_size (h : v.length = 32) : (fV k a b c v).cells.size = 38 := by simp [fV, Value.cells, h]
theorem fV_one : ∀ u ∈ (fV k a b c v).cells.toList, u.oneCell' = true := by
  intro u hu
  simp only [fV, Value.cells, List.mem_append, List.mem_cons, List.not_mem_nil, or_false] at hu
  rcases hu with (rfl | rfl | rfl | rfl | rfl | rfl) | hu
  · rfl
  · rfl
  · rfl
  · rfl
  · rfl
  · rfl
  · obtain ⟨x, _, rfl⟩ := List.mem_map.1 hu; rfl
theorem fV_2 : (fV k a b c v).cells[2]? = some (.bool k) := by simp [fV, Value.cells]
theorem fV_3 : (fV k a b c v).cells[3]? = some (.int .i64 a) := by simp [fV, Value.cells]
theorem fV_4 : (fV k a b c v).cells[4]? = some (.int .i64 b) := by simp [fV, Value.cells]
theorem fV_5 : (fV k a b c v).cells[5]? = some (.int .i64 c) := by simp [fV, Value.cells]
theorem fV_br : ∀ (q : Nat) u, (#[Value.slice none 0 0, .slice none 0 0] : Array Value)[q]? = some u → (fV k a b c v).cells[0 + q]? = some u := by
  intro q u h
  match q, h with
  | 0, h => simpa [fV, Value.cells] using h
  | 1, h => simpa [fV, Value.cells] using h
  | q + 2, h => simp at h
theorem fV_val : ∀ (q : Nat) u, (v.map bV).toArray[q]? = some u → (fV k a b c v).cells[6 + q]? = some u := by
  intro q u h
  simp only [fV, Value.cells, List.getElem?_toArray] at h ⊢
  rw [List.getElem?_append_right (by simp)]
  simpa using h
end
theorem fz_lit : (fz : Value).cells = #[.slice none 0 0, .slice none 0 0, .bool false, .int .i64 0, .int .i64 0, .int .i64 0, .int .u8 0, .int .u8 0, .int .u8 0, .int .u8 0, .int .u8 0, .int .u8 0, .int .u8 0, .int .u8 0, .int .u8 0, .int .u8 0, .int .u8 0, .int .u8 0, .int .u8 0, .int .u8 0, .int .u8 0, .int .u8 0,
    .int .u8 0, .int .u8 0, .int .u8 0, .int .u8 0, .int .u8 0, .int .u8 0, .int .u8 0, .int .u8 0, .int .u8 0, .int .u8 0, .int .u8 0, .int .u8 0, .int .u8 0, .int .u8 0, .int .u8 0, .int .u8 0] := rfl
end Go.F
