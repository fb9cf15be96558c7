/- Building a forge, a cell at a time. -/
import Derived.Test.YtmjmjjkigblbgaaDoorFForge
set_option linter.unusedVariables false
set_option linter.unusedSimpArgs false
set_option maxRecDepth 8192
namespace Go.F
open Go Go.RowKit
theorem fill_one {place : Nat → Option (Nat × Nat)} {cells : Array Value} {i off : Nat} {v : Value} {rest : List (Nat × Value)} (hp : place i = some (off, 1)) (hv : v.cells = #[v]) (ho : off < cells.size) :
    Instr.fill place cells ((i, v) :: rest) = Instr.fill place (cells.setIfInBounds off v) rest := by
  rw [Instr.fill, hp]
  simp only [hv]
  rw [if_neg (by simp; omega)]
  rfl
theorem fill_hash {place : Nat → Option (Nat × Nat)} {cells : Array Value} {i off : Nat} {v : List UInt8} (hp : place i = some (off, 32)) (hv : v.length = 32) (ho : cells.size = off + 32) :
    Instr.fill place cells [(i, hV v)] = some (cells.toList.take off ++ v.map bV).toArray := by
  have hs : (hV v).cells.size = 32 := hVs hv
  rw [Instr.fill, hp]
  simp only
  rw [if_neg (by rw [hs]; simp; omega), Instr.fill]
  congr 1
  have hz := Go.Great.foldl_set off ((hV v).cells.toList) 0 cells
  have e : ((hV v).cells.zipIdx.foldl (fun cs (x : Value × Nat) => cs.setIfInBounds (off + x.2) x.1) cells) = (((hV v).cells.toList.zipIdx 0).foldl (fun cs (x : Value × Nat) => cs.setIfInBounds (off + x.2) x.1) cells) := by
    rw [← Array.foldl_toList, Array.toList_zipIdx]
  show ((hV v).cells.zipIdx.foldl (fun cs (x : Value × Nat) => cs.setIfInBounds (off + x.2) x.1) cells) = _
  rw [e]
  apply Array.ext_getElem?
  intro k
  rw [hz.2 k]
  have hl : (hV v).cells.toList.length = 32 := by simpa using hs
  have ht : (cells.toList.take off).length = off := by rw [List.length_take, Array.length_toList]; omega
  have er : (cells.toList.take off ++ v.map bV).toArray[k]? = (cells.toList.take off ++ v.map bV)[k]? := by simp
  rw [er]
  by_cases h1 : k < off
  · rw [if_neg (by omega), List.getElem?_append_left (by omega), List.getElem?_take, if_pos h1, Array.getElem?_toList]
  · by_cases h2 : k < off + 32
    · rw [if_pos (by omega), List.getElem?_append_right (by omega), ht, hcell1]
      simp
    · rw [if_neg (by omega), Array.getElem?_eq_none (by omega), List.getElem?_eq_none (by rw [List.length_append, ht, List.length_map]; omega)]
theorem fill_fV5 {k : Bool} {a b c : Int} {v : List UInt8} (h : v.length = 32) :
    Instr.fill (fun j => [(0, 2), (2, 1), (3, 1), (4, 1), (5, 1), (6, 32)].toArray[j]?) (fz : Value).cells [(1, .bool k), (2, .int .i64 a), (3, .int .i64 b), (4, .int .i64 c), (5, hV v)] = some (fV k a b c v).cells := by
  rw [fz_lit, fill_one (off := 2) rfl rfl (by decide), fill_one (off := 3) rfl rfl (by simp), fill_one (off := 4) rfl rfl (by simp), fill_one (off := 5) rfl rfl (by simp), fill_hash (off := 6) rfl h (by simp)]
  rfl
theorem fill_fV3 {k : Bool} {a : Int} {v : List UInt8} (h : v.length = 32) :
    Instr.fill (fun j => [(0, 2), (2, 1), (3, 1), (4, 1), (5, 1), (6, 32)].toArray[j]?) (fz : Value).cells [(1, .bool k), (2, .int .i64 a), (5, hV v)] = some (fV k a 0 0 v).cells := by
  rw [fz_lit, fill_one (off := 2) rfl rfl (by decide), fill_one (off := 3) rfl rfl (by simp), fill_hash (off := 6) rfl h (by simp)]
  rfl
end Go.F
