/- The beginning of a hash as a key; bytes written into an array. -/
import Derived.Test.YtadiakpbodlecaaDoorFMark
import Derived.Laws.Cover3
set_option linter.unusedVariables false
set_option linter.unusedSimpArgs false
set_option maxRecDepth 8192
namespace Go.F
open Go Go.RowKit
section
variable {P : Program} {N : Plan} {n : Nat} {ops : Array Oper} {K : Env → World → Prop} {rest : List Oper} {ρ : Env} {w : World}
/-- A slice as an array's address. -/
theorem T_s2ap {o : Oper} {d : Nat} {t e : TypeId} {x : Operand} {ad : Option Addr} {m c q : Nat} (ho : o.op = .sliceToArrayPointer t x) (hx : ρ.ev x = some (.slice ad m c)) (ht : P.underlying t = some (.array q e))
    (hg : o.guard = none) (hd : o.dst = some d) (hn : Nat.ble (d + 1) n = true) (hq : q ≤ m) (k : T P N n ops K rest ((d, .pointer ad) :: ρ) w) : T P N n ops K (o :: rest) ρ w :=
  T_val hg hd hn (fun a ha u => by
    have e1 := ha.ev hx
    unfold execOp; rw [ho]; simp only [e1]
    have h := run_arrayAt (P := P) u t e q ad m c ht hq
    simp [h]) k
end
theorem hV_cut {l : List UInt8} {m q : Nat} (h : q + m ≤ l.length) : ∀ (j : Nat) v, (((l.drop q).take m).map bV).toArray[j]? = some v → (hV l).cells[q + j]? = some v := by
  intro j v hv
  simp only [List.getElem?_toArray, List.getElem?_map, List.getElem?_take, List.getElem?_drop] at hv
  show (l.map bV).toArray[q + j]? = some v
  split at hv
  · simpa using hv
  · cases hv
/-- One more byte of a key. -/
theorem hV_put {l : List UInt8} {k : Nat} (x : UInt8) {m : Nat} (hk : k < m) (h : m ≤ l.length) (hx : x = l.getD k 0) : (hV (l.take k ++ List.replicate (m - k) 0)).cells.setIfInBounds k (bV x) = (hV (l.take (k + 1) ++ List.replicate (m - (k + 1)) 0)).cells := by
  subst hx
  have h1 : (l.take k).length = k := by rw [List.length_take]; omega
  have hr : List.replicate (m - k) (0 : UInt8) = 0 :: List.replicate (m - (k + 1)) 0 := by
    rw [show m - k = (m - (k + 1)) + 1 by omega, List.replicate_succ]
  have ht : l.take (k + 1) = l.take k ++ [l.getD k 0] := by
    rw [List.take_add_one, List.getD_eq_getElem?_getD, List.getElem?_eq_getElem (show k < l.length by omega)]; rfl
  show ((l.take k ++ List.replicate (m - k) 0).map bV).toArray.setIfInBounds k (bV (l.getD k 0)) = ((l.take (k + 1) ++ List.replicate (m - (k + 1)) 0).map bV).toArray
  apply Array.toList_inj.1
  rw [Array.toList_setIfInBounds, hr, ht]
  simp only [List.map_append, List.map_cons, List.map_nil, List.append_assoc, List.cons_append, List.nil_append]
  have h2 : ((l.take k).map bV).length = k := by rw [List.length_map, h1]
  rw [List.set_append_right _ _ (by omega), h2, Nat.sub_self]
  rfl
end Go.F
