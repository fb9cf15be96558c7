/- Pairs of hashes; stores into rows of the call's own. -/
import Derived.Test.YtmjmjjkigblbgaaDoorFRest

import Derived.Great.FillDense
set_option linter.unusedVariables false
set_option linter.unusedSimpArgs false
set_option maxRecDepth 8192
namespace Go.F
open Go Go.RowKit
section
variable {P : Program} {N : Plan} {n : Nat} {ops : Array Oper} {K : Env → World → Prop} {rest : List Oper} {ρ : Env} {w W : World} {H G : Hp} {its : List Item}

/-- The cells of '[2]T{a, b}'. -/
theorem fill2 {i : TypeInfo} {z : Value} {a b : List UInt8} {k : Nat} (hk : 0 < k) (hi : i.size = k) (hz : z.cells.size = 2 * k) (ha : a.length = k) (hb : b.length = k) :
    Instr.fill (fun j => some (j * i.size, i.size)) z.cells [(0, hV a), (1, hV b)] = some (hV (a ++ b)).cells := by
  have h := Go.Great.fill_whole hk [hV a, hV b] z.cells (by
    intro v hv
    simp only [List.mem_cons, List.not_mem_nil, or_false] at hv
    rcases hv with rfl | rfl
    · exact hVs ha
    · exact hVs hb) (by simp [hz])
  rw [hi]
  have e : (([hV a, hV b].zipIdx 0).map fun x => (x.2, x.1)) = [(0, hV a), (1, hV b)] := rfl
  rw [e] at h
  rw [h]
  simp [Value.cells]

theorem run_part2 {e : TypeId} (hs : isAggB P e = true) {i : TypeInfo} (hi : P.info? e = some i) (xs : List UInt8) (q : Nat) (u : World) : (part e (xs.map bV).toArray q).run P u = .ok (hV ((xs.drop q).take i.size)) u := by
  have e1 : (xs.map bV).toArray.extract q (q + i.size) = (((xs.drop q).take i.size).map bV).toArray := by
    rw [List.extract_toArray, List.extract_eq_take_drop, Nat.add_sub_cancel_left, List.map_take, List.map_drop]
  simp only [part, Sem.run_bind, run_isAgg_yes hs, Result.andThen_ok, if_true, run_size hi, Sem.run_pure, e1]

theorem run_eqPair {t e e0 : TypeId} {k0 : IntKind} {i i0 : TypeInfo} {len : Nat} (ht : P.underlying t = some (.array 2 e)) (he : P.underlying e = some (.array len e0)) (he0 : P.underlying e0 = some (.int k0)) (hi : P.info? e = some i) (hi0 : P.info? e0 = some i0)
    (hc : P.cellsOf e = len) (hc0 : P.cellsOf e0 = 1) (his : i.size = len) (xs ys : List UInt8) (hx : xs.length = 2 * len) (hy : ys.length = 2 * len) (u : World) :
    (Op.equal t (hV xs) (hV ys)).run P u = .ok (decide (xs = ys)) u := by
  have hs : isAggB P e = true := by simp [isAggB, he]
  have q : ∀ a b : List UInt8, a.length = len → b.length = len → (Op.equalIn (9998 + 1) e (hV a) (hV b)).run P u = .ok (decide (a = b)) u := fun a b ha hb => by
    have hr := run_eqItems_b (P := P) he0 9997 a b u (by omega) a.length 0 (by omega)
    rw [run_equalIn_array u 9998 _ _ he hi0, hc0, ← ha, List.range_eq_range']
    simpa using hr
  show (Op.equalIn (9999 + 1) t _ _).run P u = _
  rw [run_equalIn_array u 9999 _ _ ht hi, hc]
  show (Op.eqItems 9999 e len _ _ [0, 1]).run P u = _
  have q1 := q ((xs.drop (0 * len)).take i.size) ((ys.drop (0 * len)).take i.size) (by rw [List.length_take, List.length_drop, his]; omega) (by rw [List.length_take, List.length_drop, his]; omega)
  have q2 := q ((xs.drop (1 * len)).take i.size) ((ys.drop (1 * len)).take i.size) (by rw [List.length_take, List.length_drop, his]; omega) (by rw [List.length_take, List.length_drop, his]; omega)
  have key : xs = ys ↔ (xs.drop (0 * len)).take i.size = (ys.drop (0 * len)).take i.size ∧ (xs.drop (1 * len)).take i.size = (ys.drop (1 * len)).take i.size := by
    constructor
    · intro h; rw [h]; exact ⟨rfl, rfl⟩
    · rintro ⟨h1, h2⟩
      simp only [Nat.zero_mul, List.drop_zero, Nat.one_mul, his] at h1 h2
      rw [List.take_of_length_le (by rw [List.length_drop]; omega), List.take_of_length_le (by rw [List.length_drop]; omega)] at h2
      rw [← List.take_append_drop len xs, ← List.take_append_drop len ys, h1, h2]
  by_cases a : (xs.drop (0 * len)).take i.size = (ys.drop (0 * len)).take i.size
  · have a' := decide_eq_true a
    rw [a'] at q1
    simp only [Op.eqItems, Sem.run_bind, run_part2 hs hi, Result.andThen_ok, q1, Bool.not_true, Bool.false_eq_true, if_false, q2]
    by_cases b : (xs.drop (1 * len)).take i.size = (ys.drop (1 * len)).take i.size
    · rw [decide_eq_true (key.2 ⟨a, b⟩), decide_eq_true b]; rfl
    · rw [decide_eq_false (fun h => b (key.1 h).2), decide_eq_false b]; rfl
  · have a' := decide_eq_false a
    rw [a'] at q1
    simp only [Op.eqItems, Sem.run_bind, run_part2 hs hi, Result.andThen_ok, q1, Bool.not_false, if_true, Sem.run_pure]
    rw [decide_eq_false (fun h => a (key.1 h).1)]

theorem T_eqP {o : Oper} {d : Nat} {t t' e e0 : TypeId} {k0 : IntKind} {i i0 : TypeInfo} {len : Nat} {x y : Operand} {xs ys : List UInt8} (ho : o.op = .binOp .eql t x y t') (hx : ρ.ev x = some (hV xs)) (hy : ρ.ev y = some (hV ys))
    (ht : P.underlying t = some (.array 2 e)) (he : P.underlying e = some (.array len e0)) (he0 : P.underlying e0 = some (.int k0)) (hi : P.info? e = some i) (hi0 : P.info? e0 = some i0) (hc : P.cellsOf e = len) (hc0 : P.cellsOf e0 = 1) (his : i.size = len) (hgd : P.eqGuardType P.depth t = false) (hg : o.guard = none) (hd : o.dst = some d) (hn : Nat.ble (d + 1) n = true)
    (hlx : xs.length = 2 * len) (hly : ys.length = 2 * len) (k : T P N n ops K rest ((d, .bool (decide (xs = ys))) :: ρ) w) : T P N n ops K (o :: rest) ρ w :=
  T_val hg hd hn (fun a ha u => by
    have e1 := ha.ev hx
    have e2 := ha.ev hy
    have hq := run_eqPair ht he he0 hi hi0 hc hc0 his xs ys hlx hly u
    have hp : (program).run P u = .ok P u := rfl
    unfold execOp; rw [ho]; simp only [e1, e2]
    simp [eqGuard, hp, hgd, binOp, hq]) k
theorem T_neP {o : Oper} {d : Nat} {t t' e e0 : TypeId} {k0 : IntKind} {i i0 : TypeInfo} {len : Nat} {x y : Operand} {xs ys : List UInt8} (ho : o.op = .binOp .neq t x y t') (hx : ρ.ev x = some (hV xs)) (hy : ρ.ev y = some (hV ys))
    (ht : P.underlying t = some (.array 2 e)) (he : P.underlying e = some (.array len e0)) (he0 : P.underlying e0 = some (.int k0)) (hi : P.info? e = some i) (hi0 : P.info? e0 = some i0) (hc : P.cellsOf e = len) (hc0 : P.cellsOf e0 = 1) (his : i.size = len) (hgd : P.eqGuardType P.depth t = false) (hg : o.guard = none) (hd : o.dst = some d) (hn : Nat.ble (d + 1) n = true)
    (hlx : xs.length = 2 * len) (hly : ys.length = 2 * len) (k : T P N n ops K rest ((d, .bool (!decide (xs = ys))) :: ρ) w) : T P N n ops K (o :: rest) ρ w :=
  T_val hg hd hn (fun a ha u => by
    have e1 := ha.ev hx
    have e2 := ha.ev hy
    have hq := run_eqPair ht he he0 hi hi0 hc hc0 his xs ys hlx hly u
    have hp : (program).run P u = .ok P u := rfl
    unfold execOp; rw [ho]; simp only [e1, e2]
    simp [eqGuard, hp, hgd, binOp, hq]) k

/-- What hangs on a test that was not made is not done. -/
theorem T_un {o : Oper} {g t : Nat} {b : Bool} {d : Nat} (hg : o.guard = some (g, b)) (ht : (ops[g]?).bind (·.dst) = some t) (hb : ρ.get? t = some undef)
    (hd : o.dst = some d) (hn : Nat.ble (d + 1) n = true) (k : T P N n ops K rest ((d, undef) :: ρ) w) : T P N n ops K (o :: rest) ρ w := by
  intro a ha hc
  unfold xo
  have hy : yielded ops a.tmps g = none := by
    have := ha.2.2 t _ hb
    simp [yielded, ht, this, undef]
  rw [if_neg (by simp [Region.wanted, hg, hy])]
  refine ⟨(d, undef) :: ρ, ?_, k⟩
  rw [hd]
  exact ha.put hn undef
theorem T_un' {o : Oper} {g t : Nat} {b : Bool} (hg : o.guard = some (g, b)) (ht : (ops[g]?).bind (·.dst) = some t) (hb : ρ.get? t = some undef)
    (hd : o.dst = none) (k : T P N n ops K rest ρ w) : T P N n ops K (o :: rest) ρ w := by
  intro a ha hc
  unfold xo
  have hy : yielded ops a.tmps g = none := by
    have := ha.2.2 t _ hb
    simp [yielded, ht, this, undef]
  rw [if_neg (by simp [Region.wanted, hg, hy])]
  refine ⟨ρ, ?_, k⟩
  rw [hd]
  exact ha
/-- The address of an element of an array in a variable, its number said. -/
theorem T_idxAm {o : Oper} {d : Nat} {t e : TypeId} {i : TypeInfo} {x y : Operand} {b off len : Nat} {k0 : IntKind} {z : Int} (m : Nat) (ho : o.op = .indexAddr t x y) (hx : ρ.ev x = some (.pointer (some ⟨b, off, none⟩))) (hy : ρ.ev y = some (.int k0 z))
    (ht : P.underlying t = some (.array len e)) (hi : P.info? e = some i) (hg : o.guard = none) (hd : o.dst = some d) (hn : Nat.ble (d + 1) n = true)
    (hz : 0 ≤ z ∧ z < len) (hm : off + z.toNat * i.size = m) (k : T P N n ops K rest ((d, .pointer (some ⟨b, m, none⟩)) :: ρ) w) : T P N n ops K (o :: rest) ρ w :=
  T_idxA ho hx hy ht hi hg hd hn hz (by rw [hm]; exact k)

/-! ### Stores into a row of the call's own -/
theorem St.rowAt (S : St W H G its w) (j : Nat) {e : TypeId} {size m c : Nat} {a : Option Addr} {xs : List Value} (hj : its[j]? = some (.row e size (.slice a m c) m xs)) (hm : 0 < m) : ∃ g, a = some ⟨g, 0, none⟩ := by
  rcases (S.row j hj).2 with ⟨h, h0⟩ | ⟨g, _, _, _, h, _⟩
  · omega
  · cases h; exact ⟨g, rfl⟩
theorem take_seg {A V : List Value} {o N : Nat} (h : o + V.length ≤ N) (hN : N ≤ A.length) : (A.take o ++ V ++ A.drop (o + V.length)).take N = (A.take N).take o ++ V ++ (A.take N).drop (o + V.length) := by
  rw [List.take_take, Nat.min_eq_left (by omega), List.drop_take]
  have hl : (A.take o ++ V).length = o + V.length := by rw [List.length_append, List.length_take]; omega
  rw [List.take_append, hl, List.take_of_length_le (by omega)]
theorem T_storeRow {o : Oper} {t e : TypeId} {i : TypeInfo} {x y : Operand} {g off size m c : Nat} {xs : List Value} {u : Value} (j : Nat) (xs' : List Value) (S : St W H G its w) (hC : ∀ u, G.le (hw u) → N.C u) (hj : its[j]? = some (.row e size (.slice (some ⟨g, 0, none⟩) m c) m xs)) (ho : o.op = .store t x y) (hx : ρ.ev x = some (.pointer (some ⟨g, off, none⟩))) (hy : ρ.ev y = some u)
    (hi : P.info? t = some i) (hcl : N.cl o = .loud) (hg : o.guard = none) (hd : o.dst = none) (hl : u.cells.size = i.size) (hfit : off + i.size ≤ m * size) (h1 : ∀ v ∈ u.cells.toList, v.oneCell' = true) (hx' : xs.take off ++ u.cells.toList ++ xs.drop (off + u.cells.size) = xs')
    (k : ∀ w', St W H G (its.set j (.row e size (.slice (some ⟨g, 0, none⟩) m c) m xs')) w' → T P N n ops K rest ρ w') : T P N n ops K (o :: rest) ρ w := by
  subst hx'
  have hr := S.row j hj
  obtain ⟨hlen, hn | ⟨g', cap, cur, fz, hv, hb, hgg, hfz, hmc, hcm, hcs, htake⟩⟩ := hr
  · cases hn.1
  cases hv
  have hmul : m * size ≤ c * size := Nat.mul_le_mul_right _ hmc
  have hst := run_storeCells_atZ P g off e fz u.cells.toList 0 cur w hgg hfz (by simp only [Array.length_toList]; omega) h1
  simp only [Nat.add_zero, Array.length_toList] at hst
  have hsize : (cur.toList.take off ++ u.cells.toList ++ cur.toList.drop (off + u.cells.size)).toArray.size = cur.size := by
    simp only [List.size_toArray, List.length_append, List.length_take, List.length_drop, Array.length_toList]; omega
  have hseg : (cur.toList.take off ++ u.cells.toList ++ cur.toList.drop (off + u.cells.size)).take (m * size) = xs.take off ++ u.cells.toList ++ xs.drop (off + u.cells.size) := by
    have h := take_seg (A := cur.toList) (V := u.cells.toList) (o := off) (N := m * size) (by simp only [Array.length_toList]; omega) (by simp only [Array.length_toList]; omega)
    simp only [Array.length_toList] at h
    rw [h, htake]
  have hok : rowZ (w.setRow g (cur.toList.take off ++ u.cells.toList ++ cur.toList.drop (off + u.cells.size)).toArray) W.heap.size e size (.slice (some ⟨g, 0, none⟩) m c) m (xs.take off ++ u.cells.toList ++ xs.drop (off + u.cells.size)) := by
    refine ⟨?_, .inr ⟨g, c, _, fz, rfl, hb, setRow_heap w g cur _ e _ hgg, by rw [hsize]; exact hfz, hmc, hcm, by rw [hsize]; exact hcs, hseg⟩⟩
    simp only [List.length_append, List.length_take, List.length_drop, Array.length_toList]; omega
  have S' := S.set j (it' := .row e size (.slice (some ⟨g, 0, none⟩) m c) m (xs.take off ++ u.cells.toList ++ xs.drop (off + u.cells.size))) hj
    (w' := w.setRow g (cur.toList.take off ++ u.cells.toList ++ cur.toList.drop (off + u.cells.size)).toArray) ⟨rfl, rfl, rfl, by simp, fun q _ hk => setRow_other w g q _ (fun e => hk (by simp [Item.spot, Value.ownBlock, e]))⟩
    hok (fun b' h => .inl h)
  refine T_ran0 hcl hg hd (fun a ha => ?_) (hC _ S'.le) (k _ S')
  have e1 := ha.ev hx
  have e2 := ha.ev hy
  unfold execOp; rw [ho]; simp only [e1, e2]
  have hst' : (storeCells ⟨g, off, none⟩ u.cells.toList).run P w = _ := hst
  simp [Instr.storeAt, Instr.sureAddr, storeVar, sizeOf, typeInfo, hi, hl, hst']
/-- The address of an element of a slice, its number said. -/
theorem T_idxm {o : Oper} {d : Nat} {t e : TypeId} {i : TypeInfo} {x y : Operand} {b off len cap : Nat} {k0 : IntKind} {z : Int} (m : Nat) (ho : o.op = .indexAddr t x y) (hx : ρ.ev x = some (.slice (some ⟨b, off, none⟩) len cap)) (hy : ρ.ev y = some (.int k0 z))
    (ht : P.underlying t = some (.slice e)) (hi : P.info? e = some i) (hg : o.guard = none) (hd : o.dst = some d) (hn : Nat.ble (d + 1) n = true)
    (hz : 0 ≤ z ∧ z < len) (hm : off + z.toNat * i.size = m) (k : T P N n ops K rest ((d, .pointer (some ⟨b, m, none⟩)) :: ρ) w) : T P N n ops K (o :: rest) ρ w :=
  T_idx ho hx hy ht hi hg hd hn hz (by rw [hm]; exact k)
theorem St.rowCell (S : St W H G its w) (j : Nat) {e : TypeId} {size m c g off : Nat} {xs : List Value} {v : Value} (hj : its[j]? = some (.row e size (.slice (some ⟨g, 0, none⟩) m c) m xs)) (h : xs[off]? = some v) : w.cell? ⟨g, off, none⟩ = some v := by
  have := (S.row j hj).cells (g := g) rfl off v h
  rwa [Addr.add_lit, Nat.zero_add] at this
end
theorem one_all {l : List Value} (h : l.all (fun v => v.oneCell') = true) : ∀ u ∈ l, u.oneCell' = true := fun u hu => List.all_eq_true.1 h u hu
theorem one_bV1 {b : UInt8} : ∀ v ∈ (bV b).cells.toList, v.oneCell' = true := by
  intro v hv; simp [bV, Value.cells] at hv; subst hv; rfl
theorem hcells_at1 {l : List (List UInt8)} {k q r : Nat} (hl : ∀ x ∈ l, x.length = k) (hq : q < l.length) (hr : r < k) : (hcells l)[q * k + r]? = some (bV ((l.getD q []).getD r 0)) := by
  have hx := len_h hl q hq
  refine hcells_at hl q (l.getD q []) ?_ r _ ?_
  · rw [List.getD_eq_getElem?_getD, List.getElem?_eq_getElem hq]; rfl
  · generalize l.getD q [] = x at *
    rw [List.getElem?_map, List.getD_eq_getElem?_getD, List.getElem?_eq_getElem (by omega)]; rfl
theorem hcells_cons (x : List UInt8) (l : List (List UInt8)) : hcells (x :: l) = x.map bV ++ hcells l := rfl
theorem hcells_set {l : List (List UInt8)} {k q : Nat} {h : List UInt8} (hl : ∀ x ∈ l, x.length = k) (hq : q < l.length) (hh : h.length = k) :
    (hcells l).take (q * k) ++ (hV h).cells.toList ++ (hcells l).drop (q * k + (hV h).cells.size) = hcells (l.set q h) := by
  rw [hVs hh, ← Nat.succ_mul, hcells_take hl, hcells_drop hl, List.set_eq_take_append_cons_drop, if_pos hq, hcells_append, hcells_cons, hcell1, List.append_assoc]
theorem hcells_set1 {l : List (List UInt8)} {k q r : Nat} {b : UInt8} (hl : ∀ x ∈ l, x.length = k) (hq : q < l.length) (hr : r < k) :
    (hcells l).take (q * k + r) ++ (bV b).cells.toList ++ (hcells l).drop (q * k + r + (bV b).cells.size) = hcells (l.set q ((l.getD q []).set r b)) := by
  have hx := len_h hl q hq
  have e : hcells l = hcells (l.take q) ++ ((l.getD q []).map bV ++ hcells (l.drop (q + 1))) := by
    rw [← hcells_cons, ← hcells_append]
    congr 1
    conv => lhs; rw [← List.take_append_drop q l, List.drop_eq_getElem_cons hq]
    rw [List.getD_eq_getElem?_getD, List.getElem?_eq_getElem hq]; rfl
  have hA : (hcells (l.take q)).length = q * k := by
    rw [hcells_len (k := k) (fun y hy => hl y (List.mem_of_mem_take hy)), List.length_take, Nat.min_eq_left (by omega)]
  have hB : ((l.getD q []).map bV).length = k := by rw [List.length_map]; exact hx
  rw [List.set_eq_take_append_cons_drop, if_pos hq, hcells_append, hcells_cons]
  have hset : ((l.getD q []).set r b).map bV = ((l.getD q []).map bV).take r ++ [bV b] ++ ((l.getD q []).map bV).drop (r + 1) := by
    rw [List.set_eq_take_append_cons_drop, if_pos (by omega), List.map_append, List.map_cons, List.map_take, List.map_drop, List.append_assoc]; rfl
  rw [hset]
  generalize (l.getD q []).map bV = B at *
  show (hcells l).take (q * k + r) ++ [bV b] ++ (hcells l).drop (q * k + r + 1) = _
  rw [e]
  generalize hcells (l.take q) = A at *
  generalize hcells (l.drop (q + 1)) = C at *
  rw [List.take_append, List.drop_append, hA, List.take_of_length_le (by omega), List.drop_of_length_le (by omega), List.take_append, List.drop_append, hB]
  rw [show q * k + r - q * k = r by omega, show q * k + r + 1 - q * k = r + 1 by omega, show r - k = 0 by omega, show r + 1 - k = 0 by omega]
  simp
theorem set_all {l : List (List UInt8)} {k : Nat} (hl : ∀ x ∈ l, x.length = k) (q : Nat) {h : List UInt8} (hh : h.length = k) : ∀ x ∈ l.set q h, x.length = k := by
  intro x hx
  rcases List.mem_or_eq_of_mem_set hx with h1 | h1
  · exact hl x h1
  · rw [h1]; exact hh
theorem made_h {z : Value} {k m : Nat} (hz : z.cells = Array.replicate k (bV 0)) (hk : 0 < k) : (madeCells z.cells (m * k)).toList = hcells (List.replicate m (List.replicate k 0)) := by
  have h1 : (madeCells z.cells (m * k)).toList = List.replicate (m * k) (bV 0) := by
    apply List.ext_getElem
    · simp [madeCells]
    · intro i h2 h3
      simp only [madeCells, Array.toList_map, Array.toList_range, List.getElem_map, List.getElem_range, List.getElem_replicate, hz, Array.size_replicate]
      rw [getElem!_pos _ _ (by simpa using Nat.mod_lt _ hk)]
      simp
  have h2 : ∀ m, hcells (List.replicate m (List.replicate k 0)) = List.replicate (m * k) (bV 0) := by
    intro m
    induction m with
    | zero => simp [hcells]
    | succ m ih => rw [List.replicate_succ, hcells_cons, ih, List.map_replicate, List.replicate_append_replicate]; congr 1; rw [Nat.succ_mul]; omega
  rw [h1, h2]
theorem rep_all (m k : Nat) : ∀ x ∈ List.replicate m (List.replicate k (0 : UInt8)), x.length = k := by
  intro x hx; rw [List.eq_of_mem_replicate hx]; exact List.length_replicate
end Go.F
