/- General lemmas for walking the code, or plain mathematics. -/
import Derived.Test.YtfcejolipdcoaaaGreatDoorFLaidAll
import Derived.Test.YtfcejolipdcoaaaGreatDoorFRest
import Derived.Great.FillDense
set_option linter.unusedVariables false
set_option linter.unusedSimpArgs false
set_option maxRecDepth 8192
namespace Go.F
open Go Go.RowKit Go.ChangeShapes Go.WideShapes Go.Deep
end Go.F

namespace Go.F
open Go Go.RowKit
section
variable {P : Program} {N : Plan} {n : Nat} {ops : Array Oper} {K : Env → World → Prop} {rest : List Oper} {ρ : Env} {w W : World} {H G : Hp} {its : List Item}

theorem fill2 {i : TypeInfo} {z : Value} {a b : List UInt8} {k : Nat} (hk : 0 < k) (hi : i.size = k) (hz : z.cells.size = 2 * k) (ha : a.length = k) (hb : b.length = k) :
    Instr.fill (fun j => some (j * i.size, i.size)) z.cells [(0, hV a), (1, hV b)] = some (hV (a ++ b)).cells := by
  have h := Go.Great.fill_whole hk [hV a, hV b] z.cells (by
    intro v hv
    simp only [List.mem_cons, List.not_mem_nil, or_false] at hv
    rcases hv with rfl | rfl
    · exact hVs ha
    · exact hVs hb) (by simp [hz])
  rw [hi]
  have e : (([hV a, hV b].zipIdx 0).map fun x => (x.2, x.1)) = [(0, hV a), (1, hV b)] := rfl
  rw [e] at h
  rw [h]
  simp [Value.cells]

theorem run_part2 {e : TypeId} (hs : isAggB P e = true) {i : TypeInfo} (hi : P.info? e = some i) (xs : List UInt8) (q : Nat) (u : World) : (part e (xs.map bV).toArray q).run P u = .ok (hV ((xs.drop q).take i.size)) u := by
  have e1 : (xs.map bV).toArray.extract q (q + i.size) = (((xs.drop q).take i.size).map bV).toArray := by
    rw [List.extract_toArray, List.extract_eq_take_drop, Nat.add_sub_cancel_left, List.map_take, List.map_drop]
  simp only [part, Sem.run_bind, run_isAgg_yes hs, Result.andThen_ok, if_true, run_size hi, Sem.run_pure, e1]

theorem run_eqPair {t e e0 : TypeId} {k0 : IntKind} {i i0 : TypeInfo} {len : Nat} (ht : P.underlying t = some (.array 2 e)) (he : P.underlying e = some (.array len e0)) (he0 : P.underlying e0 = some (.int k0)) (hi : P.info? e = some i) (hi0 : P.info? e0 = some i0)
    (hc : P.cellsOf e = len) (hc0 : P.cellsOf e0 = 1) (his : i.size = len) (xs ys : List UInt8) (hx : xs.length = 2 * len) (hy : ys.length = 2 * len) (u : World) :
    (Op.equal t (hV xs) (hV ys)).run P u = .ok (decide (xs = ys)) u := by
  have hs : isAggB P e = true := by simp [isAggB, he]
  have q : ∀ a b : List UInt8, a.length = len → b.length = len → (Op.equalIn (9998 + 1) e (hV a) (hV b)).run P u = .ok (decide (a = b)) u := fun a b ha hb => by
    have hr := run_eqItems_b (P := P) he0 9997 a b u (by omega) a.length 0 (by omega)
    rw [run_equalIn_array u 9998 _ _ he hi0, hc0, ← ha, List.range_eq_range']
    simpa using hr
  show (Op.equalIn (9999 + 1) t _ _).run P u = _
  rw [run_equalIn_array u 9999 _ _ ht hi, hc]
  show (Op.eqItems 9999 e len _ _ [0, 1]).run P u = _
  have q1 := q ((xs.drop (0 * len)).take i.size) ((ys.drop (0 * len)).take i.size) (by rw [List.length_take, List.length_drop, his]; omega) (by rw [List.length_take, List.length_drop, his]; omega)
  have q2 := q ((xs.drop (1 * len)).take i.size) ((ys.drop (1 * len)).take i.size) (by rw [List.length_take, List.length_drop, his]; omega) (by rw [List.length_take, List.length_drop, his]; omega)
  have key : xs = ys ↔ (xs.drop (0 * len)).take i.size = (ys.drop (0 * len)).take i.size ∧ (xs.drop (1 * len)).take i.size = (ys.drop (1 * len)).take i.size := by
    constructor
    · intro h; rw [h]; exact ⟨rfl, rfl⟩
    · rintro ⟨h1, h2⟩
      simp only [Nat.zero_mul, List.drop_zero, Nat.one_mul, his] at h1 h2
      rw [List.take_of_length_le (by rw [List.length_drop]; omega), List.take_of_length_le (by rw [List.length_drop]; omega)] at h2
      rw [← List.take_append_drop len xs, ← List.take_append_drop len ys, h1, h2]
  by_cases a : (xs.drop (0 * len)).take i.size = (ys.drop (0 * len)).take i.size
  · have a' := decide_eq_true a
    rw [a'] at q1
    simp only [Op.eqItems, Sem.run_bind, run_part2 hs hi, Result.andThen_ok, q1, Bool.not_true, Bool.false_eq_true, if_false, q2]
    by_cases b : (xs.drop (1 * len)).take i.size = (ys.drop (1 * len)).take i.size
    · rw [decide_eq_true (key.2 ⟨a, b⟩), decide_eq_true b]; rfl
    · rw [decide_eq_false (fun h => b (key.1 h).2), decide_eq_false b]; rfl
  · have a' := decide_eq_false a
    rw [a'] at q1
    simp only [Op.eqItems, Sem.run_bind, run_part2 hs hi, Result.andThen_ok, q1, Bool.not_false, if_true, Sem.run_pure]
    rw [decide_eq_false (fun h => a (key.1 h).1)]

theorem T_neP {o : Oper} {d : Nat} {t t' e e0 : TypeId} {k0 : IntKind} {i i0 : TypeInfo} {len : Nat} {x y : Operand} {xs ys : List UInt8} (ho : o.op = .binOp .neq t x y t') (hx : ρ.ev x = some (hV xs)) (hy : ρ.ev y = some (hV ys))
    (ht : P.underlying t = some (.array 2 e)) (he : P.underlying e = some (.array len e0)) (he0 : P.underlying e0 = some (.int k0)) (hi : P.info? e = some i) (hi0 : P.info? e0 = some i0) (hc : P.cellsOf e = len) (hc0 : P.cellsOf e0 = 1) (his : i.size = len) (hgd : P.eqGuardType P.depth t = false) (hg : o.guard = none) (hd : o.dst = some d) (hn : Nat.ble (d + 1) n = true)
    (hlx : xs.length = 2 * len) (hly : ys.length = 2 * len) (k : T P N n ops K rest ((d, .bool (!decide (xs = ys))) :: ρ) w) : T P N n ops K (o :: rest) ρ w :=
  T_val hg hd hn (fun a ha u => by
    have e1 := ha.ev hx
    have e2 := ha.ev hy
    have hq := run_eqPair ht he he0 hi hi0 hc hc0 his xs ys hlx hly u
    have hp : (program).run P u = .ok P u := rfl
    unfold execOp; rw [ho]; simp only [e1, e2]
    simp [eqGuard, hp, hgd, binOp, hq]) k

theorem T_un {o : Oper} {g t : Nat} {b : Bool} {d : Nat} (hg : o.guard = some (g, b)) (ht : (ops[g]?).bind (·.dst) = some t) (hb : ρ.get? t = some undef)
    (hd : o.dst = some d) (hn : Nat.ble (d + 1) n = true) (k : T P N n ops K rest ((d, undef) :: ρ) w) : T P N n ops K (o :: rest) ρ w := by
  intro a ha hc
  unfold xo
  have hy : yielded ops a.tmps g = none := by
    have := ha.2.2 t _ hb
    simp [yielded, ht, this, undef]
  rw [if_neg (by simp [Region.wanted, hg, hy])]
  refine ⟨(d, undef) :: ρ, ?_, k⟩
  rw [hd]
  exact ha.put hn undef
theorem T_idxAm {o : Oper} {d : Nat} {t e : TypeId} {i : TypeInfo} {x y : Operand} {b off len : Nat} {k0 : IntKind} {z : Int} (m : Nat) (ho : o.op = .indexAddr t x y) (hx : ρ.ev x = some (.pointer (some ⟨b, off, none⟩))) (hy : ρ.ev y = some (.int k0 z))
    (ht : P.underlying t = some (.array len e)) (hi : P.info? e = some i) (hg : o.guard = none) (hd : o.dst = some d) (hn : Nat.ble (d + 1) n = true)
    (hz : 0 ≤ z ∧ z < len) (hm : off + z.toNat * i.size = m) (k : T P N n ops K rest ((d, .pointer (some ⟨b, m, none⟩)) :: ρ) w) : T P N n ops K (o :: rest) ρ w :=
  T_idxA ho hx hy ht hi hg hd hn hz (by rw [hm]; exact k)

theorem St.rowAt (S : St W H G its w) (j : Nat) {e : TypeId} {size m c : Nat} {a : Option Addr} {xs : List Value} (hj : its[j]? = some (.row e size (.slice a m c) m xs)) (hm : 0 < m) : ∃ g, a = some ⟨g, 0, none⟩ := by
  rcases (S.row j hj).2 with ⟨h, h0⟩ | ⟨g, _, _, _, h, _⟩
  · omega
  · cases h; exact ⟨g, rfl⟩
theorem take_seg {A V : List Value} {o N : Nat} (h : o + V.length ≤ N) (hN : N ≤ A.length) : (A.take o ++ V ++ A.drop (o + V.length)).take N = (A.take N).take o ++ V ++ (A.take N).drop (o + V.length) := by
  rw [List.take_take, Nat.min_eq_left (by omega), List.drop_take]
  have hl : (A.take o ++ V).length = o + V.length := by rw [List.length_append, List.length_take]; omega
  rw [List.take_append, hl, List.take_of_length_le (by omega)]
theorem T_storeRow {o : Oper} {t e : TypeId} {i : TypeInfo} {x y : Operand} {g off size m c : Nat} {xs : List Value} {u : Value} (j : Nat) (xs' : List Value) (S : St W H G its w) (hC : ∀ u, G.le (hw u) → N.C u) (hj : its[j]? = some (.row e size (.slice (some ⟨g, 0, none⟩) m c) m xs)) (ho : o.op = .store t x y) (hx : ρ.ev x = some (.pointer (some ⟨g, off, none⟩))) (hy : ρ.ev y = some u)
    (hi : P.info? t = some i) (hcl : N.cl o = .loud) (hg : o.guard = none) (hd : o.dst = none) (hl : u.cells.size = i.size) (hfit : off + i.size ≤ m * size) (h1 : ∀ v ∈ u.cells.toList, v.oneCell' = true) (hx' : xs.take off ++ u.cells.toList ++ xs.drop (off + u.cells.size) = xs')
    (k : ∀ w', St W H G (its.set j (.row e size (.slice (some ⟨g, 0, none⟩) m c) m xs')) w' → T P N n ops K rest ρ w') : T P N n ops K (o :: rest) ρ w := by
  subst hx'
  have hr := S.row j hj
  obtain ⟨hlen, hn | ⟨g', cap, cur, fz, hv, hb, hgg, hfz, hmc, hcm, hcs, htake⟩⟩ := hr
  · cases hn.1
  cases hv
  have hmul : m * size ≤ c * size := Nat.mul_le_mul_right _ hmc
  have hst := run_storeCells_atZ P g off e fz u.cells.toList 0 cur w hgg hfz (by simp only [Array.length_toList]; omega) h1
  simp only [Nat.add_zero, Array.length_toList] at hst
  have hsize : (cur.toList.take off ++ u.cells.toList ++ cur.toList.drop (off + u.cells.size)).toArray.size = cur.size := by
    simp only [List.size_toArray, List.length_append, List.length_take, List.length_drop, Array.length_toList]; omega
  have hseg : (cur.toList.take off ++ u.cells.toList ++ cur.toList.drop (off + u.cells.size)).take (m * size) = xs.take off ++ u.cells.toList ++ xs.drop (off + u.cells.size) := by
    have h := take_seg (A := cur.toList) (V := u.cells.toList) (o := off) (N := m * size) (by simp only [Array.length_toList]; omega) (by simp only [Array.length_toList]; omega)
    simp only [Array.length_toList] at h
    rw [h, htake]
  have hok : rowZ (w.setRow g (cur.toList.take off ++ u.cells.toList ++ cur.toList.drop (off + u.cells.size)).toArray) W.heap.size e size (.slice (some ⟨g, 0, none⟩) m c) m (xs.take off ++ u.cells.toList ++ xs.drop (off + u.cells.size)) := by
    refine ⟨?_, .inr ⟨g, c, _, fz, rfl, hb, setRow_heap w g cur _ e _ hgg, by rw [hsize]; exact hfz, hmc, hcm, by rw [hsize]; exact hcs, hseg⟩⟩
    simp only [List.length_append, List.length_take, List.length_drop, Array.length_toList]; omega
  have S' := S.set j (it' := .row e size (.slice (some ⟨g, 0, none⟩) m c) m (xs.take off ++ u.cells.toList ++ xs.drop (off + u.cells.size))) hj
    (w' := w.setRow g (cur.toList.take off ++ u.cells.toList ++ cur.toList.drop (off + u.cells.size)).toArray) ⟨rfl, rfl, rfl, by simp, fun q _ hk => setRow_other w g q _ (fun e => hk (by simp [Item.spot, Value.ownBlock, e]))⟩
    hok (fun b' h => .inl h)
  refine T_ran0 hcl hg hd (fun a ha => ?_) (hC _ S'.le) (k _ S')
  have e1 := ha.ev hx
  have e2 := ha.ev hy
  unfold execOp; rw [ho]; simp only [e1, e2]
  have hst' : (storeCells ⟨g, off, none⟩ u.cells.toList).run P w = _ := hst
  simp [Instr.storeAt, Instr.sureAddr, storeVar, sizeOf, typeInfo, hi, hl, hst']
theorem T_idxm {o : Oper} {d : Nat} {t e : TypeId} {i : TypeInfo} {x y : Operand} {b off len cap : Nat} {k0 : IntKind} {z : Int} (m : Nat) (ho : o.op = .indexAddr t x y) (hx : ρ.ev x = some (.slice (some ⟨b, off, none⟩) len cap)) (hy : ρ.ev y = some (.int k0 z))
    (ht : P.underlying t = some (.slice e)) (hi : P.info? e = some i) (hg : o.guard = none) (hd : o.dst = some d) (hn : Nat.ble (d + 1) n = true)
    (hz : 0 ≤ z ∧ z < len) (hm : off + z.toNat * i.size = m) (k : T P N n ops K rest ((d, .pointer (some ⟨b, m, none⟩)) :: ρ) w) : T P N n ops K (o :: rest) ρ w :=
  T_idx ho hx hy ht hi hg hd hn hz (by rw [hm]; exact k)
theorem St.rowCell (S : St W H G its w) (j : Nat) {e : TypeId} {size m c g off : Nat} {xs : List Value} {v : Value} (hj : its[j]? = some (.row e size (.slice (some ⟨g, 0, none⟩) m c) m xs)) (h : xs[off]? = some v) : w.cell? ⟨g, off, none⟩ = some v := by
  have := (S.row j hj).cells (g := g) rfl off v h
  rwa [Addr.add_lit, Nat.zero_add] at this
end
theorem one_all {l : List Value} (h : l.all (fun v => v.oneCell') = true) : ∀ u ∈ l, u.oneCell' = true := fun u hu => List.all_eq_true.1 h u hu
theorem one_bV1 {b : UInt8} : ∀ v ∈ (bV b).cells.toList, v.oneCell' = true := by
  intro v hv; simp [bV, Value.cells] at hv; subst hv; rfl
theorem hcells_at1 {l : List (List UInt8)} {k q r : Nat} (hl : ∀ x ∈ l, x.length = k) (hq : q < l.length) (hr : r < k) : (hcells l)[q * k + r]? = some (bV ((l.getD q []).getD r 0)) := by
  have hx := len_h hl q hq
  refine hcells_at hl q (l.getD q []) ?_ r _ ?_
  · rw [List.getD_eq_getElem?_getD, List.getElem?_eq_getElem hq]; rfl
  · generalize l.getD q [] = x at *
    rw [List.getElem?_map, List.getD_eq_getElem?_getD, List.getElem?_eq_getElem (by omega)]; rfl
theorem hcells_cons (x : List UInt8) (l : List (List UInt8)) : hcells (x :: l) = x.map bV ++ hcells l := rfl
theorem hcells_set1 {l : List (List UInt8)} {k q r : Nat} {b : UInt8} (hl : ∀ x ∈ l, x.length = k) (hq : q < l.length) (hr : r < k) :
    (hcells l).take (q * k + r) ++ (bV b).cells.toList ++ (hcells l).drop (q * k + r + (bV b).cells.size) = hcells (l.set q ((l.getD q []).set r b)) := by
  have hx := len_h hl q hq
  have e : hcells l = hcells (l.take q) ++ ((l.getD q []).map bV ++ hcells (l.drop (q + 1))) := by
    rw [← hcells_cons, ← hcells_append]
    congr 1
    conv => lhs; rw [← List.take_append_drop q l, List.drop_eq_getElem_cons hq]
    rw [List.getD_eq_getElem?_getD, List.getElem?_eq_getElem hq]; rfl
  have hA : (hcells (l.take q)).length = q * k := by
    rw [hcells_len (k := k) (fun y hy => hl y (List.mem_of_mem_take hy)), List.length_take, Nat.min_eq_left (by omega)]
  have hB : ((l.getD q []).map bV).length = k := by rw [List.length_map]; exact hx
  rw [List.set_eq_take_append_cons_drop, if_pos hq, hcells_append, hcells_cons]
  have hset : ((l.getD q []).set r b).map bV = ((l.getD q []).map bV).take r ++ [bV b] ++ ((l.getD q []).map bV).drop (r + 1) := by
    rw [List.set_eq_take_append_cons_drop, if_pos (by omega), List.map_append, List.map_cons, List.map_take, List.map_drop, List.append_assoc]; rfl
  rw [hset]
  generalize (l.getD q []).map bV = B at *
  show (hcells l).take (q * k + r) ++ [bV b] ++ (hcells l).drop (q * k + r + 1) = _
  rw [e]
  generalize hcells (l.take q) = A at *
  generalize hcells (l.drop (q + 1)) = C at *
  rw [List.take_append, List.drop_append, hA, List.take_of_length_le (by omega), List.drop_of_length_le (by omega), List.take_append, List.drop_append, hB]
  rw [show q * k + r - q * k = r by omega, show q * k + r + 1 - q * k = r + 1 by omega, show r - k = 0 by omega, show r + 1 - k = 0 by omega]
  simp
theorem set_all {l : List (List UInt8)} {k : Nat} (hl : ∀ x ∈ l, x.length = k) (q : Nat) {h : List UInt8} (hh : h.length = k) : ∀ x ∈ l.set q h, x.length = k := by
  intro x hx
  rcases List.mem_or_eq_of_mem_set hx with h1 | h1
  · exact hl x h1
  · rw [h1]; exact hh
end Go.F

namespace Go.F
open Go Go.RowKit
section
variable {P : Program} {N : Plan} {n : Nat} {ops : Array Oper} {K : Env → World → Prop} {rest : List Oper} {ρ : Env} {w W : World} {H G : Hp} {its : List Item}
theorem enter8 {f : FuncId} {fn : Func} {c : Code} {a b d e g i j l : Value} {R : Ending → World → Prop} (rs : List ResultVar) (hf : P.funcs[f]? = some fn) (hb : fn.body = some c) (hn : fn.ntmps = n) (hr : fn.results = rs.toArray)
    (hsz : Nat.ble 8 n = true) (h : F.W P n c (Post P rs R) [(0, a), (1, b), (2, d), (3, e), (4, g), (5, i), (6, j), (7, l)] w) : Calls P f #[a, b, d, e, g, i, j, l] w R := enter (args := [a, b, d, e, g, i, j, l]) rs hf hb hn hr hsz h
theorem T_snil {o : Oper} {d : Nat} {t t' e : TypeId} {x y : Operand} {ad : Option Addr} {m c : Nat} (ho : o.op = .binOp .eql t x y t') (hx : ρ.ev x = some (.slice ad m c)) (hy : ρ.ev y = some (.slice none 0 0)) (ht : P.underlying t = some (.slice e)) (hg : o.guard = none) (hd : o.dst = some d) (hn : Nat.ble (d + 1) n = true)
    (k : T P N n ops K rest ((d, .bool ad.isNone) :: ρ) w) : T P N n ops K (o :: rest) ρ w :=
  T_val hg hd hn (fun a ha u => by
    have e1 := ha.ev hx
    have e2 := ha.ev hy
    have hq : (Op.equal t (.slice ad m c) (.slice none 0 0)).run P u = .ok ad.isNone u := run_equal_slice_nil u t e ad m c ht
    unfold execOp; rw [ho]; simp only [e1, e2]
    simp [eqGuard, binOp, hq]) k
end
end Go.F

namespace Go.F
open Go Go.RowKit
theorem Rds.nils (G : Hp) (n : Nat) : Rds G (List.replicate n (.slice none 0 0)) (List.replicate n []) := by
  refine ⟨by simp, fun i v l a b => ?_⟩
  have ha := List.eq_of_mem_replicate (List.mem_of_getElem? a)
  have hb := List.eq_of_mem_replicate (List.mem_of_getElem? b)
  subst ha; subst hb
  exact nilB G
theorem Rds.set {G : Hp} {hs : List Value} {ls : List (List UInt8)} {v : Value} {l : List UInt8} (h : Rds G hs ls) (q : Nat) (r : Rd G v l.length 1 (l.map bV)) : Rds G (hs.set q v) (ls.set q l) := by
  refine ⟨by simp [h.1], fun i u m a b => ?_⟩
  rw [List.getElem?_set] at a b
  by_cases e : q = i
  · subst e
    rw [if_pos rfl] at a b
    split at a
    · rename_i h1
      rw [if_pos (by rw [← h.1]; exact h1)] at b
      cases a; cases b; exact r
    · cases a
  · rw [if_neg e] at a b; exact h.2 i u m a b
theorem made_s {z : Value} {m : Nat} (hz : z.cells = #[.slice none 0 0]) : (madeCells z.cells (m * 1)).toList = List.replicate m (.slice none 0 0) := by
  apply List.ext_getElem
  · simp [madeCells]
  · intro i h2 h3
    simp only [madeCells, Array.toList_map, Array.toList_range, List.getElem_map, List.getElem_range, List.getElem_replicate, hz]
    simp [Nat.mod_one]
theorem set_cells {xs : List Value} {q : Nat} {v : Value} (h : q < xs.length) (hv : v.cells = #[v]) : xs.take (q * 1) ++ v.cells.toList ++ xs.drop (q * 1 + v.cells.size) = xs.set q v := by
  rw [hv, Nat.mul_one, List.set_eq_take_append_cons_drop, if_pos h]; simp
end Go.F

namespace Go.F
open Go Go.RowKit
def fV (leak : Bool) (leaf chain place : Int) (v : List UInt8) : Value := .agg ([Value.slice none 0 0, .slice none 0 0, .bool leak, .int .i64 leaf, .int .i64 chain, .int .i64 place] ++ v.map bV).toArray
def fz : Value := fV false 0 0 0 (List.replicate 32 0)
section
variable {k : Bool} {a b c : Int} {v : List UInt8}
end
end Go.F

namespace Go.F
open Go Go.RowKit
end Go.F

namespace Go.F
open Go Go.RowKit
section
variable {a b c d : Int} {s t : List UInt8}
end
section
variable {a b c d z : Int} {s t x : List UInt8} {place : Nat → Option (Nat × Nat)} {i : Nat} {rest : List (Nat × Value)}
end
section
variable {a b c d : Int} {s t : List UInt8}
end
section
variable {P : Program} {N : Plan} {n : Nat} {ops : Array Oper} {K : Env → World → Prop} {rest : List Oper} {ρ : Env} {w : World}
end
end Go.F

namespace Go.F
open Go Go.RowKit Go.ChangeShapes Go.WideShapes Go.Deep
section
variable {H : Type} {enc : TypeId × Value → H} {P : Program} {w : World} {spare : Nat → Bool} {held : Bool} {n : Nat} {ft e : TypeId} {l : List Value} {x : DataW H × List MemPlace}
end
end Go.F

namespace Go.F
open Go Go.RowKit Go.ChangeShapes Go.WideShapes Go.Deep
def gV (L : List (List Value)) : Value := .agg L.flatten.toArray
inductive Shp : List (List Value) → List Nat → Prop where
  | nil : Shp [] []
  | cons {c : List Value} {L : List (List Value)} {n : Nat} {ns : List Nat} : c.length = n → Shp L ns → Shp (c :: L) (n :: ns)
section
variable {L A B M : List (List Value)} {ns as bs : List Nat} {off : Nat}
theorem Shp.len (h : Shp L ns) : L.flatten.length = ns.sum := by
  induction h with
  | nil => rfl
  | cons h _ ih => rw [List.flatten_cons, List.length_append, h, ih, List.sum_cons]
theorem Shp.take (h : Shp L ns) : ∀ j, Shp (L.take j) (ns.take j) := by
  induction h with
  | nil => intro j; rw [List.take_nil, List.take_nil]; exact .nil
  | cons h _ ih => intro j; cases j with
    | zero => exact .nil
    | succ j => exact .cons h (ih j)
theorem Shp.drop (h : Shp L ns) : ∀ j, Shp (L.drop j) (ns.drop j) := by
  induction h with
  | nil => intro j; rw [List.drop_nil, List.drop_nil]; exact .nil
  | cons h h' ih => intro j; cases j with
    | zero => exact .cons h h'
    | succ j => exact ih j
theorem lenB {s : List UInt8} {n : Nat} (h : s.length = n) : (s.map bV).length = n := by rw [List.length_map, h]
theorem gV_size {n : Nat} (h : Shp L ns) (hn : ns.sum = n) : (gV L).cells.size = n := by
  show L.flatten.toArray.size = n
  rw [List.size_toArray, h.len, hn]
def OneL (L : List (List Value)) : Prop := ∀ c ∈ L, ∀ u ∈ c, u.oneCell' = true
theorem OneL.nil : OneL [] := fun _ h => by cases h
theorem OneL.one {v : Value} (h : v.oneCell' = true) (hL : OneL L) : OneL ([v] :: L) := fun c hc u hu => by
  rcases List.mem_cons.1 hc with rfl | hc
  · rw [List.mem_singleton.1 hu]; exact h
  · exact hL c hc u hu
theorem OneL.arr {s : List UInt8} (hL : OneL L) : OneL (s.map bV :: L) := fun c hc u hu => by
  rcases List.mem_cons.1 hc with rfl | hc
  · obtain ⟨x, _, rfl⟩ := List.mem_map.1 hu; rfl
  · exact hL c hc u hu
theorem gV_one (h : OneL L) : ∀ u ∈ (gV L).cells.toList, u.oneCell' = true := fun u hu => by
  obtain ⟨c, hc, hu⟩ := List.mem_flatten.1 (show u ∈ L.flatten from hu)
  exact h c hc u hu
theorem flat1 {c : List Value} : [c].flatten = c := by simp
theorem split3 (L : List (List Value)) (j m : Nat) : L.flatten = (L.take j).flatten ++ (((L.drop j).take m).flatten ++ ((L.drop j).drop m).flatten) := by
  rw [← List.flatten_append, List.take_append_drop, ← List.flatten_append, List.take_append_drop]
theorem gV_sub (h : Shp L ns) (j m : Nat) {c : List Value} (hc : ((L.drop j).take m).flatten = c) (ho : (ns.take j).sum = off) : ∀ (q : Nat) u, c.toArray[q]? = some u → (gV L).cells[off + q]? = some u := by
  intro q u hq
  have h1 := (h.take j).len
  show L.flatten.toArray[off + q]? = some u
  rw [List.getElem?_toArray] at hq ⊢
  rw [split3 L j m, hc, List.getElem?_append_right (by omega), show off + q - (L.take j).flatten.length = q by omega, List.getElem?_append_left (List.getElem?_eq_some_iff.1 hq).1]
  exact hq
theorem gV_cell (h : Shp L ns) (j : Nat) {v : Value} (hj : ((L.drop j).take 1).flatten = [v]) (ho : (ns.take j).sum = off) : (gV L).cells[off]? = some v := gV_sub h j 1 hj ho 0 v rfl
theorem gV_put (h : Shp L ns) (j m : Nat) (M : List (List Value)) {c : List Value} (hc : M.flatten = c) (hw : ((ns.drop j).take m).sum = c.length) (ho : (ns.take j).sum = off) :
    ((gV L).cells.toList.take off ++ c ++ (gV L).cells.toList.drop (off + c.length)).toArray = (gV (L.take j ++ M ++ (L.drop j).drop m)).cells := by
  have h1 := (h.take j).len
  have h2 := ((h.drop j).take m).len
  have e : (gV L).cells.toList = (L.take j).flatten ++ (((L.drop j).take m).flatten ++ ((L.drop j).drop m).flatten) := split3 L j m
  show _ = (L.take j ++ M ++ (L.drop j).drop m).flatten.toArray
  rw [e, List.take_append, List.take_of_length_le (by omega), show off - (L.take j).flatten.length = 0 by omega, List.take_zero, List.append_nil,
    List.drop_append, List.drop_of_length_le (by omega), List.nil_append, List.drop_append, List.drop_of_length_le (by omega), List.nil_append,
    show off + c.length - (L.take j).flatten.length - ((L.drop j).take m).flatten.length = 0 by omega, List.drop_zero, List.flatten_append, List.flatten_append, hc]
end
theorem foldl_put (v : List Value) (off : Nat) (cells : Array Value) (h : off + v.length ≤ cells.size) :
    (v.toArray.zipIdx.foldl (fun cs (x : Value × Nat) => cs.setIfInBounds (off + x.2) x.1) cells) = (cells.toList.take off ++ v ++ cells.toList.drop (off + v.length)).toArray := by
  have hz := Go.Great.foldl_set off v 0 cells
  have e : (v.toArray.zipIdx.foldl (fun cs (x : Value × Nat) => cs.setIfInBounds (off + x.2) x.1) cells) = ((v.zipIdx 0).foldl (fun cs (x : Value × Nat) => cs.setIfInBounds (off + x.2) x.1) cells) := by
    rw [← Array.foldl_toList, Array.toList_zipIdx]
  rw [e]
  apply Array.ext_getElem?
  intro k
  rw [hz.2 k]
  have ht : (cells.toList.take off).length = off := by rw [List.length_take, Array.length_toList]; omega
  have er : (cells.toList.take off ++ v ++ cells.toList.drop (off + v.length)).toArray[k]? = (cells.toList.take off ++ v ++ cells.toList.drop (off + v.length))[k]? := by simp
  rw [er, List.append_assoc]
  by_cases h1 : k < off
  · rw [if_neg (by omega), List.getElem?_append_left (by omega), List.getElem?_take, if_pos h1, Array.getElem?_toList]
  · by_cases h2 : k < off + v.length
    · rw [if_pos (by omega), List.getElem?_append_right (by omega), ht, List.getElem?_append_left (by omega)]
      simp
    · rw [if_neg (by omega), List.getElem?_append_right (by omega), ht, List.getElem?_append_right (by omega), List.getElem?_drop, show off + v.length + (k - off - v.length) = k by omega, Array.getElem?_toList]
theorem fill_g {place : Nat → Option (Nat × Nat)} {L : List (List Value)} {ns : List Nat} {i off k : Nat} {v : Value} {rest : List (Nat × Value)} {R : Array Value} (hp : place i = some (off, k)) (h : Shp L ns) (j m : Nat) (M : List (List Value)) (hc : M.flatten = v.cells.toList) (hk : v.cells.size = k) (hw : ((ns.drop j).take m).sum = k) (ho : (ns.take j).sum = off)
    (hr : Instr.fill place (gV (L.take j ++ M ++ (L.drop j).drop m)).cells rest = some R) : Instr.fill place (gV L).cells ((i, v) :: rest) = some R := by
  have hl : v.cells.toList.length = k := by rw [Array.length_toList, hk]
  have h1 := (h.take j).len
  have h2 := ((h.drop j).take m).len
  have h3 := congrArg List.length (split3 L j m)
  simp only [List.length_append] at h3
  have hs : off + v.cells.toList.length ≤ (gV L).cells.size := by show _ ≤ L.flatten.toArray.size; rw [List.size_toArray]; omega
  rw [Instr.fill, hp]
  simp only
  rw [if_neg (by rw [hk]; simp; omega)]
  rw [← hr]
  congr 1
  rw [← gV_put h j m M hc (by rw [hw, hl]) ho]
  have := foldl_put v.cells.toList off (gV L).cells hs
  rw [Array.toArray_toList] at this
  exact this
theorem fill_gnil {place : Nat → Option (Nat × Nat)} {cells : Array Value} : Instr.fill place cells [] = some cells := rfl
end Go.F

namespace Go.F
open Go Go.RowKit Go.ChangeShapes Go.WideShapes Go.Deep
section
variable {H : Type} {enc : TypeId × Value → H} {P : Program} {w : World} {spare : Nat → Bool} {held : Bool}
end
end Go.F

namespace Go.F
open Go Go.RowKit
section
variable {P : Program} {N : Plan} {n : Nat} {ops : Array Oper} {K : Env → World → Prop} {rest : List Oper} {ρ : Env} {w : World}
end
end Go.F

namespace Go.F
open Go Go.RowKit
inductive Kd where
  | by (t : TypeId) (n : Nat)
  | ro (t : TypeId) (n m : Nat) (f : Nat → Bool)
  | va (t : TypeId) (v : Value)
  | vo (t : TypeId)
  | gf (t : TypeId)
def Kd.ty : Kd → TypeId
  | .by t _ => t
  | .ro t _ _ _ => t
  | .va t _ => t
  | .vo t => t
  | .gf t => t
abbrev Bp := Nat → Option Kd
def Kd.le : Kd → Kd → Prop
  | .ro t n m f, k => ∃ f', k = .ro t n m f' ∧ ∀ i, f i = true → f' i = true
  | .by t n, k => k = .by t n
  | .va t v, k => k = .va t v
  | .vo t, k => k = .vo t ∨ ∃ v, k = .va t v
  | .gf t, k => k = .gf t
def Bp.le (B B' : Bp) : Prop := ∀ b k, B b = some k → ∃ k', B' b = some k' ∧ k.le k'
def ByB (B : Bp) (b n : Nat) : Prop := ∃ t, B b = some (.by t n)
def SlB (B : Bp) (v : Value) (n : Nat) : Prop := (v = .slice none 0 0 ∧ n = 0) ∨ ∃ b off c k, v = .slice (some ⟨b, off, none⟩) n c ∧ ByB B b k ∧ n ≤ c ∧ off + c ≤ k
section
variable {B B' : Bp}
end

def Kok (B : Bp) : Kd → Array Value → Prop
  | .by _ n, c => c.size = n ∧ ∀ i, i < n → ∃ x : UInt8, c[i]? = some (bV x)
  | .ro _ n m f, c => c.size = n ∧ ∀ i, i < n → ∃ v, c[i]? = some v ∧ (SlB B v m ∨ (f i = false ∧ SlB B v 0))
  | .va _ v, c => c = #[v]
  | .vo _, c => c.size = 1
  | .gf _, c => c.size = 766 ∧ (∀ i, i < 510 → ∃ x : UInt8, c[i]? = some (bV x)) ∧ ∀ i, i < 256 → ∃ z : Nat, z < 255 ∧ c[510 + i]? = some (.int .i64 (z : Int))
structure Wk (W : World) (H : Hp) (B : Bp) (w : World) : Prop where
  below : Below W.heap.size W w
  le : H.le (hw w)
  apart : ∀ b k, B b = some k → H b = none
  own : ∀ b k, B b = some k → W.heap.size ≤ b ∧ ∃ c, w.heap[b]? = some (.cells c k.ty (0, 0)) ∧ Kok B k c
section
variable {W w w' : World} {H : Hp} {B : Bp}
end
end Go.F

namespace Go.F
open Go Go.RowKit
section
variable {P : Program} {N : Plan} {n : Nat} {ops : Array Oper} {K : Env → World → Prop} {rest : List Oper} {ρ : Env} {w W : World} {H : Hp} {B : Bp}

end
end Go.F

namespace Go.F
open Go Go.RowKit
section
variable {P : Program} {w W : World} {H : Hp} {B : Bp}
variable {N : Plan} {n : Nat} {ops : Array Oper} {K : Env → World → Prop} {rest : List Oper} {ρ : Env}
end
end Go.F

namespace Go.F
open Go Go.RowKit
section
variable {P : Program} {N : Plan} {n : Nat} {ops : Array Oper} {K : Env → World → Prop} {rest : List Oper} {ρ : Env} {w W : World} {H : Hp} {B : Bp}
end
end Go.F

namespace Go.F
open Go Go.RowKit
section
variable {P : Program} {N : Plan} {n : Nat} {ops : Array Oper} {K : Env → World → Prop} {rest : List Oper} {ρ : Env} {w W : World} {H : Hp} {B : Bp}
end
end Go.F

namespace Go.F
open Go Go.RowKit
section
variable {W w w' : World} {H G : Hp} {its its' : List Item}
def Apart (x y : Item) : Prop := ∀ b, x.spot = some b → y.spot = some b → False
theorem St.pair (S : St W H G its w) : its.Pairwise Apart := by
  rw [List.pairwise_iff_getElem]
  intro i j hi hj hij b hx hy
  exact S.apart i j _ _ (List.getElem?_eq_getElem hi) (List.getElem?_eq_getElem hj) (by omega) b hx hy
theorem St.perm (S : St W H G its w) (hp : its.Perm its') : St W H G its' w := by
  have h1 : its'.Pairwise Apart := (hp.pairwise_iff (fun {x y} h b hx hy => h b hy hx)).1 S.pair
  have hm : ∀ (i : Nat) (x : Item), its'[i]? = some x → ∃ j, its[j]? = some x := fun i x h => by
    have := hp.mem_iff.2 (List.mem_of_getElem? h)
    obtain ⟨j, hj⟩ := List.mem_iff_getElem?.1 this
    exact ⟨j, hj⟩
  refine ⟨S.below, S.le, S.sup, S.old, fun i x h => ?_, fun i x h => ?_, fun i j x y hi hj hij b hx hy => ?_⟩
  · obtain ⟨j, hj⟩ := hm i x h; exact S.ok j x hj
  · obtain ⟨j, hj⟩ := hm i x h; exact S.free j x hj
  · rw [List.pairwise_iff_getElem] at h1
    obtain ⟨hi', rfl⟩ := List.getElem?_eq_some_iff.1 hi
    obtain ⟨hj', rfl⟩ := List.getElem?_eq_some_iff.1 hj
    rcases Nat.lt_or_gt_of_ne hij with h | h
    · exact h1 i j hi' hj' h b hx hy
    · exact h1 j i hj' hi' h b hy hx
end
section
variable {W w w' : World} {H G : Hp} {its its' : List Item} {uT : TypeId} {vs : List Value} {M : List (List UInt8)}
end
end Go.F

namespace Go.F
open Go Go.RowKit
end Go.F

namespace Go.F
open Go Go.RowKit
section
variable {P : Program} {N : Plan} {n : Nat} {ops : Array Oper} {K : Env → World → Prop} {rest : List Oper} {ρ : Env} {w W : World} {H G : Hp} {its : List Item} {it0 : Item} {uT : TypeId} {vs : List Value} {D : List (List UInt8)}
end
end Go.F

namespace Go.F
open Go Go.RowKit
end Go.F

namespace Go.F
open Go Go.RowKit
end Go.F

namespace Go.F
open Go Go.RowKit
theorem W_j1 {P : Program} {n : Nat} {c1 r : Code} {Q : Exit → Env → World → Prop} {ρ : Env} {w : World} (I : Env → World → Prop) (k : ∀ ρ w, I ρ w → F.W P n r Q ρ w) (h : (∀ ρ w, I ρ w → F.W P n r Q ρ w) → F.W P n (.seq c1 r) Q ρ w) : F.W P n (.seq c1 r) Q ρ w := h k
theorem St.swap01 {W w : World} {H G : Hp} {its : List Item} {a b : Item} (S : St W H G (a :: b :: its) w) : St W H G (b :: a :: its) w := S.perm (List.Perm.swap b a its)
theorem St.swap12 {W w : World} {H G : Hp} {its : List Item} {x a b : Item} (S : St W H G (x :: a :: b :: its) w) : St W H G (x :: b :: a :: its) w := S.perm ((List.Perm.swap b a its).cons x)
end Go.F

namespace Go.F
open Go Go.RowKit
section
variable {α : Type} {n i : Nat} {f g : Nat → α} {x : α}
end
section
variable {n i : Nat} {fa fb fc fd ga gb gc gd : Nat → Value} {v : Value}
end
section
variable {W w w' : World} {H G : Hp} {its its' : List Item} {it0 : Item} {sT : TypeId} {n i : Nat} {b : Nat → Value} {m : Nat → Nat} {c : Nat → List Value}
end
def blk (E : List (List (List UInt8))) (p : Nat) : List (List UInt8) := E.map fun D => D.getD p []
section
variable {W w : World} {H G : Hp} {its : List Item}
end
end Go.F

namespace Go.F
open Go Go.RowKit
section
variable {W w w' : World} {H : Hp} {B : Bp}
end
section
variable {P : Program} {N : Plan} {n : Nat} {ops : Array Oper} {K : Env → World → Prop} {rest : List Oper} {ρ : Env} {W w : World} {H : Hp} {B : Bp}
end
section
end
end Go.F
