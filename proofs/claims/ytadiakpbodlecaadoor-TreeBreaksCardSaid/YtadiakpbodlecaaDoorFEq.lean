/- Comparisons of arrays of bytes; of a pointer with nil. -/
import Derived.Test.YtadiakpbodlecaaDoorFMore
import Derived.ChangeKeysEq
import Derived.Laws.StructEq
set_option linter.unusedVariables false
set_option linter.unusedSimpArgs false
set_option maxRecDepth 8192
namespace Go.F
open Go Go.RowKit
section
variable {P : Program} {N : Plan} {n : Nat} {ops : Array Oper} {K : Env → World → Prop} {rest : List Oper} {ρ : Env} {w : World}

theorem bV_inj {a b : UInt8} : (a.toNat : Int) = b.toNat ↔ a = b := by
  constructor
  · intro h; exact UInt8.toNat_inj.1 (by omega)
  · intro h; rw [h]

theorem run_part1 {e : TypeId} (hs : scalar P e = true) {cs : Array Value} {j : Nat} {v : Value} (h : cs[j]? = some v) (u : World) : (part e cs j).run P u = .ok v u := by
  simp [part, run_isAgg_no hs, h]

theorem bV_at (xs : List UInt8) (i : Nat) (h : i < xs.length) : (xs.map bV).toArray[i * 1]? = some (bV xs[i]) := by
  simp only [Nat.mul_one, List.getElem?_toArray, List.getElem?_map]
  rw [List.getElem?_eq_getElem h]; rfl

theorem run_eqItems_b {e : TypeId} {k : IntKind} (he : P.underlying e = some (.int k)) (d : Nat) (xs ys : List UInt8) (u : World) (hl : xs.length = ys.length) : ∀ m i, i + m = xs.length →
    (Op.eqItems (d + 1) e 1 (xs.map bV).toArray (ys.map bV).toArray (List.range' i m)).run P u = .ok (decide (xs.drop i = ys.drop i)) u
  | 0, i, hi => by
    rw [List.drop_of_length_le (by omega), List.drop_of_length_le (by omega)]
    simp [Op.eqItems.eq_def]
  | m + 1, i, hi => by
    have hs : scalar P e = true := by simp [scalar, he]
    have hx : i < xs.length := by omega
    have hy : i < ys.length := by omega
    have eq : ∀ w, (Op.equalIn (d + 1) e (bV xs[i]) (bV ys[i])).run P w = .ok (decide (xs[i] = ys[i])) w := fun w => by
      unfold bV
      rw [run_equalIn_int w d e _ _ _ _ he]
      congr 1
      have := bV_inj (a := xs[i]) (b := ys[i])
      by_cases h : xs[i] = ys[i]
      · simp [h]
      · simp [h, this]
    have ih := run_eqItems_b he d xs ys u hl m (i + 1) (by omega)
    have key : (xs.drop i = ys.drop i) ↔ (xs[i] = ys[i] ∧ xs.drop (i + 1) = ys.drop (i + 1)) := by
      rw [List.drop_eq_getElem_cons hx, List.drop_eq_getElem_cons hy, List.cons.injEq]
    rw [List.range'_succ, Op.eqItems.eq_def]
    simp only [Sem.run_bind, run_part1 hs (bV_at xs i hx), run_part1 hs (bV_at ys i hy), eq, Result.andThen_ok]
    by_cases h : xs[i] = ys[i]
    · simp only [h, decide_true, Bool.not_true, Bool.false_eq_true, if_false, ih, key, true_and]
    · simp only [h, decide_false, Bool.not_false, if_true, key, false_and, Sem.run_pure]

/-- 'x == y' of arrays of bytes. -/
theorem T_eqB {o : Oper} {d : Nat} {t t' e : TypeId} {len : Nat} {k0 : IntKind} {i : TypeInfo} {x y : Operand} {xs ys : List UInt8} (ho : o.op = .binOp .eql t x y t') (hx : ρ.ev x = some (.agg (xs.map bV).toArray)) (hy : ρ.ev y = some (.agg (ys.map bV).toArray))
    (ht : P.underlying t = some (.array len e)) (he : P.underlying e = some (.int k0)) (hi : P.info? e = some i) (h1 : P.cellsOf e = 1) (hgd : P.eqGuardType P.depth t = false) (hg : o.guard = none) (hd : o.dst = some d) (hn : Nat.ble (d + 1) n = true)
    (hlx : xs.length = len) (hly : ys.length = len) (k : T P N n ops K rest ((d, .bool (decide (xs = ys))) :: ρ) w) : T P N n ops K (o :: rest) ρ w :=
  T_val hg hd hn (fun a ha u => by
    have e1 := ha.ev hx
    have e2 := ha.ev hy
    have hr := run_eqItems_b (P := P) he 9998 xs ys u (by omega) xs.length 0 (by omega)
    have hq : (Op.equal t (.agg (xs.map bV).toArray) (.agg (ys.map bV).toArray)).run P u = .ok (decide (xs = ys)) u := by
      show (Op.equalIn (9999 + 1) t _ _).run P u = _
      rw [run_equalIn_array u 9999 _ _ ht hi, h1, ← hlx, List.range_eq_range']
      simpa using hr
    have hp : (program).run P u = .ok P u := rfl
    unfold execOp; rw [ho]; simp only [e1, e2]
    simp [eqGuard, hp, hgd, binOp, hq]) k
theorem T_neB {o : Oper} {d : Nat} {t t' e : TypeId} {len : Nat} {k0 : IntKind} {i : TypeInfo} {x y : Operand} {xs ys : List UInt8} (ho : o.op = .binOp .neq t x y t') (hx : ρ.ev x = some (.agg (xs.map bV).toArray)) (hy : ρ.ev y = some (.agg (ys.map bV).toArray))
    (ht : P.underlying t = some (.array len e)) (he : P.underlying e = some (.int k0)) (hi : P.info? e = some i) (h1 : P.cellsOf e = 1) (hgd : P.eqGuardType P.depth t = false) (hg : o.guard = none) (hd : o.dst = some d) (hn : Nat.ble (d + 1) n = true)
    (hlx : xs.length = len) (hly : ys.length = len) (k : T P N n ops K rest ((d, .bool (!decide (xs = ys))) :: ρ) w) : T P N n ops K (o :: rest) ρ w :=
  T_val hg hd hn (fun a ha u => by
    have e1 := ha.ev hx
    have e2 := ha.ev hy
    have hr := run_eqItems_b (P := P) he 9998 xs ys u (by omega) xs.length 0 (by omega)
    have hq : (Op.equal t (.agg (xs.map bV).toArray) (.agg (ys.map bV).toArray)).run P u = .ok (decide (xs = ys)) u := by
      show (Op.equalIn (9999 + 1) t _ _).run P u = _
      rw [run_equalIn_array u 9999 _ _ ht hi, h1, ← hlx, List.range_eq_range']
      simpa using hr
    have hp : (program).run P u = .ok P u := rfl
    unfold execOp; rw [ho]; simp only [e1, e2]
    simp [eqGuard, hp, hgd, binOp, hq]) k

theorem bound_of {q : Nat} {k : IntKind} {z : Int} {m : Nat} (h : z = (m : Int)) : bound q (some (.int k z)) = some m := by
  subst h; simp [bound]
theorem T_eqT {o : Oper} {d : Nat} {t t' e : TypeId} {len : Nat} {k0 : IntKind} {i : TypeInfo} {x y : Operand} (xs ys : List UInt8) (ho : o.op = .binOp .eql t x y t') (hx : ρ.ev x = some (.agg (xs.map bV).toArray)) (hy : ρ.ev y = some (.agg (ys.map bV).toArray))
    (ht : P.underlying t = some (.array len e)) (he : P.underlying e = some (.int k0)) (hi : P.info? e = some i) (h1 : P.cellsOf e = 1) (hgd : P.eqGuardType P.depth t = false) (hg : o.guard = none) (hd : o.dst = some d) (hn : Nat.ble (d + 1) n = true)
    (hlx : xs.length = len) (hxy : xs = ys) (k : T P N n ops K rest ((d, .bool true) :: ρ) w) : T P N n ops K (o :: rest) ρ w :=
  T_eqB ho hx hy ht he hi h1 hgd hg hd hn hlx (by rw [← hxy]; exact hlx) (by rw [decide_eq_true hxy]; exact k)
theorem T_neF {o : Oper} {d : Nat} {t t' e : TypeId} {len : Nat} {k0 : IntKind} {i : TypeInfo} {x y : Operand} (xs ys : List UInt8) (ho : o.op = .binOp .neq t x y t') (hx : ρ.ev x = some (.agg (xs.map bV).toArray)) (hy : ρ.ev y = some (.agg (ys.map bV).toArray))
    (ht : P.underlying t = some (.array len e)) (he : P.underlying e = some (.int k0)) (hi : P.info? e = some i) (h1 : P.cellsOf e = 1) (hgd : P.eqGuardType P.depth t = false) (hg : o.guard = none) (hd : o.dst = some d) (hn : Nat.ble (d + 1) n = true)
    (hlx : xs.length = len) (hxy : xs = ys) (k : T P N n ops K rest ((d, .bool false) :: ρ) w) : T P N n ops K (o :: rest) ρ w :=
  T_neB ho hx hy ht he hi h1 hgd hg hd hn hlx (by rw [← hxy]; exact hlx) (by rw [decide_eq_true hxy]; exact k)

/-- 'p == nil' of a pointer that is not nil. -/
theorem T_pnil {o : Oper} {d : Nat} {t t' e : TypeId} {x y : Operand} {ad : Addr} (ho : o.op = .binOp .eql t x y t') (hx : ρ.ev x = some (.pointer (some ad))) (hy : ρ.ev y = some (.pointer none)) (ht : P.underlying t = some (.pointer e)) (hg : o.guard = none) (hd : o.dst = some d) (hn : Nat.ble (d + 1) n = true)
    (k : T P N n ops K rest ((d, .bool false) :: ρ) w) : T P N n ops K (o :: rest) ρ w :=
  T_val hg hd hn (fun a ha u => by
    have e1 := ha.ev hx
    have e2 := ha.ev hy
    have hq : (Op.equal t (.pointer (some ad)) (.pointer none)).run P u = .ok false u := by
      obtain ⟨D, hD⟩ : ∃ D, Op.maxDepth = D + 1 := ⟨9999, rfl⟩
      unfold Op.equal
      rw [hD]
      simp [Op.equalIn, run_underlying ht]
    unfold execOp; rw [ho]; simp only [e1, e2]
    simp [eqGuard, binOp, hq]) k

end
end Go.F
