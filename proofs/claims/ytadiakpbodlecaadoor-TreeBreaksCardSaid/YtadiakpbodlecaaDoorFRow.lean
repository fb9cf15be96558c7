/- Rows of bytes, of numbers, of hashes: their elements, their parts. -/
import Derived.Test.YtadiakpbodlecaaDoorFTree
set_option linter.unusedVariables false
set_option linter.unusedSimpArgs false
set_option maxRecDepth 8192
namespace Go.F
open Go Go.RowKit

/-- A hash (or key) as a value. -/
abbrev hV (l : List UInt8) : Value := .agg (l.map bV).toArray
theorem hVs {l : List UInt8} {k : Nat} (h : l.length = k) : (hV l).cells.size = k := by simp [Value.cells, h]
theorem one_hA (l : List UInt8) : ∀ u ∈ (hV l).cells.toList, u.oneCell' = true := by
  intro u hu; simp [Value.cells] at hu; obtain ⟨a, _, rfl⟩ := hu; rfl
theorem hcell1 (x : List UInt8) : (hV x).cells.toList = x.map bV := by simp [Value.cells]
theorem one_h {x : List UInt8} {k : Nat} (h : x.length = k) {q : Nat} : ∀ v ∈ [((q, hV x) : Nat × Value)].map (·.2), v.cells.size = k := by
  intro v hv; simp at hv; subst hv; exact hVs h
theorem all_h1 {x : List UInt8} {k : Nat} (h : x.length = k) : ∀ y ∈ [x], y.length = k := by intro y hy; simp at hy; subst hy; exact h
theorem all_app {a b : List (List UInt8)} {k : Nat} (h1 : ∀ y ∈ a, y.length = k) (h2 : ∀ y ∈ b, y.length = k) : ∀ y ∈ a ++ b, y.length = k := by
  intro y hy; rcases List.mem_append.1 hy with h | h
  · exact h1 y h
  · exact h2 y h

theorem Rd.lenB {G : Hp} {v : Value} {m : Nat} {l : List UInt8} (r : Rd G v m 1 (l.map bV)) : m = l.length := by have := r.1; simp at this; omega
theorem Rd.lenI {G : Hp} {v : Value} {m : Nat} {l : List Int} (r : Rd G v m 1 (l.map iV)) : m = l.length := by have := r.1; simp at this; omega
theorem Rd.len_of {G : Hp} {a : Option Addr} {m m' c size : Nat} {xs : List Value} (r : Rd G (.slice a m c) m' size xs) : m = m' := by
  obtain ⟨_, _, _, h, _⟩ := r; cases h; rfl
theorem RdL.len {G : Hp} {a : Option Addr} {m c : Nat} {ls : List (List UInt8)} (r : RdL G (.slice a m c) ls) : m = ls.length := by
  obtain ⟨hs, h, _⟩ := r; exact h.len_of
theorem RdH.len {G : Hp} {a : Option Addr} {m c k : Nat} {hs : List (List UInt8)} (r : RdH G (.slice a m c) k hs) : m = hs.length := r.2.len_of
theorem Rd.capOf {G : Hp} {a : Option Addr} {m m' c size : Nat} {xs : List Value} (r : Rd G (.slice a m c) m' size xs) : m ≤ c := by
  obtain ⟨_, _, _, h, hc, _⟩ := r; cases h; exact hc

theorem Rd.cutB {G : Hp} {v : Value} {m lo : Nat} {l : List UInt8} (r : Rd G v m 1 (((l.map bV).drop (lo * 1)).take (m * 1))) : Rd G v m 1 (((l.drop lo).take m).map bV) := by
  rw [Nat.mul_one, Nat.mul_one] at r; rw [List.map_take, List.map_drop]; exact r
theorem Rd.cutI {G : Hp} {v : Value} {m lo : Nat} {l : List Int} (r : Rd G v m 1 (((l.map iV).drop (lo * 1)).take (m * 1))) : Rd G v m 1 (((l.drop lo).take m).map iV) := by
  rw [Nat.mul_one, Nat.mul_one] at r; rw [List.map_take, List.map_drop]; exact r
theorem hcells_drop {k : Nat} : ∀ {l : List (List UInt8)} (_ : ∀ h ∈ l, h.length = k) (q : Nat), (hcells l).drop (q * k) = hcells (l.drop q)
  | [], _, q => by simp [hcells]
  | x :: l, hl, 0 => by simp
  | x :: l, hl, q + 1 => by
    have h1 : (x.map bV).length = k := by rw [List.length_map]; exact hl x (by simp)
    have ih := hcells_drop (l := l) (fun y hy => hl y (by simp [hy])) q
    simp only [hcells, List.flatMap_cons, List.drop_succ_cons] at ih ⊢
    rw [Nat.succ_mul, List.drop_append, h1]
    have e1 : q * k + k - k = q * k := by omega
    rw [e1, ih, List.drop_of_length_le (by rw [h1]; omega), List.nil_append]
theorem hcells_take {k : Nat} : ∀ {l : List (List UInt8)} (_ : ∀ h ∈ l, h.length = k) (q : Nat), (hcells l).take (q * k) = hcells (l.take q)
  | [], _, q => by simp [hcells]
  | x :: l, hl, 0 => by simp [hcells]
  | x :: l, hl, q + 1 => by
    have h1 : (x.map bV).length = k := by rw [List.length_map]; exact hl x (by simp)
    have ih := hcells_take (l := l) (fun y hy => hl y (by simp [hy])) q
    simp only [hcells, List.flatMap_cons, List.take_succ_cons] at ih ⊢
    rw [Nat.succ_mul, List.take_append, h1]
    have e1 : q * k + k - k = q * k := by omega
    rw [e1, ih, List.take_of_length_le (by rw [h1]; omega)]
theorem RdH.cut {G : Hp} {v : Value} {m lo k : Nat} {l : List (List UInt8)} (hl : ∀ h ∈ l, h.length = k) (hm : m = ((l.drop lo).take m).length) (r : Rd G v m k (((hcells l).drop (lo * k)).take (m * k))) : RdH G v k ((l.drop lo).take m) := by
  have h2 : ∀ h ∈ l.drop lo, h.length = k := fun h hh => hl h (List.mem_of_mem_drop hh)
  rw [hcells_drop hl, hcells_take h2] at r
  exact ⟨fun h hh => h2 h (List.mem_of_mem_take hh), r.canon hm⟩

theorem at_b (l : List UInt8) (q : Nat) (h : q < l.length) : (l.map bV)[q * 1 + 0]? = some (bV (l.getD q 0)) := by
  simp [h]
theorem at_i (l : List Int) (q : Nat) (h : q < l.length) : (l.map iV)[q * 1 + 0]? = some (iV (l.getD q 0)) := by
  simp [h]
theorem len_h {l : List (List UInt8)} {k : Nat} (hl : ∀ h ∈ l, h.length = k) (q : Nat) (h : q < l.length) : (l.getD q []).length = k := by
  rw [List.getD_eq_getElem?_getD, List.getElem?_eq_getElem h]; exact hl _ (List.getElem_mem h)
theorem cells_h {G : Hp} {b off k : Nat} {l : List (List UInt8)} (hl : ∀ h ∈ l, h.length = k) (q : Nat) (h : q < l.length) (hc : ∀ (j : Nat) u, (hcells l)[q * k + j]? = some u → hcell G b (off + j) = some u) :
    ∀ (j : Nat) u, ((l.getD q []).map bV).toArray[j]? = some u → hcell G b (off + j) = some u := fun j u hu => by
  refine hc j u (hcells_at hl q (l.getD q []) ?_ j u (by simpa using hu))
  rw [List.getD_eq_getElem?_getD, List.getElem?_eq_getElem h]; rfl
theorem cells_bV {G : Hp} {b off : Nat} {l : List UInt8} (hc : ∀ (j : Nat) u, (l.map bV).toArray[j]? = some u → hcell G b (off + j) = some u) : ∀ (j : Nat) u, (l.map bV)[j]? = some u → hcell G b (off + j) = some u := fun j u hu => hc j u (by simpa using hu)
theorem at_hV (l : List UInt8) (q : Nat) (h : q < l.length) : (l.map bV).toArray[((q : Nat) : Int).toNat]? = some (bV (l.getD q 0)) := by
  simp [h]
theorem Rds.at {G : Hp} {hs : List Value} {ls : List (List UInt8)} (r : Rds G hs ls) (q : Nat) (h : q < ls.length) :
    ∃ a c, (ls.getD q []).length ≤ c ∧ hs[q]? = some (.slice a (ls.getD q []).length c) ∧ Rd G (.slice a (ls.getD q []).length c) (ls.getD q []).length 1 ((ls.getD q []).map bV) := by
  have hl : ls[q]? = some (ls.getD q []) := by rw [List.getD_eq_getElem?_getD, List.getElem?_eq_getElem h]; rfl
  have hq : q < hs.length := by rw [r.1]; exact h
  have hv : hs[q]? = some hs[q] := List.getElem?_eq_getElem hq
  have h1 := r.2 q _ _ hv hl
  obtain ⟨a, c, e, hc⟩ := h1.shape
  rw [e] at h1 hv
  exact ⟨a, c, hc, hv, h1⟩

theorem still_cells {G : Hp} {b : Nat} {c : Array Value} {t : TypeId} {fz : Nat × Nat} (h : G b = some (.cells c t fz)) : ∀ (j : Nat) u, c[j]? = some u → hcell G b (0 + j) = some u := fun j u hu => by
  unfold hcell; rw [h]; simpa using hu
theorem still_cell {G : Hp} {b m : Nat} {c : Array Value} {t : TypeId} {fz : Nat × Nat} {v : Value} (h : G b = some (.cells c t fz)) (hv : c[m]? = some v) : hcell G b m = some v := by
  unfold hcell; rw [h]; exact hv
theorem still_part {G : Hp} {b off : Nat} {c cs : Array Value} {t : TypeId} {fz : Nat × Nat} (h : G b = some (.cells c t fz)) (hc : ∀ (q : Nat) v, cs[q]? = some v → c[off + q]? = some v) : ∀ (j : Nat) u, cs[j]? = some u → hcell G b (off + j) = some u := fun j u hu => by
  unfold hcell; rw [h]; exact hc j u hu

section
variable {P : Program} {N : Plan} {n : Nat} {ops : Array Oper} {K : Env → World → Prop} {rest : List Oper} {ρ : Env} {w : World}

/-- 'a[:]' of an array at a pointer. -/
theorem T_sliceAll {o : Oper} {d : Nat} {t e : TypeId} {i : TypeInfo} {x : Operand} {b off n0 : Nat} (ho : o.op = .slice t x none none none) (hx : ρ.ev x = some (.pointer (some ⟨b, off, none⟩))) (ht : P.underlying t = some (.array n0 e)) (hi' : P.info? e = some i) (hsize : i.size = 1) (hg : o.guard = none) (hd : o.dst = some d) (hn : Nat.ble (d + 1) n = true)
    (k : T P N n ops K rest ((d, .slice (some ⟨b, off, none⟩) n0 n0) :: ρ) w) : T P N n ops K (o :: rest) ρ w :=
  T_val hg hd hn (fun ac ha u => by
    have e1 := ha.ev hx
    unfold execOp; rw [ho]; simp only [e1, Option.map_none]
    have hb := run_sliceBounds (P := P) (len := n0) (cap := n0) (lo := none) (hi := none) (l := 0) (h := n0) false rfl rfl (Nat.zero_le _) (Nat.le_refl _) u
    by_cases h0 : n0 = 0
    · subst h0; simp [Instr.sliceAt, Instr.sureAddr, run_underlying ht, hb, run_size hi', hsize]
    · simp [Instr.sliceAt, Instr.sureAddr, run_underlying ht, hb, run_size hi', hsize, h0, add_none]) k

/-- Two Bools compared. -/
theorem T_beq {o : Oper} {d : Nat} {t t' : TypeId} {x y : Operand} {p q : Bool} (ho : o.op = .binOp .eql t x y t') (hx : ρ.ev x = some (.bool p)) (hy : ρ.ev y = some (.bool q)) (ht : P.underlying t = some .bool) (hg : o.guard = none) (hd : o.dst = some d) (hn : Nat.ble (d + 1) n = true)
    (k : T P N n ops K rest ((d, .bool (decide (p = q))) :: ρ) w) : T P N n ops K (o :: rest) ρ w :=
  T_val hg hd hn (fun a ha u => by
    have e1 := ha.ev hx
    have e2 := ha.ev hy
    have hq := run_equal_bool (P := P) u t p q ht
    have e : (p == q) = decide (p = q) := by cases p <;> cases q <;> rfl
    unfold execOp; rw [ho]; simp only [e1, e2]
    simp [eqGuard, binOp, hq, e]) k
theorem T_bne {o : Oper} {d : Nat} {t t' : TypeId} {x y : Operand} {p q : Bool} (ho : o.op = .binOp .neq t x y t') (hx : ρ.ev x = some (.bool p)) (hy : ρ.ev y = some (.bool q)) (ht : P.underlying t = some .bool) (hg : o.guard = none) (hd : o.dst = some d) (hn : Nat.ble (d + 1) n = true)
    (k : T P N n ops K rest ((d, .bool (!decide (p = q))) :: ρ) w) : T P N n ops K (o :: rest) ρ w :=
  T_val hg hd hn (fun a ha u => by
    have e1 := ha.ev hx
    have e2 := ha.ev hy
    have hq := run_equal_bool (P := P) u t p q ht
    have e : (p == q) = decide (p = q) := by cases p <;> cases q <;> rfl
    unfold execOp; rw [ho]; simp only [e1, e2]
    simp [eqGuard, binOp, hq, e]) k

theorem str_append (l m : List UInt8) : (⟨l.toArray⟩ : ByteArray) ++ ⟨m.toArray⟩ = ⟨(l ++ m).toArray⟩ := by
  apply ByteArray.ext
  simp
/-- 's + t'. -/
theorem T_stradd {o : Oper} {d : Nat} {t t' : TypeId} {x y : Operand} {l m : List UInt8} (ho : o.op = .binOp .add t x y t') (hx : ρ.ev x = some (str l)) (hy : ρ.ev y = some (str m)) (hg : o.guard = none) (hd : o.dst = some d) (hn : Nat.ble (d + 1) n = true) (hlen : l.length + m.length ≤ 9223372036854775807)
    (k : T P N n ops K rest ((d, str (l ++ m)) :: ρ) w) : T P N n ops K (o :: rest) ρ w :=
  T_val hg hd hn (fun a ha u => by
    have e1 := ha.ev hx
    have e2 := ha.ev hy
    unfold execOp; rw [ho]; simp only [e1, e2, str]
    have hs : ¬ (9223372036854775807 < ((l.length : Nat) : Int) + ((m.length : Nat) : Int)) := by omega
    simp [eqGuard, binOp, Op.stringOp, str_append, ByteArray.size]
    omega) k
end
end Go.F
namespace Go.F
open Go Go.RowKit
section
variable {P : Program} {N : Plan} {n : Nat} {ops : Array Oper} {K : Env → World → Prop} {rest : List Oper} {ρ : Env} {w : World}

/-- 's[i]' of a string. -/
theorem T_indexStr {o : Oper} {d : Nat} {t : TypeId} {x y : Operand} {l : List UInt8} {k0 : IntKind} {z : Int} (q : Nat) (ho : o.op = .index t x y) (hx : ρ.ev x = some (str l)) (hy : ρ.ev y = some (.int k0 z)) (ht : P.underlying t = some .string) (hg : o.guard = none) (hd : o.dst = some d) (hn : Nat.ble (d + 1) n = true)
    (hz : z = (q : Int)) (hq : q < l.length) (k : T P N n ops K rest ((d, bV (l.getD q 0)) :: ρ) w) : T P N n ops K (o :: rest) ρ w :=
  T_val hg hd hn (fun a ha u => by
    have e1 := ha.ev hx
    have e2 := ha.ev hy
    subst hz
    have hs : (⟨l.toArray⟩ : ByteArray)[q]? = some (l.getD q 0) := by
      have hq' : q < (⟨l.toArray⟩ : ByteArray).size := by simpa [ByteArray.size] using hq
      rw [getElem?_pos _ q hq', List.getD_eq_getElem?_getD, List.getElem?_eq_getElem hq]
      rfl
    unfold execOp; rw [ho]; simp only [e1, e2, str]
    simp [Instr.index, asIntOf, run_underlying ht, hs]) k
/-- 's[lo:hi]' of a string. -/
theorem T_cutStr {o : Oper} {d : Nat} {t : TypeId} {x : Operand} {lo hi : Option Operand} {vlo vhi : Option Value} {l : List UInt8} (p q : Nat) (ho : o.op = .slice t x lo hi none) (hx : ρ.ev x = some (str l)) (hlo : optEv ρ lo = some vlo) (hhi : optEv ρ hi = some vhi) (ht : P.underlying t = some .string) (hg : o.guard = none) (hd : o.dst = some d) (hn : Nat.ble (d + 1) n = true)
    (hh : bound l.length vhi = some q) (hl : bound 0 vlo = some p) (h1 : p ≤ q) (h2 : q ≤ l.length) (k : T P N n ops K rest ((d, str ((l.drop p).take (q - p))) :: ρ) w) : T P N n ops K (o :: rest) ρ w :=
  T_val hg hd hn (fun a ha u => by
    have e1 := ha.ev hx
    have e2 := optEv_map ha hlo
    have e3 := optEv_map ha hhi
    have hsz : (⟨l.toArray⟩ : ByteArray).size = l.length := by simp [ByteArray.size]
    have hb := run_sliceBounds (P := P) (len := l.length) (cap := l.length) (lo := vlo) (hi := vhi) false hh hl h1 h2 u
    have he : (⟨l.toArray⟩ : ByteArray).extract p q = ⟨((l.drop p).take (q - p)).toArray⟩ := by
      apply ByteArray.ext
      simp [ByteArray.data_extract]
    unfold execOp; rw [ho]; simp only [e1, e2, e3, str, Option.map_none]
    simp [Instr.sliceAt, Instr.slice, run_underlying ht, hsz, hb, he]) k
/-- 'x % y', 'x / y' of any kind, neither below nought. -/
theorem T_remU {o : Oper} {d : Nat} {t t' : TypeId} {x y : Operand} {k0 k1 : IntKind} {p q : Int} (ho : o.op = .binOp .rem t x y t') (hx : ρ.ev x = some (.int k0 p)) (hy : ρ.ev y = some (.int k1 q)) (hkk : k0 = k1) (hg : o.guard = none) (hd : o.dst = some d) (hn : Nat.ble (d + 1) n = true)
    (hp : 0 ≤ p ∧ 0 < q) (k : T P N n ops K rest ((d, .int k0 (p % q)) :: ρ) w) : T P N n ops K (o :: rest) ρ w :=
  T_val hg hd hn (fun a ha u => by
    have h1 := ha.ev hx
    have h2 := ha.ev hy
    subst hkk
    unfold execOp; rw [ho]; simp only [h1, h2]
    have e : p.tmod q = p % q := Int.tmod_eq_emod_of_nonneg hp.1
    have hq : q ≠ 0 := by omega
    simp [go_sem, Op.intDiv, hq, e]) k
theorem T_quoU {o : Oper} {d : Nat} {t t' : TypeId} {x y : Operand} {k0 k1 : IntKind} {p q : Int} (ho : o.op = .binOp .quo t x y t') (hx : ρ.ev x = some (.int k0 p)) (hy : ρ.ev y = some (.int k1 q)) (hkk : k0 = k1) (hg : o.guard = none) (hd : o.dst = some d) (hn : Nat.ble (d + 1) n = true)
    (hp : 0 ≤ p ∧ 0 < q) (hw : k0.wrap (p / q) = p / q) (k : T P N n ops K rest ((d, .int k0 (p / q)) :: ρ) w) : T P N n ops K (o :: rest) ρ w :=
  T_val hg hd hn (fun a ha u => by
    have h1 := ha.ev hx
    have h2 := ha.ev hy
    subst hkk
    unfold execOp; rw [ho]; simp only [h1, h2]
    have e : p.tdiv q = p / q := Int.tdiv_eq_ediv_of_nonneg hp.1
    have hq : q ≠ 0 := by omega
    simp [go_sem, Op.intDiv, hq, e, hw]) k
/-- 'x >> y', x not below nought, y a number that is known. -/
theorem T_shrU {o : Oper} {d : Nat} {t t' : TypeId} {x y : Operand} {kx ky : IntKind} {p z : Int} (q : Nat) (ho : o.op = .binOp .shr t x y t') (hx : ρ.ev x = some (.int kx p)) (hy : ρ.ev y = some (.int ky z)) (hz : z = (q : Int)) (hqb : q ≤ kx.bits) (hp : 0 ≤ p) (hg : o.guard = none) (hd : o.dst = some d) (hn : Nat.ble (d + 1) n = true)
    (k : T P N n ops K rest ((d, .int kx (p / 2 ^ q)) :: ρ) w) : T P N n ops K (o :: rest) ρ w := by
  refine T_shr ho hx hy hg hd hn (by omega) ?_
  have e : min z.toNat kx.bits = q := by omega
  rw [e, Int.fdiv_eq_ediv_of_nonneg _ (Int.pow_nonneg (by omega))]
  exact k
/-- 'a[lo:hi]' of an array in a variable, lo ahead of its end. -/
theorem T_sliceAc {o : Oper} {d : Nat} {t e : TypeId} {i : TypeInfo} {x : Operand} {lo hi : Option Operand} {vlo vhi : Option Value} {b off n0 : Nat} (l h : Nat) (ho : o.op = .slice t x lo hi none) (hx : ρ.ev x = some (.pointer (some ⟨b, off, none⟩))) (hlo : optEv ρ lo = some vlo) (hhi : optEv ρ hi = some vhi) (ht : P.underlying t = some (.array n0 e)) (hi' : P.info? e = some i) (hsize : i.size = 1) (hg : o.guard = none) (hd : o.dst = some d) (hn : Nat.ble (d + 1) n = true)
    (hh : bound n0 vhi = some h) (hl : bound 0 vlo = some l) (h1 : l ≤ h) (h2 : h ≤ n0) (h3 : l < n0)
    (k : T P N n ops K rest ((d, .slice (some ⟨b, off + l, none⟩) (h - l) (n0 - l)) :: ρ) w) : T P N n ops K (o :: rest) ρ w :=
  T_val hg hd hn (fun ac ha u => by
    have e1 := ha.ev hx
    have e2 := optEv_map ha hlo
    have e3 := optEv_map ha hhi
    unfold execOp; rw [ho]; simp only [e1, e2, e3, Option.map_none]
    have hb := run_sliceBounds (P := P) (len := n0) (cap := n0) (lo := vlo) (hi := vhi) false hh hl h1 h2 u
    have hne : ¬ n0 = l := by omega
    simp [Instr.sliceAt, Instr.sureAddr, run_underlying ht, hb, run_size hi', hsize, hne, add_none]) k
end
/-- A piece of a block that stands still. -/
theorem Rd.of_blk_at {G : Hp} {b off m c0 size : Nat} {c : Array Value} {t : TypeId} {fz : Nat × Nat} {xs : List Value} (h : G b = some (.cells c t fz)) (hl : xs.length = m * size) (hm : m ≤ c0) (hc : ∀ (j : Nat) u, xs[j]? = some u → c[off + j]? = some u) : Rd G (.slice (some ⟨b, off, none⟩) m c0) m size xs :=
  ⟨hl, _, c0, rfl, hm, fun e => (by cases e), fun ad e _ => by
    cases e
    refine ⟨rfl, fun i u hi => ?_⟩
    unfold hcell
    rw [h]
    exact hc i u hi⟩
end Go.F
