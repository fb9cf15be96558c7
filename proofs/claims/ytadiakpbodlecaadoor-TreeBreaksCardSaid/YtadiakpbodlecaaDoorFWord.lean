/- General lemmas for walking the code, or plain mathematics. -/
import Derived.Test.YtadiakpbodlecaaDoorFOps
set_option linter.unusedVariables false
set_option linter.unusedSimpArgs false
set_option maxRecDepth 8192
namespace Go.F
open Go Go.RowKit

/-! ### Words of 32 bits, and bytes -/

abbrev wV (a : BitVec 32) : Value := .int .u32 (a.toNat : Int)
abbrev bV (b : UInt8) : Value := .int .u8 (b.toNat : Int)

theorem wrap32_nat (m : Nat) : IntKind.u32.wrap (m : Int) = ((BitVec.ofNat 32 m).toNat : Int) := by
  rw [IntKind.wrap_u32]; simp
theorem wadd (a b : BitVec 32) : IntKind.u32.wrap ((a.toNat : Int) + b.toNat) = ((a + b).toNat : Int) := by
  rw [IntKind.wrap_u32, BitVec.toNat_add]; simp
theorem bv_of (a : BitVec 32) : BitVec.ofInt IntKind.u32.bits (a.toNat : Int) = a := by
  simp only [IntKind.bits]
  apply BitVec.eq_of_toNat_eq
  simp
theorem wrap_self (a : BitVec 32) : IntKind.u32.wrap (a.toNat : Int) = (a.toNat : Int) := by
  rw [IntKind.wrap_u32]; have := a.isLt; omega
theorem wand (a b : BitVec 32) : bits .and .u32 (a.toNat : Int) b.toNat = ((a &&& b).toNat : Int) := by
  simp only [bits, bv_of]; exact wrap_self _
theorem wor (a b : BitVec 32) : bits .or .u32 (a.toNat : Int) b.toNat = ((a ||| b).toNat : Int) := by
  simp only [bits, bv_of]; exact wrap_self _
theorem wxor (a b : BitVec 32) : bits .xor .u32 (a.toNat : Int) b.toNat = ((a ^^^ b).toNat : Int) := by
  simp only [bits, bv_of]; exact wrap_self _
theorem wnot (a : BitVec 32) : bits .xor .u32 IntKind.u32.max (a.toNat : Int) = ((~~~a).toNat : Int) := by
  have e : (IntKind.u32.max : Int) = ((BitVec.allOnes 32).toNat : Int) := by decide
  rw [e, wxor, BitVec.allOnes_xor]
theorem wshl (a : BitVec 32) (q : Nat) (hq : q ≤ 32) : IntKind.u32.wrap ((a.toNat : Int) * 2 ^ (min q IntKind.u32.bits)) = ((a <<< q).toNat : Int) := by
  have e : min q IntKind.u32.bits = q := by simp only [IntKind.bits]; omega
  rw [e, IntKind.wrap_u32, BitVec.toNat_shiftLeft, Nat.shiftLeft_eq]
  simp
theorem wshr (a : BitVec 32) (q : Nat) (hq : q ≤ 32) : (a.toNat : Int).fdiv (2 ^ (min q IntKind.u32.bits)) = ((a >>> q).toNat : Int) := by
  have e : min q IntKind.u32.bits = q := by simp only [IntKind.bits]; omega
  rw [e, BitVec.toNat_ushiftRight, Nat.shiftRight_eq_div_pow, Int.fdiv_eq_ediv_of_nonneg _ (by exact Int.pow_nonneg (by omega))]
  simp
theorem w_of_b (b : UInt8) : IntKind.u32.wrap (b.toNat : Int) = ((b.toBitVec.setWidth 32).toNat : Int) := by
  rw [IntKind.wrap_u32]
  have h := b.toBitVec.isLt
  have e : b.toNat = b.toBitVec.toNat := rfl
  rw [e, BitVec.toNat_setWidth]
  omega
theorem b_wrap (m : Nat) : IntKind.u8.wrap (m : Int) = ((UInt8.ofNat m).toNat : Int) := by
  rw [IntKind.wrap_u8]; simp

section
variable {P : Program} {N : Plan} {n : Nat} {ops : Array Oper} {K : Env → World → Prop} {rest : List Oper} {ρ : Env} {w : World}

def wop : BinOp → BitVec 32 → BitVec 32 → Option (BitVec 32)
  | .add, a, b => some (a + b)
  | .and, a, b => some (a &&& b)
  | .or, a, b => some (a ||| b)
  | .xor, a, b => some (a ^^^ b)
  | _, _, _ => none

/-- '+', '&', '|', '^' on words. -/
theorem T_w {o : Oper} {d : Nat} {op : BinOp} {t t' : TypeId} {x y : Operand} {a b c : BitVec 32} (ho : o.op = .binOp op t x y t') (hx : ρ.ev x = some (wV a)) (hy : ρ.ev y = some (wV b)) (hc : wop op a b = some c) (hg : o.guard = none) (hd : o.dst = some d) (hn : Nat.ble (d + 1) n = true)
    (k : T P N n ops K rest ((d, wV c) :: ρ) w) : T P N n ops K (o :: rest) ρ w := by
  refine T_pev (v := wV c) ?_ hg hd hn k
  rw [ho]
  cases op <;> simp only [wop, Option.some.injEq, reduceCtorEq] at hc <;> subst hc <;> simp [pev, isShift, hx, hy, binInt, wadd, wand, wor, wxor]
theorem T_wnot {o : Oper} {d : Nat} {t : TypeId} {x : Operand} {a : BitVec 32} (ho : o.op = .unOp .xor t x) (hx : ρ.ev x = some (wV a)) (hg : o.guard = none) (hd : o.dst = some d) (hn : Nat.ble (d + 1) n = true)
    (k : T P N n ops K rest ((d, wV (~~~a)) :: ρ) w) : T P N n ops K (o :: rest) ρ w := by
  refine T_pev (v := wV (~~~a)) ?_ hg hd hn k
  rw [ho]; simp [pev, hx, wnot]
theorem T_wshl {o : Oper} {d : Nat} {t t' : TypeId} {x : Operand} {ky : IntKind} {a : BitVec 32} {q : Nat} {z : Int} (ho : o.op = .binOp .shl t x (.const (.int ky z)) t') (hx : ρ.ev x = some (wV a)) (hz : z = (q : Int)) (hq : Nat.ble q 32 = true) (hg : o.guard = none) (hd : o.dst = some d) (hn : Nat.ble (d + 1) n = true)
    (k : T P N n ops K rest ((d, wV (a <<< q)) :: ρ) w) : T P N n ops K (o :: rest) ρ w := by
  refine T_shl ho hx rfl hg hd hn (by omega) ?_
  rw [hz, Int.toNat_natCast, wshl a q (Nat.le_of_ble_eq_true hq)]
  exact k
theorem T_wshr {o : Oper} {d : Nat} {t t' : TypeId} {x : Operand} {ky : IntKind} {a : BitVec 32} {q : Nat} {z : Int} (ho : o.op = .binOp .shr t x (.const (.int ky z)) t') (hx : ρ.ev x = some (wV a)) (hz : z = (q : Int)) (hq : Nat.ble q 32 = true) (hg : o.guard = none) (hd : o.dst = some d) (hn : Nat.ble (d + 1) n = true)
    (k : T P N n ops K rest ((d, wV (a >>> q)) :: ρ) w) : T P N n ops K (o :: rest) ρ w := by
  refine T_shr ho hx rfl hg hd hn (by omega) ?_
  rw [hz, Int.toNat_natCast, wshr a q (Nat.le_of_ble_eq_true hq)]
  exact k
theorem T_wshlv {o : Oper} {d : Nat} {t t' : TypeId} {x y : Operand} {ky : IntKind} {a : BitVec 32} {q : Nat} {z : Int} (ho : o.op = .binOp .shl t x y t') (hx : ρ.ev x = some (wV a)) (hy : ρ.ev y = some (.int ky z)) (hz : z = (q : Int)) (hq : q ≤ 32) (hg : o.guard = none) (hd : o.dst = some d) (hn : Nat.ble (d + 1) n = true)
    (k : T P N n ops K rest ((d, wV (a <<< q)) :: ρ) w) : T P N n ops K (o :: rest) ρ w := by
  refine T_shl ho hx hy hg hd hn (by omega) ?_
  rw [hz, Int.toNat_natCast, wshl a q hq]
  exact k
theorem T_wshrv {o : Oper} {d : Nat} {t t' : TypeId} {x y : Operand} {ky : IntKind} {a : BitVec 32} {q : Nat} {z : Int} (ho : o.op = .binOp .shr t x y t') (hx : ρ.ev x = some (wV a)) (hy : ρ.ev y = some (.int ky z)) (hz : z = (q : Int)) (hq : q ≤ 32) (hg : o.guard = none) (hd : o.dst = some d) (hn : Nat.ble (d + 1) n = true)
    (k : T P N n ops K rest ((d, wV (a >>> q)) :: ρ) w) : T P N n ops K (o :: rest) ρ w := by
  refine T_shr ho hx hy hg hd hn (by omega) ?_
  rw [hz, Int.toNat_natCast, wshr a q hq]
  exact k
/-- A byte as a word. -/
theorem T_wb {o : Oper} {d : Nat} {s t : TypeId} {x : Operand} {k0 : IntKind} {b : UInt8} (ho : o.op = .convert s t x) (hs : P.underlying s = some (.int k0)) (ht : P.underlying t = some (.int .u32)) (hx : ρ.ev x = some (bV b)) (hg : o.guard = none) (hd : o.dst = some d) (hn : Nat.ble (d + 1) n = true)
    (k : T P N n ops K rest ((d, wV (b.toBitVec.setWidth 32)) :: ρ) w) : T P N n ops K (o :: rest) ρ w := by
  refine T_pev (v := wV (b.toBitVec.setWidth 32)) ?_ hg hd hn k
  rw [ho]; simp [pev, hx, hs, ht, w_of_b]

/-! ### Addresses of elements of one cell -/

theorem T_idx1 {o : Oper} {d : Nat} {t e : TypeId} {i : TypeInfo} {x y : Operand} {b off len cap : Nat} {k0 : IntKind} {z : Int} (ho : o.op = .indexAddr t x y) (hx : ρ.ev x = some (.slice (some ⟨b, off, none⟩) len cap)) (hy : ρ.ev y = some (.int k0 z))
    (ht : P.underlying t = some (.slice e)) (hi : P.info? e = some i) (h1 : i.size = 1) (hg : o.guard = none) (hd : o.dst = some d) (hn : Nat.ble (d + 1) n = true)
    (hz : 0 ≤ z ∧ z < len) (k : T P N n ops K rest ((d, .pointer (some ⟨b, off + z.toNat, none⟩)) :: ρ) w) : T P N n ops K (o :: rest) ρ w :=
  T_idx ho hx hy ht hi hg hd hn hz (by rw [h1, Nat.mul_one]; exact k)
theorem T_idxA1 {o : Oper} {d : Nat} {t e : TypeId} {i : TypeInfo} {x y : Operand} {b off len : Nat} {k0 : IntKind} {z : Int} (ho : o.op = .indexAddr t x y) (hx : ρ.ev x = some (.pointer (some ⟨b, off, none⟩))) (hy : ρ.ev y = some (.int k0 z))
    (ht : P.underlying t = some (.array len e)) (hi : P.info? e = some i) (h1 : i.size = 1) (hg : o.guard = none) (hd : o.dst = some d) (hn : Nat.ble (d + 1) n = true)
    (hz : 0 ≤ z ∧ z < len) (k : T P N n ops K rest ((d, .pointer (some ⟨b, off + z.toNat, none⟩)) :: ρ) w) : T P N n ops K (o :: rest) ρ w :=
  T_idxA ho hx hy ht hi hg hd hn hz (by rw [h1, Nat.mul_one]; exact k)
theorem T_idx32 {o : Oper} {d : Nat} {t e : TypeId} {i : TypeInfo} {x y : Operand} {b off len cap : Nat} {k0 : IntKind} {z : Int} (ho : o.op = .indexAddr t x y) (hx : ρ.ev x = some (.slice (some ⟨b, off, none⟩) len cap)) (hy : ρ.ev y = some (.int k0 z))
    (ht : P.underlying t = some (.slice e)) (hi : P.info? e = some i) (h1 : i.size = 32) (hg : o.guard = none) (hd : o.dst = some d) (hn : Nat.ble (d + 1) n = true)
    (hz : 0 ≤ z ∧ z < len) (k : T P N n ops K rest ((d, .pointer (some ⟨b, off + z.toNat * 32, none⟩)) :: ρ) w) : T P N n ops K (o :: rest) ρ w :=
  T_idx ho hx hy ht hi hg hd hn hz (by rw [h1]; exact k)

/-- A store of one cell into a row of the call's own. -/
theorem T_store1 {o : Oper} {t t0 : TypeId} {i : TypeInfo} {x y : Operand} {b off : Nat} {c : Array Value} {v : Value} (j : Nat) (hC : ∀ w, N.C w) (ho : o.op = .store t x y) (hx : ρ.ev x = some (.pointer (some ⟨b, off, none⟩))) (hy : ρ.ev y = some v)
    (hi : P.info? t = some i) (hi1 : i.size = 1) (hv1 : v.cells = #[v]) (ho1 : v.oneCell' = true) (hcl : N.cl o = .loud) (hg : o.guard = none) (hd : o.dst = none)
    (hb : w.heap[b]? = some (.cells c t0 (0, 0))) (hj : off = j) (hfit : j < c.size)
    (k : ∀ w', w'.heap[b]? = some (.cells (c.setIfInBounds j v) t0 (0, 0)) → w.grownBy w' (some b) → w'.heap.size = w.heap.size → T P N n ops K rest ρ w') : T P N n ops K (o :: rest) ρ w := by
  subst hj
  refine T_store hC ho hx hy hi hcl hg hd hb (by rw [hv1, hi1]; rfl) (by rw [hv1]; simp; omega) (by rw [hv1]; simpa using ho1) fun w' h1 h2 h3 => k w' ?_ h2 h3
  rw [h1, hv1]
  congr 2
  apply Array.ext_getElem?
  intro m
  simp only [List.getElem?_toArray, Array.getElem?_setIfInBounds]
  rcases Nat.lt_trichotomy m off with h | h | h
  · rw [List.getElem?_append_left (by simp; omega), List.getElem?_append_left (by simp; omega), List.getElem?_take, if_pos h, if_neg (by omega)]; simp
  · subst h
    rw [List.getElem?_append_left (by simp; omega), List.getElem?_append_right (by simp; omega)]
    have : min m c.size = m := by omega
    simp [hfit, this]
  · rw [List.getElem?_append_right (by simp; omega), if_neg (by omega)]
    have e : min off c.size = off := by omega
    simp only [List.length_append, List.length_take, Array.length_toList, List.length_cons, List.length_nil, List.size_toArray, List.getElem?_drop, e, Array.getElem?_toList]
    congr 1
    omega

/-- A store over a whole row. -/
theorem T_storeF {o : Oper} {t t0 : TypeId} {i : TypeInfo} {x y : Operand} {b off : Nat} {c : Array Value} {v : Value} (hC : ∀ w, N.C w) (ho : o.op = .store t x y) (hx : ρ.ev x = some (.pointer (some ⟨b, off, none⟩))) (hy : ρ.ev y = some v)
    (hi : P.info? t = some i) (hcl : N.cl o = .loud) (hg : o.guard = none) (hd : o.dst = none)
    (hb : w.heap[b]? = some (.cells c t0 (0, 0))) (ho0 : off = 0) (hl : v.cells.size = i.size) (hl2 : v.cells.size = c.size) (h1 : ∀ u ∈ v.cells.toList, u.oneCell' = true)
    (k : ∀ w', w'.heap[b]? = some (.cells v.cells t0 (0, 0)) → w.grownBy w' (some b) → w'.heap.size = w.heap.size → T P N n ops K rest ρ w') : T P N n ops K (o :: rest) ρ w := by
  subst ho0
  refine T_store hC ho hx hy hi hcl hg hd hb hl (by omega) h1 fun w' h1 h2 h3 => k w' ?_ h2 h3
  rw [h1]
  congr 2
  have e : c.toList.drop (0 + v.cells.size) = [] := by rw [hl2]; simp
  rw [e]; simp

theorem blk_cells {w : World} {b : Nat} {c : Array Value} {t : TypeId} {f : Nat × Nat} (h : w.heap[b]? = some (.cells c t f)) : ∀ (j : Nat) (v : Value), c[j]? = some v → w.cell? ⟨b, 0 + j, none⟩ = some v := fun j v hj => by
  rw [Nat.zero_add]; exact cell_of_hcell (by rw [hcell_blk h]; exact hj)

theorem one_wV (l : List (BitVec 32)) : ∀ u ∈ (l.map wV).toArray.toList, u.oneCell' = true := by
  intro u hu; simp at hu; obtain ⟨a, _, rfl⟩ := hu; rfl
theorem one_bV (l : List UInt8) : ∀ u ∈ l.map bV, u.oneCell' = true := by
  intro u hu; obtain ⟨a, _, rfl⟩ := List.mem_map.1 hu; rfl

/-! ### Slices -/

def optEv (ρ : Env) : Option Operand → Option (Option Value)
  | none => some none
  | some x => match ρ.ev x with | some v => some (some v) | none => none

theorem optEv_map {a : Act} (ha : Agree n ρ a) {x : Option Operand} {v : Option Value} (h : optEv ρ x = some v) : x.map a.eval = v := by
  cases x with
  | none => simp only [optEv, Option.some.injEq] at h; exact h
  | some y =>
    simp only [optEv] at h
    cases hy : ρ.ev y with
    | none => simp [hy] at h
    | some u => rw [hy] at h; simp only [Option.some.injEq] at h; rw [← h, Option.map_some, ha.ev hy]

/-- What a bound says: a number that is no less than 0. -/
def bound (dflt : Nat) : Option Value → Option Nat
  | none => some dflt
  | some (.int _ z) => if 0 ≤ z then some z.toNat else none
  | some _ => none

theorem run_sliceBounds {len cap : Nat} {lo hi : Option Value} {l h : Nat} (s : Bool) (hh : bound len hi = some h) (hl : bound 0 lo = some l) (h1 : l ≤ h) (h2 : h ≤ cap) (u : World) :
    (Instr.sliceBounds s len cap lo hi none).run P u = .ok (l, h, cap) u := by
  have eh : ∀ c, (match hi with | some v => Instr.sliceBound v cap c | none => (pure len : Sem Nat)).run P u = .ok h u := by
    intro c
    cases hi with
    | none => simp only [bound, Option.some.injEq] at hh; subst hh; rfl
    | some v =>
      cases v <;> simp only [bound, reduceCtorEq] at hh
      split at hh
      · rename_i k z hz
        cases hh
        have : z ≤ (cap : Int) := by omega
        simp [Instr.sliceBound, asIntOf, hz, this]
      · cases hh
  have el : ∀ c, (match lo with | some v => Instr.sliceBound v h c | none => (pure 0 : Sem Nat)).run P u = .ok l u := by
    intro c
    cases lo with
    | none => simp only [bound, Option.some.injEq] at hl; subst hl; rfl
    | some v =>
      cases v <;> simp only [bound, reduceCtorEq] at hl
      split at hl
      · rename_i k z hz
        cases hl
        have : z ≤ (h : Int) := by omega
        simp [Instr.sliceBound, asIntOf, hz, this]
      · cases hl
  unfold Instr.sliceBounds
  cases hi <;> cases lo <;> simp_all

theorem add_none (b off m : Nat) : (⟨b, off, none⟩ : Addr).add m = ⟨b, off + m, none⟩ := Addr.add_lit b off m

/-- 's[lo:hi]' of what reads as xs. -/
theorem T_slice {o : Oper} {d : Nat} {t e : TypeId} {i : TypeInfo} {x : Operand} {lo hi : Option Operand} {vlo vhi : Option Value} {v : Value} {H : Hp} {n0 size l h : Nat} {xs : List Value}
    (ho : o.op = .slice t x lo hi none) (hx : ρ.ev x = some v) (hlo : optEv ρ lo = some vlo) (hhi : optEv ρ hi = some vhi) (ht : P.underlying t = some (.slice e)) (hi' : P.info? e = some i) (hsize : i.size = size) (hg : o.guard = none) (hd : o.dst = some d) (hn : Nat.ble (d + 1) n = true)
    (r : Rd H v n0 size xs) (hh : bound n0 vhi = some h) (hl : bound 0 vlo = some l) (h1 : l ≤ h) (h2 : h ≤ n0)
    (k : ∀ a' c', Rd H (.slice a' (h - l) c') (h - l) size ((xs.drop (l * size)).take ((h - l) * size)) → T P N n ops K rest ((d, .slice a' (h - l) c') :: ρ) w) : T P N n ops K (o :: rest) ρ w := by
  obtain ⟨hlen, a, c, hv, hc, hnone, hsome⟩ := r
  refine T_val (v := .slice (if c = l then a else a.map (·.add (l * size))) (h - l) (c - l)) hg hd hn (fun ac ha u => ?_) (k _ _ ?_)
  · have e1 := ha.ev hx
    have e2 := optEv_map ha hlo
    have e3 := optEv_map ha hhi
    unfold execOp; rw [ho]; simp only [e1, e2, e3, Option.map_none]
    have hb := run_sliceBounds (P := P) (len := n0) (cap := c) (lo := vlo) (hi := vhi) true hh hl h1 (by omega) u
    simp [Instr.sliceAt, Instr.slice, run_underlying ht, hv, hb, sizeOf, typeInfo, hi', hsize]
  · refine ⟨?_, _, _, rfl, by omega, ?_, ?_⟩
    · rw [List.length_take, List.length_drop, hlen]
      have : h * size ≤ n0 * size := Nat.mul_le_mul_right _ h2
      have e : h * size = l * size + (h - l) * size := by rw [← Nat.add_mul]; congr 1; omega
      omega
    · intro he
      cases a with
      | none => obtain ⟨rfl, rfl⟩ := hnone rfl; omega
      | some ad => split at he <;> simp at he
    · intro ad had hpos
      cases a with
      | none => split at had <;> simp at had
      | some ad0 =>
        obtain ⟨hs, hcell⟩ := hsome ad0 rfl (by omega)
        obtain ⟨b, off, s⟩ := ad0
        simp only at hs; subst hs
        split at had
        · cases had
          have : h - l = 0 := by omega
          refine ⟨rfl, fun j u hj => ?_⟩
          rw [this] at hj
          simp at hj
        · simp only [Option.map_some, add_none, Option.some.injEq] at had
          subst had
          refine ⟨rfl, fun j u hj => ?_⟩
          rw [List.getElem?_take] at hj
          split at hj
          · rw [List.getElem?_drop] at hj
            have := hcell (l * size + j) u hj
            simpa [Nat.add_assoc] using this
          · cases hj

/-- 'a[lo:hi]' of an array in a variable. -/
theorem T_sliceA {o : Oper} {d : Nat} {t e : TypeId} {i : TypeInfo} {x : Operand} {lo hi : Option Operand} {vlo vhi : Option Value} {b off : Nat} {H : Hp} {n0 size l h : Nat} {xs : List Value}
    (ho : o.op = .slice t x lo hi none) (hx : ρ.ev x = some (.pointer (some ⟨b, off, none⟩))) (hlo : optEv ρ lo = some vlo) (hhi : optEv ρ hi = some vhi) (ht : P.underlying t = some (.array n0 e)) (hi' : P.info? e = some i) (hsize : i.size = size) (hg : o.guard = none) (hd : o.dst = some d) (hn : Nat.ble (d + 1) n = true)
    (hlen : xs.length = n0 * size) (r : ∀ (j : Nat) u, xs[j]? = some u → hcell H b (off + j) = some u) (hh : bound n0 vhi = some h) (hl : bound 0 vlo = some l) (h1 : l ≤ h) (h2 : h ≤ n0)
    (k : ∀ a' c', Rd H (.slice a' (h - l) c') (h - l) size ((xs.drop (l * size)).take ((h - l) * size)) → T P N n ops K rest ((d, .slice a' (h - l) c') :: ρ) w) : T P N n ops K (o :: rest) ρ w := by
  refine T_val (v := .slice (some (if n0 = l then ⟨b, off, none⟩ else (⟨b, off, none⟩ : Addr).add (l * size))) (h - l) (n0 - l)) hg hd hn (fun ac ha u => ?_) (k _ _ ?_)
  · have e1 := ha.ev hx
    have e2 := optEv_map ha hlo
    have e3 := optEv_map ha hhi
    unfold execOp; rw [ho]; simp only [e1, e2, e3, Option.map_none]
    have hb := run_sliceBounds (P := P) (len := n0) (cap := n0) (lo := vlo) (hi := vhi) false hh hl h1 (by omega) u
    simp [Instr.sliceAt, Instr.sureAddr, run_underlying ht, hb, sizeOf, typeInfo, hi', hsize]
  · refine ⟨?_, _, _, rfl, by omega, (fun e => by cases e), ?_⟩
    · rw [List.length_take, List.length_drop, hlen]
      have : h * size ≤ n0 * size := Nat.mul_le_mul_right _ h2
      have e : h * size = l * size + (h - l) * size := by rw [← Nat.add_mul]; congr 1; omega
      omega
    · intro ad had _
      simp only [Option.some.injEq] at had
      subst had
      split
      · have : h - l = 0 := by omega
        refine ⟨rfl, fun j u hj => ?_⟩
        rw [this] at hj
        simp at hj
      · rw [add_none]
        refine ⟨rfl, fun j u hj => ?_⟩
        rw [List.getElem?_take] at hj
        split at hj
        · rw [List.getElem?_drop] at hj
          have := r (l * size + j) u hj
          simpa [Nat.add_assoc] using this
        · cases hj

/-! ### make, literals -/

/-- 'make([]T, n)'. -/
theorem T_make {o : Oper} {d : Nat} {t e : TypeId} {i : TypeInfo} {z : Value} {x y : Operand} {kx ky : IntKind} {p q : Int} (m : Nat) (hC : ∀ w, N.C w) (ho : o.op = .makeSlice t x y) (hx : ρ.ev x = some (.int kx p)) (hy : ρ.ev y = some (.int ky q))
    (ht : P.underlying t = some (.slice e)) (hi : P.info? e = some i) (hz : i.zero = some z) (hcl : N.cl o = .loud) (hg : o.guard = none) (hd : o.dst = some d) (hn : Nat.ble (d + 1) n = true)
    (hp : p = (m : Int)) (hq : q = (m : Int)) (hbytes : i.bytes * m ≤ 281474976710656) (h63 : m ≤ maxLen)
    (k : ∀ v' w', w'.ownsRow w.heap.size e i.size v' m (madeCells z.cells (m * i.size)).toList → w.grownBy w' none → T P N n ops K rest ((d, v') :: ρ) w') : T P N n ops K (o :: rest) ρ w := by
  refine T_loud hg hcl fun a ha hc => ?_
  have e1 := ha.ev hx
  have e2 := ha.ev hy
  obtain ⟨w', hr, h2, h3⟩ := run_make_full (P := P) w w.heap.size t e i z i.size ht hi hz rfl kx ky m hbytes h63 (Nat.le_refl _)
  have hrun : (execOp a.eval o).run P w = .ok (.value (.slice (some ⟨w.heap.size, 0, none⟩) m m)) w' := by
    unfold execOp; rw [ho]; simp only [e1, e2, hp, hq, Sem.run_bind, hr, Result.andThen_ok]; rfl
  unfold Oper.wp
  rw [hrun]
  exact ⟨hC _, _, by rw [hd]; exact ha.put hn _, k _ w' h2 h3⟩

/-- '[]T{x}': a literal of one element of one cell. -/
theorem T_lit1 {o : Oper} {d : Nat} {t e : TypeId} {i : TypeInfo} {z v : Value} {x : Operand} (hC : ∀ w, N.C w) (ho : o.op = .buildSlice t 1 #[(0, x)]) (hx : ρ.ev x = some v)
    (ht : P.underlying t = some (.slice e)) (hi : P.info? e = some i) (hz : i.zero = some z) (hi1 : i.size = 1) (hz1 : z.cells.size = 1) (hv1 : v.cells = #[v]) (hcl : N.cl o = .loud) (hg : o.guard = none) (hd : o.dst = some d) (hn : Nat.ble (d + 1) n = true)
    (k : ∀ v' w', w'.ownsRow w.heap.size e 1 v' 1 [v] → w.grownBy w' none → T P N n ops K rest ((d, v') :: ρ) w') : T P N n ops K (o :: rest) ρ w := by
  refine T_loud hg hcl fun a ha hc => ?_
  have e1 := ha.ev hx
  have hrun : (execOp a.eval o).run P w = .ok (.value (.slice (some ⟨w.heap.size, 0, none⟩) 1 1)) (w.alloc (.cells #[v] e (0, 0))) := by
    unfold execOp; rw [ho]
    have hf : ∀ c, Instr.fill (fun i => some (i, 1)) #[c] [(0, v)] = some #[v] := fun c => by simp [Instr.fill, hv1]
    have hr1 : (Array.range 1).map (fun x => z.cells[x % 1]!) = #[z.cells[0]!] := by apply Array.ext'; simp [List.range_succ]
    simp [Instr.buildSlice, e1, run_underlying ht, sizeOf, typeInfo, hi, hi1, zeroValue, hz, hz1, newRow, hr1, hf]
  unfold Oper.wp
  rw [hrun]
  refine ⟨hC _, _, by rw [hd]; exact ha.put hn _, k _ _ ⟨by simp, .inr ⟨w.heap.size, 1, #[v], rfl, Nat.le_refl _, heap_alloc_new w _, Nat.le_refl _, by simp [maxLen], by simp, by simp⟩⟩ (World.grownBy_alloc w _ none)⟩

end
end Go.F
namespace Go.F
open Go Go.RowKit
section
variable {P : Program} {N : Plan} {n : Nat} {ops : Array Oper} {K : Env → World → Prop} {rest : List Oper} {ρ : Env} {w : World}

theorem gb_trans {a b c : World} {s : Nat} {row : Option Nat} (h : a.grownBy b (some s)) (k : b.grownBy c row) (hr : ∀ g, row = some g → g = s ∨ a.heap.size ≤ g) : a.grownBy c (some s) :=
  ⟨k.os.trans h.os, k.tape.trans h.tape, k.output.trans h.output, Nat.le_trans h.size k.size, fun i hi hne =>
    (k.block i (Nat.lt_of_lt_of_le hi h.size) (fun e => by
      rcases hr i e.symm with rfl | h2
      · exact hne rfl
      · omega)).trans (h.block i hi hne)⟩
theorem gb_call {a b c : World} {s : Nat} (h : a.grownBy b (some s)) (k : Below b.heap.size b c) : a.grownBy c (some s) := gb_trans h (grown_of_below k none) (by simp)
theorem gb_refl (w : World) (row : Option Nat) : w.grownBy w row := ⟨rfl, rfl, rfl, Nat.le_refl _, fun _ _ _ => rfl⟩
theorem gb_drew {a b : World} {row : Option Nat} (h : a.grownBy b row) : a.grownBy b.drew row := ⟨h.os, h.tape, h.output, h.size, h.block⟩
theorem below_gb {a b : World} {s : Nat} (h : a.grownBy b (some s)) {W : World} (hW : Below W.heap.size W a) (hs : W.heap.size ≤ s) : Below W.heap.size W b := hW.stepg h hs

/-- All of memory but one block. -/
def hx (w : World) (s : Nat) : Hp := fun k => if k = s then none else w.heap[k]?
theorem hx_le (w : World) (s : Nat) : (hx w s).le (hw w) := fun k o e => by
  simp only [hx] at e
  split at e
  · cases e
  · exact e
theorem hx_step {w w' : World} {s : Nat} {row : Option Nat} (h : w.grownBy w' row) (hr : ∀ g, row = some g → g = s) : (hx w s).le (hx w' s) := fun k o e => by
  simp only [hx] at e ⊢
  split at e
  · cases e
  · rename_i hk
    rw [if_neg hk]
    have hlt : k < w.heap.size := (Array.getElem?_eq_some_iff.1 e).1
    rw [h.block k hlt (fun e' => hk (hr k e'.symm))]
    exact e
/-- A reading that lies in older memory than the block. -/
theorem Rd.hx_of {w : World} {s : Nat} {v : Value} {n0 size : Nat} {xs : List Value} (r : Rd (hw w) v n0 size xs) (hv : ∀ b, v.ownBlock = some b → b ≠ s ∨ n0 = 0) : Rd (hx w s) v n0 size xs := by
  obtain ⟨h1, a, c, rfl, hc, h2, h3⟩ := r
  refine ⟨h1, a, c, rfl, hc, h2, fun ad had hp => ⟨(h3 ad had hp).1, fun i u hi => ?_⟩⟩
  have h4 := (h3 ad had hp).2 i u hi
  have hne : ad.block ≠ s := by
    rcases hv ad.block (by simp [Value.ownBlock, had]) with h | h
    · exact h
    · subst h
      have : xs = [] := List.eq_nil_of_length_eq_zero (by simpa using h1)
      subst this
      simp at hi
  unfold hcell at h4 ⊢
  simp only [hx, if_neg hne]
  exact h4

/-- 'make([]T, n)', the block at hand. -/
theorem T_makeB {o : Oper} {d : Nat} {t e : TypeId} {i : TypeInfo} {z : Value} {x y : Operand} {kx ky : IntKind} {p q : Int} (m : Nat) (hC : ∀ w, N.C w) (ho : o.op = .makeSlice t x y) (hx : ρ.ev x = some (.int kx p)) (hy : ρ.ev y = some (.int ky q))
    (ht : P.underlying t = some (.slice e)) (hi : P.info? e = some i) (hz : i.zero = some z) (hcl : N.cl o = .loud) (hg : o.guard = none) (hd : o.dst = some d) (hn : Nat.ble (d + 1) n = true)
    (hp : p = (m : Int)) (hq : q = (m : Int)) (hbytes : i.bytes * m ≤ 281474976710656) (h63 : m ≤ maxLen)
    (k : ∀ b w', b = w.heap.size → w'.heap[b]? = some (.cells (madeCells z.cells (m * i.size)) e (0, 0)) → w.grownBy w' none → T P N n ops K rest ((d, .slice (some ⟨b, 0, none⟩) m m) :: ρ) w') : T P N n ops K (o :: rest) ρ w := by
  refine T_loud hg hcl fun a ha hc => ?_
  have e1 := ha.ev hx
  have e2 := ha.ev hy
  have h63' : (m : Int) ≤ 9223372036854775807 := by simp only [maxLen] at h63; omega
  have hb' : (i.bytes : Int) * (m : Int) ≤ 281474976710656 := by
    have h : ((i.bytes * m : Nat) : Int) ≤ 281474976710656 := by omega
    rwa [Int.natCast_mul] at h
  have hr := run_make (P := P) w t e i z ht hi hz kx ky m m (by omega) (Int.le_refl _) hb' h63'
  simp only [Int.toNat_natCast] at hr
  unfold Oper.wp
  have hrun : (execOp a.eval o).run P w = .ok (.value (.slice (some ⟨w.heap.size, 0, none⟩) m m)) (w.alloc (.cells (madeCells z.cells (m * i.size)) e (0, 0))) := by
    unfold execOp; rw [ho]; simp only [e1, e2, hp, hq, Sem.run_bind, hr, Result.andThen_ok]; rfl
  rw [hrun]
  exact ⟨hC _, _, by rw [hd]; exact ha.put hn _, k _ _ rfl (heap_alloc_new w _) (World.grownBy_alloc w _ none)⟩

theorem owns_of_block {w : World} {base b m size : Nat} {e : TypeId} {cur : Array Value} {xs : List Value} (hb : w.heap[b]? = some (.cells cur e (0, 0))) (hbase : base ≤ b) (hm : m ≤ maxLen) (hc : cur.toList = xs) (hl : xs.length = m * size) : w.ownsRow base e size (.slice (some ⟨b, 0, none⟩) m m) m xs :=
  ⟨hl, .inr ⟨b, m, cur, rfl, hbase, hb, Nat.le_refl _, hm, by rw [← hl, ← hc]; simp, by rw [hc, ← hl]; exact List.take_length⟩⟩

end
end Go.F
namespace Go.F
open Go Go.RowKit
section
variable {P : Program} {N : Plan} {n : Nat} {ops : Array Oper} {K : Env → World → Prop} {rest : List Oper} {ρ : Env} {w : World}

def evp (ρ : Env) : List (Nat × Operand) → Option (List (Nat × Value))
  | [] => some []
  | (i, x) :: xs => match ρ.ev x, evp ρ xs with
    | some v, some vs => some ((i, v) :: vs)
    | _, _ => none

theorem Agree.evp {a : Act} (ha : Agree n ρ a) : ∀ (xs : List (Nat × Operand)) (vs : List (Nat × Value)), evp ρ xs = some vs → xs.map (fun p => (p.1, a.eval p.2)) = vs
  | [], vs, h => by cases h; rfl
  | (i, x) :: xs, vs, h => by
    unfold F.evp at h
    split at h
    · rename_i v vs' h1 h2
      cases h
      rw [List.map_cons, Agree.evp ha xs vs' h2]
      simp [ha.ev h1]
    · cases h

theorem run_size {t : TypeId} {i : TypeInfo} (h : P.info? t = some i) (u : World) : (sizeOf t).run P u = .ok i.size u := by simp [sizeOf, typeInfo, h]
theorem run_zero {t : TypeId} {i : TypeInfo} {z : Value} (h : P.info? t = some i) (hz : i.zero = some z) (u : World) : (zeroValue t).run P u = .ok z u := by simp [zeroValue, typeInfo, h, hz]

/-- '[n]T{..}'. -/
theorem T_buildA {o : Oper} {d : Nat} {t e : TypeId} {len : Nat} {i i0 : TypeInfo} {z : Value} {xs : List (Nat × Operand)} {vs : List (Nat × Value)} {cells : Array Value} (ho : o.op = .build t xs.toArray) (hxs : evp ρ xs = some vs)
    (ht : P.underlying t = some (.array len e)) (hi : P.info? e = some i) (hi0 : P.info? t = some i0) (hz : i0.zero = some z) (hf : Instr.fill (fun j => some (j * i.size, i.size)) z.cells vs = some cells) (hg : o.guard = none) (hd : o.dst = some d) (hn : Nat.ble (d + 1) n = true)
    (k : T P N n ops K rest ((d, .agg cells) :: ρ) w) : T P N n ops K (o :: rest) ρ w :=
  T_val hg hd hn (fun a ha u => by
    have h1 := ha.evp xs vs hxs
    have h2 : (xs.toArray.map fun (p : Nat × Operand) => (p.1, a.eval p.2)) = vs.toArray := by rw [← h1]; simp
    have h3 : (xs.toArray.map fun (x : Nat × Operand) => match x with | (i, x) => (i, a.eval x)) = vs.toArray := h2
    unfold execOp; rw [ho]
    simp [Instr.build, h3, run_zero hi0 hz, run_underlying ht, run_size hi, hf]) k

def isOne : Value → Bool
  | .agg _ => false
  | .tuple _ => false
  | _ => true
theorem isOne_cells {v : Value} (h : isOne v = true) : v.cells = #[v] := by cases v <;> first | rfl | cases h

theorem fill_range : ∀ (vs : List Value) (pre : List Value) (post : List Value), (∀ v ∈ vs, v.cells = #[v]) → post.length = vs.length →
    Instr.fill (fun j => some (j * 1, 1)) (pre ++ post).toArray ((List.range' pre.length vs.length).zip vs) = some (pre ++ vs).toArray
  | [], pre, post, _, hl => by
    have : post = [] := List.eq_nil_of_length_eq_zero hl
    subst this
    simp [Instr.fill]
  | v :: vs, pre, post, h1, hl => by
    cases post with
    | nil => simp at hl
    | cons p post =>
      have hv := h1 v (by simp)
      have ih := fill_range vs (pre ++ [v]) post (fun u hu => h1 u (by simp [hu])) (by simpa using hl)
      simp only [List.length_append, List.length_cons, List.length_nil, List.append_assoc, List.cons_append, List.nil_append] at ih
      rw [List.length_cons, List.range'_succ, List.zip_cons_cons, Instr.fill]
      simp only [hv, Nat.mul_one]
      have e : (#[v].zipIdx.foldl (fun cs (x : Value × Nat) => match x with | (c, j) => cs.setIfInBounds (pre.length + j) c) (pre ++ p :: post).toArray) = (pre ++ v :: post).toArray := by
        simp
      rw [if_neg (by simp), e]
      simpa using ih

/-- '[n]T{..}', every element of one cell given. -/
theorem T_buildA1 {o : Oper} {d : Nat} {t e : TypeId} {len : Nat} {i i0 : TypeInfo} {z : Value} {xs : List (Nat × Operand)} {vs : List (Nat × Value)} (ho : o.op = .build t xs.toArray) (hxs : evp ρ xs = some vs)
    (ht : P.underlying t = some (.array len e)) (hi : P.info? e = some i) (h1 : i.size = 1) (hi0 : P.info? t = some i0) (hz : i0.zero = some z) (hzl : Nat.beq z.cells.size vs.length = true) (hr : (vs.map (·.1)) = List.range' 0 vs.length) (hone : vs.all (fun p => isOne p.2) = true) (hg : o.guard = none) (hd : o.dst = some d) (hn : Nat.ble (d + 1) n = true)
    (k : T P N n ops K rest ((d, .agg (vs.map (·.2)).toArray) :: ρ) w) : T P N n ops K (o :: rest) ρ w := by
  refine T_buildA ho hxs ht hi hi0 hz ?_ hg hd hn k
  have h := fill_range (vs.map (·.2)) [] z.cells.toList (by
    intro v hv
    obtain ⟨p, hp, rfl⟩ := List.mem_map.1 hv
    exact isOne_cells (List.all_eq_true.1 hone p hp)) (by simpa using Nat.eq_of_beq_eq_true hzl)
  have ez : (vs.map (·.1)).zip (vs.map (·.2)) = vs := by simp [List.zip_map', List.map_id']
  simp only [List.nil_append, List.length_nil, List.length_map, ← hr, ez, Array.toArray_toList] at h
  rw [h1]
  exact h

theorem run_places {u : World} : ∀ (l : List Field) (pl : List (Nat × Nat)), l.mapM (fun f => (P.info? f.type).map fun i => (f.offset, i.size)) = some pl → (l.mapM (fun f => do pure (f.offset, ← sizeOf f.type) : Field → Sem (Nat × Nat))).run P u = .ok pl u
  | [], pl, h => by simp at h; subst h; rfl
  | f :: l, pl, h => by
    simp only [List.mapM_cons] at h
    cases hfi : P.info? f.type with
    | none => simp [hfi] at h
    | some fi =>
      simp only [hfi, Option.map_some] at h
      cases hl : l.mapM (fun f => (P.info? f.type).map fun i => (f.offset, i.size)) with
      | none => rw [hl] at h; simp at h
      | some pl' =>
        rw [hl] at h
        simp at h
        subst h
        rw [List.mapM_cons]
        have := run_places (u := u) l pl' hl
        simp only [Sem.run_bind, run_size hfi, Result.andThen_ok, Sem.run_pure, this]

/-- 'T{..}' of a struct. -/
theorem T_buildS {o : Oper} {d : Nat} {t : TypeId} {fs : Array Field} {i0 : TypeInfo} {z : Value} {xs : List (Nat × Operand)} {vs : List (Nat × Value)} {places : List (Nat × Nat)} {cells : Array Value} (ho : o.op = .build t xs.toArray) (hxs : evp ρ xs = some vs)
    (ht : P.underlying t = some (.struct fs)) (hp : fs.toList.mapM (fun f => (P.info? f.type).map fun i => (f.offset, i.size)) = some places) (hi0 : P.info? t = some i0) (hz : i0.zero = some z) (hf : Instr.fill (places.toArray[·]?) z.cells vs = some cells) (hg : o.guard = none) (hd : o.dst = some d) (hn : Nat.ble (d + 1) n = true)
    (k : T P N n ops K rest ((d, .agg cells) :: ρ) w) : T P N n ops K (o :: rest) ρ w :=
  T_val hg hd hn (fun a ha u => by
    have h1 := ha.evp xs vs hxs
    have h2 : (xs.toArray.map fun (p : Nat × Operand) => (p.1, a.eval p.2)) = vs.toArray := by rw [← h1]; simp
    have h3 : (xs.toArray.map fun (x : Nat × Operand) => match x with | (i, x) => (i, a.eval x)) = vs.toArray := h2
    have h4 := run_places (u := u) fs.toList places hp
    have h5 : (fs.mapM (fun f => do pure (f.offset, ← sizeOf f.type) : Field → Sem (Nat × Nat))).run P u = .ok places.toArray u := by
      have e : fs = fs.toList.toArray := by simp
      rw [e, List.mapM_toArray, Sem.run_map, h4]; rfl
    unfold execOp; rw [ho]
    simp only [Instr.build, h3, Sem.run_bind, run_zero hi0 hz, run_underlying ht, Result.andThen_ok, h5, List.toList_toArray, hf]
    rfl) k
end
end Go.F
