/- General lemmas for walking the code, or plain mathematics. -/
import Derived.Test.YtadiakpbodlecaaDoorFCode
set_option linter.unusedVariables false
set_option linter.unusedSimpArgs false
set_option maxRecDepth 8192
namespace Go.F
open Go Go.RowKit

/-! ### What is known of memory -/

abbrev Hp := Nat → Option Obj
def hw (w : World) : Hp := fun k => w.heap[k]?
def Hp.le (h h' : Hp) : Prop := ∀ k o, h k = some o → h' k = some o
theorem Hp.le.refl (h : Hp) : h.le h := fun _ _ e => e
theorem Hp.le.trans {a b c : Hp} (h : a.le b) (k : b.le c) : a.le c := fun i o e => k i o (h i o e)

theorem le_below {W w : World} (h : Below W.heap.size W w) : (hw W).le (hw w) := fun k o e => by
  have hk : k < W.heap.size := (Array.getElem?_eq_some_iff.1 e).1
  exact (h.block k hk).trans e

theorem below_of_grown {w w' : World} (h : w.grownBy w' none) : Below w.heap.size w w' := ⟨h.os, h.tape, h.output, h.size, fun k hk => h.block k hk (by simp)⟩
theorem grown_of_below {w w' : World} (h : Below w.heap.size w w') (row : Option Nat) : w.grownBy w' row := ⟨h.os, h.tape, h.output, h.size, fun k hk _ => h.block k hk⟩
theorem _root_.Go.RowKit.Below.step {W w w' : World} {row : Option Nat} (h : Below W.heap.size W w) (hg : w.grownBy w' row) (hr : ∀ g, row = some g → W.heap.size ≤ g) : Below W.heap.size W w' := h.grown hg h.size hr
theorem _root_.Go.RowKit.Below.step0 {W w w' : World} (h : Below W.heap.size W w) (hg : w.grownBy w' none) : Below W.heap.size W w' := h.grown hg h.size (by simp)
theorem _root_.Go.RowKit.Below.stepg {W w w' : World} {g : Nat} (h : Below W.heap.size W w) (hg : w.grownBy w' (some g)) (hr : W.heap.size ≤ g) : Below W.heap.size W w' := h.grown hg h.size (fun k e => by cases e; exact hr)
theorem _root_.Go.RowKit.Below.call {W w w' : World} (h : Below W.heap.size W w) (hb : Below w.heap.size w w') : Below W.heap.size W w' := h.trans (hb.mono h.size)

/-- A block that is known. -/
theorem blk_step {w w' : World} {row : Option Nat} {b : Nat} {o : Obj} (h : w.heap[b]? = some o) (hg : w.grownBy w' row) (hr : row ≠ some b) : w'.heap[b]? = some o :=
  (hg.block b (Array.getElem?_eq_some_iff.1 h).1 (fun e => hr e.symm)).trans h
/-- .. the step named first. -/
theorem gblk {w w' : World} {row : Option Nat} (hg : w.grownBy w' row) {b : Nat} {o : Obj} (h : w.heap[b]? = some o) (hr : row ≠ some b) : w'.heap[b]? = some o := blk_step h hg hr
theorem undrew {w w' : World} {row : Option Nat} (h : w.drew.grownBy w' row) : w.grownBy w' row := ⟨h.os, h.tape, h.output, h.size, h.block⟩
theorem unbelow {w w' : World} (h : Below w.drew.heap.size w.drew w') : Below w.heap.size w w' := ⟨h.os, h.tape, h.output, h.size, h.block⟩
theorem blk_call {w w' : World} {b : Nat} {o : Obj} (h : w.heap[b]? = some o) (hb : Below w.heap.size w w') : w'.heap[b]? = some o :=
  (hb.block b (Array.getElem?_eq_some_iff.1 h).1).trans h
theorem below_refl (w : World) : Below w.heap.size w w := ⟨rfl, rfl, rfl, Nat.le_refl _, fun _ _ => rfl⟩
theorem blk_lt {w : World} {b : Nat} {o : Obj} (h : w.heap[b]? = some o) : b < w.heap.size := (Array.getElem?_eq_some_iff.1 h).1

def hcell (h : Hp) (b o : Nat) : Option Value := match h b with | some (.cells c _ _) => c[o]? | _ => none
theorem hcell_mono {h h' : Hp} (hl : h.le h') {b o : Nat} {v : Value} (e : hcell h b o = some v) : hcell h' b o = some v := by
  unfold hcell at *
  cases hb : h b with
  | none => simp [hb] at e
  | some x => rw [hl b x hb]; rw [hb] at e; exact e
theorem cell_of_hcell {w : World} {b o : Nat} {v : Value} (e : hcell (hw w) b o = some v) : w.cell? ⟨b, o, none⟩ = some v := by
  unfold hcell hw at e
  unfold World.cell?
  cases hb : w.heap[b]? with
  | none => simp [hb] at e
  | some x => rw [hb] at e; cases x <;> simp_all
theorem hcell_blk {w : World} {b : Nat} {c : Array Value} {t : TypeId} {f : Nat × Nat} (h : w.heap[b]? = some (.cells c t f)) (o : Nat) : hcell (hw w) b o = c[o]? := by simp [hcell, hw, h]

/-- The slice v of n elements (of so many cells each) reads as these cells. -/
def Rd (h : Hp) (v : Value) (n size : Nat) (xs : List Value) : Prop :=
  xs.length = n * size ∧ ∃ a c, v = .slice a n c ∧ n ≤ c ∧ (a = none → n = 0 ∧ c = 0) ∧ ∀ ad, a = some ad → 0 < n → ad.spot = none ∧ ∀ (i : Nat) u, xs[i]? = some u → hcell h ad.block (ad.off + i) = some u

theorem Rd.mono {h h' : Hp} {v : Value} {n size : Nat} {xs : List Value} (r : Rd h v n size xs) (hl : h.le h') : Rd h' v n size xs := by
  obtain ⟨h1, a, c, hv, hc, h2, h3⟩ := r
  exact ⟨h1, a, c, hv, hc, h2, fun ad e hp => ⟨(h3 ad e hp).1, fun i u hi => hcell_mono hl ((h3 ad e hp).2 i u hi)⟩⟩
theorem Rd.below {W w : World} {v : Value} {n size : Nat} {xs : List Value} (r : Rd (hw W) v n size xs) (hb : Below W.heap.size W w) : Rd (hw w) v n size xs := r.mono (le_below hb)
theorem Rd.nil (h : Hp) (size : Nat) : Rd h (.slice none 0 0) 0 size [] := ⟨by simp, none, 0, rfl, Nat.le_refl _, fun _ => ⟨rfl, rfl⟩, fun _ e => by cases e⟩

theorem Rd.of_owns {w : World} {base : Nat} {e : TypeId} {size : Nat} {v : Value} {n : Nat} {xs : List Value} (h : w.ownsRow base e size v n xs) : Rd (hw w) v n size xs := by
  refine ⟨h.1, ?_⟩
  rcases h.2 with ⟨rfl, rfl⟩ | ⟨g, cap, cur, rfl, _, hg, hc, _, _, htake⟩
  · exact ⟨none, 0, rfl, Nat.le_refl _, fun _ => ⟨rfl, rfl⟩, fun _ e => by cases e⟩
  · refine ⟨_, cap, rfl, hc, (fun e => by cases e), fun ad e _ => ?_⟩
    cases e
    refine ⟨rfl, fun i u hi => ?_⟩
    rw [hcell_blk hg]
    rw [← htake, List.getElem?_take] at hi
    split at hi
    · simpa using hi
    · cases hi

/-- Its shape, where something is in it. -/
theorem Rd.shape {h : Hp} {v : Value} {n size : Nat} {xs : List Value} (r : Rd h v n size xs) : ∃ a c, v = .slice a n c ∧ n ≤ c := by
  obtain ⟨_, a, c, hv, hc, _⟩ := r; exact ⟨a, c, hv, hc⟩
theorem Rd.get {h : Hp} {v : Value} {n size : Nat} {xs : List Value} (r : Rd h v n size xs) (hn : 0 < n) : ∃ b o c, v = .slice (some ⟨b, o, none⟩) n c ∧ n ≤ c ∧ ∀ (i : Nat) u, xs[i]? = some u → hcell h b (o + i) = some u := by
  obtain ⟨_, a, c, hv, hc, h2, h3⟩ := r
  cases a with
  | none => have := (h2 rfl).1; omega
  | some ad =>
    obtain ⟨hs, h4⟩ := h3 ad rfl hn
    obtain ⟨b, o, s⟩ := ad
    simp only at hs; subst hs
    exact ⟨b, o, c, hv, hc, h4⟩

section
variable {P : Program} {N : Plan} {n : Nat} {ops : Array Oper} {K : Env → World → Prop} {rest : List Oper} {ρ : Env} {w : World}

/-! ### Integers, more -/

theorem wrap64_id {z : Int} (h1 : -9223372036854775808 ≤ z) (h2 : z ≤ 9223372036854775807) : IntKind.i64.wrap z = z := by
  simp [IntKind.wrap, IntKind.bits, IntKind.signed]; omega

def ari (ρ : Env) : Op → Option Int
  | .binOp .add _ x y _ => match ρ.ev x, ρ.ev y with | some (.int .i64 p), some (.int .i64 q) => some (p + q) | _, _ => none
  | .binOp .sub _ x y _ => match ρ.ev x, ρ.ev y with | some (.int .i64 p), some (.int .i64 q) => some (p - q) | _, _ => none
  | .binOp .mul _ x y _ => match ρ.ev x, ρ.ev y with | some (.int .i64 p), some (.int .i64 q) => some (p * q) | _, _ => none
  | _ => none

/-- '+', '-', '*' on ints, where nothing wraps. -/
theorem T_ari {o : Oper} {d : Nat} {z : Int} (hv : ari ρ o.op = some z) (hg : o.guard = none) (hd : o.dst = some d) (hn : Nat.ble (d + 1) n = true)
    (h1 : -9223372036854775808 ≤ z ∧ z ≤ 9223372036854775807) (k : T P N n ops K rest ((d, .int .i64 z) :: ρ) w) : T P N n ops K (o :: rest) ρ w := by
  have hwr := wrap64_id h1.1 h1.2
  refine T_pev (v := .int .i64 z) ?_ hg hd hn k
  unfold ari at hv
  split at hv
  case h_4 => cases hv
  all_goals
    rename_i t x y t' ho
    split at hv
    · rename_i p q hx hy
      cases hv
      rw [ho]; simp [pev, isShift, hx, hy, binInt, hwr]
    · cases hv

/-- 'x % y', 'x / y' where x is not below nought, y above it. -/
theorem T_rem {o : Oper} {d : Nat} {t t' : TypeId} {x y : Operand} {p q : Int} (ho : o.op = .binOp .rem t x y t') (hx : ρ.ev x = some (.int .i64 p)) (hy : ρ.ev y = some (.int .i64 q)) (hg : o.guard = none) (hd : o.dst = some d) (hn : Nat.ble (d + 1) n = true)
    (hp : 0 ≤ p ∧ 0 < q) (k : T P N n ops K rest ((d, .int .i64 (p % q)) :: ρ) w) : T P N n ops K (o :: rest) ρ w :=
  T_val hg hd hn (fun a ha u => by
    have h1 := ha.ev hx
    have h2 := ha.ev hy
    unfold execOp; rw [ho]; simp only [h1, h2]
    have e : p.tmod q = p % q := Int.tmod_eq_emod_of_nonneg hp.1
    have hq : q ≠ 0 := by omega
    simp [go_sem, Op.intDiv, hq, e]) k
theorem T_quo {o : Oper} {d : Nat} {t t' : TypeId} {x y : Operand} {p q : Int} (ho : o.op = .binOp .quo t x y t') (hx : ρ.ev x = some (.int .i64 p)) (hy : ρ.ev y = some (.int .i64 q)) (hg : o.guard = none) (hd : o.dst = some d) (hn : Nat.ble (d + 1) n = true)
    (hp : 0 ≤ p ∧ 0 < q ∧ p ≤ 9223372036854775807) (k : T P N n ops K rest ((d, .int .i64 (p / q)) :: ρ) w) : T P N n ops K (o :: rest) ρ w :=
  T_val hg hd hn (fun a ha u => by
    have h1 := ha.ev hx
    have h2 := ha.ev hy
    unfold execOp; rw [ho]; simp only [h1, h2]
    have e : p.tdiv q = p / q := Int.tdiv_eq_ediv_of_nonneg hp.1
    have hq : q ≠ 0 := by omega
    have e2 : IntKind.i64.wrap (p / q) = p / q := wrap64_id (by have := Int.ediv_nonneg hp.1 (by omega : 0 ≤ q); omega) (by have := Int.ediv_le_self q hp.1; omega)
    simp [go_sem, Op.intDiv, hq, e, e2]) k

/-- A shift by a count that is not negative. -/
theorem T_shr {o : Oper} {d : Nat} {t t' : TypeId} {x y : Operand} {kx ky : IntKind} {p q : Int} (ho : o.op = .binOp .shr t x y t') (hx : ρ.ev x = some (.int kx p)) (hy : ρ.ev y = some (.int ky q)) (hg : o.guard = none) (hd : o.dst = some d) (hn : Nat.ble (d + 1) n = true)
    (hq : 0 ≤ q) (k : T P N n ops K rest ((d, .int kx (p.fdiv (2 ^ (min q.toNat kx.bits)))) :: ρ) w) : T P N n ops K (o :: rest) ρ w :=
  T_val hg hd hn (fun a ha u => by
    have h1 := ha.ev hx
    have h2 := ha.ev hy
    unfold execOp; rw [ho]; simp only [h1, h2]
    have : ¬ q < 0 := by omega
    simp [go_sem, Op.shift, this]) k
theorem T_shl {o : Oper} {d : Nat} {t t' : TypeId} {x y : Operand} {kx ky : IntKind} {p q : Int} (ho : o.op = .binOp .shl t x y t') (hx : ρ.ev x = some (.int kx p)) (hy : ρ.ev y = some (.int ky q)) (hg : o.guard = none) (hd : o.dst = some d) (hn : Nat.ble (d + 1) n = true)
    (hq : 0 ≤ q) (k : T P N n ops K rest ((d, .int kx (kx.wrap (p * 2 ^ (min q.toNat kx.bits)))) :: ρ) w) : T P N n ops K (o :: rest) ρ w :=
  T_val hg hd hn (fun a ha u => by
    have h1 := ha.ev hx
    have h2 := ha.ev hy
    unfold execOp; rw [ho]; simp only [h1, h2]
    have : ¬ q < 0 := by omega
    simp [go_sem, Op.shift, this]) k

/-! ### Addresses -/

/-- 'x[i]' of a slice: the address. -/
theorem T_idx {o : Oper} {d : Nat} {t e : TypeId} {i : TypeInfo} {x y : Operand} {b off len cap : Nat} {k0 : IntKind} {z : Int} (ho : o.op = .indexAddr t x y) (hx : ρ.ev x = some (.slice (some ⟨b, off, none⟩) len cap)) (hy : ρ.ev y = some (.int k0 z))
    (ht : P.underlying t = some (.slice e)) (hi : P.info? e = some i) (hg : o.guard = none) (hd : o.dst = some d) (hn : Nat.ble (d + 1) n = true)
    (hz : 0 ≤ z ∧ z < len) (k : T P N n ops K rest ((d, .pointer (some ⟨b, off + z.toNat * i.size, none⟩)) :: ρ) w) : T P N n ops K (o :: rest) ρ w :=
  T_val hg hd hn (fun a ha u => by
    have h1 := ha.ev hx
    have h2 := ha.ev hy
    unfold execOp; rw [ho]; simp only [h1, h2]
    simp [Instr.indexAt, asIntOf, run_underlying ht, hz, sizeOf, typeInfo, hi, Addr.add_lit]) k
/-- .. of an array in a variable. -/
theorem T_idxA {o : Oper} {d : Nat} {t e : TypeId} {i : TypeInfo} {x y : Operand} {b off len : Nat} {k0 : IntKind} {z : Int} (ho : o.op = .indexAddr t x y) (hx : ρ.ev x = some (.pointer (some ⟨b, off, none⟩))) (hy : ρ.ev y = some (.int k0 z))
    (ht : P.underlying t = some (.array len e)) (hi : P.info? e = some i) (hg : o.guard = none) (hd : o.dst = some d) (hn : Nat.ble (d + 1) n = true)
    (hz : 0 ≤ z ∧ z < len) (k : T P N n ops K rest ((d, .pointer (some ⟨b, off + z.toNat * i.size, none⟩)) :: ρ) w) : T P N n ops K (o :: rest) ρ w :=
  T_val hg hd hn (fun a ha u => by
    have h1 := ha.ev hx
    have h2 := ha.ev hy
    unfold execOp; rw [ho]; simp only [h1, h2]
    simp [Instr.indexAt, asIntOf, run_underlying ht, hz, sizeOf, typeInfo, hi, Addr.add_lit, Instr.sureAddr]) k
/-- '&x.f' behind a pointer. -/
theorem T_fld {o : Oper} {d : Nat} {s : TypeId} {f : Nat} {fs : Array Field} {fd : Field} {i : TypeInfo} {x : Operand} {b off : Nat} (ho : o.op = .fieldAddr s x f) (hx : ρ.ev x = some (.pointer (some ⟨b, off, none⟩)))
    (ht : P.underlying s = some (.struct fs)) (hf : fs[f]? = some fd) (hi : P.info? fd.type = some i) (hz : i.size ≠ 0) (hg : o.guard = none) (hd : o.dst = some d) (hn : Nat.ble (d + 1) n = true)
    (k : T P N n ops K rest ((d, .pointer (some ⟨b, off + fd.offset, none⟩)) :: ρ) w) : T P N n ops K (o :: rest) ρ w :=
  T_val hg hd hn (fun a ha u => by
    have h1 := ha.ev hx
    unfold execOp; rw [ho]; simp only [h1]
    simp [Instr.fieldAt, run_underlying ht, hf, Instr.sureAddr, fieldPlace, sizeOf, typeInfo, hi, hz, Addr.add_lit]) k

end
end Go.F
