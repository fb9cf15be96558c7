/- General lemmas for walking the code, or plain mathematics. -/
import Derived.Test.YtadiakpbodlecaaDoorFWord
set_option linter.unusedVariables false
set_option linter.unusedSimpArgs false
set_option maxRecDepth 8192
namespace Go.F
open Go Go.RowKit
section
variable {P : Program} {N : Plan} {n : Nat} {ops : Array Oper} {K : Env → World → Prop} {rest : List Oper} {ρ : Env} {w : World}

/-- '&x.f', the cell's number said. -/
theorem T_fldm {o : Oper} {d : Nat} {s : TypeId} {f : Nat} {fs : Array Field} {fd : Field} {i : TypeInfo} {x : Operand} {b off : Nat} (m : Nat) (ho : o.op = .fieldAddr s x f) (hx : ρ.ev x = some (.pointer (some ⟨b, off, none⟩)))
    (ht : P.underlying s = some (.struct fs)) (hf : fs[f]? = some fd) (hm : off + fd.offset = m) (hi : P.info? fd.type = some i) (hz : i.size ≠ 0) (hg : o.guard = none) (hd : o.dst = some d) (hn : Nat.ble (d + 1) n = true)
    (k : T P N n ops K rest ((d, .pointer (some ⟨b, m, none⟩)) :: ρ) w) : T P N n ops K (o :: rest) ρ w :=
  T_fld ho hx ht hf hi hz hg hd hn (by rw [hm]; exact k)

/-- Memory from block B on. -/
def hn (w : World) (B : Nat) : Hp := fun k => if B ≤ k then w.heap[k]? else none
theorem hn_le (w : World) (B : Nat) : (hn w B).le (hw w) := fun k o e => by
  simp only [hn] at e
  split at e
  · exact e
  · cases e
theorem hn_mono (w : World) {B B' : Nat} (h : B' ≤ B) : (hn w B).le (hn w B') := fun k o e => by
  simp only [hn] at e ⊢
  split at e
  · rename_i hk; rw [if_pos (by omega)]; exact e
  · cases e
theorem hn_step {w w' : World} {B : Nat} {row : Option Nat} (h : w.grownBy w' row) (hr : ∀ g, row = some g → g < B) : (hn w B).le (hn w' B) := fun k o e => by
  simp only [hn] at e ⊢
  split at e
  · rename_i hk
    rw [if_pos hk]
    rw [h.block k (Array.getElem?_eq_some_iff.1 e).1 (fun e' => by have := hr k e'.symm; omega)]
    exact e
  · cases e
theorem hn_call {w w' : World} {B : Nat} (h : Below w.heap.size w w') : (hn w B).le (hn w' B) := hn_step (grown_of_below h none) (by simp)
theorem hx_call {w w' : World} {s : Nat} (h : Below w.heap.size w w') : (hx w s).le (hx w' s) := hx_step (grown_of_below h none) (by simp)
theorem hn_hx (w : World) {B s : Nat} (h : s < B) : (hn w B).le (hx w s) := fun k o e => by
  simp only [hn] at e
  simp only [hx]
  split at e
  · rw [if_neg (by omega)]; exact e
  · cases e

theorem hw_le_hx_new {w w' : World} {b : Nat} (h : w.grownBy w' none) (hb : b = w.heap.size) : (hw w).le (hx w' b) := fun k o e => by
  have hk : k < w.heap.size := (Array.getElem?_eq_some_iff.1 e).1
  simp only [hx]
  rw [if_neg (by omega), h.block k hk (by simp)]
  exact e
theorem hw_le_below {w w' : World} (h : Below w.heap.size w w') : (hw w).le (hw w') := le_below h
theorem hw_le_none {w w' : World} (h : w.grownBy w' none) : (hw w).le (hw w') := le_below (below_of_grown h)

theorem hw_hx_below {w w' : World} {b : Nat} (h : Below w.heap.size w w') (hb : w.heap.size ≤ b) : (hw w).le (hx w' b) := fun k o e => by
  have hk : k < w.heap.size := (Array.getElem?_eq_some_iff.1 e).1
  simp only [hx]
  rw [if_neg (by omega)]
  exact le_below h k o e

theorem Rd.of_owns_hn {w : World} {base : Nat} {e : TypeId} {size : Nat} {v : Value} {m : Nat} {xs : List Value} (h : w.ownsRow base e size v m xs) : Rd (hn w base) v m size xs := by
  obtain ⟨h1, a, c, hv, hc, h2, h3⟩ := Rd.of_owns h
  refine ⟨h1, a, c, hv, hc, h2, fun ad had hp => ⟨(h3 ad had hp).1, fun i u hi => ?_⟩⟩
  have h4 := (h3 ad had hp).2 i u hi
  have hb : base ≤ ad.block := (h.lt ad.block (by rw [hv, had]; rfl)).1
  unfold hcell at h4 ⊢
  simp only [hn, if_pos hb]
  exact h4

/-- 'x[i]' of an array value with elements of one cell. -/
theorem T_index1 {o : Oper} {d : Nat} {t e : TypeId} {len : Nat} {i : TypeInfo} {x y : Operand} {cs : Array Value} {k0 : IntKind} {z : Int} {v : Value} (ho : o.op = .index t x y) (hx : ρ.ev x = some (.agg cs)) (hy : ρ.ev y = some (.int k0 z))
    (ht : P.underlying t = some (.array len e)) (hi : P.info? e = some i) (h1 : i.size = 1) (hs : scalar P e = true) (hg : o.guard = none) (hd : o.dst = some d) (hn : Nat.ble (d + 1) n = true)
    (hz : 0 ≤ z ∧ z < len) (hv : cs[z.toNat]? = some v) (k : T P N n ops K rest ((d, v) :: ρ) w) : T P N n ops K (o :: rest) ρ w :=
  T_val hg hd hn (fun a ha u => by
    have e1 := ha.ev hx
    have e2 := ha.ev hy
    unfold execOp; rw [ho]; simp only [e1, e2]
    simp [Instr.index, asIntOf, run_underlying ht, hz, run_size hi, h1, part, run_isAgg_no hs, hv]) k

/-- 'a[lo:]' of an array in a variable, lo ahead of its end: the very slice. -/
theorem T_sliceAlo {o : Oper} {d : Nat} {t e : TypeId} {i : TypeInfo} {x y : Operand} {b off : Nat} {k0 : IntKind} {z : Int} {n0 : Nat}
    (ho : o.op = .slice t x (some y) none none) (hx : ρ.ev x = some (.pointer (some ⟨b, off, none⟩))) (hy : ρ.ev y = some (.int k0 z)) (ht : P.underlying t = some (.array n0 e)) (hi' : P.info? e = some i) (hsize : i.size = 1) (hg : o.guard = none) (hd : o.dst = some d) (hn : Nat.ble (d + 1) n = true)
    (hz : 0 ≤ z ∧ z < n0) (k : T P N n ops K rest ((d, .slice (some ⟨b, off + z.toNat, none⟩) (n0 - z.toNat) (n0 - z.toNat)) :: ρ) w) : T P N n ops K (o :: rest) ρ w :=
  T_val hg hd hn (fun ac ha u => by
    have e1 := ha.ev hx
    have e2 := ha.ev hy
    unfold execOp; rw [ho]; simp only [e1, e2, Option.map_none, Option.map_some]
    have hb := run_sliceBounds (P := P) (len := n0) (cap := n0) (lo := some (.int k0 z)) (hi := none) (l := z.toNat) (h := n0) false rfl (by simp [bound, hz.1]) (by omega) (Nat.le_refl _) u
    have hne : ¬ n0 = z.toNat := by omega
    simp [Instr.sliceAt, Instr.sureAddr, run_underlying ht, hb, run_size hi', hsize, hne, add_none]) k

/-- 'x % y' of any x. -/
theorem T_tmod {o : Oper} {d : Nat} {t t' : TypeId} {x y : Operand} {p q : Int} (ho : o.op = .binOp .rem t x y t') (hx : ρ.ev x = some (.int .i64 p)) (hy : ρ.ev y = some (.int .i64 q)) (hg : o.guard = none) (hd : o.dst = some d) (hn : Nat.ble (d + 1) n = true)
    (hq : 0 < q) (k : T P N n ops K rest ((d, .int .i64 (p.tmod q)) :: ρ) w) : T P N n ops K (o :: rest) ρ w :=
  T_val hg hd hn (fun a ha u => by
    have h1 := ha.ev hx
    have h2 := ha.ev hy
    unfold execOp; rw [ho]; simp only [h1, h2]
    have hq : q ≠ 0 := by omega
    simp [go_sem, Op.intDiv, hq]) k
theorem tmod_mod (v n : Int) : v % n = (v.tmod n) % n := by
  have h := Int.mul_tdiv_add_tmod v n
  conv => lhs; rw [← h, Int.mul_add_emod_self_left]

/-- 'copy(dst, src)', dst within a row of the call's own, src with room for it. -/
theorem T_copy {o : Oper} {d : Nat} {dT sT e : TypeId} {i : TypeInfo} {x y : Operand} {g off dLen dCap m : Nat} {cur : Array Value} {t0 : TypeId} {vs : Value} {cs : List Value} (hC : ∀ w, N.C w)
    (ho : o.op = .call ⟨.builtin .copy, #[x, y], #[dT, sT]⟩) (hx : ρ.ev x = some (.slice (some ⟨g, off, none⟩) dLen dCap)) (hy : ρ.ev y = some vs) (ht : P.underlying dT = some (.slice e)) (hi : P.info? e = some i) (h1 : i.size = 1) (hcl : N.cl o = .loud) (hg : o.guard = none) (hd : o.dst = some d) (hn : Nat.ble (d + 1) n = true)
    (hb : w.heap[g]? = some (.cells cur t0 (0, 0))) (hsrc : Rd (hw w) vs m 1 cs) (hm : m ≤ dLen) (hm0 : 0 < m) (hfit : off + m ≤ cur.size) (hone : ∀ v ∈ cs, v.oneCell' = true)
    (k : ∀ w', w'.heap[g]? = some (.cells (cur.toList.take off ++ cs ++ cur.toList.drop (off + cs.length)).toArray t0 (0, 0)) → w.grownBy w' (some g) → w'.heap.size = w.heap.size → T P N n ops K rest ((d, .int .i64 (cs.length : Int)) :: ρ) w') : T P N n ops K (o :: rest) ρ w := by
  refine T_loud hg hcl fun a ha hc => ?_
  have e1 := ha.ev hx
  have e2 := ha.ev hy
  have hlen : cs.length = m := by have := hsrc.1; omega
  obtain ⟨b, so, c, hvs, _, hcell⟩ := hsrc.get hm0
  have hr := run_copy_row (P := P) w dT sT o.type e g off dLen dCap ⟨b, so, none⟩ m c cur t0 cs ht (by rw [hi]; simp [h1]) hb (by rw [hlen]; exact (Nat.min_eq_left hm).symm) (fun j v hj => by rw [Addr.add_lit]; exact cell_of_hcell (hcell j v hj)) (by omega) hone
  have hrun : (execOp a.eval o).run P w = .ok (.value (goInt cs.length)) (w.setRow g (cur.toList.take off ++ cs ++ cur.toList.drop (off + cs.length)).toArray) := by
    unfold execOp; rw [ho]
    simp only [resolve, Sem.run_bind, Sem.run_pure, Result.andThen_ok, invoke, builtin]
    simp [e1, e2, hvs, hr]
  unfold Oper.wp
  rw [hrun]
  exact ⟨hC _, _, by rw [hd]; exact ha.put hn _, k _ (setRow_heap w g cur _ t0 _ hb) ⟨rfl, rfl, rfl, by simp, fun q _ hk => setRow_other w g q _ (fun e => hk (by simp [e]))⟩ (by simp)⟩

end
end Go.F
