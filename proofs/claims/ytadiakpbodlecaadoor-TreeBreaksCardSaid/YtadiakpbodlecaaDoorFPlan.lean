/- Operations under a plan of one's own: quiet calls, loads of memory that is held. -/
import Derived.Test.YtadiakpbodlecaaDoorFMore
set_option linter.unusedVariables false
set_option linter.unusedSimpArgs false
set_option maxRecDepth 8192
namespace Go.F
open Go Go.RowKit
section
variable {P : Program} {N : Plan} {n : Nat} {ops : Array Oper} {K : Env → World → Prop} {rest : List Oper} {ρ : Env} {w : World}

/-- A call that leaves the world as it is, taken as pure. -/
theorem T_callP {o : Oper} {d : Nat} {f : FuncId} {xs : List Operand} {ts : Array TypeId} {args : List Value} {v : Value} (ho : o.op = .call ⟨.value (.func f), xs.toArray, ts⟩) (hxs : evs ρ xs = some args) (hf : goFn P f = true) (hi : P.inits.idxOf? f = none) (hcl : N.cl o = .pure) (hg : o.guard = none) (hd : o.dst = some d) (hn : Nat.ble (d + 1) n = true)
    (c : ∀ u, Calls P f args.toArray u (fun e w' => e = .returned v ∧ w' = u)) (k : T P N n ops K rest ((d, v) :: ρ) w) : T P N n ops K (o :: rest) ρ w := fun a ha _ => by
  unfold xo
  rw [if_pos (wanted_none hg _), hcl]
  exact ⟨v, fun u _ => .inr ⟨f, args.toArray, hi, run_call ho ha hxs hf u, c u⟩, (d, v) :: ρ, by rw [hd]; exact ha.put hn v, k⟩

/-- A load of memory that the plan holds. -/
theorem T_loadP {o : Oper} {d : Nat} {t : TypeId} {x : Operand} {ad : Addr} {v : Value} (ho : o.op = .load t x) (hx : ρ.ev x = some (.pointer (some ad))) (hs : scalar P t = true) (hcl : N.cl o = .pure) (hg : o.guard = none) (hd : o.dst = some d) (hn : Nat.ble (d + 1) n = true)
    (hv : ∀ u, N.C u → u.cell? ad = some v) (k : T P N n ops K rest ((d, v) :: ρ) w) : T P N n ops K (o :: rest) ρ w := fun a ha _ => by
  unfold xo
  rw [if_pos (wanted_none hg _), hcl]
  refine ⟨v, fun u hu => .inl ?_, (d, v) :: ρ, by rw [hd]; exact ha.put hn v, k⟩
  have h1 := ha.ev hx
  unfold execOp; rw [ho]; simp only [h1]
  simp [Instr.loadAt, Instr.sureAddr, run_loadVar1 hs (hv u hu)]

/-- A store that keeps what the plan holds. -/
theorem T_storeP {o : Oper} {t t0 : TypeId} {i : TypeInfo} {x y : Operand} {b off : Nat} {c : Array Value} {v : Value} (hC : ∀ w', w.grownBy w' (some b) → N.C w → N.C w') (ho : o.op = .store t x y) (hx : ρ.ev x = some (.pointer (some ⟨b, off, none⟩))) (hy : ρ.ev y = some v)
    (hi : P.info? t = some i) (hcl : N.cl o = .loud) (hg : o.guard = none) (hd : o.dst = none)
    (hb : w.heap[b]? = some (.cells c t0 (0, 0))) (hl : v.cells.size = i.size) (hfit : off + v.cells.size ≤ c.size) (h1 : ∀ u ∈ v.cells.toList, u.oneCell' = true)
    (k : ∀ w', w'.heap[b]? = some (.cells (c.toList.take off ++ v.cells.toList ++ c.toList.drop (off + v.cells.size)).toArray t0 (0, 0)) → w.grownBy w' (some b) → w'.heap.size = w.heap.size → T P N n ops K rest ρ w') : T P N n ops K (o :: rest) ρ w := by
  refine T_loud hg hcl fun a ha hc => ?_
  have e1 := ha.ev hx
  have e2 := ha.ev hy
  have hst := run_storeCells_at P b off t0 v.cells.toList 0 c w hb (by simpa using hfit) h1
  have hrun : (execOp a.eval o).run P w = .ok .skip (w.setRow b (c.toList.take off ++ v.cells.toList ++ c.toList.drop (off + v.cells.size)).toArray) := by
    unfold execOp; rw [ho]; simp only [e1, e2]
    simp only [Nat.add_zero, Array.length_toList] at hst
    have hst' : (storeCells ⟨b, off, none⟩ v.cells.toList).run P w = _ := hst
    simp [Instr.storeAt, Instr.sureAddr, storeVar, sizeOf, typeInfo, hi, hl, hst']
  have hg : w.grownBy (w.setRow b (c.toList.take off ++ v.cells.toList ++ c.toList.drop (off + v.cells.size)).toArray) (some b) := ⟨rfl, rfl, rfl, by simp, fun g _ hk => setRow_other w b g _ (fun e => hk (by simp [e]))⟩
  unfold Oper.wp
  rw [hrun]
  exact ⟨hC _ hg hc, ρ, by rw [hd]; exact ha, k _ (setRow_heap w b c _ t0 _ hb) hg (by simp)⟩

theorem T_store1P {o : Oper} {t t0 : TypeId} {i : TypeInfo} {x y : Operand} {b off : Nat} {c : Array Value} {v : Value} (j : Nat) (hC : ∀ w', w.grownBy w' (some b) → N.C w → N.C w') (ho : o.op = .store t x y) (hx : ρ.ev x = some (.pointer (some ⟨b, off, none⟩))) (hy : ρ.ev y = some v)
    (hi : P.info? t = some i) (hi1 : i.size = 1) (hv1 : v.cells = #[v]) (ho1 : v.oneCell' = true) (hcl : N.cl o = .loud) (hg : o.guard = none) (hd : o.dst = none)
    (hb : w.heap[b]? = some (.cells c t0 (0, 0))) (hj : off = j) (hfit : j < c.size)
    (k : ∀ w', w'.heap[b]? = some (.cells (c.setIfInBounds j v) t0 (0, 0)) → w.grownBy w' (some b) → w'.heap.size = w.heap.size → T P N n ops K rest ρ w') : T P N n ops K (o :: rest) ρ w := by
  subst hj
  refine T_storeP hC ho hx hy hi hcl hg hd hb (by rw [hv1, hi1]; rfl) (by rw [hv1]; simp; omega) (by rw [hv1]; simpa using ho1) fun w' h1 h2 h3 => k w' ?_ h2 h3
  rw [h1, hv1]
  congr 2
  apply Array.ext_getElem?
  intro m
  simp only [List.getElem?_toArray, Array.getElem?_setIfInBounds]
  rcases Nat.lt_trichotomy m off with h | h | h
  · rw [List.getElem?_append_left (by simp; omega), List.getElem?_append_left (by simp; omega), List.getElem?_take, if_pos h, if_neg (by omega)]; simp
  · subst h
    rw [List.getElem?_append_left (by simp; omega), List.getElem?_append_right (by simp; omega)]
    have : min m c.size = m := by omega
    simp [hfit, this]
  · rw [List.getElem?_append_right (by simp; omega), if_neg (by omega)]
    have e : min off c.size = off := by omega
    simp only [List.length_append, List.length_take, Array.length_toList, List.length_cons, List.length_nil, List.size_toArray, List.getElem?_drop, e, Array.getElem?_toList]
    congr 1
    omega

/-- What the call owns, as its block. -/
theorem owns_block {w : World} {base : Nat} {e : TypeId} {size : Nat} {v : Value} {m : Nat} {xs : List Value} (h : w.ownsRow base e size v m xs) (hm : 0 < m) (_ : 0 < size) :
    ∃ g cap cur, v = .slice (some ⟨g, 0, none⟩) m cap ∧ base ≤ g ∧ w.heap[g]? = some (.cells cur e (0, 0)) ∧ m ≤ cap ∧ cur.toList.take (m * size) = xs := by
  have h0 := h.1
  rcases h.2 with ⟨rfl, hx⟩ | ⟨g, cap, cur, rfl, hb, hg, hc, _, _, htake⟩
  · subst hx; simp at h0; rcases h0 with h0 | h0 <;> omega
  · exact ⟨g, cap, cur, rfl, hb, hg, hc, htake⟩
theorem rd_block {w : World} {g cap m size : Nat} {cur : Array Value} {e : TypeId} {xs : List Value} (hg : w.heap[g]? = some (.cells cur e (0, 0))) (hl : xs.length = m * size) (hc : m ≤ cap) (htake : cur.toList.take (m * size) = xs) : Rd (hw w) (.slice (some ⟨g, 0, none⟩) m cap) m size xs := by
  refine ⟨hl, _, cap, rfl, hc, (fun e => by cases e), fun ad e _ => ?_⟩
  cases e
  refine ⟨rfl, fun i u hi => ?_⟩
  rw [hcell_blk hg]
  rw [← htake, List.getElem?_take] at hi
  split at hi
  · simpa using hi
  · cases hi

end
end Go.F
