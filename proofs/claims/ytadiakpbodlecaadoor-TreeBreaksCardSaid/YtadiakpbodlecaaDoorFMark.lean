/- '[]byte' of a constant: a row's mark behind it. -/
import Derived.Test.YtadiakpbodlecaaDoorFRow
set_option linter.unusedVariables false
set_option linter.unusedSimpArgs false
set_option maxRecDepth 8192
namespace Go.F
open Go Go.RowKit
theorem RdH.mk {G : Hp} {v : Value} {k m : Nat} {D : List (List UInt8)} (hl : ∀ h ∈ D, h.length = k) (hk : 0 < k) (r : Rd G v m k (hcells D)) : RdH G v k D :=
  ⟨hl, r.canon (by have h1 := r.1; rw [hcells_len hl] at h1; exact (Nat.eq_of_mul_eq_mul_right hk h1).symm)⟩
theorem take_min {α : Type} (b : List α) (n : Nat) : (b.drop 0).take (min b.length n - 0) = b.take n := by
  rw [List.drop_zero, Nat.sub_zero, List.take_eq_take_iff]; omega
theorem rdB_end {W w : World} {G : Hp} {D D' : List UInt8} {a : Option Addr} {m c : Nat} (hD : D = D') (hc : m ≤ c) (r : Rd G (.slice a m c) m 1 (D.map bV)) (hB : Below W.heap.size W w) :
    ∃ a' c', D'.length ≤ c' ∧ Ending.returned (.slice a m c) = .returned (.slice a' D'.length c') ∧ Rd G (.slice a' D'.length c') D'.length 1 (D'.map bV) ∧ Below W.heap.size W w := by
  subst hD
  obtain rfl : m = D.length := r.lenB
  exact ⟨a, c, hc, rfl, r, hB⟩
theorem rdH_end {W w : World} {G : Hp} {D D' : List (List UInt8)} {k : Nat} {a : Option Addr} {m c : Nat} (hD : D = D') (hc : m ≤ c) (r : RdH G (.slice a m c) k D) (hB : Below W.heap.size W w) :
    ∃ a' c', D'.length ≤ c' ∧ Ending.returned (.slice a m c) = .returned (.slice a' D'.length c') ∧ RdH G (.slice a' D'.length c') k D' ∧ Below W.heap.size W w := by
  subst hD
  obtain rfl : m = D.length := r.len
  exact ⟨a, c, hc, rfl, r, hB⟩
theorem take_ext {α : Type} {l m : List α} {d : α} (hl : l.length = m.length) {k : Nat} (hk : k < l.length) (h : l.take k = m.take k) (e : l.getD k d = m.getD k d) : l.take (k + 1) = m.take (k + 1) := by
  rw [List.take_succ_eq_append_getElem hk, List.take_succ_eq_append_getElem (by omega), h]
  simp only [List.getD_eq_getElem?_getD, List.getElem?_eq_getElem hk, List.getElem?_eq_getElem (show k < m.length by omega), Option.getD_some] at e
  rw [e]
theorem getD_ne {α : Type} {l m : List α} {d : α} {k : Nat} (h : l.getD k d ≠ m.getD k d) : l ≠ m := fun e => h (by rw [e])
theorem nilB (G : Hp) : Rd G (.slice none 0 0) 0 1 (([] : List UInt8).map bV) := Rd.nil _ _
theorem nilI (G : Hp) : Rd G (.slice none 0 0) 0 1 (([] : List Int).map iV) := Rd.nil _ _
theorem nilH (G : Hp) : RdH G (.slice none 0 0) 32 [] := ⟨fun h hh => by simp at hh, Rd.nil _ _⟩
theorem nilS (G : Hp) : RdL G (.slice none 0 0) [] := ⟨[], Rd.nil _ _, Rds.nil _⟩
theorem cell_hV (l : List UInt8) (q : Nat) (h : q < l.length) : (hV l).cells[q]? = some (bV (l.getD q 0)) := by
  simp [Value.cells, h]
theorem still_cellx {G : Hp} {b m off : Nat} {c : Array Value} {t : TypeId} {fz : Nat × Nat} {v : Value} (h : G b = some (.cells c t fz)) (ho : off = m) (hv : c[m]? = some v) : hcell G b off = some v := by
  subst ho; exact still_cell h hv
section
variable {P : Program} {N : Plan} {n : Nat} {ops : Array Oper} {K : Env → World → Prop} {rest : List Oper} {ρ : Env} {w W : World} {H G : Hp} {its : List Item}

theorem freeze_off (w : World) {g : Nat} {cur : Array Value} {e : TypeId} {fz : Nat × Nat} (hg : w.heap[g]? = some (.cells cur e fz)) (ho : Off fz cur.size) :
    ∃ fz', Off fz' cur.size ∧ (w.freeze ⟨g, cur.size, none⟩ 1).heap[g]? = some (.cells cur e fz') ∧ w.grownBy (w.freeze ⟨g, cur.size, none⟩ 1) (some g) := by
  obtain ⟨lo, hi⟩ := fz
  refine ⟨if lo == hi then (cur.size, cur.size + 1) else (min lo cur.size, max hi (cur.size + 1)), ?_, ?_, ?_⟩
  · by_cases h : lo = hi
    · simp [h, Off]
    · rcases ho with h' | h'
      · simp only [Prod.mk.injEq] at h'; omega
      · simp only at h'; simp [h, Off]; omega
  · unfold World.freeze
    rw [if_neg (by simp)]
    simp [Array.getElem?_modify, hg]
  · unfold World.freeze
    rw [if_neg (by simp)]
    exact ⟨rfl, rfl, rfl, by simp, fun k _ hk => by
      simp only [Array.getElem?_modify]
      rw [if_neg (fun e => hk (by rw [e]))]⟩

theorem T_mark {o : Oper} {d : Nat} {s t e : TypeId} {x : Operand} {a : Option Addr} {n0 c : Nat} {xs : List Value} (j : Nat) (S : St W H G its w) (hC : ∀ u, G.le (hw u) → N.C u) (hj : its[j]? = some (.row e 1 (.slice a n0 c) n0 xs)) (ho : o.op = .convert s t x) (hst : s = t) (hx : ρ.ev x = some (.slice a n0 c)) (ht : P.underlying t = some (.slice e)) (he : P.underlying e = some (.int .u8)) (hcl : N.cl o = .loud) (hg : o.guard = none) (hd : o.dst = some d) (hn : Nat.ble (d + 1) n = true)
    (hp : 0 < n0) (k : ∀ w', St W H G (its.set j (.row e 1 (.slice a n0 c) n0 xs)) w' → T P N n ops K rest ((d, .slice a n0 c) :: ρ) w') : T P N n ops K (o :: rest) ρ w := by
  subst hst
  have hr := S.row j hj
  obtain ⟨hlen, hh⟩ := hr
  rcases hh with ⟨_, h0⟩ | ⟨g, cap, cur, fz, hv, hB, hgg, hoff, hnc, hcm, hcs, htake⟩
  · omega
  · cases hv
    obtain ⟨fz', ho', hg', hgr⟩ := freeze_off w hgg hoff
    have S' := S.set j (it' := .row e 1 (.slice (some ⟨g, 0, none⟩) n0 c) n0 xs) hj hgr ⟨hlen, .inr ⟨g, c, cur, fz', rfl, hB, hg', ho', hnc, hcm, hcs, htake⟩⟩ (fun b h => .inl h)
    refine T_ran hcl hg hd hn (fun ac ha => ?_) (hC _ S'.le) (k _ S')
    have e1 := ha.ev hx
    have hsh : w.shape? g = some (e, cur.size) := by unfold World.shape?; rw [hgg]
    unfold execOp; rw [ho]; simp only [e1]
    simp [convert, run_underlying ht, run_underlying he, markStringish, hsh]
end
end Go.F
