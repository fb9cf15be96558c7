/- Room behind a slice: make with room, copy of any row, a slice up to its room. -/
import Derived.Test.YtadiakpbodlecaaDoorFPlan
import Derived.Test.YtadiakpbodlecaaDoorFEq
set_option linter.unusedVariables false
set_option linter.unusedSimpArgs false
set_option maxRecDepth 8192
namespace Go.F
open Go Go.RowKit
section
variable {P : Program} {N : Plan} {n : Nat} {ops : Array Oper} {K : Env → World → Prop} {rest : List Oper} {ρ : Env} {w : World}

/-- 'make([]T, n, m)'. -/
theorem T_makeC {o : Oper} {d : Nat} {t e : TypeId} {i : TypeInfo} {z : Value} {x y : Operand} {kx ky : IntKind} {p q : Int} (l m : Nat) (hC : ∀ w, N.C w) (ho : o.op = .makeSlice t x y) (hx : ρ.ev x = some (.int kx p)) (hy : ρ.ev y = some (.int ky q))
    (ht : P.underlying t = some (.slice e)) (hi : P.info? e = some i) (hz : i.zero = some z) (hcl : N.cl o = .loud) (hg : o.guard = none) (hd : o.dst = some d) (hn : Nat.ble (d + 1) n = true)
    (hp : p = (l : Int)) (hq : q = (m : Int)) (hlm : l ≤ m) (hbytes : i.bytes * m ≤ 281474976710656) (h63 : m ≤ maxLen)
    (k : ∀ b w', b = w.heap.size → w'.heap[b]? = some (.cells (madeCells z.cells (m * i.size)) e (0, 0)) → w.grownBy w' none → T P N n ops K rest ((d, .slice (some ⟨b, 0, none⟩) l m) :: ρ) w') : T P N n ops K (o :: rest) ρ w := by
  refine T_loud hg hcl fun a ha hc => ?_
  have e1 := ha.ev hx
  have e2 := ha.ev hy
  have h63' : (m : Int) ≤ 9223372036854775807 := by simp only [maxLen] at h63; omega
  have hb' : (i.bytes : Int) * (m : Int) ≤ 281474976710656 := by
    have h : ((i.bytes * m : Nat) : Int) ≤ 281474976710656 := by omega
    rwa [Int.natCast_mul] at h
  have hr := run_make (P := P) w t e i z ht hi hz kx ky l m (by omega) (by omega) hb' h63'
  simp only [Int.toNat_natCast] at hr
  unfold Oper.wp
  have hrun : (execOp a.eval o).run P w = .ok (.value (.slice (some ⟨w.heap.size, 0, none⟩) l m)) (w.alloc (.cells (madeCells z.cells (m * i.size)) e (0, 0))) := by
    unfold execOp; rw [ho]; simp only [e1, e2, hp, hq, Sem.run_bind, hr, Result.andThen_ok]; rfl
  rw [hrun]
  exact ⟨hC _, _, by rw [hd]; exact ha.put hn _, k _ _ rfl (heap_alloc_new w _) (World.grownBy_alloc w _ none)⟩

/-- 'copy(dst, src)', dst within a row of the call's own, src any row that fits. -/
theorem T_copyR {o : Oper} {d : Nat} {dT sT e : TypeId} {i : TypeInfo} {x y : Operand} {g off dLen dCap m : Nat} {cur : Array Value} {t0 : TypeId} {vs : Value} {cs : List Value} (hC : ∀ w, N.C w)
    (ho : o.op = .call ⟨.builtin .copy, #[x, y], #[dT, sT]⟩) (hx : ρ.ev x = some (.slice (some ⟨g, off, none⟩) dLen dCap)) (hy : ρ.ev y = some vs) (ht : P.underlying dT = some (.slice e)) (hi : P.info? e = some i) (h1 : i.size = 1) (hcl : N.cl o = .loud) (hg : o.guard = none) (hd : o.dst = some d) (hn : Nat.ble (d + 1) n = true)
    (hb : w.heap[g]? = some (.cells cur t0 (0, 0))) (hsrc : Rd (hw w) vs m 1 cs) (hm : m ≤ dLen) (hfit : off + m ≤ cur.size) (hone : ∀ v ∈ cs, v.oneCell' = true)
    (k : ∀ w', w'.heap[g]? = some (.cells (cur.toList.take off ++ cs ++ cur.toList.drop (off + cs.length)).toArray t0 (0, 0)) → w.grownBy w' (some g) → w'.heap.size = w.heap.size → T P N n ops K rest ((d, .int .i64 (cs.length : Int)) :: ρ) w') : T P N n ops K (o :: rest) ρ w := by
  rcases Nat.eq_zero_or_pos m with hm0 | hm0
  · subst hm0
    have hcs : cs = [] := List.eq_nil_of_length_eq_zero (by have := hsrc.1; omega)
    subst hcs
    have hcur : (cur.toList.take off ++ [] ++ cur.toList.drop (off + ([] : List Value).length)).toArray = cur := by simp
    rw [hcur] at k
    refine T_loud hg hcl fun a ha hc => ?_
    have e1 := ha.ev hx
    have e2 := ha.ev hy
    obtain ⟨_, aa, c, hvs, _, hnone, _⟩ := hsrc
    have key : ∃ w', (execOp a.eval o).run P w = .ok (.value (goInt 0)) w' ∧ w'.heap[g]? = some (.cells cur t0 (0, 0)) ∧ w.grownBy w' (some g) ∧ w'.heap.size = w.heap.size := by
      cases aa with
      | none =>
        obtain ⟨_, rfl⟩ := hnone rfl
        have hr := run_copy_nil P w dT sT o.type e ⟨g, off, none⟩ dLen dCap ht (by rw [hi]; rfl)
        refine ⟨w, ?_, hb, gb_refl w _, rfl⟩
        unfold execOp; rw [ho]
        simp only [resolve, Sem.run_bind, Sem.run_pure, Result.andThen_ok, invoke, builtin]
        simp [e1, e2, hvs, hr]
      | some ad =>
        have hr := run_copy_row P w dT sT o.type e g off dLen dCap ad 0 c cur t0 [] ht (by rw [hi]; simp [h1]) hb (by simp) (fun j v hj => by simp at hj) (by simpa using hfit) (by simp)
        have hset : (cur.toList.take off ++ [] ++ cur.toList.drop (off + ([] : List Value).length)).toArray = cur := hcur
        rw [hset] at hr
        refine ⟨w.setRow g cur, ?_, setRow_heap w g cur _ t0 _ hb, ⟨rfl, rfl, rfl, by simp, fun q _ hk => setRow_other w g q _ (fun e => hk (by simp [e]))⟩, by simp⟩
        unfold execOp; rw [ho]
        simp only [resolve, Sem.run_bind, Sem.run_pure, Result.andThen_ok, invoke, builtin]
        simp [e1, e2, hvs, hr]
    obtain ⟨w', hrun, h2, h3, h4⟩ := key
    unfold Oper.wp
    rw [hrun]
    exact ⟨hC _, _, by rw [hd]; exact ha.put hn _, k _ h2 h3 h4⟩
  · exact T_copy hC ho hx hy ht hi h1 hcl hg hd hn hb hsrc hm hm0 hfit hone k

/-- 's[:h]' up to the room. -/
theorem T_reslice {o : Oper} {d : Nat} {t e : TypeId} {i : TypeInfo} {x y : Operand} {b off : Nat} {l c : Nat} {k0 : IntKind} {z : Int} (h : Nat) (ho : o.op = .slice t x none (some y) none) (hx : ρ.ev x = some (.slice (some ⟨b, off, none⟩) l c)) (hy : ρ.ev y = some (.int k0 z)) (ht : P.underlying t = some (.slice e)) (hi' : P.info? e = some i) (hg : o.guard = none) (hd : o.dst = some d) (hn : Nat.ble (d + 1) n = true)
    (hz : z = (h : Int)) (h2 : h ≤ c) (hc0 : 0 < c) (k : T P N n ops K rest ((d, .slice (some ⟨b, off, none⟩) h c) :: ρ) w) : T P N n ops K (o :: rest) ρ w :=
  T_val hg hd hn (fun a ha u => by
    have e1 := ha.ev hx
    have e2 := ha.ev hy
    unfold execOp; rw [ho]; simp only [e1, e2, Option.map_none, Option.map_some]
    have hb := run_sliceBounds (P := P) (len := l) (cap := c) (lo := none) (hi := some (.int k0 z)) (l := 0) (h := h) true (bound_of hz) rfl (Nat.zero_le _) h2 u
    have hne : ¬ c = 0 := by omega
    simp [Instr.sliceAt, Instr.slice, run_underlying ht, hb, sizeOf, typeInfo, hi', hne, add_none]) k

end
end Go.F
