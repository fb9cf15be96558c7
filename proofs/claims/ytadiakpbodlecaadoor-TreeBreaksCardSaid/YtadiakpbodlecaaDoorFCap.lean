/- append to nil, the whole block told. -/
import Derived.Test.YtadiakpbodlecaaDoorFStr
set_option linter.unusedVariables false
set_option linter.unusedSimpArgs false
set_option maxRecDepth 8192
namespace Go.F
open Go Go.RowKit
section
variable {P : Program} {N : Plan} {n : Nat} {ops : Array Oper} {K : Env → World → Prop} {rest : List Oper} {ρ : Env} {w : World}

theorem zeroCells_one (z : Value) (k : Nat) : Builtin.zeroCells #[z] k = (List.replicate k z).toArray := by
  unfold Builtin.zeroCells
  apply Array.ext
  · simp
  · intro i h1 h2
    simp [Nat.mod_one]

theorem T_appendN {o : Oper} {d : Nat} {t e : TypeId} {i : TypeInfo} {z : Value} {x y : Operand} {vs : Value} {m : Nat} {news : List Value} (hC : ∀ w, N.C w)
    (ho : o.op = .call ⟨.builtin .append, #[x, y], #[t, t]⟩) (hx : ρ.ev x = some (.slice none 0 0)) (hy : ρ.ev y = some vs) (ht : P.underlying t = some (.slice e)) (hi : P.info? e = some i) (hz : i.zero = some z) (hcl : N.cl o = .loud) (hg : o.guard = none) (hd : o.dst = some d) (hn : Nat.ble (d + 1) n = true)
    (hsize : i.size = 1) (hzs : z.cells = #[z]) (hsrc : Rd (hw w) vs m 1 news) (hm : 0 < m) (h63 : m ≤ maxLen) (hbytes : m * i.bytes ≤ 281474976710656)
    (k : ∀ g C w', g = w.heap.size → m ≤ C → C ≤ maxLen → w'.heap[g]? = some (.cells (news ++ List.replicate (C - m) z).toArray e (0, 0)) → w.grownBy w' none → T P N n ops K rest ((d, .slice (some ⟨g, 0, none⟩) m C) :: ρ) w') : T P N n ops K (o :: rest) ρ w := by
  refine T_loud hg hcl fun a ha hc => ?_
  have e1 := ha.ev hx
  have e2 := ha.ev hy
  have hlen := hsrc.1
  obtain ⟨b, off, c, rfl, _, hcell⟩ := hsrc.get hm
  have h63' : (m : Int) ≤ 9223372036854775807 := by simp only [maxLen] at h63; omega
  have hr := run_append_nil (P := P) w t o.type e i z ht hi hz ⟨b, off, none⟩ m c news (by rw [hsize]; exact hlen) (fun j u hj => by rw [Addr.add_lit]; exact cell_of_hcell (hcell j u hj)) hm h63' hbytes
  rw [hzs, zeroCells_one, List.append_toArray] at hr
  have hrun : (execOp a.eval o).run P w = .ok (.value (.slice (some ⟨w.heap.size, 0, none⟩) m (grownCap w m 0 e))) (w.drew.alloc (.cells (news ++ List.replicate (grownCap w m 0 e - m) z).toArray e (0, 0))) := by
    unfold execOp; rw [ho]
    simp only [resolve, Sem.run_bind, Sem.run_pure, Result.andThen_ok, invoke, builtin]
    simp [e1, e2, hr]
  unfold Oper.wp
  rw [hrun]
  exact ⟨hC _, _, by rw [hd]; exact ha.put hn _, k _ _ _ rfl (grownCap_ge _ _ _ _) (grownCap_le_maxLen _ _ _ _ h63) (heap_alloc_new w.drew _) (undrew (World.grownBy_alloc w.drew _ none))⟩

end
end Go.F
