/- Cuts by functions that leave the world alone. -/
import Derived.Test.YtikgpfhjhfpmbaaFGen
set_option linter.unusedVariables false
set_option linter.unusedSimpArgs false
set_option maxRecDepth 8192
namespace Go.F
open Go Go.RowKit
def cutA (a : Option Addr) (c size : Nat) : Option Addr := if c = 0 then a else a.map (·.add (0 * size))
section
variable {P : Program} {N : Plan} {n : Nat} {ops : Array Oper} {K : Env → World → Prop} {rest : List Oper} {ρ : Env} {w : World}
/-- 'append' of nothing to nil. -/
theorem T_appendE {o : Oper} {d : Nat} {t e : TypeId} {i : TypeInfo} {x y : Operand} {a : Option Addr} {c : Nat} (hC : ∀ w, N.C w)
    (ho : o.op = .call ⟨.builtin .append, #[x, y], #[t, t]⟩) (hx : ρ.ev x = some (.slice none 0 0)) (hy : ρ.ev y = some (.slice a 0 c)) (ht : P.underlying t = some (.slice e)) (hi : P.info? e = some i) (hcl : N.cl o = .loud) (hg : o.guard = none) (hd : o.dst = some d) (hn : Nat.ble (d + 1) n = true)
    (k : T P N n ops K rest ((d, .slice none 0 0) :: ρ) w) : T P N n ops K (o :: rest) ρ w := by
  refine T_ran (v := .slice none 0 0) (w' := w) hcl hg hd hn (fun ac ha => ?_) (hC _) k
  have e1 := ha.ev hx
  have e2 := ha.ev hy
  have hf : (Builtin.firstCells i.size 0 (.slice a 0 c)).run P w = .ok #[] w := by
    cases a with
    | none => rfl
    | some ad => exact run_firstCells_some (P := P) w i.size 0 ad 0 c [] (by simp) (fun j u h => by simp at h)
  have hr : (Builtin.append_ #[t, t] o.type #[.slice none 0 0, .slice a 0 c]).run P w = .ok (.slice none 0 0) w := by
    simp [Builtin.append_, run_underlying ht, sizeOf, typeInfo, hi, Builtin.lenOf, hf]
  unfold execOp; rw [ho]
  simp only [resolve, Sem.run_bind, Sem.run_pure, Result.andThen_ok, invoke, builtin]
  simp [e1, e2, hr]
end
end Go.F
