/- Orders that meet again: what is known behind a set of steps is said once. -/
import Derived.Test.YtmjmjjkigblbgaaGreatDoorFRest
set_option linter.unusedVariables false
set_option linter.unusedSimpArgs false
set_option maxRecDepth 8192
namespace Go.F
open Go Go.RowKit
section
variable {P : Program} {N : Plan} {n : Nat} {ops : Array Oper} {K : Env → World → Prop} {ρ : Env} {w : World}
theorem TT_dag {t root : Tree} (I : Env → World → Prop) (h1 : ∀ ρ w, I ρ w → TT P N n ops K t ρ w) (h2 : (∀ ρ w, I ρ w → TT P N n ops K t ρ w) → TT P N n ops K root ρ w) : TT P N n ops K root ρ w := h2 h1
theorem TT_subA {i : Nat} {t : Tree} {ρ0 : Env} (h : TT P N n ops K (.step i t) ρ0 w) (hs : Sub ρ0 ρ := by (repeat refine And.intro rfl ?_); exact trivial) : TT P N n ops K (.step i t) ρ w :=
  let ⟨o, ho, h1⟩ := h
  ⟨o, ho, T_sub hs h1⟩
theorem TT_subF {i j : Nat} {t u : Tree} {ρ0 : Env} (h : TT P N n ops K (.fork i j t u) ρ0 w) (hs : Sub ρ0 ρ := by (repeat refine And.intro rfl ?_); exact trivial) : TT P N n ops K (.fork i j t u) ρ w :=
  let ⟨⟨o, ho, h1⟩, o', ho', h2⟩ := h
  ⟨⟨o, ho, T_sub hs h1⟩, o', ho', T_sub hs h2⟩
end
end Go.F
