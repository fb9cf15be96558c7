/- An array out of a slice that stands still; a slice compared with nil. -/
import Derived.Test.YtmjmjjkigblbgaaDoorFPair
set_option linter.unusedVariables false
set_option linter.unusedSimpArgs false
set_option maxRecDepth 8192
namespace Go.F
open Go Go.RowKit
section
variable {P : Program} {N : Plan} {n : Nat} {ops : Array Oper} {K : Env → World → Prop} {rest : List Oper} {ρ : Env} {w W : World} {H G : Hp} {its : List Item}
theorem T_s2apR {o : Oper} {d : Nat} {t e : TypeId} {x : Operand} {v : Value} {m q : Nat} {l : List UInt8} (r : Rd G v m 1 (l.map bV)) (ho : o.op = .sliceToArrayPointer t x) (hx : ρ.ev x = some v) (ht : P.underlying t = some (.array q e))
    (hg : o.guard = none) (hd : o.dst = some d) (hn : Nat.ble (d + 1) n = true) (h0 : 0 < q) (hq : q ≤ m)
    (k : ∀ b off, (∀ (j : Nat) u, ((l.take q).map bV).toArray[j]? = some u → hcell G b (off + j) = some u) → T P N n ops K rest ((d, .pointer (some ⟨b, off, none⟩)) :: ρ) w) : T P N n ops K (o :: rest) ρ w := by
  obtain ⟨b, off, c, hv, hc, hcell⟩ := r.get (by omega)
  subst hv
  refine T_s2ap ho hx ht hg hd hn hq (k b off fun j u hu => hcell j u ?_)
  simp only [List.getElem?_toArray, List.getElem?_map, List.getElem?_take] at hu
  split at hu
  · rw [List.getElem?_map]; exact hu
  · cases hu
theorem T_snil {o : Oper} {d : Nat} {t t' e : TypeId} {x y : Operand} {ad : Option Addr} {m c : Nat} (ho : o.op = .binOp .eql t x y t') (hx : ρ.ev x = some (.slice ad m c)) (hy : ρ.ev y = some (.slice none 0 0)) (ht : P.underlying t = some (.slice e)) (hg : o.guard = none) (hd : o.dst = some d) (hn : Nat.ble (d + 1) n = true)
    (k : T P N n ops K rest ((d, .bool ad.isNone) :: ρ) w) : T P N n ops K (o :: rest) ρ w :=
  T_val hg hd hn (fun a ha u => by
    have e1 := ha.ev hx
    have e2 := ha.ev hy
    have hq : (Op.equal t (.slice ad m c) (.slice none 0 0)).run P u = .ok ad.isNone u := run_equal_slice_nil u t e ad m c ht
    unfold execOp; rw [ho]; simp only [e1, e2]
    simp [eqGuard, binOp, hq]) k
end
theorem take_len32 {l : List UInt8} (h : 32 ≤ l.length) : (l.take 32).length = 32 := by rw [List.length_take]; omega
end Go.F
