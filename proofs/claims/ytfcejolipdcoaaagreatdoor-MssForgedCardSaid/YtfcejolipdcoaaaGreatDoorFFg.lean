/- What explains a forged signature, as a value. -/
import Derived.Test.YtfcejolipdcoaaaGreatDoorFDoor

import Derived.Test.YtfcejolipdcoaaaGreatDoorAuExp3
set_option linter.unusedVariables false
set_option linter.unusedSimpArgs false
set_option maxRecDepth 8192
namespace Go.F
open Go Go.RowKit
def twoF (A B : List UInt8) : Go.Au.FgP := if A = B then Go.Au.fg0 else Go.Au.fgB A B
theorem twoF_eq {A B : List UInt8} (h : A = B) : twoF A B = Go.Au.fg0 := if_pos h
theorem twoF_ne {A B : List UInt8} (h : ¬ A = B) : twoF A B = Go.Au.fgB A B := if_neg h
theorem twoF_x (A B : List UInt8) : (twoF A B).x.length = 32 := by
  unfold twoF; split <;> exact List.length_replicate
section
variable {W w : World} {H G : Hp} {f f' : Go.Au.FgP} {b b' : Bool} {a1 a2 : Option Addr} {c1 c2 : Nat}
theorem fg_end (e : f = f') (e2 : b = b') (r1 : Rd G (.slice a1 f'.A.length c1) f'.A.length 1 (f'.A.map bV)) (r2 : Rd G (.slice a2 f'.B.length c2) f'.B.length 1 (f'.B.map bV)) (hG : G.le (F.ext H W.heap.size w)) (hB : Below W.heap.size W w) :
    ∃ a c a' c', Ending.returned (.tuple #[gV [[.slice a1 f'.A.length c1], [.slice a2 f'.B.length c2], [.bool f'.k], [.int .i64 f'.a], [.int .i64 f'.c], [.int .i64 f'.q], f'.x.map bV], .bool b']) = .returned (.tuple #[gV [[.slice a f.A.length c], [.slice a' f.B.length c'], [.bool f.k], [.int .i64 f.a], [.int .i64 f.c], [.int .i64 f.q], f.x.map bV], .bool b]) ∧ Rd (F.ext H W.heap.size w) (.slice a f.A.length c) f.A.length 1 (f.A.map bV) ∧ Rd (F.ext H W.heap.size w) (.slice a' f.B.length c') f.B.length 1 (f.B.map bV) ∧ Below W.heap.size W w := by
  subst e; subst e2; exact ⟨a1, c1, a2, c2, rfl, r1.mono hG, r2.mono hG, hB⟩
theorem fg_end1 (e : f = f') (r1 : Rd G (.slice a1 f'.A.length c1) f'.A.length 1 (f'.A.map bV)) (r2 : Rd G (.slice a2 f'.B.length c2) f'.B.length 1 (f'.B.map bV)) (hG : G.le (F.ext H W.heap.size w)) (hB : Below W.heap.size W w) :
    ∃ a c a' c', Ending.returned (gV [[.slice a1 f'.A.length c1], [.slice a2 f'.B.length c2], [.bool f'.k], [.int .i64 f'.a], [.int .i64 f'.c], [.int .i64 f'.q], f'.x.map bV]) = .returned (gV [[.slice a f.A.length c], [.slice a' f.B.length c'], [.bool f.k], [.int .i64 f.a], [.int .i64 f.c], [.int .i64 f.q], f.x.map bV]) ∧ Rd (F.ext H W.heap.size w) (.slice a f.A.length c) f.A.length 1 (f.A.map bV) ∧ Rd (F.ext H W.heap.size w) (.slice a' f.B.length c') f.B.length 1 (f.B.map bV) ∧ Below W.heap.size W w := by
  subst e; exact ⟨a1, c1, a2, c2, rfl, r1.mono hG, r2.mono hG, hB⟩
end
theorem T_snilN {P : Program} {N : Plan} {n : Nat} {ops : Array Oper} {K : Env → World → Prop} {rest : List Oper} {ρ : Env} {w : World} {o : Oper} {d : Nat} {t t' e : TypeId} {x y : Operand} {ad : Option Addr} {m c : Nat} (ho : o.op = .binOp .neq t x y t') (hx : ρ.ev x = some (.slice ad m c)) (hy : ρ.ev y = some (.slice none 0 0)) (ht : P.underlying t = some (.slice e)) (hg : o.guard = none) (hd : o.dst = some d) (hn : Nat.ble (d + 1) n = true)
    (k : T P N n ops K rest ((d, .bool (!ad.isNone)) :: ρ) w) : T P N n ops K (o :: rest) ρ w :=
  T_val hg hd hn (fun a ha u => by
    have e1 := ha.ev hx
    have e2 := ha.ev hy
    have hq : (Op.equal t (.slice ad m c) (.slice none 0 0)).run P u = .ok ad.isNone u := run_equal_slice_nil u t e ad m c ht
    unfold execOp; rw [ho]; simp only [e1, e2]
    simp [eqGuard, binOp, hq]) k
end Go.F
