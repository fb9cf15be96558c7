/- Cuts by functions that leave the world alone. -/
import Derived.Test.YtmjmjjkigblbgaaDoorFGen
set_option linter.unusedVariables false
set_option linter.unusedSimpArgs false
set_option maxRecDepth 8192
namespace Go.F
open Go Go.RowKit
def cutA (a : Option Addr) (c size : Nat) : Option Addr := if c = 0 then a else a.map (·.add (0 * size))
theorem Rd.takeA {H : Hp} {a : Option Addr} {n0 c size h : Nat} {xs : List Value} (r : Rd H (.slice a n0 c) n0 size xs) (h2 : h ≤ n0) : Rd H (.slice (cutA a c size) h c) h size (xs.take (h * size)) := by
  obtain ⟨hlen, a', c', hv, hc, hnone, hsome⟩ := r
  cases hv
  refine ⟨?_, _, _, rfl, by omega, ?_, ?_⟩
  · rw [List.length_take, hlen]
    have : h * size ≤ n0 * size := Nat.mul_le_mul_right _ h2
    omega
  · intro he
    cases a with
    | none => obtain ⟨rfl, rfl⟩ := hnone rfl; omega
    | some ad => unfold cutA at he; split at he <;> simp at he
  · intro ad had hpos
    cases a with
    | none => unfold cutA at had; split at had <;> simp at had
    | some ad0 =>
      obtain ⟨hs, hcell⟩ := hsome ad0 rfl (by omega)
      obtain ⟨b, off, s⟩ := ad0
      simp only at hs; subst hs
      unfold cutA at had
      rw [if_neg (by omega)] at had
      simp only [Option.map_some, add_none, Option.some.injEq] at had
      subst had
      refine ⟨rfl, fun j u hj => ?_⟩
      rw [List.getElem?_take] at hj
      split at hj
      · simpa using hcell j u hj
      · cases hj
theorem Rd.takeB {H : Hp} {a : Option Addr} {c k : Nat} {l : List UInt8} (r : Rd H (.slice a l.length c) l.length 1 (l.map bV)) : Rd H (.slice (cutA a c 1) (l.take k).length c) (l.take k).length 1 ((l.take k).map bV) := by
  have h := r.takeA (h := (l.take k).length) (by rw [List.length_take]; omega)
  rw [Nat.mul_one, ← List.map_take] at h
  have e : l.take (l.take k).length = l.take k := by rw [List.length_take, ← List.take_take, List.take_length]
  rwa [e] at h
theorem RdH.takeA {H : Hp} {a : Option Addr} {c k m : Nat} {l : List (List UInt8)} (r : RdH H (.slice a l.length c) m l) : RdH H (.slice (cutA a c m) (l.take k).length c) m (l.take k) := by
  refine ⟨fun x hx => r.1 x (List.mem_of_mem_take hx), ?_⟩
  have h := r.2.takeA (h := (l.take k).length) (by rw [List.length_take]; omega)
  rw [hcells_take r.1] at h
  have e : l.take (l.take k).length = l.take k := by rw [List.length_take, ← List.take_take, List.take_length]
  rwa [e] at h
section
variable {P : Program} {N : Plan} {n : Nat} {ops : Array Oper} {K : Env → World → Prop} {rest : List Oper} {ρ : Env} {w : World}
theorem T_sliceHi {o : Oper} {d : Nat} {t e : TypeId} {i : TypeInfo} {x y : Operand} {a : Option Addr} {n0 c size : Nat} {k0 : IntKind} {z : Int} (h : Nat)
    (ho : o.op = .slice t x none (some y) none) (hx : ρ.ev x = some (.slice a n0 c)) (hy : ρ.ev y = some (.int k0 z)) (ht : P.underlying t = some (.slice e)) (hi' : P.info? e = some i) (hsize : i.size = size) (hg : o.guard = none) (hd : o.dst = some d) (hn : Nat.ble (d + 1) n = true)
    (hz : z = (h : Int)) (h2 : h ≤ n0) (hc : n0 ≤ c) (k : T P N n ops K rest ((d, .slice (cutA a c size) h c) :: ρ) w) : T P N n ops K (o :: rest) ρ w :=
  T_val hg hd hn (fun ac ha u => by
    have e1 := ha.ev hx
    have e2 := ha.ev hy
    unfold execOp; rw [ho]; simp only [e1, e2, Option.map_none, Option.map_some]
    have hb := run_sliceBounds (P := P) (len := n0) (cap := c) (lo := none) (hi := some (.int k0 z)) (l := 0) (h := h) true (bound_of hz) rfl (Nat.zero_le _) (by omega) u
    simp [Instr.sliceAt, Instr.slice, run_underlying ht, hb, sizeOf, typeInfo, hi', cutA, hsize]) k
/-- A call that leaves the world alone, taken as looking at none. -/
theorem T_callQ {o : Oper} {d : Nat} {f : FuncId} {xs : List Operand} {ts : Array TypeId} {args : List Value} {v : Value} (ho : o.op = .call ⟨.value (.func f), xs.toArray, ts⟩) (hxs : evs ρ xs = some args) (hf : goFn P f = true) (hi : P.inits.idxOf? f = none) (hcl : N.cl o = .pure) (hg : o.guard = none) (hd : o.dst = some d) (hn : Nat.ble (d + 1) n = true)
    (c : ∀ u, Calls P f args.toArray u (fun e w' => e = .returned v ∧ w' = u)) (k : T P N n ops K rest ((d, v) :: ρ) w) : T P N n ops K (o :: rest) ρ w := fun a ha hc => by
  unfold xo
  rw [if_pos (wanted_none hg _), hcl]
  exact ⟨v, fun u _ => .inr ⟨f, args.toArray, hi, run_call ho ha hxs hf u, c u⟩, (d, v) :: ρ, by rw [hd]; exact ha.put hn v, k⟩
end
end Go.F
