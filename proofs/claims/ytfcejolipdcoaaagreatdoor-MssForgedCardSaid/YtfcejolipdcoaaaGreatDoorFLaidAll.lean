/- General lemmas for walking the code, or plain mathematics. -/
import Derived.Test.YtfcejolipdcoaaaGreatDoorFBase
import Derived.WalkKit
import Derived.ProofKit
import Derived.OpenShut
import Derived.ShutString
import Derived.ChangeOld
import Derived.Below
import Derived.Test.YtfcejolipdcoaaaGreatDoorFRest
import Derived.LaidMore
import Derived.Stop.Joined
import Derived.Deep.Slices
set_option linter.unusedVariables false
set_option linter.unusedSimpArgs false
set_option maxRecDepth 8192
namespace Go.F
open Go Go.RowKit Go.ChangeShapes

theorem hcell_of_cell {w : World} {b o : Nat} {v : Value} (h : w.cell? ⟨b, o, none⟩ = some v) : hcell (hw w) b o = some v := by
  unfold World.cell? at h
  unfold hcell hw
  split at h
  · rename_i c t f hb
    simp only [] at hb
    rw [hb]
    simpa using h
  all_goals simp_all

theorem wf_u8 {z : Int} (h : (Lit.int .u8 z).wf = true) : ∃ b : UInt8, z = (b.toNat : Int) := by
  have hx : 0 ≤ z ∧ z ≤ 255 := by simpa [Lit.wf, IntKind.min, IntKind.max, IntKind.signed, IntKind.bits] using h
  exact ⟨UInt8.ofNat z.toNat, by rw [UInt8.toNat_ofNat']; omega⟩
theorem wf_i64 {z : Int} (h : (Lit.int .i64 z).wf = true) : -9223372036854775808 ≤ z ∧ z ≤ 9223372036854775807 := by
  simpa [Lit.wf, IntKind.min, IntKind.max, IntKind.signed, IntKind.bits] using h

theorem bytes_of : ∀ (zs : List Int), (∀ n ∈ zs, (Lit.int .u8 n).wf = true) → ∃ bs : List UInt8, zs.map (Value.int .u8) = bs.map bV
  | [], _ => ⟨[], rfl⟩
  | z :: zs, h => by
    obtain ⟨b, hb⟩ := wf_u8 (h z (by simp))
    obtain ⟨bs, hbs⟩ := bytes_of zs fun n hn => h n (by simp [hn])
    exact ⟨b :: bs, by simp [hbs, hb, bV]⟩

theorem open_ints_rd {H : Type} {enc : TypeId × Value → H} {P : Program} {w : World} {spare : Nat → Bool} {held : Bool} {t e : TypeId} {k : IntKind} {v : Value} {d : DataW H} {ps : List MemPlace} (ht : P.underlying t = some (.slice e)) (he : P.underlying e = some (.int k)) (hc : P.cellsOf e = 1)
    (hv : ∃ a l c, v = .slice a l c) (h : DataW.Trod enc P w 0 spare held t v d ps) : ∃ zs : List Int, Rd (hw w) v zs.length 1 (zs.map (Value.int k)) ∧ ∀ n ∈ zs, (Lit.int k n).wf = true := by
  obtain ⟨a, l, c, rfl⟩ := hv
  obtain ⟨fuel, hf⟩ := h
  rcases open_ints ht he hc hf with ⟨hcs, _⟩ | ⟨x, l', c', zs, hcs, _, hl, hm, hz, _, hcell, hwz⟩
  · simp [Value.cells] at hcs
    obtain ⟨rfl, rfl, rfl⟩ := hcs
    exact ⟨[], Rd.nil _ 1, by simp⟩
  · simp [Value.cells] at hcs
    obtain ⟨rfl, rfl, rfl⟩ := hcs
    have hlz : l ≤ zs.length := by rw [hz]; split <;> omega
    refine ⟨zs.take l, ?_, fun n hn => hwz n (List.mem_of_mem_take hn)⟩
    have hlt : (zs.take l).length = l := by rw [List.length_take]; omega
    rw [hlt]
    refine ⟨by simp; omega, some x, c, rfl, hl, fun e => (by cases e), fun ad had hp => ?_⟩
    simp only [Option.some.injEq] at had
    subst had
    have hc0 := hcell 0 (by omega)
    obtain ⟨b, off, spot⟩ := x
    have hspot : spot = none := by simpa [Addr.add] using World.cell?_spot hc0
    subst hspot
    refine ⟨rfl, fun i u hi => hcell_of_cell ?_⟩
    rw [List.getElem?_map, List.getElem?_take] at hi
    split at hi
    · rename_i hil
      have h1 := hcell i (by omega)
      rw [Addr.add_lit] at h1
      rw [h1, ← hi, List.getD_eq_getElem?_getD, List.getElem?_eq_getElem (by omega)]
      rfl
    · cases hi

theorem open_bytes_rd {H : Type} {enc : TypeId × Value → H} {P : Program} {w : World} {spare : Nat → Bool} {held : Bool} {t e : TypeId} {v : Value} {d : DataW H} {ps : List MemPlace} (ht : P.underlying t = some (.slice e)) (he : P.underlying e = some (.int .u8)) (hc : P.cellsOf e = 1)
    (hv : ∃ a l c, v = .slice a l c) (h : DataW.Trod enc P w 0 spare held t v d ps) : ∃ bs : List UInt8, Rd (hw w) v bs.length 1 (bs.map bV) := by
  obtain ⟨zs, hr, hwf⟩ := open_ints_rd ht he hc hv h
  obtain ⟨bs, hbs⟩ := bytes_of zs hwf
  have hl : zs.length = bs.length := by simpa using congrArg List.length hbs
  exact ⟨bs, by rw [← hbs, ← hl]; exact hr⟩

end Go.F

namespace Go.F
open Go Go.RowKit Go.ChangeShapes Go.WideShapes

def unInt : Value → Int
  | .int _ z => z
  | _ => 0

theorem ints_of {H : Type} {enc : TypeId × Value → H} {P : Program} {w : World} {base : Nat} {spare : Nat → Bool} {held : Bool} {e : TypeId} {k : IntKind} {n m : Nat} {cs : List Value} {xs : List (DataW H × List MemPlace)} (he : P.underlying e = some (.int k)) (hc : P.cellsOf e = 1)
    (hl : cs.length = n) (hx : xs.length = n) (hel : ∀ (i : Nat), i < n → DataW.trod enc P w base spare held m e ((cs.drop (i * P.cellsOf e)).take (P.cellsOf e)) = xs[i]?) :
    cs = (cs.map unInt).map (Value.int k) ∧ (∀ z ∈ cs.map unInt, (Lit.int k z).wf = true) ∧ xs.map (·.1) = (cs.map unInt).map fun z => .lit (.int k z) := by
  have key : ∀ i (hi : i < n), ∃ z, cs[i]? = some (.int k z) ∧ xs[i]? = some (.lit (.int k z), []) ∧ (Lit.int k z).wf = true := by
    intro i hi
    have h := hel i hi
    rw [hc, Nat.mul_one] at h
    obtain ⟨x, hx'⟩ : ∃ x, xs[i]? = some x := ⟨xs[i]'(by omega), List.getElem?_eq_getElem (by omega)⟩
    rw [hx'] at h
    obtain ⟨z, h1, h2, h3⟩ := DataW.trod_int he h
    refine ⟨z, ?_, by rw [hx', h2], h3⟩
    have hci : cs[i]? = some (cs[i]'(by omega)) := List.getElem?_eq_getElem (by omega)
    rw [List.drop_eq_getElem_cons (by omega), List.take_succ_cons, List.take_zero] at h1
    simp only [List.cons.injEq, and_true] at h1
    rw [hci, h1]
  refine ⟨?_, ?_, ?_⟩
  · apply List.ext_getElem?
    intro i
    rcases Nat.lt_or_ge i n with hi | hi
    · obtain ⟨z, h1, _, _⟩ := key i hi
      simp [h1, unInt]
    · rw [List.getElem?_eq_none (by omega), List.getElem?_eq_none (by simp; omega)]
  · intro z hz
    obtain ⟨v, hv, rfl⟩ := List.mem_map.1 hz
    obtain ⟨i, hi, hv'⟩ := List.getElem_of_mem hv
    obtain ⟨z, h1, _, h3⟩ := key i (by omega)
    rw [List.getElem?_eq_getElem hi, hv'] at h1
    simp only [Option.some.injEq] at h1
    subst h1
    exact h3
  · apply List.ext_getElem?
    intro i
    rcases Nat.lt_or_ge i n with hi | hi
    · obtain ⟨z, h1, h2, _⟩ := key i hi
      simp [h1, h2, unInt]
    · rw [List.getElem?_eq_none (by simp; omega), List.getElem?_eq_none (by simp; omega)]

theorem laid_ints {H : Type} {enc : TypeId × Value → H} {P : Program} {w : World} {base : Nat} {spare : Nat → Bool} {held : Bool} {t e : TypeId} {k : IntKind} {n fuel : Nat} {cs : List Value} {zs : List Int} {p : List MemPlace} (ht : P.underlying t = some (.array n e)) (he : P.underlying e = some (.int k)) (hc : P.cellsOf e = 1) (hct : P.cellsOf t = n)
    (h : DataW.trod enc P w base spare held fuel t cs = some (.agg (zs.map fun z => .lit (.int k z)), p)) : cs = zs.map (Value.int k) := by
  obtain ⟨xs, m, _, hx, hl, hxl, hel⟩ := DataW.trod_array ht h
  obtain ⟨h1, _, h3⟩ := ints_of he hc (by rw [hl, hct]) hxl hel
  simp only [Prod.mk.injEq, DataW.agg.injEq] at hx
  rw [← hx.1] at h3
  have h4 : zs = cs.map unInt := by
    have := congrArg (List.map fun d : DataW H => match d with | .lit (.int _ z) => z | _ => 0) h3
    simpa [Function.comp_def] using this
  rw [h1, ← h4]

theorem open_hash {H : Type} {enc : TypeId × Value → H} {P : Program} {w : World} {r : Reach} {b0 base : Nat} {spare : Nat → Bool} {held : Bool} {t e : TypeId} {n : Nat} {v : Value} {d : DataW H} {ps : List MemPlace} (ht : P.underlying t = some (.array n e)) (he : P.underlying e = some (.int .u8)) (hc : P.cellsOf e = 1) (hct : P.cellsOf t = n)
    (hv : Value.okWide P w r b0 t v) (h : DataW.Trod enc P w base spare held t v d ps) : ∃ bs : List UInt8, bs.length = n ∧ v = hV bs := by
  simp only [Value.okWide, ht] at hv
  obtain ⟨cs, rfl, h2, _⟩ := hv
  obtain ⟨fuel, hf⟩ := h
  obtain ⟨xs, m, _, hx, hl, hxl, hel⟩ := DataW.trod_array ht hf
  obtain ⟨h1, hw, _⟩ := ints_of he hc (by rw [hl, hct]) hxl hel
  obtain ⟨bs, hbs⟩ := bytes_of _ hw
  have hcs : cs.toList = bs.map bV := by
    have : (Value.agg cs).cells.toList = cs.toList := rfl
    rw [← this, h1, hbs]
  refine ⟨bs, ?_, ?_⟩
  · have := congrArg List.length hcs
    simp at this
    rw [← this, h2, hct]
  · rw [hV, ← hcs]

theorem int_bd {k : IntKind} {n : Int} (hk : k = .i64) (h : (Lit.int k n).wf = true) : -9223372036854775808 ≤ n ∧ n ≤ 9223372036854775807 := by
  subst hk; exact wf_i64 h
end Go.F

namespace Go.F
open Go Go.RowKit Go.ChangeShapes Go.WideShapes Go.Deep

end Go.F
