/- General lemmas for walking the code, or plain mathematics. -/
import Derived.Test.YtikgpfhjhfpmbaaFBase
import Derived.WalkKit
import Derived.ProofKit
import Derived.OpenShut
import Derived.ShutString
import Derived.ChangeOld
import Derived.Below
import Derived.Test.YtikgpfhjhfpmbaaFRest
import Derived.LaidMore
import Derived.Stop.Joined
import Derived.Deep.Slices
set_option linter.unusedVariables false
set_option linter.unusedSimpArgs false
set_option maxRecDepth 8192
namespace Go.F
open Go Go.RowKit Go.ChangeShapes

theorem hcell_of_cell {w : World} {b o : Nat} {v : Value} (h : w.cell? ⟨b, o, none⟩ = some v) : hcell (hw w) b o = some v := by
  unfold World.cell? at h
  unfold hcell hw
  split at h
  · rename_i c t f hb
    simp only [] at hb
    rw [hb]
    simpa using h
  all_goals simp_all

theorem wf_u8 {z : Int} (h : (Lit.int .u8 z).wf = true) : ∃ b : UInt8, z = (b.toNat : Int) := by
  have hx : 0 ≤ z ∧ z ≤ 255 := by simpa [Lit.wf, IntKind.min, IntKind.max, IntKind.signed, IntKind.bits] using h
  exact ⟨UInt8.ofNat z.toNat, by rw [UInt8.toNat_ofNat']; omega⟩
theorem bytes_of : ∀ (zs : List Int), (∀ n ∈ zs, (Lit.int .u8 n).wf = true) → ∃ bs : List UInt8, zs.map (Value.int .u8) = bs.map bV
  | [], _ => ⟨[], rfl⟩
  | z :: zs, h => by
    obtain ⟨b, hb⟩ := wf_u8 (h z (by simp))
    obtain ⟨bs, hbs⟩ := bytes_of zs fun n hn => h n (by simp [hn])
    exact ⟨b :: bs, by simp [hbs, hb, bV]⟩

/-- A slice of integers that came in. -/
theorem open_ints_rd {H : Type} {enc : TypeId × Value → H} {P : Program} {w : World} {spare : Nat → Bool} {held : Bool} {t e : TypeId} {k : IntKind} {v : Value} {d : DataW H} {ps : List MemPlace} (ht : P.underlying t = some (.slice e)) (he : P.underlying e = some (.int k)) (hc : P.cellsOf e = 1)
    (hv : ∃ a l c, v = .slice a l c) (h : DataW.Trod enc P w 0 spare held t v d ps) : ∃ zs : List Int, Rd (hw w) v zs.length 1 (zs.map (Value.int k)) ∧ ∀ n ∈ zs, (Lit.int k n).wf = true := by
  obtain ⟨a, l, c, rfl⟩ := hv
  obtain ⟨fuel, hf⟩ := h
  rcases open_ints ht he hc hf with ⟨hcs, _⟩ | ⟨x, l', c', zs, hcs, _, hl, hm, hz, _, hcell, hwz⟩
  · simp [Value.cells] at hcs
    obtain ⟨rfl, rfl, rfl⟩ := hcs
    exact ⟨[], Rd.nil _ 1, by simp⟩
  · simp [Value.cells] at hcs
    obtain ⟨rfl, rfl, rfl⟩ := hcs
    have hlz : l ≤ zs.length := by rw [hz]; split <;> omega
    refine ⟨zs.take l, ?_, fun n hn => hwz n (List.mem_of_mem_take hn)⟩
    have hlt : (zs.take l).length = l := by rw [List.length_take]; omega
    rw [hlt]
    refine ⟨by simp; omega, some x, c, rfl, hl, fun e => (by cases e), fun ad had hp => ?_⟩
    simp only [Option.some.injEq] at had
    subst had
    have hc0 := hcell 0 (by omega)
    obtain ⟨b, off, spot⟩ := x
    have hspot : spot = none := by simpa [Addr.add] using World.cell?_spot hc0
    subst hspot
    refine ⟨rfl, fun i u hi => hcell_of_cell ?_⟩
    rw [List.getElem?_map, List.getElem?_take] at hi
    split at hi
    · rename_i hil
      have h1 := hcell i (by omega)
      rw [Addr.add_lit] at h1
      rw [h1, ← hi, List.getD_eq_getElem?_getD, List.getElem?_eq_getElem (by omega)]
      rfl
    · cases hi

/-- A slice of bytes that came in. -/
theorem open_bytes_rd {H : Type} {enc : TypeId × Value → H} {P : Program} {w : World} {spare : Nat → Bool} {held : Bool} {t e : TypeId} {v : Value} {d : DataW H} {ps : List MemPlace} (ht : P.underlying t = some (.slice e)) (he : P.underlying e = some (.int .u8)) (hc : P.cellsOf e = 1)
    (hv : ∃ a l c, v = .slice a l c) (h : DataW.Trod enc P w 0 spare held t v d ps) : ∃ bs : List UInt8, Rd (hw w) v bs.length 1 (bs.map bV) := by
  obtain ⟨zs, hr, hwf⟩ := open_ints_rd ht he hc hv h
  obtain ⟨bs, hbs⟩ := bytes_of zs hwf
  have hl : zs.length = bs.length := by simpa using congrArg List.length hbs
  exact ⟨bs, by rw [← hbs, ← hl]; exact hr⟩

end Go.F

namespace Go.F
open Go Go.RowKit Go.ChangeShapes Go.WideShapes

def unInt : Value → Int
  | .int _ z => z
  | _ => 0

end Go.F

namespace Go.F
open Go Go.RowKit Go.ChangeShapes Go.WideShapes Go.Deep

theorem spot_of {w : World} {x : Addr} {v : Value} (h : w.cell? (x.add 0) = some v) : x.spot = none := by
  obtain ⟨b, off, spot⟩ := x
  simpa [Addr.add] using World.cell?_spot h

/-- Rows of rows of bytes that came in. -/
theorem open_strings {H : Type} {enc : TypeId × Value → H} {P : Program} {w : World} {spare : Nat → Bool} {held : Bool} {t e u : TypeId} {v : Value} {d : DataW H} {ps : List MemPlace} (ht : P.underlying t = some (.slice e)) (he : P.underlying e = some (.slice u)) (hu : P.underlying u = some (.int .u8)) (hc : P.cellsOf u = 1) (hce : P.cellsOf e = 1)
    (hv : ∃ a l c, v = .slice a l c) (h : DataW.Trod enc P w 0 spare held t v d ps) : ∃ ls : List (List UInt8), RdL (hw w) v ls := by
  obtain ⟨a, l, c, rfl⟩ := hv
  obtain ⟨fuel, hf⟩ := h
  rcases open_slice1 ht hce hf with ⟨hcs, _⟩ | ⟨x, l', c', m, n, V, D, Pl, hcs, _, hl, _, hmm, _, hx⟩
  · simp [Value.cells] at hcs
    obtain ⟨rfl, rfl, rfl⟩ := hcs
    exact ⟨[], [], Rd.nil _ 1, Rds.nil _⟩
  · simp [Value.cells] at hcs
    obtain ⟨rfl, rfl, rfl⟩ := hcs
    have hlm : l ≤ m := by rw [hmm]; split <;> omega
    have each : ∀ i, i < l → ∃ bs : List UInt8, Rd (hw w) (V i) bs.length 1 (bs.map bV) := by
      intro i hi
      obtain ⟨_, h2⟩ := hx i (by omega)
      have hs : ∃ a l c, V i = .slice a l c := by
        rcases DataW.trod_slice he h2 with ⟨h3, _⟩ | ⟨a, len, cap, _, _, _, _, h3, _⟩
        · exact ⟨_, _, _, by simpa using h3⟩
        · exact ⟨_, _, _, by simpa using h3⟩
      refine open_bytes_rd (enc := enc) (spare := spare) (held := held) (d := D i) (ps := Pl i) he hu hc hs ⟨n, ?_⟩
      obtain ⟨a, l, c, hs⟩ := hs
      rw [hs] at h2 ⊢
      exact h2
    obtain ⟨f, hf'⟩ := choose_lt each
    refine ⟨(List.range l).map f, (List.range l).map V, ?_, ?_⟩
    · have hlen : ((List.range l).map f).length = l := by simp
      rw [hlen]
      refine ⟨by simp, some x, c, rfl, hl, fun e => (by cases e), fun ad had hp => ?_⟩
      simp only [Option.some.injEq] at had
      subst had
      have hspot := spot_of (hx 0 (by omega)).1
      obtain ⟨b, off, spot⟩ := x
      simp only at hspot
      subst hspot
      refine ⟨rfl, fun i u hi => hcell_of_cell ?_⟩
      have hil : i < l := by have := (List.getElem?_eq_some_iff.1 hi).1; simpa using this
      have h1 := (hx i (by omega)).1
      rw [Addr.add_lit] at h1
      rw [h1, ← hi]
      simp [hil]
    · refine ⟨by simp, fun i v l' hv hl' => ?_⟩
      have hil : i < l := by have := (List.getElem?_eq_some_iff.1 hv).1; simpa using this
      simp only [List.getElem?_map, List.getElem?_range hil, Option.map_some, Option.some.injEq] at hv hl'
      subst hv
      subst hl'
      exact hf' i hil
end Go.F
