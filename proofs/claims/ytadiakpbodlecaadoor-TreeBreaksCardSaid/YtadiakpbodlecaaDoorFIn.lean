/- What came in as rows of arrays of bytes, and as rows of rows of bytes. -/
import Derived.Test.YtadiakpbodlecaaDoorFLaid
set_option linter.unusedVariables false
set_option linter.unusedSimpArgs false
set_option maxRecDepth 8192
namespace Go.F
open Go Go.RowKit Go.ChangeShapes Go.WideShapes Go.Deep

theorem spot_of {w : World} {x : Addr} {v : Value} (h : w.cell? (x.add 0) = some v) : x.spot = none := by
  obtain ⟨b, off, spot⟩ := x
  simpa [Addr.add] using World.cell?_spot h

/-- Rows of arrays of bytes that came in. -/
theorem open_hashes {H : Type} {enc : TypeId × Value → H} {P : Program} {w : World} {spare : Nat → Bool} {held : Bool} {t e u : TypeId} {k : Nat} {v : Value} {d : DataW H} {ps : List MemPlace} (ht : P.underlying t = some (.slice e)) (he : P.underlying e = some (.array k u)) (hu : P.underlying u = some (.int .u8)) (hc : P.cellsOf u = 1) (hce : P.cellsOf e = k) (hk : 0 < k)
    (hv : ∃ a l c, v = .slice a l c) (h : DataW.Trod enc P w 0 spare held t v d ps) : ∃ hs : List (List UInt8), RdH (hw w) v k hs := by
  obtain ⟨a, l, c, rfl⟩ := hv
  obtain ⟨fuel, hf⟩ := h
  rcases open_slice ht hf with ⟨hcs, _⟩ | ⟨x, l', c', m, n, D, Pl, hcs, _, hl, _, hmm, _, hx⟩
  · simp [Value.cells] at hcs
    obtain ⟨rfl, rfl, rfl⟩ := hcs
    exact ⟨[], (fun _ h => by cases h), Rd.nil _ k⟩
  · simp [Value.cells] at hcs
    obtain ⟨rfl, rfl, rfl⟩ := hcs
    have hlm : l ≤ m := by rw [hmm]; split <;> omega
    have each : ∀ i, i < l → ∃ bs : List UInt8, bs.length = k ∧ ∀ j, j < k → w.cell? (x.add (i * k + j)) = (bs.map bV)[j]? := by
      intro i hi
      obtain ⟨cs', h1, h2⟩ := hx i (by omega)
      rw [hce] at h1
      obtain ⟨_, hlen, hcell⟩ := World.cells?_some h1
      obtain ⟨xs, m', _, _, hl', hxl, hel⟩ := DataW.trod_array he h2
      obtain ⟨e1, hw1, _⟩ := ints_of hu hc hlen hxl hel
      obtain ⟨bs, hbs⟩ := bytes_of _ hw1
      rw [e1, hbs] at hcell hlen
      refine ⟨bs, by simpa using hlen, fun j hj => ?_⟩
      rw [← hcell j hj, add_add]
    obtain ⟨f, hf'⟩ := choose_lt each
    have hget : ∀ q, q < l → ((List.range l).map f)[q]? = some (f q) := fun q hq => by simp [hq]
    have hall : ∀ h ∈ (List.range l).map f, h.length = k := by
      intro h hh
      obtain ⟨i, hi, rfl⟩ := List.mem_map.1 hh
      exact (hf' i (List.mem_range.1 hi)).1
    have hlen : ((List.range l).map f).length = l := by simp
    refine ⟨(List.range l).map f, hall, ?_⟩
    have hcl := hcells_len hall
    rw [hlen] at hcl
    rw [hlen]
    refine ⟨hcl, some x, c, rfl, hl, fun e => (by cases e), fun ad had hp => ?_⟩
    simp only [Option.some.injEq] at had
    subst had
    have h0 := (hf' 0 hp).2 0 hk
    rw [Nat.zero_mul] at h0
    have hb0 : ((f 0).map bV)[0]? = some (bV ((f 0).getD 0 0)) := by
      have := (hf' 0 hp).1
      rw [List.getElem?_map, List.getD_eq_getElem?_getD, List.getElem?_eq_getElem (by omega)]; rfl
    have hspot := spot_of (h0.trans hb0)
    obtain ⟨b, off, spot⟩ := x
    simp only at hspot
    subst hspot
    refine ⟨rfl, fun i u hi => hcell_of_cell ?_⟩
    have hik : i < l * k := by rw [← hcl]; exact (List.getElem?_eq_some_iff.1 hi).1
    have hq : i / k < l := Nat.div_lt_of_lt_mul (by rwa [Nat.mul_comm])
    have hj : i % k < k := Nat.mod_lt _ hk
    have hd : i / k * k + i % k = i := by rw [Nat.mul_comm]; exact Nat.div_add_mod i k
    have h1 := (hf' (i / k) hq).2 (i % k) hj
    rw [hd, Addr.add_lit] at h1
    have hlk := (hf' (i / k) hq).1
    have hu' : ((f (i / k)).map bV)[i % k]? = some (bV ((f (i / k)).getD (i % k) 0)) := by
      rw [List.getElem?_map, List.getD_eq_getElem?_getD, List.getElem?_eq_getElem (by omega)]; rfl
    have h2 := hcells_at hall (i / k) _ (hget _ hq) (i % k) _ hu'
    rw [hd, hi] at h2
    rw [h1, hu', h2]

/-- Rows of rows of bytes that came in. -/
theorem open_strings {H : Type} {enc : TypeId × Value → H} {P : Program} {w : World} {spare : Nat → Bool} {held : Bool} {t e u : TypeId} {v : Value} {d : DataW H} {ps : List MemPlace} (ht : P.underlying t = some (.slice e)) (he : P.underlying e = some (.slice u)) (hu : P.underlying u = some (.int .u8)) (hc : P.cellsOf u = 1) (hce : P.cellsOf e = 1)
    (hv : ∃ a l c, v = .slice a l c) (h : DataW.Trod enc P w 0 spare held t v d ps) : ∃ ls : List (List UInt8), RdL (hw w) v ls := by
  obtain ⟨a, l, c, rfl⟩ := hv
  obtain ⟨fuel, hf⟩ := h
  rcases open_slice1 ht hce hf with ⟨hcs, _⟩ | ⟨x, l', c', m, n, V, D, Pl, hcs, _, hl, _, hmm, _, hx⟩
  · simp [Value.cells] at hcs
    obtain ⟨rfl, rfl, rfl⟩ := hcs
    exact ⟨[], [], Rd.nil _ 1, Rds.nil _⟩
  · simp [Value.cells] at hcs
    obtain ⟨rfl, rfl, rfl⟩ := hcs
    have hlm : l ≤ m := by rw [hmm]; split <;> omega
    have each : ∀ i, i < l → ∃ bs : List UInt8, Rd (hw w) (V i) bs.length 1 (bs.map bV) := by
      intro i hi
      obtain ⟨_, h2⟩ := hx i (by omega)
      have hs : ∃ a l c, V i = .slice a l c := by
        rcases DataW.trod_slice he h2 with ⟨h3, _⟩ | ⟨a, len, cap, _, _, _, _, h3, _⟩
        · exact ⟨_, _, _, by simpa using h3⟩
        · exact ⟨_, _, _, by simpa using h3⟩
      refine open_bytes_rd (enc := enc) (spare := spare) (held := held) (d := D i) (ps := Pl i) he hu hc hs ⟨n, ?_⟩
      obtain ⟨a, l, c, hs⟩ := hs
      rw [hs] at h2 ⊢
      exact h2
    obtain ⟨f, hf'⟩ := choose_lt each
    refine ⟨(List.range l).map f, (List.range l).map V, ?_, ?_⟩
    · have hlen : ((List.range l).map f).length = l := by simp
      rw [hlen]
      refine ⟨by simp, some x, c, rfl, hl, fun e => (by cases e), fun ad had hp => ?_⟩
      simp only [Option.some.injEq] at had
      subst had
      have hspot := spot_of (hx 0 (by omega)).1
      obtain ⟨b, off, spot⟩ := x
      simp only at hspot
      subst hspot
      refine ⟨rfl, fun i u hi => hcell_of_cell ?_⟩
      have hil : i < l := by have := (List.getElem?_eq_some_iff.1 hi).1; simpa using this
      have h1 := (hx i (by omega)).1
      rw [Addr.add_lit] at h1
      rw [h1, ← hi]
      simp [hil]
    · refine ⟨by simp, fun i v l' hv hl' => ?_⟩
      have hil : i < l := by have := (List.getElem?_eq_some_iff.1 hv).1; simpa using this
      simp only [List.getElem?_map, List.getElem?_range hil, Option.map_some, Option.some.injEq] at hv hl'
      subst hv
      subst hl'
      exact hf' i hil
end Go.F
