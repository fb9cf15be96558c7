/- General lemmas for walking the code, or plain mathematics. -/
import Derived.Test.YtmjmjjkigblbgaaGreatDoorFBase
import Derived.WalkKit
import Derived.ProofKit
import Derived.OpenShut
import Derived.ShutString
import Derived.ChangeOld
import Derived.Below
import Derived.Test.YtmjmjjkigblbgaaGreatDoorFRest
import Derived.LaidMore
import Derived.Stop.Joined
import Derived.Deep.Slices
set_option linter.unusedVariables false
set_option linter.unusedSimpArgs false
set_option maxRecDepth 8192
namespace Go.F
open Go Go.RowKit Go.ChangeShapes

theorem hcell_of_cell {w : World} {b o : Nat} {v : Value} (h : w.cell? ⟨b, o, none⟩ = some v) : hcell (hw w) b o = some v := by
  unfold World.cell? at h
  unfold hcell hw
  split at h
  · rename_i c t f hb
    simp only [] at hb
    rw [hb]
    simpa using h
  all_goals simp_all

theorem wf_u8 {z : Int} (h : (Lit.int .u8 z).wf = true) : ∃ b : UInt8, z = (b.toNat : Int) := by
  have hx : 0 ≤ z ∧ z ≤ 255 := by simpa [Lit.wf, IntKind.min, IntKind.max, IntKind.signed, IntKind.bits] using h
  exact ⟨UInt8.ofNat z.toNat, by rw [UInt8.toNat_ofNat']; omega⟩
theorem wf_i64 {z : Int} (h : (Lit.int .i64 z).wf = true) : -9223372036854775808 ≤ z ∧ z ≤ 9223372036854775807 := by
  simpa [Lit.wf, IntKind.min, IntKind.max, IntKind.signed, IntKind.bits] using h

theorem bytes_of : ∀ (zs : List Int), (∀ n ∈ zs, (Lit.int .u8 n).wf = true) → ∃ bs : List UInt8, zs.map (Value.int .u8) = bs.map bV
  | [], _ => ⟨[], rfl⟩
  | z :: zs, h => by
    obtain ⟨b, hb⟩ := wf_u8 (h z (by simp))
    obtain ⟨bs, hbs⟩ := bytes_of zs fun n hn => h n (by simp [hn])
    exact ⟨b :: bs, by simp [hbs, hb, bV]⟩

theorem open_ints_rd {H : Type} {enc : TypeId × Value → H} {P : Program} {w : World} {spare : Nat → Bool} {held : Bool} {t e : TypeId} {k : IntKind} {v : Value} {d : DataW H} {ps : List MemPlace} (ht : P.underlying t = some (.slice e)) (he : P.underlying e = some (.int k)) (hc : P.cellsOf e = 1)
    (hv : ∃ a l c, v = .slice a l c) (h : DataW.Trod enc P w 0 spare held t v d ps) : ∃ zs : List Int, Rd (hw w) v zs.length 1 (zs.map (Value.int k)) ∧ ∀ n ∈ zs, (Lit.int k n).wf = true := by
  obtain ⟨a, l, c, rfl⟩ := hv
  obtain ⟨fuel, hf⟩ := h
  rcases open_ints ht he hc hf with ⟨hcs, _⟩ | ⟨x, l', c', zs, hcs, _, hl, hm, hz, _, hcell, hwz⟩
  · simp [Value.cells] at hcs
    obtain ⟨rfl, rfl, rfl⟩ := hcs
    exact ⟨[], Rd.nil _ 1, by simp⟩
  · simp [Value.cells] at hcs
    obtain ⟨rfl, rfl, rfl⟩ := hcs
    have hlz : l ≤ zs.length := by rw [hz]; split <;> omega
    refine ⟨zs.take l, ?_, fun n hn => hwz n (List.mem_of_mem_take hn)⟩
    have hlt : (zs.take l).length = l := by rw [List.length_take]; omega
    rw [hlt]
    refine ⟨by simp; omega, some x, c, rfl, hl, fun e => (by cases e), fun ad had hp => ?_⟩
    simp only [Option.some.injEq] at had
    subst had
    have hc0 := hcell 0 (by omega)
    obtain ⟨b, off, spot⟩ := x
    have hspot : spot = none := by simpa [Addr.add] using World.cell?_spot hc0
    subst hspot
    refine ⟨rfl, fun i u hi => hcell_of_cell ?_⟩
    rw [List.getElem?_map, List.getElem?_take] at hi
    split at hi
    · rename_i hil
      have h1 := hcell i (by omega)
      rw [Addr.add_lit] at h1
      rw [h1, ← hi, List.getD_eq_getElem?_getD, List.getElem?_eq_getElem (by omega)]
      rfl
    · cases hi

theorem open_bytes_rd {H : Type} {enc : TypeId × Value → H} {P : Program} {w : World} {spare : Nat → Bool} {held : Bool} {t e : TypeId} {v : Value} {d : DataW H} {ps : List MemPlace} (ht : P.underlying t = some (.slice e)) (he : P.underlying e = some (.int .u8)) (hc : P.cellsOf e = 1)
    (hv : ∃ a l c, v = .slice a l c) (h : DataW.Trod enc P w 0 spare held t v d ps) : ∃ bs : List UInt8, Rd (hw w) v bs.length 1 (bs.map bV) := by
  obtain ⟨zs, hr, hwf⟩ := open_ints_rd ht he hc hv h
  obtain ⟨bs, hbs⟩ := bytes_of zs hwf
  have hl : zs.length = bs.length := by simpa using congrArg List.length hbs
  exact ⟨bs, by rw [← hbs, ← hl]; exact hr⟩

end Go.F

namespace Go.F
open Go Go.RowKit Go.ChangeShapes Go.WideShapes

def unInt : Value → Int
  | .int _ z => z
  | _ => 0

theorem ints_of {H : Type} {enc : TypeId × Value → H} {P : Program} {w : World} {base : Nat} {spare : Nat → Bool} {held : Bool} {e : TypeId} {k : IntKind} {n m : Nat} {cs : List Value} {xs : List (DataW H × List MemPlace)} (he : P.underlying e = some (.int k)) (hc : P.cellsOf e = 1)
    (hl : cs.length = n) (hx : xs.length = n) (hel : ∀ (i : Nat), i < n → DataW.trod enc P w base spare held m e ((cs.drop (i * P.cellsOf e)).take (P.cellsOf e)) = xs[i]?) :
    cs = (cs.map unInt).map (Value.int k) ∧ (∀ z ∈ cs.map unInt, (Lit.int k z).wf = true) ∧ xs.map (·.1) = (cs.map unInt).map fun z => .lit (.int k z) := by
  have key : ∀ i (hi : i < n), ∃ z, cs[i]? = some (.int k z) ∧ xs[i]? = some (.lit (.int k z), []) ∧ (Lit.int k z).wf = true := by
    intro i hi
    have h := hel i hi
    rw [hc, Nat.mul_one] at h
    obtain ⟨x, hx'⟩ : ∃ x, xs[i]? = some x := ⟨xs[i]'(by omega), List.getElem?_eq_getElem (by omega)⟩
    rw [hx'] at h
    obtain ⟨z, h1, h2, h3⟩ := DataW.trod_int he h
    refine ⟨z, ?_, by rw [hx', h2], h3⟩
    have hci : cs[i]? = some (cs[i]'(by omega)) := List.getElem?_eq_getElem (by omega)
    rw [List.drop_eq_getElem_cons (by omega), List.take_succ_cons, List.take_zero] at h1
    simp only [List.cons.injEq, and_true] at h1
    rw [hci, h1]
  refine ⟨?_, ?_, ?_⟩
  · apply List.ext_getElem?
    intro i
    rcases Nat.lt_or_ge i n with hi | hi
    · obtain ⟨z, h1, _, _⟩ := key i hi
      simp [h1, unInt]
    · rw [List.getElem?_eq_none (by omega), List.getElem?_eq_none (by simp; omega)]
  · intro z hz
    obtain ⟨v, hv, rfl⟩ := List.mem_map.1 hz
    obtain ⟨i, hi, hv'⟩ := List.getElem_of_mem hv
    obtain ⟨z, h1, _, h3⟩ := key i (by omega)
    rw [List.getElem?_eq_getElem hi, hv'] at h1
    simp only [Option.some.injEq] at h1
    subst h1
    exact h3
  · apply List.ext_getElem?
    intro i
    rcases Nat.lt_or_ge i n with hi | hi
    · obtain ⟨z, h1, h2, _⟩ := key i hi
      simp [h1, h2, unInt]
    · rw [List.getElem?_eq_none (by simp; omega), List.getElem?_eq_none (by simp; omega)]

theorem laid_ints {H : Type} {enc : TypeId × Value → H} {P : Program} {w : World} {base : Nat} {spare : Nat → Bool} {held : Bool} {t e : TypeId} {k : IntKind} {n fuel : Nat} {cs : List Value} {zs : List Int} {p : List MemPlace} (ht : P.underlying t = some (.array n e)) (he : P.underlying e = some (.int k)) (hc : P.cellsOf e = 1) (hct : P.cellsOf t = n)
    (h : DataW.trod enc P w base spare held fuel t cs = some (.agg (zs.map fun z => .lit (.int k z)), p)) : cs = zs.map (Value.int k) := by
  obtain ⟨xs, m, _, hx, hl, hxl, hel⟩ := DataW.trod_array ht h
  obtain ⟨h1, _, h3⟩ := ints_of he hc (by rw [hl, hct]) hxl hel
  simp only [Prod.mk.injEq, DataW.agg.injEq] at hx
  rw [← hx.1] at h3
  have h4 : zs = cs.map unInt := by
    have := congrArg (List.map fun d : DataW H => match d with | .lit (.int _ z) => z | _ => 0) h3
    simpa [Function.comp_def] using this
  rw [h1, ← h4]

theorem open_hash {H : Type} {enc : TypeId × Value → H} {P : Program} {w : World} {r : Reach} {b0 base : Nat} {spare : Nat → Bool} {held : Bool} {t e : TypeId} {n : Nat} {v : Value} {d : DataW H} {ps : List MemPlace} (ht : P.underlying t = some (.array n e)) (he : P.underlying e = some (.int .u8)) (hc : P.cellsOf e = 1) (hct : P.cellsOf t = n)
    (hv : Value.okWide P w r b0 t v) (h : DataW.Trod enc P w base spare held t v d ps) : ∃ bs : List UInt8, bs.length = n ∧ v = hV bs := by
  simp only [Value.okWide, ht] at hv
  obtain ⟨cs, rfl, h2, _⟩ := hv
  obtain ⟨fuel, hf⟩ := h
  obtain ⟨xs, m, _, hx, hl, hxl, hel⟩ := DataW.trod_array ht hf
  obtain ⟨h1, hw, _⟩ := ints_of he hc (by rw [hl, hct]) hxl hel
  obtain ⟨bs, hbs⟩ := bytes_of _ hw
  have hcs : cs.toList = bs.map bV := by
    have : (Value.agg cs).cells.toList = cs.toList := rfl
    rw [← this, h1, hbs]
  refine ⟨bs, ?_, ?_⟩
  · have := congrArg List.length hcs
    simp at this
    rw [← this, h2, hct]
  · rw [hV, ← hcs]

end Go.F

namespace Go.F
open Go Go.RowKit Go.ChangeShapes Go.WideShapes Go.Deep

theorem spot_of {w : World} {x : Addr} {v : Value} (h : w.cell? (x.add 0) = some v) : x.spot = none := by
  obtain ⟨b, off, spot⟩ := x
  simpa [Addr.add] using World.cell?_spot h

theorem open_hashes {H : Type} {enc : TypeId × Value → H} {P : Program} {w : World} {spare : Nat → Bool} {held : Bool} {t e u : TypeId} {k : Nat} {v : Value} {d : DataW H} {ps : List MemPlace} (ht : P.underlying t = some (.slice e)) (he : P.underlying e = some (.array k u)) (hu : P.underlying u = some (.int .u8)) (hc : P.cellsOf u = 1) (hce : P.cellsOf e = k) (hk : 0 < k)
    (hv : ∃ a l c, v = .slice a l c) (h : DataW.Trod enc P w 0 spare held t v d ps) : ∃ hs : List (List UInt8), RdH (hw w) v k hs := by
  obtain ⟨a, l, c, rfl⟩ := hv
  obtain ⟨fuel, hf⟩ := h
  rcases open_slice ht hf with ⟨hcs, _⟩ | ⟨x, l', c', m, n, D, Pl, hcs, _, hl, _, hmm, _, hx⟩
  · simp [Value.cells] at hcs
    obtain ⟨rfl, rfl, rfl⟩ := hcs
    exact ⟨[], (fun _ h => by cases h), Rd.nil _ k⟩
  · simp [Value.cells] at hcs
    obtain ⟨rfl, rfl, rfl⟩ := hcs
    have hlm : l ≤ m := by rw [hmm]; split <;> omega
    have each : ∀ i, i < l → ∃ bs : List UInt8, bs.length = k ∧ ∀ j, j < k → w.cell? (x.add (i * k + j)) = (bs.map bV)[j]? := by
      intro i hi
      obtain ⟨cs', h1, h2⟩ := hx i (by omega)
      rw [hce] at h1
      obtain ⟨_, hlen, hcell⟩ := World.cells?_some h1
      obtain ⟨xs, m', _, _, hl', hxl, hel⟩ := DataW.trod_array he h2
      obtain ⟨e1, hw1, _⟩ := ints_of hu hc hlen hxl hel
      obtain ⟨bs, hbs⟩ := bytes_of _ hw1
      rw [e1, hbs] at hcell hlen
      refine ⟨bs, by simpa using hlen, fun j hj => ?_⟩
      rw [← hcell j hj, add_add]
    obtain ⟨f, hf'⟩ := choose_lt each
    have hget : ∀ q, q < l → ((List.range l).map f)[q]? = some (f q) := fun q hq => by simp [hq]
    have hall : ∀ h ∈ (List.range l).map f, h.length = k := by
      intro h hh
      obtain ⟨i, hi, rfl⟩ := List.mem_map.1 hh
      exact (hf' i (List.mem_range.1 hi)).1
    have hlen : ((List.range l).map f).length = l := by simp
    refine ⟨(List.range l).map f, hall, ?_⟩
    have hcl := hcells_len hall
    rw [hlen] at hcl
    rw [hlen]
    refine ⟨hcl, some x, c, rfl, hl, fun e => (by cases e), fun ad had hp => ?_⟩
    simp only [Option.some.injEq] at had
    subst had
    have h0 := (hf' 0 hp).2 0 hk
    rw [Nat.zero_mul] at h0
    have hb0 : ((f 0).map bV)[0]? = some (bV ((f 0).getD 0 0)) := by
      have := (hf' 0 hp).1
      rw [List.getElem?_map, List.getD_eq_getElem?_getD, List.getElem?_eq_getElem (by omega)]; rfl
    have hspot := spot_of (h0.trans hb0)
    obtain ⟨b, off, spot⟩ := x
    simp only at hspot
    subst hspot
    refine ⟨rfl, fun i u hi => hcell_of_cell ?_⟩
    have hik : i < l * k := by rw [← hcl]; exact (List.getElem?_eq_some_iff.1 hi).1
    have hq : i / k < l := Nat.div_lt_of_lt_mul (by rwa [Nat.mul_comm])
    have hj : i % k < k := Nat.mod_lt _ hk
    have hd : i / k * k + i % k = i := by rw [Nat.mul_comm]; exact Nat.div_add_mod i k
    have h1 := (hf' (i / k) hq).2 (i % k) hj
    rw [hd, Addr.add_lit] at h1
    have hlk := (hf' (i / k) hq).1
    have hu' : ((f (i / k)).map bV)[i % k]? = some (bV ((f (i / k)).getD (i % k) 0)) := by
      rw [List.getElem?_map, List.getD_eq_getElem?_getD, List.getElem?_eq_getElem (by omega)]; rfl
    have h2 := hcells_at hall (i / k) _ (hget _ hq) (i % k) _ hu'
    rw [hd, hi] at h2
    rw [h1, hu', h2]

theorem open_strings {H : Type} {enc : TypeId × Value → H} {P : Program} {w : World} {spare : Nat → Bool} {held : Bool} {t e u : TypeId} {v : Value} {d : DataW H} {ps : List MemPlace} (ht : P.underlying t = some (.slice e)) (he : P.underlying e = some (.slice u)) (hu : P.underlying u = some (.int .u8)) (hc : P.cellsOf u = 1) (hce : P.cellsOf e = 1)
    (hv : ∃ a l c, v = .slice a l c) (h : DataW.Trod enc P w 0 spare held t v d ps) : ∃ ls : List (List UInt8), RdL (hw w) v ls := by
  obtain ⟨a, l, c, rfl⟩ := hv
  obtain ⟨fuel, hf⟩ := h
  rcases open_slice1 ht hce hf with ⟨hcs, _⟩ | ⟨x, l', c', m, n, V, D, Pl, hcs, _, hl, _, hmm, _, hx⟩
  · simp [Value.cells] at hcs
    obtain ⟨rfl, rfl, rfl⟩ := hcs
    exact ⟨[], [], Rd.nil _ 1, Rds.nil _⟩
  · simp [Value.cells] at hcs
    obtain ⟨rfl, rfl, rfl⟩ := hcs
    have hlm : l ≤ m := by rw [hmm]; split <;> omega
    have each : ∀ i, i < l → ∃ bs : List UInt8, Rd (hw w) (V i) bs.length 1 (bs.map bV) := by
      intro i hi
      obtain ⟨_, h2⟩ := hx i (by omega)
      have hs : ∃ a l c, V i = .slice a l c := by
        rcases DataW.trod_slice he h2 with ⟨h3, _⟩ | ⟨a, len, cap, _, _, _, _, h3, _⟩
        · exact ⟨_, _, _, by simpa using h3⟩
        · exact ⟨_, _, _, by simpa using h3⟩
      refine open_bytes_rd (enc := enc) (spare := spare) (held := held) (d := D i) (ps := Pl i) he hu hc hs ⟨n, ?_⟩
      obtain ⟨a, l, c, hs⟩ := hs
      rw [hs] at h2 ⊢
      exact h2
    obtain ⟨f, hf'⟩ := choose_lt each
    refine ⟨(List.range l).map f, (List.range l).map V, ?_, ?_⟩
    · have hlen : ((List.range l).map f).length = l := by simp
      rw [hlen]
      refine ⟨by simp, some x, c, rfl, hl, fun e => (by cases e), fun ad had hp => ?_⟩
      simp only [Option.some.injEq] at had
      subst had
      have hspot := spot_of (hx 0 (by omega)).1
      obtain ⟨b, off, spot⟩ := x
      simp only at hspot
      subst hspot
      refine ⟨rfl, fun i u hi => hcell_of_cell ?_⟩
      have hil : i < l := by have := (List.getElem?_eq_some_iff.1 hi).1; simpa using this
      have h1 := (hx i (by omega)).1
      rw [Addr.add_lit] at h1
      rw [h1, ← hi]
      simp [hil]
    · refine ⟨by simp, fun i v l' hv hl' => ?_⟩
      have hil : i < l := by have := (List.getElem?_eq_some_iff.1 hv).1; simpa using this
      simp only [List.getElem?_map, List.getElem?_range hil, Option.map_some, Option.some.injEq] at hv hl'
      subst hv
      subst hl'
      exact hf' i hil
end Go.F
