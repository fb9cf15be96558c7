/- A struct of four numbers and two arrays of bytes that came in. -/
import Derived.Test.YtmjmjjkigblbgaaDoorFOpenS
import Derived.Test.YtmjmjjkigblbgaaDoorFQuad
set_option linter.unusedVariables false
set_option linter.unusedSimpArgs false
set_option maxRecDepth 8192
namespace Go.F
open Go Go.RowKit Go.ChangeShapes Go.WideShapes Go.Deep
section
variable {H : Type} {enc : TypeId × Value → H} {P : Program} {w : World} {spare : Nat → Bool} {held : Bool} {n : Nat} {ft e : TypeId} {l : List Value} {x : DataW H × List MemPlace}
theorem part_int (hu : P.underlying ft = some (.int .i64)) (g : DataW.trod enc P w 0 spare held n ft l = some x) : ∃ z : Int, l = [.int .i64 z] ∧ -9223372036854775808 ≤ z ∧ z ≤ 9223372036854775807 := by
  obtain ⟨z, e0, _, w0⟩ := DataW.trod_int hu g
  exact ⟨z, e0, wf_i64 w0⟩
theorem part_arr {m : Nat} (hu : P.underlying ft = some (.array m e)) (he : P.underlying e = some (.int .u8)) (hce : P.cellsOf e = 1) (hct : P.cellsOf ft = m) (g : DataW.trod enc P w 0 spare held n ft l = some x) : ∃ bs : List UInt8, bs.length = m ∧ l = bs.map bV := by
  obtain ⟨xs, m', _, hx, hl, hxl, hel⟩ := DataW.trod_array hu g
  obtain ⟨h1, hw, _⟩ := ints_of he hce (by rw [hl, hct]) hxl hel
  obtain ⟨bs, hbs⟩ := bytes_of _ hw
  have hcs : l = bs.map bV := by rw [h1, hbs]
  refine ⟨bs, ?_, hcs⟩
  have := congrArg List.length hcs
  rw [List.length_map] at this
  omega
end
theorem open_q {H : Type} {enc : TypeId × Value → H} {P : Program} {w : World} {spare : Nat → Bool} {held : Bool} {t e : TypeId} {f0 f1 f2 f3 f4 f5 : Field} {m k : Nat} {v : Value} {d : DataW H} {ps : List MemPlace}
    (ht : P.underlying t = some (.struct #[f0, f1, f2, f3, f4, f5])) (hct : P.cellsOf t = 4 + (m + k)) (o0 : f0.offset = 0) (o1 : f1.offset = 1) (o2 : f2.offset = 2) (o3 : f3.offset = 3) (o4 : f4.offset = 4) (o5 : f5.offset = 4 + m)
    (k0 : P.cellsOf f0.type = 1) (k1 : P.cellsOf f1.type = 1) (k2 : P.cellsOf f2.type = 1) (k3 : P.cellsOf f3.type = 1) (k4 : P.cellsOf f4.type = m) (k5 : P.cellsOf f5.type = k)
    (u0 : P.underlying f0.type = some (.int .i64)) (u1 : P.underlying f1.type = some (.int .i64)) (u2 : P.underlying f2.type = some (.int .i64)) (u3 : P.underlying f3.type = some (.int .i64))
    (u4 : P.underlying f4.type = some (.array m e)) (u5 : P.underlying f5.type = some (.array k e)) (he : P.underlying e = some (.int .u8)) (hce : P.cellsOf e = 1)
    (hv : ∃ cs, v = .agg cs ∧ cs.size = P.cellsOf t) (h : DataW.Trod enc P w 0 spare held t v d ps) :
    ∃ (a b c q : Int) (s r : List UInt8), v = qV a b c q s r ∧ s.length = m ∧ r.length = k ∧ (-9223372036854775808 ≤ a ∧ a ≤ 9223372036854775807) ∧ (-9223372036854775808 ≤ b ∧ b ≤ 9223372036854775807) ∧ (-9223372036854775808 ≤ c ∧ c ≤ 9223372036854775807) ∧ (-9223372036854775808 ≤ q ∧ q ≤ 9223372036854775807) := by
  obtain ⟨⟨l⟩, rfl, hsz⟩ := hv
  obtain ⟨fuel, hf⟩ := h
  obtain ⟨xs, n, _, _, hl, hxs, hfi⟩ := DataW.trod_struct ht hf
  have hl4 : l.length = 4 + (m + k) := by rw [hct] at hl; simpa [Value.cells] using hl
  obtain ⟨c0, c1, c2, c3, r, rfl⟩ : ∃ c0 c1 c2 c3 r, l = c0 :: c1 :: c2 :: c3 :: r := by
    match l, hl4 with
    | c0 :: c1 :: c2 :: c3 :: r, _ => exact ⟨c0, c1, c2, c3, r, rfl⟩
    | [], h => simp at h; omega
    | [_], h => simp at h; omega
    | [_, _], h => simp at h; omega
    | [_, _, _], h => simp at h; omega
  match xs, hxs with
  | [x0, x1, x2, x3, x4, x5], _ =>
    have g0 := hfi 0 f0 rfl
    have g1 := hfi 1 f1 rfl
    have g2 := hfi 2 f2 rfl
    have g3 := hfi 3 f3 rfl
    have g4 := hfi 4 f4 rfl
    have g5 := hfi 5 f5 rfl
    rw [o0, k0] at g0
    rw [o1, k1] at g1
    rw [o2, k2] at g2
    rw [o3, k3] at g3
    rw [o4, k4] at g4
    rw [o5, k5] at g5
    have e4 : ((Value.agg ⟨c0 :: c1 :: c2 :: c3 :: r⟩).cells.toList.drop 4).take m = r.take m := rfl
    have e5 : ((Value.agg ⟨c0 :: c1 :: c2 :: c3 :: r⟩).cells.toList.drop (4 + m)).take k = (r.drop m).take k := by
      show ((c0 :: c1 :: c2 :: c3 :: r).drop (4 + m)).take k = _
      rw [Nat.add_comm 4 m]; rfl
    rw [e4] at g4
    rw [e5] at g5
    obtain ⟨a, ea, ha⟩ := part_int u0 g0
    obtain ⟨b, eb, hb⟩ := part_int u1 g1
    obtain ⟨c, ec, hc⟩ := part_int u2 g2
    obtain ⟨q, eq, hq⟩ := part_int u3 g3
    obtain ⟨s, hs, es⟩ := part_arr u4 he hce k4 g4
    obtain ⟨y, hy, ey⟩ := part_arr u5 he hce k5 g5
    have ea : [c0] = [Value.int .i64 a] := ea
    have eb : [c1] = [Value.int .i64 b] := eb
    have ec : [c2] = [Value.int .i64 c] := ec
    have eq : [c3] = [Value.int .i64 q] := eq
    have hrl : r.length = m + k := by simp at hl4; omega
    have hr : r = s.map bV ++ y.map bV := by
      rw [← es, ← ey, List.take_of_length_le (l := r.drop m) (by rw [List.length_drop]; omega), List.take_append_drop]
    refine ⟨a, b, c, q, s, y, ?_, hs, hy, ha, hb, hc, hq⟩
    rw [(List.cons.inj ea).1, (List.cons.inj eb).1, (List.cons.inj ec).1, (List.cons.inj eq).1, hr]
    rfl
theorem slice_of {H : Type} {enc : TypeId × Value → H} {P : Program} {w : World} {spare : Nat → Bool} {held : Bool} {t e : TypeId} {n : Nat} {c : Value} {x : DataW H × List MemPlace} (ht : P.underlying t = some (.slice e)) (g : DataW.trod enc P w 0 spare held n t [c] = some x) : ∃ a l q, c = .slice a l q := by
  rcases DataW.trod_slice ht g with ⟨h, _⟩ | ⟨a, l, q, _, _, _, _, h, _⟩
  · simp at h; exact ⟨_, _, _, h⟩
  · simp at h; exact ⟨_, _, _, h⟩
end Go.F
