/- Pieces and capabilities that came in. -/
import Derived.Test.YtmjmjjkigblbgaaDoorFGen
set_option linter.unusedVariables false
set_option linter.unusedSimpArgs false
set_option maxRecDepth 8192
namespace Go.F
open Go Go.RowKit Go.ChangeShapes Go.WideShapes Go.Deep
section
variable {H : Type} {enc : TypeId × Value → H} {P : Program} {w : World} {spare : Nat → Bool} {held : Bool}
theorem part_len {t : TypeId} {n : Nat} {l : List Value} {x : DataW H × List MemPlace} {fs : Array Field} (ht : P.underlying t = some (.struct fs)) (g : DataW.trod enc P w 0 spare held n t l = some x) : ∃ cs : Array Value, Value.agg l.toArray = .agg cs ∧ cs.size = P.cellsOf t := by
  obtain ⟨xs, m, _, _, hl, _⟩ := DataW.trod_struct ht g
  exact ⟨_, rfl, by simpa using hl⟩
theorem cut5 {l : List Value} {n1 n2 n3 : Nat} : l = l.take 1 ++ ((l.drop 1).take n1 ++ ((l.drop (1 + n1)).take n2 ++ ((l.drop (1 + n1 + n2)).take n3 ++ l.drop (1 + n1 + n2 + n3)))) := by
  rw [← List.drop_drop (i := n3) (j := 1 + n1 + n2), List.take_append_drop, ← List.drop_drop (i := n2) (j := 1 + n1), List.take_append_drop, ← List.drop_drop (i := n1) (j := 1), List.take_append_drop, List.take_append_drop]
/-- A number, a version, a signature, rows of hashes, bytes. -/
theorem open_piece {t t1 t2 e u : TypeId} {f0 f1 f2 f3 f4 : Field} {g0 g1 g2 g3 g4 g5 : Field} {s0 s1 s2 s3 : Field} {v : Value} {d : DataW H} {ps : List MemPlace}
    (ht : P.underlying t = some (.struct #[f0, f1, f2, f3, f4])) (hct : P.cellsOf t = 59) (o0 : f0.offset = 0) (o1 : f1.offset = 1) (o2 : f2.offset = 53) (o3 : f3.offset = 57) (o4 : f4.offset = 58)
    (k0 : P.cellsOf f0.type = 1) (k1 : P.cellsOf f1.type = 52) (k2 : P.cellsOf f2.type = 4) (k3 : P.cellsOf f3.type = 1) (k4 : P.cellsOf f4.type = 1) (e1 : f1.type = t1) (e2 : f2.type = t2)
    (u0 : P.underlying f0.type = some (.int .i64)) (u3 : P.underlying f3.type = some (.slice e)) (u4 : P.underlying f4.type = some (.slice u))
    (hv1 : P.underlying t1 = some (.struct #[g0, g1, g2, g3, g4, g5])) (p0 : g0.offset = 0) (p1 : g1.offset = 1) (p2 : g2.offset = 2) (p3 : g3.offset = 3) (p4 : g4.offset = 4) (p5 : g5.offset = 4 + 16)
    (q0 : P.cellsOf g0.type = 1) (q1 : P.cellsOf g1.type = 1) (q2 : P.cellsOf g2.type = 1) (q3 : P.cellsOf g3.type = 1) (q4 : P.cellsOf g4.type = 16) (q5 : P.cellsOf g5.type = 32)
    (r0 : P.underlying g0.type = some (.int .i64)) (r1 : P.underlying g1.type = some (.int .i64)) (r2 : P.underlying g2.type = some (.int .i64)) (r3 : P.underlying g3.type = some (.int .i64))
    (r4 : P.underlying g4.type = some (.array 16 u)) (r5 : P.underlying g5.type = some (.array 32 u))
    (hv2 : P.underlying t2 = some (.struct #[s0, s1, s2, s3])) (x0 : s0.offset = 0) (x1 : s1.offset = 1) (x2 : s2.offset = 2) (x3 : s3.offset = 3)
    (y0 : P.cellsOf s0.type = 1) (y1 : P.cellsOf s1.type = 1) (y2 : P.cellsOf s2.type = 1) (y3 : P.cellsOf s3.type = 1)
    (z0 : P.underlying s0.type = some (.int .i64)) (z1 : P.underlying s1.type = some (.int .i64)) (z2 : P.underlying s2.type = some (.slice e)) (z3 : P.underlying s3.type = some (.slice e))
    (he : P.underlying e = some (.array 32 u)) (hu : P.underlying u = some (.int .u8)) (hc : P.cellsOf u = 1) (hce : P.cellsOf e = 32)
    (hv : ∃ cs, v = .agg cs ∧ cs.size = P.cellsOf t) (h : DataW.Trod enc P w 0 spare held t v d ps) :
    ∃ (pn a b c q : Int) (s r : List UInt8) (sh sl : Int) (a1 : Option Addr) (n1 c1 : Nat) (a2 : Option Addr) (n2 c2 : Nat) (a3 : Option Addr) (n3 c3 : Nat) (a4 : Option Addr) (n4 c4 : Nat) (X Y Z : List (List UInt8)) (B : List UInt8),
      v = gV [[.int .i64 pn], [.int .i64 a], [.int .i64 b], [.int .i64 c], [.int .i64 q], s.map bV, r.map bV, [.int .i64 sh], [.int .i64 sl], [.slice a1 n1 c1], [.slice a2 n2 c2], [.slice a3 n3 c3], [.slice a4 n4 c4]] ∧ s.length = 16 ∧ r.length = 32 ∧
      (-9223372036854775808 ≤ pn ∧ pn ≤ 9223372036854775807) ∧ (-9223372036854775808 ≤ a ∧ a ≤ 9223372036854775807) ∧ (-9223372036854775808 ≤ b ∧ b ≤ 9223372036854775807) ∧ (-9223372036854775808 ≤ c ∧ c ≤ 9223372036854775807) ∧ (-9223372036854775808 ≤ q ∧ q ≤ 9223372036854775807) ∧
      (-9223372036854775808 ≤ sh ∧ sh ≤ 9223372036854775807) ∧ (-9223372036854775808 ≤ sl ∧ sl ≤ 9223372036854775807) ∧
      RdH (hw w) (.slice a1 n1 c1) 32 X ∧ RdH (hw w) (.slice a2 n2 c2) 32 Y ∧ RdH (hw w) (.slice a3 n3 c3) 32 Z ∧ Rd (hw w) (.slice a4 n4 c4) n4 1 (B.map bV) := by
  subst e1; subst e2
  obtain ⟨⟨l⟩, rfl, hsz⟩ := hv
  obtain ⟨fuel, hf⟩ := h
  obtain ⟨xs, n, _, _, hl, hxs, hfi⟩ := DataW.trod_struct ht hf
  have hl4 : l.length = 59 := by rw [hct] at hl; simpa [Value.cells] using hl
  match xs, hxs with
  | [xa, xb, xc, xd, xe], _ =>
    have j0 := hfi 0 f0 rfl
    have j1 := hfi 1 f1 rfl
    have j2 := hfi 2 f2 rfl
    have j3 := hfi 3 f3 rfl
    have j4 := hfi 4 f4 rfl
    rw [o0, k0] at j0
    rw [o1, k1] at j1
    rw [o2, k2] at j2
    rw [o3, k3] at j3
    rw [o4, k4] at j4
    have j0' : DataW.trod enc P w 0 spare held n f0.type (l.take 1) = some xa := j0
    have j1' : DataW.trod enc P w 0 spare held n f1.type ((l.drop 1).take 52) = some xb := j1
    have j2' : DataW.trod enc P w 0 spare held n f2.type ((l.drop 53).take 4) = some xc := j2
    have j3' : DataW.trod enc P w 0 spare held n f3.type ((l.drop 57).take 1) = some xd := j3
    have j4' : DataW.trod enc P w 0 spare held n f4.type ((l.drop 58).take 1) = some xe := j4
    clear j0 j1 j2 j3 j4
    obtain ⟨pn, ea, ha⟩ := part_int u0 j0'
    obtain ⟨a, b, c, q, s, r, eb, hs, hr, ba, bb, bc, bq⟩ := open_q (d := xb.1) (ps := xb.2) hv1 k1 p0 p1 p2 p3 p4 p5 q0 q1 q2 q3 q4 q5 r0 r1 r2 r3 r4 r5 hu hc (part_len hv1 j1') ⟨n, j1'⟩
    obtain ⟨sh, sl, a1, n1, c1, a2, n2, c2, X, Y, ec, bh, bl, f5, f6⟩ := open_sig (d := xc.1) (ps := xc.2) hv2 k2 x0 x1 x2 x3 y0 y1 y2 y3 z0 z1 z2 z3 he hu hc hce (part_len hv2 j2') ⟨n, j2'⟩
    have lb : (l.drop 1).take 52 = [[Value.int .i64 a], [.int .i64 b], [.int .i64 c], [.int .i64 q], s.map bV, r.map bV].flatten := (congrArg (fun z : Value => z.cells.toList) eb).trans qV_flat.symm
    have lc : (l.drop 53).take 4 = [.int .i64 sh, .int .i64 sl, .slice a1 n1 c1, .slice a2 n2 c2] := congrArg (fun z : Value => z.cells.toList) ec
    have l3 : ((l.drop 57).take 1).length = 1 := by rw [List.length_take, List.length_drop]; omega
    have l4 : (l.drop 58).length = 1 := by rw [List.length_drop]; omega
    obtain ⟨v3, e3⟩ := List.length_eq_one_iff.1 l3
    obtain ⟨v4, e4⟩ := List.length_eq_one_iff.1 l4
    rw [e3] at j3'
    rw [e4] at j4'
    obtain ⟨a3, n3, c3, rfl⟩ := slice_of u3 j3'
    obtain ⟨a4, n4, c4, rfl⟩ := slice_of (c := v4) u4 j4'
    obtain ⟨Z, f7⟩ := open_hashes (v := .slice a3 n3 c3) (d := xd.1) (ps := xd.2) u3 he hu hc hce (by decide) ⟨_, _, _, rfl⟩ ⟨n, j3'⟩
    obtain ⟨B, f8⟩ := open_bytes_rd (v := .slice a4 n4 c4) (d := xe.1) (ps := xe.2) u4 hu hc ⟨_, _, _, rfl⟩ ⟨n, j4'⟩
    have ln : n4 = B.length := by
      obtain ⟨_, a', c', hv, _⟩ := id f8
      cases hv; rfl
    refine ⟨pn, a, b, c, q, s, r, sh, sl, a1, n1, c1, a2, n2, c2, a3, n3, c3, a4, n4, c4, X, Y, Z, B, ?_, hs, hr, ha, ba, bb, bc, bq, bh, bl, f5, f6, f7, by rw [ln] at f8 ⊢; exact f8⟩
    have e := cut5 (l := l) (n1 := 52) (n2 := 4) (n3 := 1)
    rw [ea, lb, lc, e3, e4] at e
    rw [e]
    simp [gV]
end
end Go.F
