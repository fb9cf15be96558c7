/- A struct of two numbers and two rows of hashes that came in. -/
import Derived.Test.YtmjmjjkigblbgaaDoorFLaidAll
set_option linter.unusedVariables false
set_option linter.unusedSimpArgs false
set_option maxRecDepth 8192
namespace Go.F
open Go Go.RowKit Go.ChangeShapes Go.WideShapes Go.Deep
theorem open_sig {H : Type} {enc : TypeId × Value → H} {P : Program} {w : World} {spare : Nat → Bool} {held : Bool} {t e u : TypeId} {f0 f1 f2 f3 : Field} {v : Value} {d : DataW H} {ps : List MemPlace}
    (ht : P.underlying t = some (.struct #[f0, f1, f2, f3])) (hct : P.cellsOf t = 4) (o0 : f0.offset = 0) (o1 : f1.offset = 1) (o2 : f2.offset = 2) (o3 : f3.offset = 3)
    (k0 : P.cellsOf f0.type = 1) (k1 : P.cellsOf f1.type = 1) (k2 : P.cellsOf f2.type = 1) (k3 : P.cellsOf f3.type = 1)
    (u0 : P.underlying f0.type = some (.int .i64)) (u1 : P.underlying f1.type = some (.int .i64)) (u2 : P.underlying f2.type = some (.slice e)) (u3 : P.underlying f3.type = some (.slice e))
    (he : P.underlying e = some (.array 32 u)) (hu : P.underlying u = some (.int .u8)) (hc : P.cellsOf u = 1) (hce : P.cellsOf e = 32)
    (hv : ∃ cs, v = .agg cs ∧ cs.size = P.cellsOf t) (h : DataW.Trod enc P w 0 spare held t v d ps) :
    ∃ (sh sl : Int) (a1 : Option Addr) (n1 c1 : Nat) (a2 : Option Addr) (n2 c2 : Nat) (x y : List (List UInt8)), v = .agg #[.int .i64 sh, .int .i64 sl, .slice a1 n1 c1, .slice a2 n2 c2] ∧
      (-9223372036854775808 ≤ sh ∧ sh ≤ 9223372036854775807) ∧ (-9223372036854775808 ≤ sl ∧ sl ≤ 9223372036854775807) ∧ RdH (hw w) (.slice a1 n1 c1) 32 x ∧ RdH (hw w) (.slice a2 n2 c2) 32 y := by
  obtain ⟨⟨l⟩, rfl, hsz⟩ := hv
  obtain ⟨fuel, hf⟩ := h
  obtain ⟨xs, n, _, _, hl, hxs, hfi⟩ := DataW.trod_struct ht hf
  have hl4 : l.length = 4 := by rw [hct] at hl; simpa [Value.cells] using hl
  match l, hl4, xs, hxs with
  | [c0, c1, c2, c3], _, [x0, x1, x2, x3], _ =>
    have g0 := hfi 0 f0 rfl
    have g1 := hfi 1 f1 rfl
    have g2 := hfi 2 f2 rfl
    have g3 := hfi 3 f3 rfl
    rw [o0, k0] at g0
    rw [o1, k1] at g1
    rw [o2, k2] at g2
    rw [o3, k3] at g3
    simp [Value.cells] at g0 g1 g2 g3
    obtain ⟨z0, e0, _, w0⟩ := DataW.trod_int u0 g0
    obtain ⟨z1, e1, _, w1⟩ := DataW.trod_int u1 g1
    obtain ⟨a1, m1, q1, e2⟩ : ∃ a l c, c2 = .slice a l c := by
      rcases DataW.trod_slice u2 g2 with ⟨h, _⟩ | ⟨a, l, c, _, _, _, _, h, _⟩
      · simp at h; exact ⟨_, _, _, h⟩
      · simp at h; exact ⟨_, _, _, h⟩
    obtain ⟨a2, m2, q2, e3⟩ : ∃ a l c, c3 = .slice a l c := by
      rcases DataW.trod_slice u3 g3 with ⟨h, _⟩ | ⟨a, l, c, _, _, _, _, h, _⟩
      · simp at h; exact ⟨_, _, _, h⟩
      · simp at h; exact ⟨_, _, _, h⟩
    simp at e0 e1
    subst e0; subst e1; subst e2; subst e3
    obtain ⟨x, r1⟩ := open_hashes (d := x2.1) (ps := x2.2) u2 he hu hc hce (by decide) ⟨_, _, _, rfl⟩ ⟨n, g2⟩
    obtain ⟨y, r2⟩ := open_hashes (d := x3.1) (ps := x3.2) u3 he hu hc hce (by decide) ⟨_, _, _, rfl⟩ ⟨n, g3⟩
    exact ⟨z0, z1, a1, m1, q1, a2, m2, q2, x, y, rfl, wf_i64 w0, wf_i64 w1, r1, r2⟩
end Go.F
