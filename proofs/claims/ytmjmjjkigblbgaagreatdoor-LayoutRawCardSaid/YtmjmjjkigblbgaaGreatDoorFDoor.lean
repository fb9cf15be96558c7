/- General lemmas for walking the code, or plain mathematics. -/
import Derived.Test.YtmjmjjkigblbgaaGreatDoorFLaidAll
import Derived.Test.YtmjmjjkigblbgaaGreatDoorFRest
import Derived.Great.FillDense
set_option linter.unusedVariables false
set_option linter.unusedSimpArgs false
set_option maxRecDepth 8192
namespace Go.F
open Go Go.RowKit Go.ChangeShapes Go.WideShapes Go.Deep
theorem open_sig {H : Type} {enc : TypeId × Value → H} {P : Program} {w : World} {spare : Nat → Bool} {held : Bool} {t e u : TypeId} {f0 f1 f2 f3 : Field} {v : Value} {d : DataW H} {ps : List MemPlace}
    (ht : P.underlying t = some (.struct #[f0, f1, f2, f3])) (hct : P.cellsOf t = 4) (o0 : f0.offset = 0) (o1 : f1.offset = 1) (o2 : f2.offset = 2) (o3 : f3.offset = 3)
    (k0 : P.cellsOf f0.type = 1) (k1 : P.cellsOf f1.type = 1) (k2 : P.cellsOf f2.type = 1) (k3 : P.cellsOf f3.type = 1)
    (u0 : P.underlying f0.type = some (.int .i64)) (u1 : P.underlying f1.type = some (.int .i64)) (u2 : P.underlying f2.type = some (.slice e)) (u3 : P.underlying f3.type = some (.slice e))
    (he : P.underlying e = some (.array 32 u)) (hu : P.underlying u = some (.int .u8)) (hc : P.cellsOf u = 1) (hce : P.cellsOf e = 32)
    (hv : ∃ cs, v = .agg cs ∧ cs.size = P.cellsOf t) (h : DataW.Trod enc P w 0 spare held t v d ps) :
    ∃ (sh sl : Int) (a1 : Option Addr) (n1 c1 : Nat) (a2 : Option Addr) (n2 c2 : Nat) (x y : List (List UInt8)), v = .agg #[.int .i64 sh, .int .i64 sl, .slice a1 n1 c1, .slice a2 n2 c2] ∧
      (-9223372036854775808 ≤ sh ∧ sh ≤ 9223372036854775807) ∧ (-9223372036854775808 ≤ sl ∧ sl ≤ 9223372036854775807) ∧ RdH (hw w) (.slice a1 n1 c1) 32 x ∧ RdH (hw w) (.slice a2 n2 c2) 32 y := by
  obtain ⟨⟨l⟩, rfl, hsz⟩ := hv
  obtain ⟨fuel, hf⟩ := h
  obtain ⟨xs, n, _, _, hl, hxs, hfi⟩ := DataW.trod_struct ht hf
  have hl4 : l.length = 4 := by rw [hct] at hl; simpa [Value.cells] using hl
  match l, hl4, xs, hxs with
  | [c0, c1, c2, c3], _, [x0, x1, x2, x3], _ =>
    have g0 := hfi 0 f0 rfl
    have g1 := hfi 1 f1 rfl
    have g2 := hfi 2 f2 rfl
    have g3 := hfi 3 f3 rfl
    rw [o0, k0] at g0
    rw [o1, k1] at g1
    rw [o2, k2] at g2
    rw [o3, k3] at g3
    simp [Value.cells] at g0 g1 g2 g3
    obtain ⟨z0, e0, _, w0⟩ := DataW.trod_int u0 g0
    obtain ⟨z1, e1, _, w1⟩ := DataW.trod_int u1 g1
    obtain ⟨a1, m1, q1, e2⟩ : ∃ a l c, c2 = .slice a l c := by
      rcases DataW.trod_slice u2 g2 with ⟨h, _⟩ | ⟨a, l, c, _, _, _, _, h, _⟩
      · simp at h; exact ⟨_, _, _, h⟩
      · simp at h; exact ⟨_, _, _, h⟩
    obtain ⟨a2, m2, q2, e3⟩ : ∃ a l c, c3 = .slice a l c := by
      rcases DataW.trod_slice u3 g3 with ⟨h, _⟩ | ⟨a, l, c, _, _, _, _, h, _⟩
      · simp at h; exact ⟨_, _, _, h⟩
      · simp at h; exact ⟨_, _, _, h⟩
    simp at e0 e1
    subst e0; subst e1; subst e2; subst e3
    obtain ⟨x, r1⟩ := open_hashes (d := x2.1) (ps := x2.2) u2 he hu hc hce (by decide) ⟨_, _, _, rfl⟩ ⟨n, g2⟩
    obtain ⟨y, r2⟩ := open_hashes (d := x3.1) (ps := x3.2) u3 he hu hc hce (by decide) ⟨_, _, _, rfl⟩ ⟨n, g3⟩
    exact ⟨z0, z1, a1, m1, q1, a2, m2, q2, x, y, rfl, wf_i64 w0, wf_i64 w1, r1, r2⟩
end Go.F

namespace Go.F
open Go Go.RowKit
section
variable {P : Program} {N : Plan} {n : Nat} {ops : Array Oper} {K : Env → World → Prop} {rest : List Oper} {ρ : Env} {w W : World} {H G : Hp} {its : List Item}

theorem fill2 {i : TypeInfo} {z : Value} {a b : List UInt8} {k : Nat} (hk : 0 < k) (hi : i.size = k) (hz : z.cells.size = 2 * k) (ha : a.length = k) (hb : b.length = k) :
    Instr.fill (fun j => some (j * i.size, i.size)) z.cells [(0, hV a), (1, hV b)] = some (hV (a ++ b)).cells := by
  have h := Go.Great.fill_whole hk [hV a, hV b] z.cells (by
    intro v hv
    simp only [List.mem_cons, List.not_mem_nil, or_false] at hv
    rcases hv with rfl | rfl
    · exact hVs ha
    · exact hVs hb) (by simp [hz])
  rw [hi]
  have e : (([hV a, hV b].zipIdx 0).map fun x => (x.2, x.1)) = [(0, hV a), (1, hV b)] := rfl
  rw [e] at h
  rw [h]
  simp [Value.cells]

theorem T_un {o : Oper} {g t : Nat} {b : Bool} {d : Nat} (hg : o.guard = some (g, b)) (ht : (ops[g]?).bind (·.dst) = some t) (hb : ρ.get? t = some undef)
    (hd : o.dst = some d) (hn : Nat.ble (d + 1) n = true) (k : T P N n ops K rest ((d, undef) :: ρ) w) : T P N n ops K (o :: rest) ρ w := by
  intro a ha hc
  unfold xo
  have hy : yielded ops a.tmps g = none := by
    have := ha.2.2 t _ hb
    simp [yielded, ht, this, undef]
  rw [if_neg (by simp [Region.wanted, hg, hy])]
  refine ⟨(d, undef) :: ρ, ?_, k⟩
  rw [hd]
  exact ha.put hn undef
theorem T_idxAm {o : Oper} {d : Nat} {t e : TypeId} {i : TypeInfo} {x y : Operand} {b off len : Nat} {k0 : IntKind} {z : Int} (m : Nat) (ho : o.op = .indexAddr t x y) (hx : ρ.ev x = some (.pointer (some ⟨b, off, none⟩))) (hy : ρ.ev y = some (.int k0 z))
    (ht : P.underlying t = some (.array len e)) (hi : P.info? e = some i) (hg : o.guard = none) (hd : o.dst = some d) (hn : Nat.ble (d + 1) n = true)
    (hz : 0 ≤ z ∧ z < len) (hm : off + z.toNat * i.size = m) (k : T P N n ops K rest ((d, .pointer (some ⟨b, m, none⟩)) :: ρ) w) : T P N n ops K (o :: rest) ρ w :=
  T_idxA ho hx hy ht hi hg hd hn hz (by rw [hm]; exact k)

theorem T_idxm {o : Oper} {d : Nat} {t e : TypeId} {i : TypeInfo} {x y : Operand} {b off len cap : Nat} {k0 : IntKind} {z : Int} (m : Nat) (ho : o.op = .indexAddr t x y) (hx : ρ.ev x = some (.slice (some ⟨b, off, none⟩) len cap)) (hy : ρ.ev y = some (.int k0 z))
    (ht : P.underlying t = some (.slice e)) (hi : P.info? e = some i) (hg : o.guard = none) (hd : o.dst = some d) (hn : Nat.ble (d + 1) n = true)
    (hz : 0 ≤ z ∧ z < len) (hm : off + z.toNat * i.size = m) (k : T P N n ops K rest ((d, .pointer (some ⟨b, m, none⟩)) :: ρ) w) : T P N n ops K (o :: rest) ρ w :=
  T_idx ho hx hy ht hi hg hd hn hz (by rw [hm]; exact k)
end
theorem one_all {l : List Value} (h : l.all (fun v => v.oneCell') = true) : ∀ u ∈ l, u.oneCell' = true := fun u hu => List.all_eq_true.1 h u hu
end Go.F

namespace Go.F
open Go Go.RowKit
section
variable {P : Program} {N : Plan} {n : Nat} {ops : Array Oper} {K : Env → World → Prop} {rest : List Oper} {ρ : Env} {w W : World} {H G : Hp} {its : List Item}
theorem T_s2apR {o : Oper} {d : Nat} {t e : TypeId} {x : Operand} {v : Value} {m q : Nat} {l : List UInt8} (r : Rd G v m 1 (l.map bV)) (ho : o.op = .sliceToArrayPointer t x) (hx : ρ.ev x = some v) (ht : P.underlying t = some (.array q e))
    (hg : o.guard = none) (hd : o.dst = some d) (hn : Nat.ble (d + 1) n = true) (h0 : 0 < q) (hq : q ≤ m)
    (k : ∀ b off, (∀ (j : Nat) u, ((l.take q).map bV).toArray[j]? = some u → hcell G b (off + j) = some u) → T P N n ops K rest ((d, .pointer (some ⟨b, off, none⟩)) :: ρ) w) : T P N n ops K (o :: rest) ρ w := by
  obtain ⟨b, off, c, hv, hc, hcell⟩ := r.get (by omega)
  subst hv
  refine T_s2ap ho hx ht hg hd hn hq (k b off fun j u hu => hcell j u ?_)
  simp only [List.getElem?_toArray, List.getElem?_map, List.getElem?_take] at hu
  split at hu
  · rw [List.getElem?_map]; exact hu
  · cases hu
end
theorem take_len32 {l : List UInt8} (h : 32 ≤ l.length) : (l.take 32).length = 32 := by rw [List.length_take]; omega
end Go.F

namespace Go.F
open Go Go.RowKit
theorem Rds.set {G : Hp} {hs : List Value} {ls : List (List UInt8)} {v : Value} {l : List UInt8} (h : Rds G hs ls) (q : Nat) (r : Rd G v l.length 1 (l.map bV)) : Rds G (hs.set q v) (ls.set q l) := by
  refine ⟨by simp [h.1], fun i u m a b => ?_⟩
  rw [List.getElem?_set] at a b
  by_cases e : q = i
  · subst e
    rw [if_pos rfl] at a b
    split at a
    · rename_i h1
      rw [if_pos (by rw [← h.1]; exact h1)] at b
      cases a; cases b; exact r
    · cases a
  · rw [if_neg e] at a b; exact h.2 i u m a b
end Go.F

namespace Go.F
open Go Go.RowKit
def fV (leak : Bool) (leaf chain place : Int) (v : List UInt8) : Value := .agg ([Value.slice none 0 0, .slice none 0 0, .bool leak, .int .i64 leaf, .int .i64 chain, .int .i64 place] ++ v.map bV).toArray
def fz : Value := fV false 0 0 0 (List.replicate 32 0)
section
variable {k : Bool} {a b c : Int} {v : List UInt8}
end
end Go.F

namespace Go.F
open Go Go.RowKit
theorem fill_one {place : Nat → Option (Nat × Nat)} {cells : Array Value} {i off : Nat} {v : Value} {rest : List (Nat × Value)} (hp : place i = some (off, 1)) (hv : v.cells = #[v]) (ho : off < cells.size) :
    Instr.fill place cells ((i, v) :: rest) = Instr.fill place (cells.setIfInBounds off v) rest := by
  rw [Instr.fill, hp]
  simp only [hv]
  rw [if_neg (by simp; omega)]
  rfl
end Go.F

namespace Go.F
open Go Go.RowKit
def qV (a b c d : Int) (s t : List UInt8) : Value := .agg ([Value.int .i64 a, .int .i64 b, .int .i64 c, .int .i64 d] ++ (s.map bV ++ t.map bV)).toArray
section
variable {a b c d : Int} {s t : List UInt8}
theorem qV_size : (qV a b c d s t).cells.size = 4 + (s.length + t.length) := by simp [qV, Value.cells]; omega
theorem qV_sz {n : Nat} (h : 4 + (s.length + t.length) = n) : (qV a b c d s t).cells.size = n := by rw [qV_size, h]
theorem qV_one : ∀ u ∈ (qV a b c d s t).cells.toList, u.oneCell' = true := by
  intro u hu
  simp only [qV, Value.cells, List.mem_append, List.mem_cons, List.not_mem_nil, or_false] at hu
  rcases hu with (rfl | rfl | rfl | rfl) | hu | hu
  · rfl
  · rfl
  · rfl
  · rfl
  · obtain ⟨x, _, rfl⟩ := List.mem_map.1 hu; rfl
  · obtain ⟨x, _, rfl⟩ := List.mem_map.1 hu; rfl
theorem qV_0 : (qV a b c d s t).cells[0]? = some (.int .i64 a) := by simp [qV, Value.cells]
theorem qV_1 : (qV a b c d s t).cells[1]? = some (.int .i64 b) := by simp [qV, Value.cells]
theorem qV_2 : (qV a b c d s t).cells[2]? = some (.int .i64 c) := by simp [qV, Value.cells]
theorem qV_3 : (qV a b c d s t).cells[3]? = some (.int .i64 d) := by simp [qV, Value.cells]
theorem qV_s : ∀ (q : Nat) u, (s.map bV).toArray[q]? = some u → (qV a b c d s t).cells[4 + q]? = some u := by
  intro q u h
  simp only [qV, Value.cells, List.getElem?_toArray] at h ⊢
  rw [List.getElem?_append_right (by simp), List.getElem?_append_left (by have := (List.getElem?_eq_some_iff.1 h).1; simpa using this)]
  simpa using h
theorem qV_t {m : Nat} (hm : 4 + s.length = m) : ∀ (q : Nat) u, (t.map bV).toArray[q]? = some u → (qV a b c d s t).cells[m + q]? = some u := by
  intro q u h
  subst hm
  simp only [qV, Value.cells, List.getElem?_toArray] at h ⊢
  rw [List.getElem?_append_right (by simp; omega), List.getElem?_append_right (by simp; omega)]
  simp only [List.length_cons, List.length_nil, List.length_map]
  rw [show 4 + s.length + q - (0 + 1 + 1 + 1 + 1) - s.length = q by omega]
  exact h
theorem qV_set0 (z : Int) : (qV a b c d s t).cells.setIfInBounds 0 (.int .i64 z) = (qV z b c d s t).cells := by simp [qV, Value.cells]
theorem qV_set1 (z : Int) : (qV a b c d s t).cells.setIfInBounds 1 (.int .i64 z) = (qV a z c d s t).cells := by simp [qV, Value.cells]
theorem qV_set2 (z : Int) : (qV a b c d s t).cells.setIfInBounds 2 (.int .i64 z) = (qV a b z d s t).cells := by simp [qV, Value.cells]
theorem qV_set3 (z : Int) : (qV a b c d s t).cells.setIfInBounds 3 (.int .i64 z) = (qV a b c z s t).cells := by simp [qV, Value.cells]
end
theorem fill_arr {place : Nat → Option (Nat × Nat)} {cells : Array Value} {i off m : Nat} {v : List UInt8} {rest : List (Nat × Value)} (hp : place i = some (off, m)) (hv : v.length = m) (ho : off + m ≤ cells.size) :
    Instr.fill place cells ((i, hV v) :: rest) = Instr.fill place (cells.toList.take off ++ v.map bV ++ cells.toList.drop (off + m)).toArray rest := by
  have hs : (hV v).cells.size = m := hVs hv
  rw [Instr.fill, hp]
  simp only
  rw [if_neg (by rw [hs]; simp; omega)]
  congr 1
  have hz := Go.Great.foldl_set off ((hV v).cells.toList) 0 cells
  have e : ((hV v).cells.zipIdx.foldl (fun cs (x : Value × Nat) => cs.setIfInBounds (off + x.2) x.1) cells) = (((hV v).cells.toList.zipIdx 0).foldl (fun cs (x : Value × Nat) => cs.setIfInBounds (off + x.2) x.1) cells) := by
    rw [← Array.foldl_toList, Array.toList_zipIdx]
  show ((hV v).cells.zipIdx.foldl (fun cs (x : Value × Nat) => cs.setIfInBounds (off + x.2) x.1) cells) = _
  rw [e]
  apply Array.ext_getElem?
  intro k
  rw [hz.2 k]
  have hl : (hV v).cells.toList.length = m := by simpa using hs
  have ht : (cells.toList.take off).length = off := by rw [List.length_take, Array.length_toList]; omega
  have er : (cells.toList.take off ++ v.map bV ++ cells.toList.drop (off + m)).toArray[k]? = (cells.toList.take off ++ v.map bV ++ cells.toList.drop (off + m))[k]? := by simp
  rw [er, List.append_assoc]
  by_cases h1 : k < off
  · rw [if_neg (by omega), List.getElem?_append_left (by omega), List.getElem?_take, if_pos h1, Array.getElem?_toList]
  · by_cases h2 : k < off + m
    · rw [if_pos (by omega), List.getElem?_append_right (by omega), ht, List.getElem?_append_left (by rw [List.length_map]; omega), hcell1]
      simp
    · rw [if_neg (by omega), List.getElem?_append_right (by omega), ht, List.getElem?_append_right (by rw [List.length_map]; omega), List.length_map, List.getElem?_drop, hv, show off + m + (k - off - m) = k by omega, Array.getElem?_toList]

section
variable {a b c d z : Int} {s t x : List UInt8} {place : Nat → Option (Nat × Nat)} {i : Nat} {rest : List (Nat × Value)}
theorem fill_q0 (hp : place i = some (0, 1)) : Instr.fill place (qV a b c d s t).cells ((i, .int .i64 z) :: rest) = Instr.fill place (qV z b c d s t).cells rest := by
  rw [fill_one hp rfl (by rw [qV_size]; omega), qV_set0]
theorem fill_q1 (hp : place i = some (1, 1)) : Instr.fill place (qV a b c d s t).cells ((i, .int .i64 z) :: rest) = Instr.fill place (qV a z c d s t).cells rest := by
  rw [fill_one hp rfl (by rw [qV_size]; omega), qV_set1]
theorem fill_q2 (hp : place i = some (2, 1)) : Instr.fill place (qV a b c d s t).cells ((i, .int .i64 z) :: rest) = Instr.fill place (qV a b z d s t).cells rest := by
  rw [fill_one hp rfl (by rw [qV_size]; omega), qV_set2]
theorem fill_q3 (hp : place i = some (3, 1)) : Instr.fill place (qV a b c d s t).cells ((i, .int .i64 z) :: rest) = Instr.fill place (qV a b c z s t).cells rest := by
  rw [fill_one hp rfl (by rw [qV_size]; omega), qV_set3]
theorem fill_q4 {m : Nat} (hp : place i = some (4, m)) (hs : s.length = m) (hx : x.length = m) : Instr.fill place (qV a b c d s t).cells ((i, hV x) :: rest) = Instr.fill place (qV a b c d x t).cells rest := by
  rw [fill_arr hp hx (by rw [qV_size]; omega)]
  congr 1
  simp only [qV, Value.cells]
  congr 1
  rw [List.take_append_of_le_length (by simp), List.drop_append, List.drop_of_length_le (by simp), List.drop_append, List.drop_of_length_le (by simp; omega)]
  simp [hs]
theorem fill_q5 {p k : Nat} (hp : place i = some (p, k)) (hs : 4 + s.length = p) (ht : t.length = k) (hx : x.length = k) : Instr.fill place (qV a b c d s t).cells ((i, hV x) :: rest) = Instr.fill place (qV a b c d s x).cells rest := by
  subst hs
  rw [fill_arr hp hx (by rw [qV_size]; omega)]
  congr 1
  simp only [qV, Value.cells]
  congr 1
  rw [List.take_append, List.take_of_length_le (by simp), List.drop_append, List.drop_of_length_le (by simp; omega), List.take_append, List.take_of_length_le (by simp), List.drop_append, List.drop_of_length_le (by simp; omega)]
  simp only [List.length_cons, List.length_nil, List.length_map]
  rw [show 4 + s.length - (0 + 1 + 1 + 1 + 1) - s.length = 0 by omega, show 4 + s.length + k - (0 + 1 + 1 + 1 + 1) - s.length = k by omega, List.drop_of_length_le (by simp; omega)]
  simp
end
def qz32 : Value := qV 0 0 0 0 (List.replicate 32 0) (List.replicate 32 0)
def qz16 : Value := qV 0 0 0 0 (List.replicate 16 0) (List.replicate 32 0)
section
variable {a b c d : Int} {s t : List UInt8}
theorem fill_q32 (hs : s.length = 32) (ht : t.length = 32) : Instr.fill (fun j => [(0, 1), (1, 1), (2, 1), (3, 1), (4, 32), (36, 32)].toArray[j]?) (qz32 : Value).cells [(0, .int .i64 a), (1, .int .i64 b), (2, .int .i64 c), (3, .int .i64 d), (4, hV s), (5, hV t)] = some (qV a b c d s t).cells := by
  unfold qz32
  rw [fill_q0 rfl, fill_q1 rfl, fill_q2 rfl, fill_q3 rfl, fill_q4 rfl List.length_replicate hs, fill_q5 rfl (by rw [hs]) List.length_replicate ht]
  rfl
theorem fill_q32r (hs : s.length = 32) (ht : t.length = 32) : Instr.fill (fun j => [(0, 1), (1, 1), (2, 1), (3, 1), (4, 32), (36, 32)].toArray[j]?) (qz32 : Value).cells [(0, .int .i64 a), (1, .int .i64 b), (4, hV s), (5, hV t)] = some (qV a b 0 0 s t).cells := by
  unfold qz32
  rw [fill_q0 rfl, fill_q1 rfl, fill_q4 rfl List.length_replicate hs, fill_q5 rfl (by rw [hs]) List.length_replicate ht]
  rfl
end
theorem q_len {x y m k n : Nat} (h : x = m) (h' : y = k) (e : 4 + (m + k) = n) : 4 + (x + y) = n := by subst h; subst h'; exact e
def hashTo (m : Nat) (D : List UInt8) : Nat → List UInt8
  | 0 => List.replicate m 0
  | k + 1 => (hashTo m D k).set k (D.getD k 0)
theorem hashTo_len (m : Nat) (D : List UInt8) : ∀ k, (hashTo m D k).length = m
  | 0 => List.length_replicate
  | k + 1 => by rw [hashTo, List.length_set]; exact hashTo_len m D k
theorem hashTo_eq {m : Nat} {D : List UInt8} (h : D.length = m) : ∀ k, k ≤ m → hashTo m D k = D.take k ++ List.replicate (m - k) 0
  | 0, _ => by simp [hashTo]
  | k + 1, hk => by
    have h1 : (D.take k).length = k := by rw [List.length_take]; omega
    have hr : List.replicate (m - k) (0 : UInt8) = 0 :: List.replicate (m - (k + 1)) 0 := by rw [show m - k = (m - (k + 1)) + 1 by omega, List.replicate_succ]
    rw [hashTo, hashTo_eq h k (by omega), List.set_append_right _ _ (by omega), h1, Nat.sub_self, hr, List.take_succ_eq_append_getElem (show k < D.length by omega), List.append_assoc, List.getD_eq_getElem?_getD, List.getElem?_eq_getElem (show k < D.length by omega)]
    rfl
theorem hashTo_full {m : Nat} {D : List UInt8} (h : D.length = m) : hashTo m D m = D := by
  rw [hashTo_eq h m (Nat.le_refl _), List.take_of_length_le (by omega)]; simp
theorem hashTo_put {m : Nat} {D : List UInt8} {k : Nat} : (hV (hashTo m D k)).cells.setIfInBounds k (bV (D.getD k 0)) = (hV (hashTo m D (k + 1))).cells := by
  show ((hashTo m D k).map bV).toArray.setIfInBounds k (bV (D.getD k 0)) = (((hashTo m D k).set k (D.getD k 0)).map bV).toArray
  rw [List.setIfInBounds_toArray, List.map_set]
theorem St.re {W w : World} {H G : Hp} {its : List Item} (S : St W H G its w) (j : Nat) {b : Nat} {c c' : Array Value} {t : TypeId} (hj : its[j]? = some (.blk b c t)) (h : c = c') : St W H G (its.set j (.blk b c' t)) w := by
  subst h
  obtain ⟨hl, he⟩ := List.getElem?_eq_some_iff.1 hj
  have e : its.set j (.blk b c t) = its := by rw [← he]; exact List.set_getElem_self hl
  rw [e]; exact S
section
variable {P : Program} {N : Plan} {n : Nat} {ops : Array Oper} {K : Env → World → Prop} {rest : List Oper} {ρ : Env} {w : World}
theorem run_partA {e : TypeId} (hs : isAggB P e = true) {i : TypeInfo} (hi : P.info? e = some i) {cs : Array Value} {q : Nat} {xs : List UInt8} (h : cs.extract q (q + i.size) = (xs.map bV).toArray) (u : World) : (part e cs q).run P u = .ok (hV xs) u := by
  simp only [part, Sem.run_bind, run_isAgg_yes hs, Result.andThen_ok, if_true, run_size hi, Sem.run_pure, h]
theorem run_eqQ {t e : TypeId} {f0 f1 f2 f3 f4 f5 : Field} {i4 i5 ie : TypeInfo} {m k : Nat} {k0 : IntKind}
    (ht : P.underlying t = some (.struct #[f0, f1, f2, f3, f4, f5])) (hnm : ([f0, f1, f2, f3, f4, f5].all fun f => f.name != "_") = true)
    (o0 : f0.offset = 0) (o1 : f1.offset = 1) (o2 : f2.offset = 2) (o3 : f3.offset = 3) (o4 : f4.offset = 4) (o5 : f5.offset = 4 + m)
    (u0 : P.underlying f0.type = some (.int .i64)) (u1 : P.underlying f1.type = some (.int .i64)) (u2 : P.underlying f2.type = some (.int .i64)) (u3 : P.underlying f3.type = some (.int .i64))
    (u4 : P.underlying f4.type = some (.array m e)) (u5 : P.underlying f5.type = some (.array k e)) (he : P.underlying e = some (.int k0)) (hie : P.info? e = some ie) (hce : P.cellsOf e = 1)
    (h4 : P.info? f4.type = some i4) (h5 : P.info? f5.type = some i5) (s4 : i4.size = m) (s5 : i5.size = k) (hp : P.stoodInHeld t = false)
    (a b c d a' b' c' d' : Int) (x y x' y' : List UInt8) (lx : x.length = m) (lx' : x'.length = m) (ly : y.length = k) (ly' : y'.length = k) (u : World) :
    (Op.equal t (qV a b c d x y) (qV a' b' c' d' x' y')).run P u = .ok (decide (a = a' ∧ b = b' ∧ c = c' ∧ d = d' ∧ x = x' ∧ y = y')) u := by
  have hfs : P.fieldsOf t = #[f0, f1, f2, f3, f4, f5] := by simp [Program.fieldsOf, ht]
  have ht' : P.underlying t = some (.struct (P.fieldsOf t)) := by rw [hfs]; exact ht
  simp only [List.all_cons, List.all_nil, Bool.and_true, Bool.and_eq_true, bne_iff_ne] at hnm
  obtain ⟨n0, n1, n2, n3, n4, n5⟩ := hnm
  have sc : ∀ {f : Field}, P.underlying f.type = some (.int .i64) → scalar P f.type = true := fun h => by simp [scalar, h]
  have a4 : isAggB P f4.type = true := by simp [isAggB, u4]
  have a5 : isAggB P f5.type = true := by simp [isAggB, u5]
  have X4 : ∀ (a b c d : Int) (x y : List UInt8), x.length = m → (qV a b c d x y).cells.extract 4 (4 + i4.size) = (x.map bV).toArray := fun a b c d x y hx => by
    rw [s4, ← hx]
    simp only [qV, Value.cells, List.extract_toArray, List.extract_eq_take_drop, Nat.add_sub_cancel_left]
    congr 1
    rw [List.drop_append, List.drop_of_length_le (by simp)]
    simp
  have X5 : ∀ (a b c d : Int) (x y : List UInt8), x.length = m → y.length = k → (qV a b c d x y).cells.extract (4 + m) (4 + m + i5.size) = (y.map bV).toArray := fun a b c d x y hx hy => by
    rw [s5, ← hx, ← hy]
    simp only [qV, Value.cells, List.extract_toArray, List.extract_eq_take_drop, Nat.add_sub_cancel_left]
    congr 1
    rw [List.drop_append, List.drop_of_length_le (by simp), List.drop_append, List.drop_of_length_le (by simp)]
    simp only [List.length_cons, List.length_nil, List.length_map, List.nil_append]
    rw [show 4 + x.length - (0 + 1 + 1 + 1 + 1) - x.length = 0 by omega]
    exact List.take_of_length_le (by simp)
  have q : ∀ (f : Field) (len : Nat) (a b : List UInt8), P.underlying f.type = some (.array len e) → a.length = len → b.length = len → ∀ u, (Op.equalIn (9998 + 1) f.type (hV a) (hV b)).run P u = .ok (decide (a = b)) u := fun f len a b hf ha hb u => by
    have hr := run_eqItems_b (P := P) he 9997 a b u (by omega) a.length 0 (by omega)
    rw [run_equalIn_array u 9998 _ _ hf hie, hce, ← ha, List.range_eq_range']
    simpa using hr
  show (Op.equalIn (9999 + 1) t (.agg _) (.agg _)).run P u = _
  rw [run_equalIn_struct u 9999 t _ _ ht' hp, hfs]
  have p0 := fun a b c d x y u => run_part1 (P := P) (sc u0) (cs := (qV a b c d x y).cells) qV_0 u
  have p1 := fun a b c d x y u => run_part1 (P := P) (sc u1) (cs := (qV a b c d x y).cells) qV_1 u
  have p2 := fun a b c d x y u => run_part1 (P := P) (sc u2) (cs := (qV a b c d x y).cells) qV_2 u
  have p3 := fun a b c d x y u => run_part1 (P := P) (sc u3) (cs := (qV a b c d x y).cells) qV_3 u
  have p4 := fun a b c d x y h u => run_partA (P := P) a4 h4 (X4 a b c d x y h) u
  have p5 := fun a b c d x y h h' u => run_partA (P := P) a5 h5 (X5 a b c d x y h h') u
  have E : ∀ z z' : Int, (z == z') = decide (z = z') := fun z z' => rfl
  show (Op.eqFields 9999 (qV a b c d x y).cells (qV a' b' c' d' x' y').cells [f0, f1, f2, f3, f4, f5]).run P u = _
  unfold Op.eqFields; rw [if_pos n0, o0]
  simp only [Sem.run_bind, p0, Result.andThen_ok, run_equalIn_int _ _ _ _ _ _ _ u0, E]
  by_cases h0 : a = a'
  · rw [decide_eq_true h0]; simp only [Bool.not_true, Bool.false_eq_true, if_false]
    unfold Op.eqFields; rw [if_pos n1, o1]
    simp only [Sem.run_bind, p1, Result.andThen_ok, run_equalIn_int _ _ _ _ _ _ _ u1, E]
    by_cases h1 : b = b'
    · rw [decide_eq_true h1]; simp only [Bool.not_true, Bool.false_eq_true, if_false]
      unfold Op.eqFields; rw [if_pos n2, o2]
      simp only [Sem.run_bind, p2, Result.andThen_ok, run_equalIn_int _ _ _ _ _ _ _ u2, E]
      by_cases h2 : c = c'
      · rw [decide_eq_true h2]; simp only [Bool.not_true, Bool.false_eq_true, if_false]
        unfold Op.eqFields; rw [if_pos n3, o3]
        simp only [Sem.run_bind, p3, Result.andThen_ok, run_equalIn_int _ _ _ _ _ _ _ u3, E]
        by_cases h3 : d = d'
        · rw [decide_eq_true h3]; simp only [Bool.not_true, Bool.false_eq_true, if_false]
          unfold Op.eqFields; rw [if_pos n4, o4]
          simp only [Sem.run_bind, p4 _ _ _ _ _ _ lx, p4 _ _ _ _ _ _ lx', Result.andThen_ok, q f4 m x x' u4 lx lx']
          by_cases h4' : x = x'
          · rw [decide_eq_true h4']; simp only [Bool.not_true, Bool.false_eq_true, if_false]
            unfold Op.eqFields; rw [if_pos n5, o5]
            simp only [Sem.run_bind, p5 _ _ _ _ _ _ lx ly, p5 _ _ _ _ _ _ lx' ly', Result.andThen_ok, q f5 k y y' u5 ly ly']
            by_cases h5' : y = y'
            · rw [decide_eq_true h5', decide_eq_true ⟨h0, h1, h2, h3, h4', h5'⟩]; simp [Op.eqFields]
            · rw [decide_eq_false h5', decide_eq_false (fun h => h5' h.2.2.2.2.2)]; simp
          · rw [decide_eq_false h4', decide_eq_false (fun h => h4' h.2.2.2.2.1)]; simp
        · rw [decide_eq_false h3, decide_eq_false (fun h => h3 h.2.2.2.1)]; simp
      · rw [decide_eq_false h2, decide_eq_false (fun h => h2 h.2.2.1)]; simp
    · rw [decide_eq_false h1, decide_eq_false (fun h => h1 h.2.1)]; simp
  · rw [decide_eq_false h0, decide_eq_false (fun h => h0 h.1)]; simp
theorem T_eqQ {o : Oper} {dd : Nat} {t t' e : TypeId} {X Y : Operand} {f0 f1 f2 f3 f4 f5 : Field} {i4 i5 ie : TypeInfo} {m k : Nat} {k0 : IntKind} {a b c d a' b' c' d' : Int} {x y x' y' : List UInt8}
    (ho : o.op = .binOp .eql t X Y t') (hx : ρ.ev X = some (qV a b c d x y)) (hy : ρ.ev Y = some (qV a' b' c' d' x' y'))
    (ht : P.underlying t = some (.struct #[f0, f1, f2, f3, f4, f5])) (hnm : ([f0, f1, f2, f3, f4, f5].all fun f => f.name != "_") = true)
    (o0 : f0.offset = 0) (o1 : f1.offset = 1) (o2 : f2.offset = 2) (o3 : f3.offset = 3) (o4 : f4.offset = 4) (o5 : f5.offset = 4 + m)
    (u0 : P.underlying f0.type = some (.int .i64)) (u1 : P.underlying f1.type = some (.int .i64)) (u2 : P.underlying f2.type = some (.int .i64)) (u3 : P.underlying f3.type = some (.int .i64))
    (u4 : P.underlying f4.type = some (.array m e)) (u5 : P.underlying f5.type = some (.array k e)) (he : P.underlying e = some (.int k0)) (hie : P.info? e = some ie) (hce : P.cellsOf e = 1)
    (h4 : P.info? f4.type = some i4) (h5 : P.info? f5.type = some i5) (s4 : i4.size = m) (s5 : i5.size = k) (hp : P.stoodInHeld t = false) (hgd : P.eqGuardType P.depth t = false)
    (hg : o.guard = none) (hd : o.dst = some dd) (hn : Nat.ble (dd + 1) n = true) (lx : x.length = m) (lx' : x'.length = m) (ly : y.length = k) (ly' : y'.length = k)
    (kk : T P N n ops K rest ((dd, .bool (decide (a = a' ∧ b = b' ∧ c = c' ∧ d = d' ∧ x = x' ∧ y = y'))) :: ρ) w) : T P N n ops K (o :: rest) ρ w :=
  T_val hg hd hn (fun A ha u => by
    have e1 := ha.ev hx
    have e2 := ha.ev hy
    have hq := run_eqQ ht hnm o0 o1 o2 o3 o4 o5 u0 u1 u2 u3 u4 u5 he hie hce h4 h5 s4 s5 hp a b c d a' b' c' d' x y x' y' lx lx' ly ly' u
    have hg' : (eqGuard .eql t X Y (qV a b c d x y) (qV a' b' c' d' x' y')).run P u = .ok () u := run_eqGuard_agg u _ t X Y _ _ hgd
    have hb : (binOp .eql t (qV a b c d x y) (qV a' b' c' d' x' y')).run P u = .ok (.bool (decide (a = a' ∧ b = b' ∧ c = c' ∧ d = d' ∧ x = x' ∧ y = y'))) u := by
      refine (run_eql_struct u t _ _).trans ?_
      refine (congrArg (fun z => Result.andThen z fun b w' => Result.ok (Value.bool b) w') hq).trans rfl
    unfold execOp; rw [ho]; simp only [e1, e2]
    simp only [Sem.run_bind, hg', hb, Result.andThen_ok, Sem.run_pure]) kk
end
end Go.F

namespace Go.F
open Go Go.RowKit Go.ChangeShapes Go.WideShapes Go.Deep
section
variable {H : Type} {enc : TypeId × Value → H} {P : Program} {w : World} {spare : Nat → Bool} {held : Bool} {n : Nat} {ft e : TypeId} {l : List Value} {x : DataW H × List MemPlace}
theorem part_int (hu : P.underlying ft = some (.int .i64)) (g : DataW.trod enc P w 0 spare held n ft l = some x) : ∃ z : Int, l = [.int .i64 z] ∧ -9223372036854775808 ≤ z ∧ z ≤ 9223372036854775807 := by
  obtain ⟨z, e0, _, w0⟩ := DataW.trod_int hu g
  exact ⟨z, e0, wf_i64 w0⟩
theorem part_arr {m : Nat} (hu : P.underlying ft = some (.array m e)) (he : P.underlying e = some (.int .u8)) (hce : P.cellsOf e = 1) (hct : P.cellsOf ft = m) (g : DataW.trod enc P w 0 spare held n ft l = some x) : ∃ bs : List UInt8, bs.length = m ∧ l = bs.map bV := by
  obtain ⟨xs, m', _, hx, hl, hxl, hel⟩ := DataW.trod_array hu g
  obtain ⟨h1, hw, _⟩ := ints_of he hce (by rw [hl, hct]) hxl hel
  obtain ⟨bs, hbs⟩ := bytes_of _ hw
  have hcs : l = bs.map bV := by rw [h1, hbs]
  refine ⟨bs, ?_, hcs⟩
  have := congrArg List.length hcs
  rw [List.length_map] at this
  omega
end
theorem open_q {H : Type} {enc : TypeId × Value → H} {P : Program} {w : World} {spare : Nat → Bool} {held : Bool} {t e : TypeId} {f0 f1 f2 f3 f4 f5 : Field} {m k : Nat} {v : Value} {d : DataW H} {ps : List MemPlace}
    (ht : P.underlying t = some (.struct #[f0, f1, f2, f3, f4, f5])) (hct : P.cellsOf t = 4 + (m + k)) (o0 : f0.offset = 0) (o1 : f1.offset = 1) (o2 : f2.offset = 2) (o3 : f3.offset = 3) (o4 : f4.offset = 4) (o5 : f5.offset = 4 + m)
    (k0 : P.cellsOf f0.type = 1) (k1 : P.cellsOf f1.type = 1) (k2 : P.cellsOf f2.type = 1) (k3 : P.cellsOf f3.type = 1) (k4 : P.cellsOf f4.type = m) (k5 : P.cellsOf f5.type = k)
    (u0 : P.underlying f0.type = some (.int .i64)) (u1 : P.underlying f1.type = some (.int .i64)) (u2 : P.underlying f2.type = some (.int .i64)) (u3 : P.underlying f3.type = some (.int .i64))
    (u4 : P.underlying f4.type = some (.array m e)) (u5 : P.underlying f5.type = some (.array k e)) (he : P.underlying e = some (.int .u8)) (hce : P.cellsOf e = 1)
    (hv : ∃ cs, v = .agg cs ∧ cs.size = P.cellsOf t) (h : DataW.Trod enc P w 0 spare held t v d ps) :
    ∃ (a b c q : Int) (s r : List UInt8), v = qV a b c q s r ∧ s.length = m ∧ r.length = k ∧ (-9223372036854775808 ≤ a ∧ a ≤ 9223372036854775807) ∧ (-9223372036854775808 ≤ b ∧ b ≤ 9223372036854775807) ∧ (-9223372036854775808 ≤ c ∧ c ≤ 9223372036854775807) ∧ (-9223372036854775808 ≤ q ∧ q ≤ 9223372036854775807) := by
  obtain ⟨⟨l⟩, rfl, hsz⟩ := hv
  obtain ⟨fuel, hf⟩ := h
  obtain ⟨xs, n, _, _, hl, hxs, hfi⟩ := DataW.trod_struct ht hf
  have hl4 : l.length = 4 + (m + k) := by rw [hct] at hl; simpa [Value.cells] using hl
  obtain ⟨c0, c1, c2, c3, r, rfl⟩ : ∃ c0 c1 c2 c3 r, l = c0 :: c1 :: c2 :: c3 :: r := by
    match l, hl4 with
    | c0 :: c1 :: c2 :: c3 :: r, _ => exact ⟨c0, c1, c2, c3, r, rfl⟩
    | [], h => simp at h; omega
    | [_], h => simp at h; omega
    | [_, _], h => simp at h; omega
    | [_, _, _], h => simp at h; omega
  match xs, hxs with
  | [x0, x1, x2, x3, x4, x5], _ =>
    have g0 := hfi 0 f0 rfl
    have g1 := hfi 1 f1 rfl
    have g2 := hfi 2 f2 rfl
    have g3 := hfi 3 f3 rfl
    have g4 := hfi 4 f4 rfl
    have g5 := hfi 5 f5 rfl
    rw [o0, k0] at g0
    rw [o1, k1] at g1
    rw [o2, k2] at g2
    rw [o3, k3] at g3
    rw [o4, k4] at g4
    rw [o5, k5] at g5
    have e4 : ((Value.agg ⟨c0 :: c1 :: c2 :: c3 :: r⟩).cells.toList.drop 4).take m = r.take m := rfl
    have e5 : ((Value.agg ⟨c0 :: c1 :: c2 :: c3 :: r⟩).cells.toList.drop (4 + m)).take k = (r.drop m).take k := by
      show ((c0 :: c1 :: c2 :: c3 :: r).drop (4 + m)).take k = _
      rw [Nat.add_comm 4 m]; rfl
    rw [e4] at g4
    rw [e5] at g5
    obtain ⟨a, ea, ha⟩ := part_int u0 g0
    obtain ⟨b, eb, hb⟩ := part_int u1 g1
    obtain ⟨c, ec, hc⟩ := part_int u2 g2
    obtain ⟨q, eq, hq⟩ := part_int u3 g3
    obtain ⟨s, hs, es⟩ := part_arr u4 he hce k4 g4
    obtain ⟨y, hy, ey⟩ := part_arr u5 he hce k5 g5
    have ea : [c0] = [Value.int .i64 a] := ea
    have eb : [c1] = [Value.int .i64 b] := eb
    have ec : [c2] = [Value.int .i64 c] := ec
    have eq : [c3] = [Value.int .i64 q] := eq
    have hrl : r.length = m + k := by simp at hl4; omega
    have hr : r = s.map bV ++ y.map bV := by
      rw [← es, ← ey, List.take_of_length_le (l := r.drop m) (by rw [List.length_drop]; omega), List.take_append_drop]
    refine ⟨a, b, c, q, s, y, ?_, hs, hy, ha, hb, hc, hq⟩
    rw [(List.cons.inj ea).1, (List.cons.inj eb).1, (List.cons.inj ec).1, (List.cons.inj eq).1, hr]
    rfl
theorem slice_of {H : Type} {enc : TypeId × Value → H} {P : Program} {w : World} {spare : Nat → Bool} {held : Bool} {t e : TypeId} {n : Nat} {c : Value} {x : DataW H × List MemPlace} (ht : P.underlying t = some (.slice e)) (g : DataW.trod enc P w 0 spare held n t [c] = some x) : ∃ a l q, c = .slice a l q := by
  rcases DataW.trod_slice ht g with ⟨h, _⟩ | ⟨a, l, q, _, _, _, _, h, _⟩
  · simp at h; exact ⟨_, _, _, h⟩
  · simp at h; exact ⟨_, _, _, h⟩
theorem open_share {H : Type} {enc : TypeId × Value → H} {P : Program} {w : World} {spare : Nat → Bool} {held : Bool} {t e u : TypeId} {f0 f1 f2 f3 : Field} {v : Value} {d : DataW H} {ps : List MemPlace}
    (ht : P.underlying t = some (.struct #[f0, f1, f2, f3])) (hct : P.cellsOf t = 4) (o0 : f0.offset = 0) (o1 : f1.offset = 1) (o2 : f2.offset = 2) (o3 : f3.offset = 3)
    (k0 : P.cellsOf f0.type = 1) (k1 : P.cellsOf f1.type = 1) (k2 : P.cellsOf f2.type = 1) (k3 : P.cellsOf f3.type = 1)
    (u0 : P.underlying f0.type = some (.int .i64)) (u1 : P.underlying f1.type = some (.slice u)) (u2 : P.underlying f2.type = some (.slice e)) (u3 : P.underlying f3.type = some (.slice f1.type))
    (he : P.underlying e = some (.array 32 u)) (hu : P.underlying u = some (.int .u8)) (hc : P.cellsOf u = 1) (hce : P.cellsOf e = 32)
    (hv : ∃ cs, v = .agg cs ∧ cs.size = P.cellsOf t) (h : DataW.Trod enc P w 0 spare held t v d ps) :
    ∃ (sn : Int) (a1 : Option Addr) (n1 c1 : Nat) (a2 : Option Addr) (n2 c2 : Nat) (a3 : Option Addr) (n3 c3 : Nat) (x : List UInt8) (y z : List (List UInt8)), v = .agg #[.int .i64 sn, .slice a1 n1 c1, .slice a2 n2 c2, .slice a3 n3 c3] ∧
      (-9223372036854775808 ≤ sn ∧ sn ≤ 9223372036854775807) ∧ Rd (hw w) (.slice a1 n1 c1) n1 1 (x.map bV) ∧ RdH (hw w) (.slice a2 n2 c2) 32 y ∧ RdL (hw w) (.slice a3 n3 c3) z := by
  obtain ⟨⟨l⟩, rfl, hsz⟩ := hv
  obtain ⟨fuel, hf⟩ := h
  obtain ⟨xs, n, _, _, hl, hxs, hfi⟩ := DataW.trod_struct ht hf
  have hl4 : l.length = 4 := by rw [hct] at hl; simpa [Value.cells] using hl
  match l, hl4, xs, hxs with
  | [c0, c1, c2, c3], _, [x0, x1, x2, x3], _ =>
    have g0 := hfi 0 f0 rfl
    have g1 := hfi 1 f1 rfl
    have g2 := hfi 2 f2 rfl
    have g3 := hfi 3 f3 rfl
    rw [o0, k0] at g0
    rw [o1, k1] at g1
    rw [o2, k2] at g2
    rw [o3, k3] at g3
    obtain ⟨z0, e0, w0⟩ := part_int (l := [c0]) u0 g0
    obtain ⟨a1, m1, q1, rfl⟩ := slice_of (c := c1) u1 g1
    obtain ⟨a2, m2, q2, rfl⟩ := slice_of (c := c2) u2 g2
    obtain ⟨a3, m3, q3, rfl⟩ := slice_of (c := c3) u3 g3
    obtain ⟨x, r1⟩ := open_bytes_rd (v := .slice a1 m1 q1) (d := x1.1) (ps := x1.2) u1 hu hc ⟨_, _, _, rfl⟩ ⟨n, g1⟩
    obtain ⟨y, r2⟩ := open_hashes (v := .slice a2 m2 q2) (d := x2.1) (ps := x2.2) u2 he hu hc hce (by decide) ⟨_, _, _, rfl⟩ ⟨n, g2⟩
    obtain ⟨z, r3⟩ := open_strings (v := .slice a3 m3 q3) (d := x3.1) (ps := x3.2) u3 u1 hu hc k1 ⟨_, _, _, rfl⟩ ⟨n, g3⟩
    refine ⟨z0, a1, m1, q1, a2, m2, q2, a3, m3, q3, x, y, z, by rw [(List.cons.inj e0).1], w0, ?_, r2, r3⟩
    have e1 : m1 = x.length := by
      obtain ⟨_, a', c', hv, _⟩ := id r1
      cases hv; rfl
    rw [e1] at r1 ⊢
    exact r1
end Go.F

namespace Go.F
open Go Go.RowKit Go.ChangeShapes Go.WideShapes Go.Deep
def gV (L : List (List Value)) : Value := .agg L.flatten.toArray
inductive Shp : List (List Value) → List Nat → Prop where
  | nil : Shp [] []
  | cons {c : List Value} {L : List (List Value)} {n : Nat} {ns : List Nat} : c.length = n → Shp L ns → Shp (c :: L) (n :: ns)
section
variable {L A B M : List (List Value)} {ns as bs : List Nat} {off : Nat}
theorem Shp.len (h : Shp L ns) : L.flatten.length = ns.sum := by
  induction h with
  | nil => rfl
  | cons h _ ih => rw [List.flatten_cons, List.length_append, h, ih, List.sum_cons]
theorem Shp.take (h : Shp L ns) : ∀ j, Shp (L.take j) (ns.take j) := by
  induction h with
  | nil => intro j; rw [List.take_nil, List.take_nil]; exact .nil
  | cons h _ ih => intro j; cases j with
    | zero => exact .nil
    | succ j => exact .cons h (ih j)
theorem Shp.drop (h : Shp L ns) : ∀ j, Shp (L.drop j) (ns.drop j) := by
  induction h with
  | nil => intro j; rw [List.drop_nil, List.drop_nil]; exact .nil
  | cons h h' ih => intro j; cases j with
    | zero => exact .cons h h'
    | succ j => exact ih j
theorem lenB {s : List UInt8} {n : Nat} (h : s.length = n) : (s.map bV).length = n := by rw [List.length_map, h]
theorem gV_size {n : Nat} (h : Shp L ns) (hn : ns.sum = n) : (gV L).cells.size = n := by
  show L.flatten.toArray.size = n
  rw [List.size_toArray, h.len, hn]
def OneL (L : List (List Value)) : Prop := ∀ c ∈ L, ∀ u ∈ c, u.oneCell' = true
theorem OneL.nil : OneL [] := fun _ h => by cases h
theorem OneL.one {v : Value} (h : v.oneCell' = true) (hL : OneL L) : OneL ([v] :: L) := fun c hc u hu => by
  rcases List.mem_cons.1 hc with rfl | hc
  · rw [List.mem_singleton.1 hu]; exact h
  · exact hL c hc u hu
theorem OneL.arr {s : List UInt8} (hL : OneL L) : OneL (s.map bV :: L) := fun c hc u hu => by
  rcases List.mem_cons.1 hc with rfl | hc
  · obtain ⟨x, _, rfl⟩ := List.mem_map.1 hu; rfl
  · exact hL c hc u hu
theorem gV_one (h : OneL L) : ∀ u ∈ (gV L).cells.toList, u.oneCell' = true := fun u hu => by
  obtain ⟨c, hc, hu⟩ := List.mem_flatten.1 (show u ∈ L.flatten from hu)
  exact h c hc u hu
theorem flat1 {c : List Value} : [c].flatten = c := by simp
theorem qV_flat {a b c d : Int} {s t : List UInt8} : [[Value.int .i64 a], [.int .i64 b], [.int .i64 c], [.int .i64 d], s.map bV, t.map bV].flatten = (qV a b c d s t).cells.toList := by
  simp [qV, Value.cells]
theorem split3 (L : List (List Value)) (j m : Nat) : L.flatten = (L.take j).flatten ++ (((L.drop j).take m).flatten ++ ((L.drop j).drop m).flatten) := by
  rw [← List.flatten_append, List.take_append_drop, ← List.flatten_append, List.take_append_drop]
theorem gV_sub (h : Shp L ns) (j m : Nat) {c : List Value} (hc : ((L.drop j).take m).flatten = c) (ho : (ns.take j).sum = off) : ∀ (q : Nat) u, c.toArray[q]? = some u → (gV L).cells[off + q]? = some u := by
  intro q u hq
  have h1 := (h.take j).len
  show L.flatten.toArray[off + q]? = some u
  rw [List.getElem?_toArray] at hq ⊢
  rw [split3 L j m, hc, List.getElem?_append_right (by omega), show off + q - (L.take j).flatten.length = q by omega, List.getElem?_append_left (List.getElem?_eq_some_iff.1 hq).1]
  exact hq
theorem gV_cell (h : Shp L ns) (j : Nat) {v : Value} (hj : ((L.drop j).take 1).flatten = [v]) (ho : (ns.take j).sum = off) : (gV L).cells[off]? = some v := gV_sub h j 1 hj ho 0 v rfl
theorem gV_put (h : Shp L ns) (j m : Nat) (M : List (List Value)) {c : List Value} (hc : M.flatten = c) (hw : ((ns.drop j).take m).sum = c.length) (ho : (ns.take j).sum = off) :
    ((gV L).cells.toList.take off ++ c ++ (gV L).cells.toList.drop (off + c.length)).toArray = (gV (L.take j ++ M ++ (L.drop j).drop m)).cells := by
  have h1 := (h.take j).len
  have h2 := ((h.drop j).take m).len
  have e : (gV L).cells.toList = (L.take j).flatten ++ (((L.drop j).take m).flatten ++ ((L.drop j).drop m).flatten) := split3 L j m
  show _ = (L.take j ++ M ++ (L.drop j).drop m).flatten.toArray
  rw [e, List.take_append, List.take_of_length_le (by omega), show off - (L.take j).flatten.length = 0 by omega, List.take_zero, List.append_nil,
    List.drop_append, List.drop_of_length_le (by omega), List.nil_append, List.drop_append, List.drop_of_length_le (by omega), List.nil_append,
    show off + c.length - (L.take j).flatten.length - ((L.drop j).take m).flatten.length = 0 by omega, List.drop_zero, List.flatten_append, List.flatten_append, hc]
theorem gV_set (h : Shp L ns) (j : Nat) (v : Value) (hw : ((ns.drop j).take 1).sum = 1) (ho : (ns.take j).sum = off) : (gV L).cells.setIfInBounds off v = (gV (L.take j ++ [[v]] ++ (L.drop j).drop 1)).cells := by
  have h1 := (h.take j).len
  have h2 := ((h.drop j).take 1).len
  have h3 := congrArg List.length (split3 L j 1)
  simp only [List.length_append] at h3
  have hs : off < (gV L).cells.size := by show off < L.flatten.toArray.size; rw [List.size_toArray]; omega
  rw [← seg1 hs]
  exact gV_put h j 1 [[v]] flat1 hw ho
end
end Go.F

namespace Go.F
open Go Go.RowKit Go.ChangeShapes Go.WideShapes Go.Deep
section
variable {H : Type} {enc : TypeId × Value → H} {P : Program} {w : World} {spare : Nat → Bool} {held : Bool}
theorem part_len {t : TypeId} {n : Nat} {l : List Value} {x : DataW H × List MemPlace} {fs : Array Field} (ht : P.underlying t = some (.struct fs)) (g : DataW.trod enc P w 0 spare held n t l = some x) : ∃ cs : Array Value, Value.agg l.toArray = .agg cs ∧ cs.size = P.cellsOf t := by
  obtain ⟨xs, m, _, _, hl, _⟩ := DataW.trod_struct ht g
  exact ⟨_, rfl, by simpa using hl⟩
theorem cut5 {l : List Value} {n1 n2 n3 : Nat} : l = l.take 1 ++ ((l.drop 1).take n1 ++ ((l.drop (1 + n1)).take n2 ++ ((l.drop (1 + n1 + n2)).take n3 ++ l.drop (1 + n1 + n2 + n3)))) := by
  rw [← List.drop_drop (i := n3) (j := 1 + n1 + n2), List.take_append_drop, ← List.drop_drop (i := n2) (j := 1 + n1), List.take_append_drop, ← List.drop_drop (i := n1) (j := 1), List.take_append_drop, List.take_append_drop]
theorem open_piece {t t1 t2 e u : TypeId} {f0 f1 f2 f3 f4 : Field} {g0 g1 g2 g3 g4 g5 : Field} {s0 s1 s2 s3 : Field} {v : Value} {d : DataW H} {ps : List MemPlace}
    (ht : P.underlying t = some (.struct #[f0, f1, f2, f3, f4])) (hct : P.cellsOf t = 59) (o0 : f0.offset = 0) (o1 : f1.offset = 1) (o2 : f2.offset = 53) (o3 : f3.offset = 57) (o4 : f4.offset = 58)
    (k0 : P.cellsOf f0.type = 1) (k1 : P.cellsOf f1.type = 52) (k2 : P.cellsOf f2.type = 4) (k3 : P.cellsOf f3.type = 1) (k4 : P.cellsOf f4.type = 1) (e1 : f1.type = t1) (e2 : f2.type = t2)
    (u0 : P.underlying f0.type = some (.int .i64)) (u3 : P.underlying f3.type = some (.slice e)) (u4 : P.underlying f4.type = some (.slice u))
    (hv1 : P.underlying t1 = some (.struct #[g0, g1, g2, g3, g4, g5])) (p0 : g0.offset = 0) (p1 : g1.offset = 1) (p2 : g2.offset = 2) (p3 : g3.offset = 3) (p4 : g4.offset = 4) (p5 : g5.offset = 4 + 16)
    (q0 : P.cellsOf g0.type = 1) (q1 : P.cellsOf g1.type = 1) (q2 : P.cellsOf g2.type = 1) (q3 : P.cellsOf g3.type = 1) (q4 : P.cellsOf g4.type = 16) (q5 : P.cellsOf g5.type = 32)
    (r0 : P.underlying g0.type = some (.int .i64)) (r1 : P.underlying g1.type = some (.int .i64)) (r2 : P.underlying g2.type = some (.int .i64)) (r3 : P.underlying g3.type = some (.int .i64))
    (r4 : P.underlying g4.type = some (.array 16 u)) (r5 : P.underlying g5.type = some (.array 32 u))
    (hv2 : P.underlying t2 = some (.struct #[s0, s1, s2, s3])) (x0 : s0.offset = 0) (x1 : s1.offset = 1) (x2 : s2.offset = 2) (x3 : s3.offset = 3)
    (y0 : P.cellsOf s0.type = 1) (y1 : P.cellsOf s1.type = 1) (y2 : P.cellsOf s2.type = 1) (y3 : P.cellsOf s3.type = 1)
    (z0 : P.underlying s0.type = some (.int .i64)) (z1 : P.underlying s1.type = some (.int .i64)) (z2 : P.underlying s2.type = some (.slice e)) (z3 : P.underlying s3.type = some (.slice e))
    (he : P.underlying e = some (.array 32 u)) (hu : P.underlying u = some (.int .u8)) (hc : P.cellsOf u = 1) (hce : P.cellsOf e = 32)
    (hv : ∃ cs, v = .agg cs ∧ cs.size = P.cellsOf t) (h : DataW.Trod enc P w 0 spare held t v d ps) :
    ∃ (pn a b c q : Int) (s r : List UInt8) (sh sl : Int) (a1 : Option Addr) (n1 c1 : Nat) (a2 : Option Addr) (n2 c2 : Nat) (a3 : Option Addr) (n3 c3 : Nat) (a4 : Option Addr) (n4 c4 : Nat) (X Y Z : List (List UInt8)) (B : List UInt8),
      v = gV [[.int .i64 pn], [.int .i64 a], [.int .i64 b], [.int .i64 c], [.int .i64 q], s.map bV, r.map bV, [.int .i64 sh], [.int .i64 sl], [.slice a1 n1 c1], [.slice a2 n2 c2], [.slice a3 n3 c3], [.slice a4 n4 c4]] ∧ s.length = 16 ∧ r.length = 32 ∧
      (-9223372036854775808 ≤ pn ∧ pn ≤ 9223372036854775807) ∧ (-9223372036854775808 ≤ a ∧ a ≤ 9223372036854775807) ∧ (-9223372036854775808 ≤ b ∧ b ≤ 9223372036854775807) ∧ (-9223372036854775808 ≤ c ∧ c ≤ 9223372036854775807) ∧ (-9223372036854775808 ≤ q ∧ q ≤ 9223372036854775807) ∧
      (-9223372036854775808 ≤ sh ∧ sh ≤ 9223372036854775807) ∧ (-9223372036854775808 ≤ sl ∧ sl ≤ 9223372036854775807) ∧
      RdH (hw w) (.slice a1 n1 c1) 32 X ∧ RdH (hw w) (.slice a2 n2 c2) 32 Y ∧ RdH (hw w) (.slice a3 n3 c3) 32 Z ∧ Rd (hw w) (.slice a4 n4 c4) n4 1 (B.map bV) := by
  subst e1; subst e2
  obtain ⟨⟨l⟩, rfl, hsz⟩ := hv
  obtain ⟨fuel, hf⟩ := h
  obtain ⟨xs, n, _, _, hl, hxs, hfi⟩ := DataW.trod_struct ht hf
  have hl4 : l.length = 59 := by rw [hct] at hl; simpa [Value.cells] using hl
  match xs, hxs with
  | [xa, xb, xc, xd, xe], _ =>
    have j0 := hfi 0 f0 rfl
    have j1 := hfi 1 f1 rfl
    have j2 := hfi 2 f2 rfl
    have j3 := hfi 3 f3 rfl
    have j4 := hfi 4 f4 rfl
    rw [o0, k0] at j0
    rw [o1, k1] at j1
    rw [o2, k2] at j2
    rw [o3, k3] at j3
    rw [o4, k4] at j4
    have j0' : DataW.trod enc P w 0 spare held n f0.type (l.take 1) = some xa := j0
    have j1' : DataW.trod enc P w 0 spare held n f1.type ((l.drop 1).take 52) = some xb := j1
    have j2' : DataW.trod enc P w 0 spare held n f2.type ((l.drop 53).take 4) = some xc := j2
    have j3' : DataW.trod enc P w 0 spare held n f3.type ((l.drop 57).take 1) = some xd := j3
    have j4' : DataW.trod enc P w 0 spare held n f4.type ((l.drop 58).take 1) = some xe := j4
    clear j0 j1 j2 j3 j4
    obtain ⟨pn, ea, ha⟩ := part_int u0 j0'
    obtain ⟨a, b, c, q, s, r, eb, hs, hr, ba, bb, bc, bq⟩ := open_q (d := xb.1) (ps := xb.2) hv1 k1 p0 p1 p2 p3 p4 p5 q0 q1 q2 q3 q4 q5 r0 r1 r2 r3 r4 r5 hu hc (part_len hv1 j1') ⟨n, j1'⟩
    obtain ⟨sh, sl, a1, n1, c1, a2, n2, c2, X, Y, ec, bh, bl, f5, f6⟩ := open_sig (d := xc.1) (ps := xc.2) hv2 k2 x0 x1 x2 x3 y0 y1 y2 y3 z0 z1 z2 z3 he hu hc hce (part_len hv2 j2') ⟨n, j2'⟩
    have lb : (l.drop 1).take 52 = [[Value.int .i64 a], [.int .i64 b], [.int .i64 c], [.int .i64 q], s.map bV, r.map bV].flatten := (congrArg (fun z : Value => z.cells.toList) eb).trans qV_flat.symm
    have lc : (l.drop 53).take 4 = [.int .i64 sh, .int .i64 sl, .slice a1 n1 c1, .slice a2 n2 c2] := congrArg (fun z : Value => z.cells.toList) ec
    have l3 : ((l.drop 57).take 1).length = 1 := by rw [List.length_take, List.length_drop]; omega
    have l4 : (l.drop 58).length = 1 := by rw [List.length_drop]; omega
    obtain ⟨v3, e3⟩ := List.length_eq_one_iff.1 l3
    obtain ⟨v4, e4⟩ := List.length_eq_one_iff.1 l4
    rw [e3] at j3'
    rw [e4] at j4'
    obtain ⟨a3, n3, c3, rfl⟩ := slice_of u3 j3'
    obtain ⟨a4, n4, c4, rfl⟩ := slice_of (c := v4) u4 j4'
    obtain ⟨Z, f7⟩ := open_hashes (v := .slice a3 n3 c3) (d := xd.1) (ps := xd.2) u3 he hu hc hce (by decide) ⟨_, _, _, rfl⟩ ⟨n, j3'⟩
    obtain ⟨B, f8⟩ := open_bytes_rd (v := .slice a4 n4 c4) (d := xe.1) (ps := xe.2) u4 hu hc ⟨_, _, _, rfl⟩ ⟨n, j4'⟩
    have ln : n4 = B.length := by
      obtain ⟨_, a', c', hv, _⟩ := id f8
      cases hv; rfl
    refine ⟨pn, a, b, c, q, s, r, sh, sl, a1, n1, c1, a2, n2, c2, a3, n3, c3, a4, n4, c4, X, Y, Z, B, ?_, hs, hr, ha, ba, bb, bc, bq, bh, bl, f5, f6, f7, by rw [ln] at f8 ⊢; exact f8⟩
    have e := cut5 (l := l) (n1 := 52) (n2 := 4) (n3 := 1)
    rw [ea, lb, lc, e3, e4] at e
    rw [e]
    simp [gV]
theorem open_cap {t u tk th : TypeId} {f0 f1 f2 f3 f4 f5 f6 : Field} {v : Value} {d : DataW H} {ps : List MemPlace}
    (ht : P.underlying t = some (.struct #[f0, f1, f2, f3, f4, f5, f6])) (hct : P.cellsOf t = 53) (o0 : f0.offset = 0) (o1 : f1.offset = 1) (o2 : f2.offset = 17) (o3 : f3.offset = 49) (o4 : f4.offset = 50) (o5 : f5.offset = 51) (o6 : f6.offset = 52)
    (k0 : P.cellsOf f0.type = 1) (k1 : P.cellsOf f1.type = 16) (k2 : P.cellsOf f2.type = 32) (k3 : P.cellsOf f3.type = 1) (k4 : P.cellsOf f4.type = 1) (k5 : P.cellsOf f5.type = 1) (k6 : P.cellsOf f6.type = 1) (e1 : f1.type = tk) (e2 : f2.type = th)
    (u0 : P.underlying f0.type = some (.int .i64)) (u1 : P.underlying tk = some (.array 16 u)) (u2 : P.underlying th = some (.array 32 u)) (u3 : P.underlying f3.type = some (.int .i64)) (u4 : P.underlying f4.type = some (.int .i64)) (u5 : P.underlying f5.type = some (.int .i64)) (u6 : P.underlying f6.type = some (.slice u))
    (hu : P.underlying u = some (.int .u8)) (hc : P.cellsOf u = 1)
    (hv : ∃ cs, v = .agg cs ∧ cs.size = P.cellsOf t) (h : DataW.Trod enc P w 0 spare held t v d ps) :
    ∃ (kd : Int) (ky fp : List UInt8) (ck cn cz : Int) (a1 : Option Addr) (n1 c1 : Nat) (B : List UInt8),
      v = gV [[.int .i64 kd], ky.map bV, fp.map bV, [.int .i64 ck], [.int .i64 cn], [.int .i64 cz], [.slice a1 n1 c1]] ∧ ky.length = 16 ∧ fp.length = 32 ∧
      (-9223372036854775808 ≤ kd ∧ kd ≤ 9223372036854775807) ∧ (-9223372036854775808 ≤ ck ∧ ck ≤ 9223372036854775807) ∧ (-9223372036854775808 ≤ cn ∧ cn ≤ 9223372036854775807) ∧ (-9223372036854775808 ≤ cz ∧ cz ≤ 9223372036854775807) ∧
      Rd (hw w) (.slice a1 n1 c1) n1 1 (B.map bV) := by
  subst e1; subst e2
  obtain ⟨⟨l⟩, rfl, hsz⟩ := hv
  obtain ⟨fuel, hf⟩ := h
  obtain ⟨xs, n, _, _, hl, hxs, hfi⟩ := DataW.trod_struct ht hf
  have hl4 : l.length = 53 := by rw [hct] at hl; simpa [Value.cells] using hl
  match xs, hxs with
  | [xa, xb, xc, xd, xe, xf, xg], _ =>
    have j0 := hfi 0 f0 rfl
    have j1 := hfi 1 f1 rfl
    have j2 := hfi 2 f2 rfl
    have j3 := hfi 3 f3 rfl
    have j4 := hfi 4 f4 rfl
    have j5 := hfi 5 f5 rfl
    have j6 := hfi 6 f6 rfl
    rw [o0, k0] at j0
    rw [o1, k1] at j1
    rw [o2, k2] at j2
    rw [o3, k3] at j3
    rw [o4, k4] at j4
    rw [o5, k5] at j5
    rw [o6, k6] at j6
    have j0' : DataW.trod enc P w 0 spare held n f0.type (l.take 1) = some xa := j0
    have j1' : DataW.trod enc P w 0 spare held n f1.type ((l.drop 1).take 16) = some xb := j1
    have j2' : DataW.trod enc P w 0 spare held n f2.type ((l.drop 17).take 32) = some xc := j2
    have j3' : DataW.trod enc P w 0 spare held n f3.type ((l.drop 49).take 1) = some xd := j3
    have j4' : DataW.trod enc P w 0 spare held n f4.type ((l.drop 50).take 1) = some xe := j4
    have j5' : DataW.trod enc P w 0 spare held n f5.type ((l.drop 51).take 1) = some xf := j5
    have j6' : DataW.trod enc P w 0 spare held n f6.type ((l.drop 52).take 1) = some xg := j6
    clear j0 j1 j2 j3 j4 j5 j6
    obtain ⟨kd, ea, ha⟩ := part_int u0 j0'
    obtain ⟨ky, hky, eb⟩ := part_arr u1 hu hc k1 j1'
    obtain ⟨fp, hfp, ec⟩ := part_arr u2 hu hc k2 j2'
    obtain ⟨ck, ed, hd⟩ := part_int u3 j3'
    obtain ⟨cn, ee, hn⟩ := part_int u4 j4'
    obtain ⟨cz, ef, hz⟩ := part_int u5 j5'
    have l6 : ((l.drop 52).take 1).length = 1 := by rw [List.length_take, List.length_drop]; omega
    obtain ⟨v6, e6⟩ := List.length_eq_one_iff.1 l6
    rw [e6] at j6'
    obtain ⟨a1, n1, c1, rfl⟩ := slice_of u6 j6'
    obtain ⟨B, f8⟩ := open_bytes_rd (v := .slice a1 n1 c1) (d := xg.1) (ps := xg.2) u6 hu hc ⟨_, _, _, rfl⟩ ⟨n, j6'⟩
    have ln : n1 = B.length := by
      obtain ⟨_, a', c', hv, _⟩ := id f8
      cases hv; rfl
    refine ⟨kd, ky, fp, ck, cn, cz, a1, n1, c1, B, ?_, hky, hfp, ha, hd, hn, hz, by rw [ln] at f8 ⊢; exact f8⟩
    have e := cut5 (l := l) (n1 := 16) (n2 := 32) (n3 := 1)
    have e' : l.drop (1 + 16 + 32 + 1) = (l.drop 50).take 1 ++ ((l.drop 51).take 1 ++ (l.drop 52).take 1) := by
      have h2 := cut5 (l := l.drop 50) (n1 := 1) (n2 := 1) (n3 := 0)
      simp only [List.take_zero, List.nil_append, List.drop_drop] at h2
      rw [show 1 + 16 + 32 + 1 = 50 by rfl]
      have h3 : l.drop 53 = [] := List.drop_of_length_le (by omega)
      simp only [show 50 + 1 = 51 by rfl, show 50 + (1 + 1) = 52 by rfl, show 50 + (1 + 1 + 1) = 53 by rfl, h3, List.append_nil] at h2
      exact h2
    rw [e', ea, eb, ec, ed, ee, ef, e6] at e
    rw [e]
    simp [gV]
end
end Go.F

namespace Go.F
open Go Go.RowKit
def cutA (a : Option Addr) (c size : Nat) : Option Addr := if c = 0 then a else a.map (·.add (0 * size))
theorem Rd.takeA {H : Hp} {a : Option Addr} {n0 c size h : Nat} {xs : List Value} (r : Rd H (.slice a n0 c) n0 size xs) (h2 : h ≤ n0) : Rd H (.slice (cutA a c size) h c) h size (xs.take (h * size)) := by
  obtain ⟨hlen, a', c', hv, hc, hnone, hsome⟩ := r
  cases hv
  refine ⟨?_, _, _, rfl, by omega, ?_, ?_⟩
  · rw [List.length_take, hlen]
    have : h * size ≤ n0 * size := Nat.mul_le_mul_right _ h2
    omega
  · intro he
    cases a with
    | none => obtain ⟨rfl, rfl⟩ := hnone rfl; omega
    | some ad => unfold cutA at he; split at he <;> simp at he
  · intro ad had hpos
    cases a with
    | none => unfold cutA at had; split at had <;> simp at had
    | some ad0 =>
      obtain ⟨hs, hcell⟩ := hsome ad0 rfl (by omega)
      obtain ⟨b, off, s⟩ := ad0
      simp only at hs; subst hs
      unfold cutA at had
      rw [if_neg (by omega)] at had
      simp only [Option.map_some, add_none, Option.some.injEq] at had
      subst had
      refine ⟨rfl, fun j u hj => ?_⟩
      rw [List.getElem?_take] at hj
      split at hj
      · simpa using hcell j u hj
      · cases hj
theorem Rd.takeB {H : Hp} {a : Option Addr} {c k : Nat} {l : List UInt8} (r : Rd H (.slice a l.length c) l.length 1 (l.map bV)) : Rd H (.slice (cutA a c 1) (l.take k).length c) (l.take k).length 1 ((l.take k).map bV) := by
  have h := r.takeA (h := (l.take k).length) (by rw [List.length_take]; omega)
  rw [Nat.mul_one, ← List.map_take] at h
  have e : l.take (l.take k).length = l.take k := by rw [List.length_take, ← List.take_take, List.take_length]
  rwa [e] at h
theorem RdH.takeA {H : Hp} {a : Option Addr} {c k m : Nat} {l : List (List UInt8)} (r : RdH H (.slice a l.length c) m l) : RdH H (.slice (cutA a c m) (l.take k).length c) m (l.take k) := by
  refine ⟨fun x hx => r.1 x (List.mem_of_mem_take hx), ?_⟩
  have h := r.2.takeA (h := (l.take k).length) (by rw [List.length_take]; omega)
  rw [hcells_take r.1] at h
  have e : l.take (l.take k).length = l.take k := by rw [List.length_take, ← List.take_take, List.take_length]
  rwa [e] at h
section
variable {P : Program} {N : Plan} {n : Nat} {ops : Array Oper} {K : Env → World → Prop} {rest : List Oper} {ρ : Env} {w : World}
theorem T_sliceHi {o : Oper} {d : Nat} {t e : TypeId} {i : TypeInfo} {x y : Operand} {a : Option Addr} {n0 c size : Nat} {k0 : IntKind} {z : Int} (h : Nat)
    (ho : o.op = .slice t x none (some y) none) (hx : ρ.ev x = some (.slice a n0 c)) (hy : ρ.ev y = some (.int k0 z)) (ht : P.underlying t = some (.slice e)) (hi' : P.info? e = some i) (hsize : i.size = size) (hg : o.guard = none) (hd : o.dst = some d) (hn : Nat.ble (d + 1) n = true)
    (hz : z = (h : Int)) (h2 : h ≤ n0) (hc : n0 ≤ c) (k : T P N n ops K rest ((d, .slice (cutA a c size) h c) :: ρ) w) : T P N n ops K (o :: rest) ρ w :=
  T_val hg hd hn (fun ac ha u => by
    have e1 := ha.ev hx
    have e2 := ha.ev hy
    unfold execOp; rw [ho]; simp only [e1, e2, Option.map_none, Option.map_some]
    have hb := run_sliceBounds (P := P) (len := n0) (cap := c) (lo := none) (hi := some (.int k0 z)) (l := 0) (h := h) true (bound_of hz) rfl (Nat.zero_le _) (by omega) u
    simp [Instr.sliceAt, Instr.slice, run_underlying ht, hb, sizeOf, typeInfo, hi', cutA, hsize]) k
theorem T_callQ {o : Oper} {d : Nat} {f : FuncId} {xs : List Operand} {ts : Array TypeId} {args : List Value} {v : Value} (ho : o.op = .call ⟨.value (.func f), xs.toArray, ts⟩) (hxs : evs ρ xs = some args) (hf : goFn P f = true) (hi : P.inits.idxOf? f = none) (hcl : N.cl o = .pure) (hg : o.guard = none) (hd : o.dst = some d) (hn : Nat.ble (d + 1) n = true)
    (c : ∀ u, Calls P f args.toArray u (fun e w' => e = .returned v ∧ w' = u)) (k : T P N n ops K rest ((d, v) :: ρ) w) : T P N n ops K (o :: rest) ρ w := fun a ha hc => by
  unfold xo
  rw [if_pos (wanted_none hg _), hcl]
  exact ⟨v, fun u _ => .inr ⟨f, args.toArray, hi, run_call ho ha hxs hf u, c u⟩, (d, v) :: ρ, by rw [hd]; exact ha.put hn v, k⟩
end
end Go.F

namespace Go.F
open Go Go.RowKit
inductive Kd where
  | by (t : TypeId) (n : Nat)
  | ro (t : TypeId) (n m : Nat) (f : Nat → Bool)
  | va (t : TypeId) (v : Value)
  | vo (t : TypeId)
  | gf (t : TypeId)
def Kd.ty : Kd → TypeId
  | .by t _ => t
  | .ro t _ _ _ => t
  | .va t _ => t
  | .vo t => t
  | .gf t => t
abbrev Bp := Nat → Option Kd
def Kd.le : Kd → Kd → Prop
  | .ro t n m f, k => ∃ f', k = .ro t n m f' ∧ ∀ i, f i = true → f' i = true
  | .by t n, k => k = .by t n
  | .va t v, k => k = .va t v
  | .vo t, k => k = .vo t ∨ ∃ v, k = .va t v
  | .gf t, k => k = .gf t
theorem Kd.le.refl : ∀ k : Kd, k.le k
  | .ro _ _ _ f => ⟨f, rfl, fun _ h => h⟩
  | .by _ _ => rfl
  | .va _ _ => rfl
  | .vo _ => .inl rfl
  | .gf _ => rfl
theorem Kd.le.trans : ∀ {a b c : Kd}, a.le b → b.le c → a.le c
  | .ro _ _ _ _, _, _, ⟨f1, rfl, h1⟩, ⟨f2, rfl, h2⟩ => ⟨f2, rfl, fun i h => h2 i (h1 i h)⟩
  | .by _ _, _, _, rfl, h => h
  | .va _ _, _, _, rfl, h => h
  | .vo _, _, _, .inl rfl, h => h
  | .vo _, _, _, .inr ⟨v, rfl⟩, rfl => .inr ⟨v, rfl⟩
  | .gf _, _, _, rfl, h => h
theorem Kd.le.ty : ∀ {a b : Kd}, a.le b → b.ty = a.ty
  | .ro _ _ _ _, _, ⟨_, rfl, _⟩ => rfl
  | .by _ _, _, rfl => rfl
  | .va _ _, _, rfl => rfl
  | .vo _, _, .inl rfl => rfl
  | .vo _, _, .inr ⟨_, rfl⟩ => rfl
  | .gf _, _, rfl => rfl
def Bp.le (B B' : Bp) : Prop := ∀ b k, B b = some k → ∃ k', B' b = some k' ∧ k.le k'
theorem Bp.le.refl (B : Bp) : B.le B := fun _ k h => ⟨k, h, .refl k⟩
theorem Bp.le.trans {A B C : Bp} (h : A.le B) (h' : B.le C) : A.le C := fun b k e => by
  obtain ⟨k1, e1, l1⟩ := h b k e
  obtain ⟨k2, e2, l2⟩ := h' b k1 e1
  exact ⟨k2, e2, l1.trans l2⟩
def ByB (B : Bp) (b n : Nat) : Prop := ∃ t, B b = some (.by t n)
def VaB (B : Bp) (b : Nat) (v : Value) : Prop := ∃ t, B b = some (.va t v)
def GfB (B : Bp) (b : Nat) : Prop := ∃ t, B b = some (.gf t)
def SlB (B : Bp) (v : Value) (n : Nat) : Prop := (v = .slice none 0 0 ∧ n = 0) ∨ ∃ b off c k, v = .slice (some ⟨b, off, none⟩) n c ∧ ByB B b k ∧ n ≤ c ∧ off + c ≤ k
def ApB (t : TypeId) (B : Bp) (v : Value) (n : Nat) : Prop := (v = .slice none 0 0 ∧ n = 0) ∨ ∃ b c, v = .slice (some ⟨b, 0, none⟩) n c ∧ B b = some (.by t c) ∧ n ≤ c ∧ c ≤ maxLen
def RoB (B : Bp) (v : Value) (n m : Nat) : Prop := (v = .slice none 0 0 ∧ n = 0) ∨ ∃ b off c t k f, v = .slice (some ⟨b, off, none⟩) n c ∧ B b = some (.ro t k m f) ∧ n ≤ c ∧ off + c ≤ k ∧ ∀ i, i < n → f (off + i) = true
def ArB (t : TypeId) (B : Bp) (v : Value) (n m : Nat) : Prop := (v = .slice none 0 0 ∧ n = 0) ∨ ∃ b c f, v = .slice (some ⟨b, 0, none⟩) n c ∧ B b = some (.ro t c m f) ∧ n ≤ c ∧ c ≤ maxLen ∧ ∀ i, i < n → f i = true
section
variable {B B' : Bp}
theorem ByB.mono {b n : Nat} (h : ByB B b n) (hl : B.le B') : ByB B' b n := by
  obtain ⟨t, h⟩ := h
  obtain ⟨k, e, rfl⟩ := hl b _ h
  exact ⟨t, e⟩
theorem VaB.mono {b : Nat} {v : Value} (h : VaB B b v) (hl : B.le B') : VaB B' b v := by
  obtain ⟨t, h⟩ := h
  obtain ⟨k, e, rfl⟩ := hl b _ h
  exact ⟨t, e⟩
theorem GfB.mono {b : Nat} (h : GfB B b) (hl : B.le B') : GfB B' b := by
  obtain ⟨t, h⟩ := h
  obtain ⟨k, e, rfl⟩ := hl b _ h
  exact ⟨t, e⟩
theorem SlB.mono {v : Value} {n : Nat} (h : SlB B v n) (hl : B.le B') : SlB B' v n := by
  rcases h with h | ⟨b, off, c, k, e, h, r⟩
  · exact .inl h
  · exact .inr ⟨b, off, c, k, e, h.mono hl, r⟩
theorem ApB.mono {t : TypeId} {v : Value} {n : Nat} (h : ApB t B v n) (hl : B.le B') : ApB t B' v n := by
  rcases h with h | ⟨b, c, e, h, r⟩
  · exact .inl h
  · obtain ⟨k, e', rfl⟩ := hl b _ h
    exact .inr ⟨b, c, e, e', r⟩
theorem RoB.mono {v : Value} {n m : Nat} (h : RoB B v n m) (hl : B.le B') : RoB B' v n m := by
  rcases h with h | ⟨b, off, c, t, k, f, e, h, r1, r2, r3⟩
  · exact .inl h
  · obtain ⟨k', e', f', rfl, hf⟩ := hl b _ h
    exact .inr ⟨b, off, c, t, k, f', e, e', r1, r2, fun i hi => hf _ (r3 i hi)⟩
theorem ArB.mono {t : TypeId} {v : Value} {n m : Nat} (h : ArB t B v n m) (hl : B.le B') : ArB t B' v n m := by
  rcases h with h | ⟨b, c, f, e, h, r1, r2, r3⟩
  · exact .inl h
  · obtain ⟨k', e', f', rfl, hf⟩ := hl b _ h
    exact .inr ⟨b, c, f', e, e', r1, r2, fun i hi => hf _ (r3 i hi)⟩
theorem ApB.sl {t : TypeId} {v : Value} {n : Nat} (h : ApB t B v n) : SlB B v n := by
  rcases h with h | ⟨b, c, e, h, r, _⟩
  · exact .inl h
  · exact .inr ⟨b, 0, c, c, e, ⟨t, h⟩, r, by omega⟩
theorem ArB.ro {t : TypeId} {v : Value} {n m : Nat} (h : ArB t B v n m) : RoB B v n m := by
  rcases h with h | ⟨b, c, f, e, h, r1, _, r3⟩
  · exact .inl h
  · exact .inr ⟨b, 0, c, t, c, f, e, h, r1, by omega, fun i hi => by rw [Nat.zero_add]; exact r3 i hi⟩
theorem ApB.nil (t : TypeId) (B : Bp) : ApB t B (.slice none 0 0) 0 := .inl ⟨rfl, rfl⟩
theorem ArB.nil (t : TypeId) (B : Bp) (m : Nat) : ArB t B (.slice none 0 0) 0 m := .inl ⟨rfl, rfl⟩
theorem SlB.shape {v : Value} {n : Nat} (h : SlB B v n) : ∃ a c, v = .slice a n c := by
  rcases h with ⟨rfl, rfl⟩ | ⟨b, off, c, k, e, _⟩
  · exact ⟨none, 0, rfl⟩
  · exact ⟨_, c, e⟩
theorem RoB.shape {v : Value} {n m : Nat} (h : RoB B v n m) : ∃ a c, v = .slice a n c := by
  rcases h with ⟨rfl, rfl⟩ | ⟨b, off, c, t, k, f, e, _⟩
  · exact ⟨none, 0, rfl⟩
  · exact ⟨_, c, e⟩
theorem SlB.one {v : Value} {n : Nat} (h : SlB B v n) : v.oneCell' = true ∧ v.cells = #[v] := by
  obtain ⟨a, c, rfl⟩ := h.shape
  exact ⟨rfl, rfl⟩
end

def Kok (B : Bp) : Kd → Array Value → Prop
  | .by _ n, c => c.size = n ∧ ∀ i, i < n → ∃ x : UInt8, c[i]? = some (bV x)
  | .ro _ n m f, c => c.size = n ∧ ∀ i, i < n → ∃ v, c[i]? = some v ∧ (SlB B v m ∨ (f i = false ∧ SlB B v 0))
  | .va _ v, c => c = #[v]
  | .vo _, c => c.size = 1
  | .gf _, c => c.size = 766 ∧ (∀ i, i < 510 → ∃ x : UInt8, c[i]? = some (bV x)) ∧ ∀ i, i < 256 → ∃ z : Nat, z < 255 ∧ c[510 + i]? = some (.int .i64 (z : Int))
theorem Kok.mono {B B' : Bp} (hl : B.le B') : ∀ {k : Kd} {c : Array Value}, Kok B k c → Kok B' k c
  | .by _ _, _, h => h
  | .ro _ _ _ _, _, h => ⟨h.1, fun i hi => by
    obtain ⟨v, e, h⟩ := h.2 i hi
    exact ⟨v, e, h.imp (fun h => h.mono hl) (fun h => ⟨h.1, h.2.mono hl⟩)⟩⟩
  | .va _ _, _, h => h
  | .vo _, _, h => h
  | .gf _, _, h => h
structure Wk (W : World) (H : Hp) (B : Bp) (w : World) : Prop where
  below : Below W.heap.size W w
  le : H.le (hw w)
  apart : ∀ b k, B b = some k → H b = none
  own : ∀ b k, B b = some k → W.heap.size ≤ b ∧ ∃ c, w.heap[b]? = some (.cells c k.ty (0, 0)) ∧ Kok B k c
section
variable {W w w' : World} {H : Hp} {B : Bp}
theorem Wk.start (hH : H.le (hw w)) : Wk w H (fun _ => none) w := ⟨below_refl w, hH, fun _ _ h => (by cases h), fun _ _ h => (by cases h)⟩
theorem Wk.lt (K : Wk W H B w) {b : Nat} {k : Kd} (h : B b = some k) : b < w.heap.size := by
  obtain ⟨_, c, hc, _⟩ := K.own b k h
  exact blk_lt hc
theorem Wk.noneH (K : Wk W H B w) {b : Nat} (h : w.heap.size ≤ b) : H b = none := by
  cases e : H b with
  | none => rfl
  | some o => have := (Array.getElem?_eq_some_iff.1 (K.le b o e)).1; omega
theorem Wk.grow0 (K : Wk W H B w) (hg : w.grownBy w' none) : Wk W H B w' :=
  ⟨K.below.step0 hg, K.le.trans (hw_le_none hg), K.apart, fun b k h => by
    obtain ⟨h1, c, hc, h2⟩ := K.own b k h
    exact ⟨h1, c, blk_step hc hg (by simp), h2⟩⟩
theorem Wk.call (K : Wk W H B w) (hB : Below w.heap.size w w') : Wk W H B w' := K.grow0 (grown_of_below hB none)
theorem Wk.drew (K : Wk W H B w) : Wk W H B w.drew := K.grow0 ⟨rfl, rfl, rfl, Nat.le_refl _, fun _ _ _ => rfl⟩
theorem Wk.new (K : Wk W H B w) (hg : w.grownBy w' none) {b : Nat} (k : Kd) {c : Array Value} (hb : w.heap.size ≤ b) (hc : w'.heap[b]? = some (.cells c k.ty (0, 0))) (hk : Kok B k c) : ∃ B', B.le B' ∧ B' b = some k ∧ Wk W H B' w' := by
  have hl : B.le (fun x => if x = b then some k else B x) := fun x k' e => by
    have : x ≠ b := fun e' => by have := K.lt e; omega
    exact ⟨k', (if_neg this).trans e, .refl k'⟩
  have K' := K.grow0 hg
  refine ⟨_, hl, if_pos rfl, K'.below, K'.le, fun x k' e => ?_, fun x k' e => ?_⟩
  · split at e
    · rename_i e'; rw [e']; exact K.noneH hb
    · exact K.apart x k' e
  · split at e
    · rename_i e'
      cases e
      rw [e']
      exact ⟨Nat.le_trans K.below.size hb, c, hc, hk.mono hl⟩
    · obtain ⟨h1, c', hc', h2⟩ := K'.own x k' e
      exact ⟨h1, c', hc', h2.mono hl⟩
theorem Wk.put (K : Wk W H B w) {b : Nat} {k : Kd} (hb : B b = some k) (hg : w.grownBy w' (some b)) (k' : Kd) (hk : k.le k') {c : Array Value} (hc : w'.heap[b]? = some (.cells c k.ty (0, 0))) (ho : Kok B k' c) : ∃ B', B.le B' ∧ B' b = some k' ∧ Wk W H B' w' := by
  have hl : B.le (fun x => if x = b then some k' else B x) := fun x k1 e => by
    by_cases e' : x = b
    · subst e'
      rw [hb] at e; cases e
      exact ⟨k', if_pos rfl, hk⟩
    · exact ⟨k1, (if_neg e').trans e, .refl k1⟩
  have h0 := (K.own b k hb).1
  refine ⟨_, hl, if_pos rfl, K.below.step hg (fun g e => by cases e; exact h0), fun x o e => ?_, fun x k1 e => ?_, fun x k1 e => ?_⟩
  · have h1 := K.le x o e
    have hne : x ≠ b := fun e' => by rw [e', K.apart b k hb] at e; cases e
    exact (hg.block x (Array.getElem?_eq_some_iff.1 h1).1 (by simpa using hne)).trans h1
  · split at e
    · rename_i e'; rw [e']; exact K.apart b k hb
    · exact K.apart x k1 e
  · split at e
    · rename_i e'
      cases e
      rw [e', hk.ty]
      exact ⟨h0, c, hc, ho.mono hl⟩
    · rename_i e'
      obtain ⟨h1, c', hc', h2⟩ := K.own x k1 e
      exact ⟨h1, c', blk_step hc' hg (by simpa using fun q : b = x => e' q.symm), h2.mono hl⟩
theorem Wk.put' (K : Wk W H B w) {b : Nat} {k : Kd} (hb : B b = some k) (hg : w.grownBy w' (some b)) {c : Array Value} (hc : w'.heap[b]? = some (.cells c k.ty (0, 0))) (ho : Kok B k c) : Wk W H B w' := by
  have h0 := (K.own b k hb).1
  refine ⟨K.below.step hg (fun g e => by cases e; exact h0), fun x o e => ?_, K.apart, fun x k1 e => ?_⟩
  · have h1 := K.le x o e
    have hne : x ≠ b := fun e' => by rw [e', K.apart b k hb] at e; cases e
    exact (hg.block x (Array.getElem?_eq_some_iff.1 h1).1 (by simpa using hne)).trans h1
  · by_cases e' : x = b
    · subst e'
      rw [hb] at e; cases e
      exact ⟨h0, c, hc, ho⟩
    · obtain ⟨h1, c', hc', h2⟩ := K.own x k1 e
      exact ⟨h1, c', blk_step hc' hg (by simpa using fun q : b = x => e' q.symm), h2⟩
theorem Wk.byte (K : Wk W H B w) {b n off : Nat} (h : ByB B b n) (ho : off < n) : ∃ x : UInt8, w.cell? ⟨b, off, none⟩ = some (bV x) := by
  obtain ⟨t, h⟩ := h
  obtain ⟨_, c, hc, h1, h2⟩ := K.own b _ h
  obtain ⟨x, hx⟩ := h2 off ho
  exact ⟨x, cell_of_hcell (by rw [hcell_blk hc]; exact hx)⟩
theorem Wk.bytes (K : Wk W H B w) {b n off m : Nat} (h : ByB B b n) (ho : off + m ≤ n) : ∃ l : List UInt8, l.length = m ∧ ∀ (j : Nat) v, (l.map bV).toArray[j]? = some v → w.cell? ⟨b, off + j, none⟩ = some v := by
  obtain ⟨t, h⟩ := h
  obtain ⟨_, c, hc, h1, h2⟩ := K.own b _ h
  have key : ∀ m, off + m ≤ n → ∃ l : List UInt8, l.length = m ∧ ∀ (j : Nat) v, (l.map bV)[j]? = some v → c[off + j]? = some v := by
    intro m
    induction m with
    | zero => intro _; exact ⟨[], rfl, fun j v hv => by simp at hv⟩
    | succ m ih =>
      intro hm
      obtain ⟨l, hl, hc'⟩ := ih (by omega)
      obtain ⟨x, hx⟩ := h2 (off + m) (by omega)
      refine ⟨l ++ [x], by simp [hl], fun j v hv => ?_⟩
      rw [List.map_append] at hv
      by_cases hj : j < l.length
      · rw [List.getElem?_append_left (by simpa using hj)] at hv
        exact hc' j v hv
      · rw [List.getElem?_append_right (by simpa using hj)] at hv
        have e : j = m := by
          have := (List.getElem?_eq_some_iff.1 hv).1
          simp at this; omega
        rw [e] at hv ⊢
        simp [hl] at hv
        rw [← hv]; exact hx
  obtain ⟨l, hl, hc'⟩ := key m ho
  exact ⟨l, hl, fun j v hv => cell_of_hcell (by rw [hcell_blk hc]; exact hc' j v (by simpa using hv))⟩
end
end Go.F

namespace Go.F
open Go Go.RowKit
section
variable {P : Program} {N : Plan} {n : Nat} {ops : Array Oper} {K : Env → World → Prop} {rest : List Oper} {ρ : Env} {w W : World} {H : Hp} {B : Bp}

theorem T_gen8 {d : Nat} {v : Value} (h : ∃ x : UInt8, v = bV x) (k : ∀ x : UInt8, T P N n ops K rest ((d, bV x) :: ρ) w) : T P N n ops K rest ((d, v) :: ρ) w := by
  obtain ⟨x, rfl⟩ := h; exact k x
theorem wk_byte {z : Int} (h0 : 0 ≤ z) (h1 : z ≤ 255) : ∃ x : UInt8, Value.int .u8 z = bV x :=
  ⟨UInt8.ofNat z.toNat, by unfold bV; rw [UInt8.toNat_ofNat', Nat.mod_eq_of_lt (by omega)]; congr 1; omega⟩
theorem wk_wrap (z : Int) : ∃ x : UInt8, Value.int .u8 (IntKind.u8.wrap z) = bV x := by
  have h := IntKind.wrap_u8 z
  exact wk_byte (by rw [h]; omega) (by rw [h]; omega)

theorem T_allocK {o : Oper} {d : Nat} {t : TypeId} {i : TypeInfo} {z : Value} (C : Wk W H B w) (k : Kd) (hC : ∀ u, N.C u) (ho : o.op = .alloc t) (hi : P.info? t = some i) (hz : i.zero = some z) (hcl : N.cl o = .loud) (hg : o.guard = none) (hd : o.dst = some d) (hn : Nat.ble (d + 1) n = true)
    (ht : k.ty = t) (hk : Kok B k z.cells)
    (kk : ∀ b w' B', B.le B' → B' b = some k → Wk W H B' w' → T P N n ops K rest ((d, .pointer (some ⟨b, 0, none⟩)) :: ρ) w') : T P N n ops K (o :: rest) ρ w :=
  T_alloc hC ho hi hz hcl hg hd hn fun b w' hb hc hgr => by
    obtain ⟨B', h1, h2, h3⟩ := C.new hgr k (Nat.le_of_eq hb.symm) (by rw [ht]; exact hc) hk
    exact kk b w' B' h1 h2 h3
theorem T_boxK {o : Oper} {d : Nat} {t : TypeId} {x : Operand} {v : Value} (C : Wk W H B w) (k : Kd) (hC : ∀ u, N.C u) (ho : o.op = .box t x) (hx : ρ.ev x = some v) (hcl : N.cl o = .loud) (hg : o.guard = none) (hd : o.dst = some d) (hn : Nat.ble (d + 1) n = true)
    (ht : k.ty = t) (hk : Kok B k v.cells)
    (kk : ∀ b w' B', B.le B' → B' b = some k → Wk W H B' w' → T P N n ops K rest ((d, .pointer (some ⟨b, 0, none⟩)) :: ρ) w') : T P N n ops K (o :: rest) ρ w :=
  T_box hC ho hx hcl hg hd hn fun b w' hb hc hgr => by
    obtain ⟨B', h1, h2, h3⟩ := C.new hgr k (Nat.le_of_eq hb.symm) (by rw [ht]; exact hc) hk
    exact kk b w' B' h1 h2 h3
theorem Kok.made {t : TypeId} (m : Nat) : Kok B (.by t m) (madeCells (Value.int .u8 0).cells (m * 1)) := by
  refine ⟨by simp [madeCells], fun i hi => ⟨0, ?_⟩⟩
  simp [madeCells, hi, Value.cells, Nat.mod_one]
theorem Kok.rows {t : TypeId} (m l : Nat) : Kok B (.ro t m l fun _ => false) (madeCells (Value.slice none 0 0).cells (m * 1)) := by
  refine ⟨by simp [madeCells], fun i hi => ⟨.slice none 0 0, ?_, .inr ⟨rfl, .inl ⟨rfl, rfl⟩⟩⟩⟩
  simp [madeCells, hi, Value.cells, Nat.mod_one]
theorem T_makeK {o : Oper} {d : Nat} {t e : TypeId} {i : TypeInfo} {x y : Operand} {kx ky : IntKind} {p q : Int} (C : Wk W H B w) (m : Nat) (hC : ∀ u, N.C u) (ho : o.op = .makeSlice t x y) (hx : ρ.ev x = some (.int kx p)) (hy : ρ.ev y = some (.int ky q))
    (ht : P.underlying t = some (.slice e)) (hi : P.info? e = some i) (hz : i.zero = some (.int .u8 0)) (hsz : i.size = 1) (hcl : N.cl o = .loud) (hg : o.guard = none) (hd : o.dst = some d) (hn : Nat.ble (d + 1) n = true)
    (hp : p = (m : Int)) (hq : q = (m : Int)) (hbytes : i.bytes * m ≤ 281474976710656) (h63 : m ≤ maxLen)
    (kk : ∀ b w' B', B.le B' → ApB e B' (.slice (some ⟨b, 0, none⟩) m m) m → Wk W H B' w' → T P N n ops K rest ((d, .slice (some ⟨b, 0, none⟩) m m) :: ρ) w') : T P N n ops K (o :: rest) ρ w :=
  T_makeS m (St.start w C.le) (fun u _ => hC u) ho hx hy ht hi hz hcl hg hd hn hp hq hbytes h63 fun b w' S => by
    have h := S.ok 0 _ rfl
    obtain ⟨B', h1, h2, h3⟩ := C.new (grown_of_below S.below none) (.by e m) h.2 h.1 (by rw [hsz]; exact Kok.made m)
    exact kk b w' B' h1 (.inr ⟨b, m, rfl, h2, Nat.le_refl _, h63⟩) h3
theorem T_makeKR {o : Oper} {d : Nat} {t e : TypeId} {i : TypeInfo} {x y : Operand} {kx ky : IntKind} {p q : Int} (C : Wk W H B w) (m l : Nat) (hC : ∀ u, N.C u) (ho : o.op = .makeSlice t x y) (hx : ρ.ev x = some (.int kx p)) (hy : ρ.ev y = some (.int ky q))
    (ht : P.underlying t = some (.slice e)) (hi : P.info? e = some i) (hz : i.zero = some (.slice none 0 0)) (hsz : i.size = 1) (hcl : N.cl o = .loud) (hg : o.guard = none) (hd : o.dst = some d) (hn : Nat.ble (d + 1) n = true)
    (hp : p = (m : Int)) (hq : q = (m : Int)) (hbytes : i.bytes * m ≤ 281474976710656) (h63 : m ≤ maxLen)
    (kk : ∀ b w' B', B.le B' → B' b = some (.ro e m l fun _ => false) → Wk W H B' w' → T P N n ops K rest ((d, .slice (some ⟨b, 0, none⟩) m m) :: ρ) w') : T P N n ops K (o :: rest) ρ w :=
  T_makeS m (St.start w C.le) (fun u _ => hC u) ho hx hy ht hi hz hcl hg hd hn hp hq hbytes h63 fun b w' S => by
    have h := S.ok 0 _ rfl
    obtain ⟨B', h1, h2, h3⟩ := C.new (grown_of_below S.below none) (.ro e m l fun _ => false) h.2 h.1 (by rw [hsz]; exact Kok.rows m l)
    exact kk b w' B' h1 h2 h3

theorem T_load1K {o : Oper} {d : Nat} {t : TypeId} {x : Operand} {b off m : Nat} (C : Wk W H B w) (hb : ByB B b m) (ho : o.op = .load t x) (hx : ρ.ev x = some (.pointer (some ⟨b, off, none⟩))) (hs : scalar P t = true) (hcl : N.cl o = .read) (hg : o.guard = none) (hd : o.dst = some d) (hn : Nat.ble (d + 1) n = true)
    (hm : off < m) (k : ∀ x : UInt8, T P N n ops K rest ((d, bV x) :: ρ) w) : T P N n ops K (o :: rest) ρ w := by
  obtain ⟨y, hy⟩ := C.byte hb hm
  exact T_load ho hx hs hcl hg hd hn hy (k y)
theorem T_loadVK {o : Oper} {d : Nat} {t : TypeId} {x : Operand} {b : Nat} {v : Value} (C : Wk W H B w) (hb : VaB B b v) (ho : o.op = .load t x) (hx : ρ.ev x = some (.pointer (some ⟨b, 0, none⟩))) (hs : scalar P t = true) (hcl : N.cl o = .read) (hg : o.guard = none) (hd : o.dst = some d) (hn : Nat.ble (d + 1) n = true)
    (k : T P N n ops K rest ((d, v) :: ρ) w) : T P N n ops K (o :: rest) ρ w := by
  obtain ⟨t', hb⟩ := hb
  obtain ⟨_, c, hc, rfl⟩ := C.own b _ hb
  exact T_load ho hx hs hcl hg hd hn (cell_of_hcell (by rw [hcell_blk hc]; rfl)) k
theorem T_loadRK {o : Oper} {d : Nat} {t : TypeId} {x : Operand} {b off m l : Nat} {t0 : TypeId} {f : Nat → Bool} (C : Wk W H B w) (hb : B b = some (.ro t0 m l f)) (ho : o.op = .load t x) (hx : ρ.ev x = some (.pointer (some ⟨b, off, none⟩))) (hs : scalar P t = true) (hcl : N.cl o = .read) (hg : o.guard = none) (hd : o.dst = some d) (hn : Nat.ble (d + 1) n = true)
    (hm : off < m) (hf : f off = true) (k : ∀ a c, SlB B (.slice a l c) l → T P N n ops K rest ((d, .slice a l c) :: ρ) w) : T P N n ops K (o :: rest) ρ w := by
  obtain ⟨_, c, hc, h1, h2⟩ := C.own b _ hb
  obtain ⟨v, hv, h3⟩ := h2 off hm
  have h4 : SlB B v l := h3.resolve_right fun h => by rw [hf] at h; cases h.1
  obtain ⟨a, c', rfl⟩ := h4.shape
  exact T_load ho hx hs hcl hg hd hn (cell_of_hcell (by rw [hcell_blk hc]; exact hv)) (k a c' h4)

theorem Kok.set {c : Array Value} {t : TypeId} {m off : Nat} {x : UInt8} (h : Kok B (.by t m) c) : Kok B (.by t m) (c.setIfInBounds off (bV x)) := by
  refine ⟨by simpa using h.1, fun i hi => ?_⟩
  rw [Array.getElem?_setIfInBounds]
  split
  · split
    · exact ⟨x, rfl⟩
    · have := h.1; omega
  · exact h.2 i hi
theorem T_store1K {o : Oper} {t : TypeId} {i : TypeInfo} {x y : Operand} {b off m : Nat} {u : UInt8} (C : Wk W H B w) (hb : ByB B b m) (hC : ∀ u, N.C u) (ho : o.op = .store t x y) (hx : ρ.ev x = some (.pointer (some ⟨b, off, none⟩))) (hy : ρ.ev y = some (bV u))
    (hi : P.info? t = some i) (hi1 : i.size = 1) (hcl : N.cl o = .loud) (hg : o.guard = none) (hd : o.dst = none) (hm : off < m)
    (k : ∀ w', Wk W H B w' → T P N n ops K rest ρ w') : T P N n ops K (o :: rest) ρ w := by
  obtain ⟨t', hb⟩ := hb
  obtain ⟨_, c, hc, hk⟩ := C.own b _ hb
  exact T_store1 off hC ho hx hy hi hi1 rfl rfl hcl hg hd hc rfl (by rw [hk.1]; exact hm) fun w' h1 h2 _ => k w' (C.put' hb h2 h1 hk.set)
theorem Kok.put {c : Array Value} {t : TypeId} {m off : Nat} {l : List UInt8} (h : Kok B (.by t m) c) (hl : off + l.length ≤ m) : Kok B (.by t m) (c.toList.take off ++ l.map bV ++ c.toList.drop (off + l.length)).toArray := by
  have hs := h.1
  refine ⟨by simp only [List.size_toArray, List.length_append, List.length_take, List.length_drop, List.length_map, Array.length_toList]; omega, fun i hi => ?_⟩
  rw [List.getElem?_toArray, List.append_assoc]
  have h1 : (c.toList.take off).length = off := by rw [List.length_take, Array.length_toList]; omega
  by_cases e : i < off
  · rw [List.getElem?_append_left (by omega), List.getElem?_take, if_pos e, Array.getElem?_toList]
    exact h.2 i hi
  · rw [List.getElem?_append_right (by omega), h1]
    by_cases e' : i - off < l.length
    · rw [List.getElem?_append_left (by simpa using e'), List.getElem?_map, List.getElem?_eq_getElem e']
      exact ⟨_, rfl⟩
    · rw [List.getElem?_append_right (by simpa using e'), List.length_map, List.getElem?_drop, show off + l.length + (i - off - l.length) = i by omega, Array.getElem?_toList]
      exact h.2 i hi
theorem Kok.setR {c : Array Value} {t : TypeId} {m l off : Nat} {f : Nat → Bool} {v : Value} (h : Kok B (.ro t m l f) c) (hv : SlB B v l) : Kok B (.ro t m l fun i => f i || Nat.beq i off) (c.setIfInBounds off v) := by
  refine ⟨by simpa using h.1, fun i hi => ?_⟩
  rw [Array.getElem?_setIfInBounds]
  split
  · split
    · exact ⟨v, rfl, .inl hv⟩
    · have := h.1; omega
  · rename_i hne
    obtain ⟨u, h1, h2⟩ := h.2 i hi
    refine ⟨u, h1, h2.imp id fun h => ⟨?_, h.2⟩⟩
    have : Nat.beq i off = false := by
      cases e : Nat.beq i off with
      | false => rfl
      | true => exact absurd (Nat.eq_of_beq_eq_true e).symm hne
    show (f i || Nat.beq i off) = false
    rw [h.1, this]; rfl
theorem T_storeRK {o : Oper} {t : TypeId} {i : TypeInfo} {x y : Operand} {b off m l : Nat} {t0 : TypeId} {f : Nat → Bool} {v : Value} (C : Wk W H B w) (hb : B b = some (.ro t0 m l f)) (hv : SlB B v l) (hC : ∀ u, N.C u) (ho : o.op = .store t x y) (hx : ρ.ev x = some (.pointer (some ⟨b, off, none⟩))) (hy : ρ.ev y = some v)
    (hi : P.info? t = some i) (hi1 : i.size = 1) (hcl : N.cl o = .loud) (hg : o.guard = none) (hd : o.dst = none) (hm : off < m)
    (k : ∀ w' B', B.le B' → B' b = some (.ro t0 m l fun i => f i || Nat.beq i off) → Wk W H B' w' → T P N n ops K rest ρ w') : T P N n ops K (o :: rest) ρ w := by
  obtain ⟨_, c, hc, hk⟩ := C.own b _ hb
  exact T_store1 off hC ho hx hy hi hi1 hv.one.2 hv.one.1 hcl hg hd hc rfl (by rw [hk.1]; exact hm) fun w' h1 h2 _ => by
    obtain ⟨B', q1, q2, q3⟩ := C.put hb h2 (.ro t0 m l fun i => f i || Nat.beq i off) ⟨_, rfl, fun i hi => by rw [hi]; rfl⟩ h1 (hk.setR hv)
    exact k w' B' q1 q2 q3

theorem T_idxK {o : Oper} {d : Nat} {t e : TypeId} {i : TypeInfo} {x y : Operand} {v : Value} {m : Nat} {k0 : IntKind} {z : Int} (r : SlB B v m) (ho : o.op = .indexAddr t x y) (hx : ρ.ev x = some v) (hy : ρ.ev y = some (.int k0 z))
    (ht : P.underlying t = some (.slice e)) (hi : P.info? e = some i) (h1 : i.size = 1) (hg : o.guard = none) (hd : o.dst = some d) (hn : Nat.ble (d + 1) n = true)
    (hz : 0 ≤ z ∧ z < (m : Int)) (k : ∀ b off q, ByB B b q → off < q → T P N n ops K rest ((d, .pointer (some ⟨b, off, none⟩)) :: ρ) w) : T P N n ops K (o :: rest) ρ w := by
  rcases r with ⟨rfl, rfl⟩ | ⟨b, off, c, q, rfl, hb, hc, hk⟩
  · omega
  · refine T_idx ho hx hy ht hi hg hd hn hz ?_
    rw [h1, Nat.mul_one]
    exact k b _ q hb (by omega)
theorem T_idxKR {o : Oper} {d : Nat} {t e : TypeId} {i : TypeInfo} {x y : Operand} {v : Value} {m l : Nat} {k0 : IntKind} {z : Int} (r : RoB B v m l) (ho : o.op = .indexAddr t x y) (hx : ρ.ev x = some v) (hy : ρ.ev y = some (.int k0 z))
    (ht : P.underlying t = some (.slice e)) (hi : P.info? e = some i) (h1 : i.size = 1) (hg : o.guard = none) (hd : o.dst = some d) (hn : Nat.ble (d + 1) n = true)
    (hz : 0 ≤ z ∧ z < (m : Int)) (k : ∀ b off t0 q f, B b = some (.ro t0 q l f) → off < q → f off = true → T P N n ops K rest ((d, .pointer (some ⟨b, off, none⟩)) :: ρ) w) : T P N n ops K (o :: rest) ρ w := by
  rcases r with ⟨rfl, rfl⟩ | ⟨b, off, c, t0, q, f, rfl, hb, hc, hk, hf⟩
  · omega
  · refine T_idx ho hx hy ht hi hg hd hn hz ?_
    rw [h1, Nat.mul_one]
    exact k b _ t0 q f hb (by omega) (hf _ (by omega))
theorem T_sliceKR {o : Oper} {d : Nat} {t e : TypeId} {i : TypeInfo} {x : Operand} {lo hi : Option Operand} {vlo vhi : Option Value} {v : Value} {m l h s : Nat} (r : RoB B v m s)
    (ho : o.op = .slice t x lo hi none) (hx : ρ.ev x = some v) (hlo : optEv ρ lo = some vlo) (hhi : optEv ρ hi = some vhi) (ht : P.underlying t = some (.slice e)) (hi' : P.info? e = some i) (hsize : i.size = 1) (hg : o.guard = none) (hd : o.dst = some d) (hn : Nat.ble (d + 1) n = true)
    (hh : bound m vhi = some h) (hl : bound 0 vlo = some l) (h1 : l ≤ h) (h2 : h ≤ m)
    (k : ∀ a c, RoB B (.slice a (h - l) c) (h - l) s → T P N n ops K rest ((d, .slice a (h - l) c) :: ρ) w) : T P N n ops K (o :: rest) ρ w := by
  rcases r with ⟨rfl, rfl⟩ | ⟨b, off, c, t0, q, f, rfl, hb, hc, hk, hf⟩
  · obtain rfl : h = 0 := by omega
    obtain rfl : l = 0 := by omega
    refine T_val (v := .slice none 0 0) hg hd hn (fun ac ha u => ?_) (k none 0 (.inl ⟨rfl, rfl⟩))
    have e1 := ha.ev hx
    have e2 := optEv_map ha hlo
    have e3 := optEv_map ha hhi
    unfold execOp; rw [ho]; simp only [e1, e2, e3, Option.map_none]
    have hb := run_sliceBounds (P := P) (len := 0) (cap := 0) (lo := vlo) (hi := vhi) true hh hl (Nat.le_refl _) (Nat.le_refl _) u
    simp [Instr.sliceAt, Instr.slice, run_underlying ht, hb, sizeOf, typeInfo, hi']
  · refine T_val (v := .slice (if c = l then some ⟨b, off, none⟩ else some ⟨b, off + l, none⟩) (h - l) (c - l)) hg hd hn (fun ac ha u => ?_) (k _ _ ?_)
    · have e1 := ha.ev hx
      have e2 := optEv_map ha hlo
      have e3 := optEv_map ha hhi
      unfold execOp; rw [ho]; simp only [e1, e2, e3, Option.map_none]
      have hb := run_sliceBounds (P := P) (len := m) (cap := c) (lo := vlo) (hi := vhi) true hh hl h1 (by omega) u
      simp [Instr.sliceAt, Instr.slice, run_underlying ht, hb, sizeOf, typeInfo, hi', hsize, add_none]
    · split
      · exact .inr ⟨b, off, c - l, t0, q, f, rfl, hb, by omega, by omega, fun i hi => by omega⟩
      · exact .inr ⟨b, off + l, c - l, t0, q, f, rfl, hb, by omega, by omega, fun i hi => by have := hf (l + i) (by omega); rwa [← Nat.add_assoc] at this⟩
end
end Go.F

namespace Go.F
open Go Go.RowKit
def Src (w : World) (vs : Value) (m : Nat) (xs : List Value) : Prop := xs.length = m ∧ ∃ a c, vs = .slice a m c ∧ (a = none → m = 0) ∧ ∀ ad, a = some ad → ∀ (j : Nat) v, xs[j]? = some v → w.cell? (ad.add j) = some v
section
variable {P : Program} {w W : World} {H : Hp} {B : Bp}
theorem Wk.src (C : Wk W H B w) {vs : Value} {m : Nat} (h : SlB B vs m) : ∃ l : List UInt8, Src w vs m (l.map bV) := by
  rcases h with ⟨rfl, rfl⟩ | ⟨b, off, c, k, rfl, hb, hc, hk⟩
  · exact ⟨[], rfl, none, 0, rfl, fun _ => rfl, fun _ h => (by cases h)⟩
  · obtain ⟨l, hl, h⟩ := C.bytes hb (off := off) (m := m) (by omega)
    refine ⟨l, by simp [hl], _, c, rfl, fun h => (by cases h), fun ad e j v hv => ?_⟩
    cases e
    rw [Addr.add_lit]
    exact h j v (by simpa using hv)
theorem Kok.all {t : TypeId} {m : Nat} {c : Array Value} (h : Kok B (.by t m) c) : ∀ u ∈ c.toList, ∃ x : UInt8, u = bV x := fun u hu => by
  obtain ⟨i, hi, rfl⟩ := List.getElem_of_mem hu
  obtain ⟨x, hx⟩ := h.2 i (by have := h.1; simpa [this] using hi)
  exact ⟨x, by rw [← Array.getElem?_toList, List.getElem?_eq_getElem hi] at hx; exact Option.some.inj hx⟩
variable {N : Plan} {n : Nat} {ops : Array Oper} {K : Env → World → Prop} {rest : List Oper} {ρ : Env}
end
end Go.F

namespace Go.F
open Go Go.RowKit
def RwB (B : Bp) (b off m : Nat) : Prop := ∃ t q f, B b = some (.ro t q m f) ∧ off < q ∧ f off = true
theorem RwB.mono {B B' : Bp} {b off m : Nat} (h : RwB B b off m) (hl : B.le B') : RwB B' b off m := by
  obtain ⟨t, q, f, h1, h2, h3⟩ := h
  obtain ⟨k, e, f', rfl, hf⟩ := hl b _ h1
  exact ⟨t, q, f', e, h2, hf _ h3⟩
def RpB (B : Bp) (b n m : Nat) (p : Nat → Prop) : Prop := ∃ t f, B b = some (.ro t n m f) ∧ ∀ i, p i → f i = true
theorem RpB.mono {B B' : Bp} {b n m : Nat} {p : Nat → Prop} (h : RpB B b n m p) (hl : B.le B') : RpB B' b n m p := by
  obtain ⟨t, f, h1, h2⟩ := h
  obtain ⟨k, e, f', rfl, hf⟩ := hl b _ h1
  exact ⟨t, f', e, fun i hi => hf _ (h2 i hi)⟩
theorem RpB.sub {B : Bp} {b n m : Nat} {p q : Nat → Prop} (h : RpB B b n m p) (hq : ∀ i, q i → p i) : RpB B b n m q := by
  obtain ⟨t, f, h1, h2⟩ := h
  exact ⟨t, f, h1, fun i hi => h2 i (hq i hi)⟩
theorem RpB.full {B : Bp} {b n m : Nat} {p : Nat → Prop} (h : RpB B b n m p) (hp : ∀ i, i < n → p i) : RoB B (.slice (some ⟨b, 0, none⟩) n n) n m := by
  obtain ⟨t, f, h1, h2⟩ := h
  exact .inr ⟨b, 0, n, t, n, f, rfl, h1, Nat.le_refl _, by omega, fun i hi => by rw [Nat.zero_add]; exact h2 i (hp i hi)⟩
theorem RpB.at {B : Bp} {b n m i : Nat} {p : Nat → Prop} (h : RpB B b n m p) (hi : i < n) (hp : p i) : RwB B b i m := by
  obtain ⟨t, f, h1, h2⟩ := h
  exact ⟨t, n, f, h1, hi, h2 i hp⟩
section
variable {P : Program} {N : Plan} {n : Nat} {ops : Array Oper} {K : Env → World → Prop} {rest : List Oper} {ρ : Env} {w W : World} {H : Hp} {B : Bp}
theorem T_loadWK {o : Oper} {d : Nat} {t : TypeId} {x : Operand} {b off l : Nat} (C : Wk W H B w) (hb : RwB B b off l) (ho : o.op = .load t x) (hx : ρ.ev x = some (.pointer (some ⟨b, off, none⟩))) (hs : scalar P t = true) (hcl : N.cl o = .read) (hg : o.guard = none) (hd : o.dst = some d) (hn : Nat.ble (d + 1) n = true)
    (k : ∀ a c, SlB B (.slice a l c) l → T P N n ops K rest ((d, .slice a l c) :: ρ) w) : T P N n ops K (o :: rest) ρ w := by
  obtain ⟨t0, q, f, h1, h2, h3⟩ := hb
  exact T_loadRK C h1 ho hx hs hcl hg hd hn h2 h3 k
theorem T_storeWK {o : Oper} {t : TypeId} {i : TypeInfo} {x y : Operand} {b off l : Nat} {v : Value} (C : Wk W H B w) (hb : RwB B b off l) (hv : SlB B v l) (hC : ∀ u, N.C u) (ho : o.op = .store t x y) (hx : ρ.ev x = some (.pointer (some ⟨b, off, none⟩))) (hy : ρ.ev y = some v)
    (hi : P.info? t = some i) (hi1 : i.size = 1) (hcl : N.cl o = .loud) (hg : o.guard = none) (hd : o.dst = none)
    (k : ∀ w' B', B.le B' → Wk W H B' w' → T P N n ops K rest ρ w') : T P N n ops K (o :: rest) ρ w := by
  obtain ⟨t0, q, f, h1, h2, h3⟩ := hb
  exact T_storeRK C h1 hv hC ho hx hy hi hi1 hcl hg hd h2 fun w' B' q1 _ q3 => k w' B' q1 q3
theorem T_storePK {o : Oper} {t : TypeId} {i : TypeInfo} {x y : Operand} {b off m l : Nat} {v : Value} {p : Nat → Prop} (C : Wk W H B w) (hb : RpB B b m l p) (hv : SlB B v l) (hC : ∀ u, N.C u) (ho : o.op = .store t x y) (hx : ρ.ev x = some (.pointer (some ⟨b, off, none⟩))) (hy : ρ.ev y = some v)
    (hi : P.info? t = some i) (hi1 : i.size = 1) (hcl : N.cl o = .loud) (hg : o.guard = none) (hd : o.dst = none) (hm : off < m)
    (k : ∀ w' B', B.le B' → RpB B' b m l (fun i => p i ∨ i = off) → Wk W H B' w' → T P N n ops K rest ρ w') : T P N n ops K (o :: rest) ρ w := by
  obtain ⟨t0, f, h1, h2⟩ := hb
  exact T_storeRK C h1 hv hC ho hx hy hi hi1 hcl hg hd hm fun w' B' q1 q2 q3 => k w' B' q1 ⟨t0, _, q2, fun i hi => by
    rcases hi with hi | rfl
    · show (f i || _) = true; rw [h2 i hi]; rfl
    · show (f i || Nat.beq i i) = true; rw [Nat.beq_refl, Bool.or_true]⟩ q3
end
end Go.F

namespace Go.F
open Go Go.RowKit
def FnB (P : Program) (W : World) (H : Hp) (B : Bp) (fv : Value) (A : Bp → List Value → Prop) : Prop :=
  ∃ (f : FuncId) (first captured : List Value), fv = .func (.func f) first.toArray captured.toArray ∧ goFn P f = true ∧ ∀ B' w, B.le B' → Wk W H B' w → ∀ args : List Value, A B' args →
    Calls P f (first ++ args ++ captured).toArray w fun e w' => ∃ B'', B'.le B'' ∧ Wk W H B'' w' ∧ ∃ x : UInt8, e = .returned (bV x)
theorem FnB.mono {P : Program} {W : World} {H : Hp} {B B' : Bp} {fv : Value} {A : Bp → List Value → Prop} (h : FnB P W H B fv A) (hl : B.le B') : FnB P W H B' fv A := by
  obtain ⟨f, a, c, h1, h2, h3⟩ := h
  exact ⟨f, a, c, h1, h2, fun B1 w hl1 => h3 B1 w (hl.trans hl1)⟩
theorem FnB.shape {P : Program} {W : World} {H : Hp} {B : Bp} {fv : Value} {A : Bp → List Value → Prop} (h : FnB P W H B fv A) : ∃ f a c, fv = .func (.func f) a c := by
  obtain ⟨f, a, c, h1, _⟩ := h
  exact ⟨f, _, _, h1⟩
def ABB : Bp → List Value → Prop := fun _ l => ∃ x y : UInt8, l = [bV x, bV y]
def ABI : Bp → List Value → Prop := fun _ l => ∃ (x : UInt8) (z : Int), l = [bV x, .int .i64 z] ∧ -9223372036854775808 ≤ z ∧ z ≤ 9223372036854775807
def AIJ (n m : Nat) : Bp → List Value → Prop := fun _ l => ∃ i j : Nat, i < n ∧ j < m ∧ l = [.int .i64 (i : Int), .int .i64 (j : Int)]
def ASS : Bp → List Value → Prop := fun B l => ∃ (v u : Value) (n m : Nat), SlB B v n ∧ SlB B u m ∧ n ≤ 1000 ∧ m ≤ 1000 ∧ l = [v, u]
def VoB (B : Bp) (b : Nat) : Prop := ∃ t, B b = some (.vo t)
section
variable {P : Program} {N : Plan} {n : Nat} {ops : Array Oper} {K : Env → World → Prop} {rest : List Oper} {ρ : Env} {w W : World} {H : Hp} {B : Bp}
def planW (P : Program) : Plan := ⟨fun o => match o.op with | .makeFunc _ _ _ => .pure | op => cls P op, fun _ => True⟩
theorem T_makeF {o : Oper} {d : Nat} {f : Fn} {xs ys : List Operand} {vs us : List Value} (ho : o.op = .makeFunc f xs.toArray ys.toArray) (hxs : evs ρ xs = some vs) (hys : evs ρ ys = some us) (hg : o.guard = none) (hd : o.dst = some d) (hn : Nat.ble (d + 1) n = true)
    (k : T P N n ops K rest ((d, .func f vs.toArray us.toArray) :: ρ) w) : T P N n ops K (o :: rest) ρ w :=
  T_val hg hd hn (fun a ha u => by
    have h1 := ha.evs xs vs hxs
    have h2 := ha.evs ys us hys
    unfold execOp; rw [ho]
    simp [h1, h2, Instr.makeFunc]) k
theorem run_callF {o : Oper} {a : Act} {f : FuncId} {x : Operand} {xs : List Operand} {ts : Array TypeId} {args first captured : List Value} (ho : o.op = .call ⟨.value x, xs.toArray, ts⟩) (ha : Agree n ρ a) (hx : ρ.ev x = some (.func (.func f) first.toArray captured.toArray)) (hxs : evs ρ xs = some args) (hf : goFn P f = true) (u : World) :
    (execOp a.eval o).run P u = .ok (.enter f (first ++ args ++ captured).toArray) u := by
  have h1 := ha.evs xs args hxs
  have e1 := ha.ev hx
  unfold execOp; rw [ho]
  have h2 : (xs.toArray.map a.eval) = args.toArray := by rw [← h1]; simp
  simp only [resolve, h2, e1, Sem.run_bind]
  have h3 : (Deferred.ofValue (Value.func (.func f) first.toArray captured.toArray) args.toArray).run P u = .ok { target := .fn (.func f) captured.toArray, args := first.toArray ++ args.toArray } u := by simp [Deferred.ofValue]
  rw [h3]
  simp only [Result.andThen_ok, invoke]
  rw [run_goFn hf _ u]
  simp
theorem T_callF {o : Oper} {d : Nat} {x : Operand} {xs : List Operand} {ts : Array TypeId} {args : List Value} {fv : Value} {A : Bp → List Value → Prop} (C : Wk W H B w) (hf : FnB P W H B fv A) (hC : ∀ w, N.C w) (ho : o.op = .call ⟨.value x, xs.toArray, ts⟩) (hx : ρ.ev x = some fv) (hxs : evs ρ xs = some args) (hA : A B args) (hcl : N.cl o = .loud) (hg : o.guard = none) (hd : o.dst = some d) (hn : Nat.ble (d + 1) n = true)
    (k : ∀ y w' B', B.le B' → Wk W H B' w' → T P N n ops K rest ((d, bV y) :: ρ) w') : T P N n ops K (o :: rest) ρ w := by
  obtain ⟨f, first, captured, rfl, h2, h3⟩ := hf
  refine T_loud hg hcl fun a ha hc => ?_
  unfold Oper.wp
  rw [run_callF ho ha hx hxs h2 w]
  refine (h3 B w (.refl B) C args hA).mono fun e w' ⟨B', hl, C', y, he⟩ => ?_
  subst he
  exact ⟨hC _, _, by rw [hd]; exact ha.put hn _, k y w' B' hl C'⟩
theorem T_allocVK {o : Oper} {d : Nat} {t : TypeId} {i : TypeInfo} {z : Value} (C : Wk W H B w) (hC : ∀ u, N.C u) (ho : o.op = .alloc t) (hi : P.info? t = some i) (hz : i.zero = some z) (hcl : N.cl o = .loud) (hg : o.guard = none) (hd : o.dst = some d) (hn : Nat.ble (d + 1) n = true) (hs : z.cells.size = 1)
    (kk : ∀ b w' B', B.le B' → VoB B' b → Wk W H B' w' → T P N n ops K rest ((d, .pointer (some ⟨b, 0, none⟩)) :: ρ) w') : T P N n ops K (o :: rest) ρ w :=
  T_allocK C (.vo t) hC ho hi hz hcl hg hd hn rfl hs fun b w' B' h1 h2 h3 => kk b w' B' h1 ⟨t, h2⟩ h3
theorem T_storeVK {o : Oper} {t : TypeId} {i : TypeInfo} {x y : Operand} {b : Nat} {v : Value} (C : Wk W H B w) (hb : VoB B b) (hC : ∀ u, N.C u) (ho : o.op = .store t x y) (hx : ρ.ev x = some (.pointer (some ⟨b, 0, none⟩))) (hy : ρ.ev y = some v)
    (hi : P.info? t = some i) (hi1 : i.size = 1) (hv1 : v.cells = #[v]) (ho1 : v.oneCell' = true) (hcl : N.cl o = .loud) (hg : o.guard = none) (hd : o.dst = none)
    (k : ∀ w' B', B.le B' → VaB B' b v → Wk W H B' w' → T P N n ops K rest ρ w') : T P N n ops K (o :: rest) ρ w := by
  obtain ⟨t', hb⟩ := hb
  obtain ⟨_, c, hc, hk⟩ := C.own b _ hb
  have hs : c.size = 1 := hk
  refine T_store1 0 hC ho hx hy hi hi1 hv1 ho1 hcl hg hd hc rfl (by omega) fun w' h1 h2 _ => ?_
  obtain ⟨B', q1, q2, q3⟩ := C.put hb h2 (.va t' v) (.inr ⟨v, rfl⟩) h1 (by
    show c.setIfInBounds 0 v = #[v]
    apply Array.ext
    · simp [hs]
    · intro j h3 h4
      obtain rfl : j = 0 := by simp at h4; omega
      simp)
  exact k w' B' q1 ⟨t', q2⟩ q3

theorem W_join {c : Code} {Q : Exit → Env → World → Prop} {Bc : Bp} (ρ0 : Env) (J : ∀ w' B', Bc.le B' → Wk W H B' w' → Q .normal ρ0 w') (h : (∀ w' B', Bc.le B' → Wk W H B' w' → Q .normal ρ0 w') → F.W P n c Q ρ w) : F.W P n c Q ρ w := h J
theorem T_boxCK {o : Oper} {d : Nat} {t : TypeId} {x : Operand} {v : Value} (C : Wk W H B w) (hC : ∀ u, N.C u) (ho : o.op = .box t x) (hx : ρ.ev x = some v) (hcl : N.cl o = .loud) (hg : o.guard = none) (hd : o.dst = some d) (hn : Nat.ble (d + 1) n = true)
    (kk : ∀ b w', w'.heap[b]? = some (.cells v.cells t (0, 0)) ∧ W.heap.size ≤ b → Wk W H B w' → T P N n ops K rest ((d, .pointer (some ⟨b, 0, none⟩)) :: ρ) w') : T P N n ops K (o :: rest) ρ w :=
  T_box hC ho hx hcl hg hd hn fun b w' hb hc hgr => kk b w' ⟨hc, by rw [hb]; exact C.below.size⟩ (C.grow0 hgr)

def gfZ : Array Value := (List.replicate 510 (Value.int .u8 0) ++ List.replicate 256 (Value.int .i64 0)).toArray
theorem gfZ_ok {t : TypeId} : Kok B (.gf t) gfZ := by
  refine ⟨by simp [gfZ], fun i hi => ⟨0, ?_⟩, fun i hi => ⟨0, by omega, ?_⟩⟩
  · unfold gfZ
    rw [List.getElem?_toArray, List.getElem?_append_left (by simpa using hi), List.getElem?_replicate, if_pos hi]; rfl
  · unfold gfZ
    rw [List.getElem?_toArray, List.getElem?_append_right (by simp), List.length_replicate, Nat.add_sub_cancel_left, List.getElem?_replicate, if_pos hi]; rfl
theorem T_loadPK {o : Oper} {d : Nat} {t : TypeId} {x : Operand} {b off : Nat} (C : Wk W H B w) (hb : GfB B b) (ho : o.op = .load t x) (hx : ρ.ev x = some (.pointer (some ⟨b, off, none⟩))) (hs : scalar P t = true) (hcl : N.cl o = .read) (hg : o.guard = none) (hd : o.dst = some d) (hn : Nat.ble (d + 1) n = true)
    (hm : off < 510) (k : ∀ x : UInt8, T P N n ops K rest ((d, bV x) :: ρ) w) : T P N n ops K (o :: rest) ρ w := by
  obtain ⟨t0, hb⟩ := hb
  obtain ⟨_, c, hc, h1, h2, _⟩ := C.own b _ hb
  obtain ⟨y, hy⟩ := h2 off hm
  exact T_load ho hx hs hcl hg hd hn (cell_of_hcell (by rw [hcell_blk hc]; exact hy)) (k y)
theorem T_loadLK {o : Oper} {d : Nat} {t : TypeId} {x : Operand} {b off : Nat} (q : Nat) (C : Wk W H B w) (hb : GfB B b) (ho : o.op = .load t x) (hx : ρ.ev x = some (.pointer (some ⟨b, off, none⟩))) (hs : scalar P t = true) (hcl : N.cl o = .read) (hg : o.guard = none) (hd : o.dst = some d) (hn : Nat.ble (d + 1) n = true)
    (he : off = 510 + q) (hm : q < 256) (k : ∀ z : Nat, z < 255 → T P N n ops K rest ((d, .int .i64 (z : Int)) :: ρ) w) : T P N n ops K (o :: rest) ρ w := by
  subst he
  obtain ⟨t0, hb⟩ := hb
  obtain ⟨_, c, hc, h1, _, h2⟩ := C.own b _ hb
  obtain ⟨y, hy, hy2⟩ := h2 q hm
  exact T_load ho hx hs hcl hg hd hn (cell_of_hcell (by rw [hcell_blk hc]; exact hy2)) (k y hy)
theorem T_storeFPK {o : Oper} {t : TypeId} {i : TypeInfo} {x y : Operand} {b off : Nat} {u : UInt8} (C : Wk W H B w) (hb : GfB B b) (hC : ∀ u, N.C u) (ho : o.op = .store t x y) (hx : ρ.ev x = some (.pointer (some ⟨b, off, none⟩))) (hy : ρ.ev y = some (bV u))
    (hi : P.info? t = some i) (hi1 : i.size = 1) (hcl : N.cl o = .loud) (hg : o.guard = none) (hd : o.dst = none) (hm : off < 510)
    (k : ∀ w', Wk W H B w' → T P N n ops K rest ρ w') : T P N n ops K (o :: rest) ρ w := by
  obtain ⟨t', hb⟩ := hb
  obtain ⟨_, c, hc, h1, h2, h3⟩ := C.own b _ hb
  refine T_store1 off hC ho hx hy hi hi1 rfl rfl hcl hg hd hc rfl (by omega) fun w' q1 q2 _ => k w' (C.put' hb q2 q1 ⟨by simpa using h1, fun j hj => ?_, fun j hj => ?_⟩)
  · rw [Array.getElem?_setIfInBounds]
    split
    · rw [if_pos (by omega)]; exact ⟨u, rfl⟩
    · exact h2 j hj
  · rw [Array.getElem?_setIfInBounds, if_neg (by omega)]; exact h3 j hj
theorem T_storeFLK {o : Oper} {t : TypeId} {i : TypeInfo} {x y : Operand} {b off : Nat} {z : Int} (q zn : Nat) (C : Wk W H B w) (hb : GfB B b) (hC : ∀ u, N.C u) (ho : o.op = .store t x y) (hx : ρ.ev x = some (.pointer (some ⟨b, off, none⟩))) (hy : ρ.ev y = some (.int .i64 z))
    (hi : P.info? t = some i) (hi1 : i.size = 1) (hcl : N.cl o = .loud) (hg : o.guard = none) (hd : o.dst = none) (he : off = 510 + q) (hm : q < 256) (hz : z = (zn : Int)) (hz2 : zn < 255)
    (k : ∀ w', Wk W H B w' → T P N n ops K rest ρ w') : T P N n ops K (o :: rest) ρ w := by
  subst he; subst hz
  obtain ⟨t', hb⟩ := hb
  obtain ⟨_, c, hc, h1, h2, h3⟩ := C.own b _ hb
  refine T_store1 (510 + q) hC ho hx hy hi hi1 rfl rfl hcl hg hd hc rfl (by omega) fun w' q1 q2 _ => k w' (C.put' hb q2 q1 ⟨by simpa using h1, fun j hj => ?_, fun j hj => ?_⟩)
  · rw [Array.getElem?_setIfInBounds, if_neg (by omega)]; exact h2 j hj
  · rw [Array.getElem?_setIfInBounds]
    split
    · rw [if_pos (by omega)]; exact ⟨zn, hz2, rfl⟩
    · exact h3 j hj
theorem T_lit2KR {o : Oper} {d : Nat} {t e : TypeId} {i : TypeInfo} {x y : Operand} {v u : Value} {l : Nat} (C : Wk W H B w) (hC : ∀ w, N.C w) (ho : o.op = .buildSlice t 2 #[(0, x), (1, y)]) (hx : ρ.ev x = some v) (hy : ρ.ev y = some u) (hv : SlB B v l) (hu : SlB B u l)
    (ht : P.underlying t = some (.slice e)) (hi : P.info? e = some i) (hz : i.zero = some (.slice none 0 0)) (hi1 : i.size = 1) (hcl : N.cl o = .loud) (hg : o.guard = none) (hd : o.dst = some d) (hn : Nat.ble (d + 1) n = true)
    (k : ∀ a c w' B', B.le B' → RoB B' (.slice a 2 c) 2 l → Wk W H B' w' → T P N n ops K rest ((d, .slice a 2 c) :: ρ) w') : T P N n ops K (o :: rest) ρ w := by
  have hrun : ∀ a, Agree n ρ a → (execOp a.eval o).run P w = .ok (.value (.slice (some ⟨w.heap.size, 0, none⟩) 2 2)) (w.alloc (.cells #[v, u] e (0, 0))) := fun a ha => by
    have e1 := ha.ev hx
    have e2 := ha.ev hy
    unfold execOp; rw [ho]
    have hf : ∀ c d, Instr.fill (fun i => some (i, 1)) #[c, d] [(0, v), (1, u)] = some #[v, u] := fun c d => by simp [Instr.fill, hv.one.2, hu.one.2]
    have hr1 : (Array.range 2).map (fun x => (Value.slice none 0 0).cells[x % 1]!) = #[(Value.slice none 0 0).cells[0]!, (Value.slice none 0 0).cells[0]!] := by apply Array.ext'; simp [List.range_succ, Nat.mod_one]
    have hz1 : (Value.slice none 0 0).cells.size = 1 := rfl
    simp [Instr.buildSlice, e1, e2, run_underlying ht, sizeOf, typeInfo, hi, hi1, zeroValue, hz, hz1, newRow, hr1, hf]
  obtain ⟨B', q1, q2, q3⟩ := C.new (World.grownBy_alloc w (.cells #[v, u] e (0, 0)) none) (.ro e 2 l fun i => Nat.blt i 2) (Nat.le_refl _) (heap_alloc_new w _) ⟨rfl, fun i hi => by
    match i, hi with
    | 0, _ => exact ⟨v, rfl, .inl hv⟩
    | 1, _ => exact ⟨u, rfl, .inl hu⟩⟩
  exact T_ran hcl hg hd hn hrun (hC _) (k _ 2 _ B' q1 (.inr ⟨w.heap.size, 0, 2, e, 2, _, rfl, q2, Nat.le_refl _, Nat.le_refl _, fun i hi => by
    show Nat.blt (0 + i) 2 = true
    exact Nat.ble_eq_true_of_le (by omega)⟩) q3)
end
section
theorem shC {ky fp : List UInt8} {a b c d e : Value} (hk : ky.length = 16) (hf : fp.length = 32) : Shp [[a], ky.map bV, fp.map bV, [b], [c], [d], [e]] [1, 16, 32, 1, 1, 1, 1] := Shp.cons rfl (Shp.cons (lenB hk) (Shp.cons (lenB hf) (Shp.cons rfl (Shp.cons rfl (Shp.cons rfl (Shp.cons rfl Shp.nil))))))
theorem shP {vs vr : List UInt8} {a b c d e f g h i j k : Value} (hs : vs.length = 16) (hr : vr.length = 32) : Shp [[a], [b], [c], [d], [e], vs.map bV, vr.map bV, [f], [g], [h], [i], [j], [k]] [1, 1, 1, 1, 1, 16, 32, 1, 1, 1, 1, 1, 1] := Shp.cons rfl (Shp.cons rfl (Shp.cons rfl (Shp.cons rfl (Shp.cons rfl (Shp.cons (lenB hs) (Shp.cons (lenB hr) (Shp.cons rfl (Shp.cons rfl (Shp.cons rfl (Shp.cons rfl (Shp.cons rfl (Shp.cons rfl Shp.nil))))))))))))
end
end Go.F
