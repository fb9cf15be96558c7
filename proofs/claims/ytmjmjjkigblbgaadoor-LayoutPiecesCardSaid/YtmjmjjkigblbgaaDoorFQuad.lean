/- A struct of four numbers and two arrays of bytes, as a value. -/
import Derived.Test.YtmjmjjkigblbgaaDoorFForge2
set_option linter.unusedVariables false
set_option linter.unusedSimpArgs false
set_option maxRecDepth 8192
namespace Go.F
open Go Go.RowKit
def qV (a b c d : Int) (s t : List UInt8) : Value := .agg ([Value.int .i64 a, .int .i64 b, .int .i64 c, .int .i64 d] ++ (s.map bV ++ t.map bV)).toArray
section
variable {a b c d : Int} {s t : List UInt8}
theorem qV_size : (qV a b c d s t).cells.size = 4 + (s.length + t.length) := by simp [qV, Value.cells]; omega
theorem qV_sz {n : Nat} (h : 4 + (s.length + t.length) = n) : (qV a b c d s t).cells.size = n := by rw [qV_size, h]
theorem qV_one : ∀ u ∈ (qV a b c d s t).cells.toList, u.oneCell' = true := by
  intro u hu
  simp only [qV, Value.cells, List.mem_append, List.mem_cons, List.not_mem_nil, or_false] at hu
  rcases hu with (rfl | rfl | rfl | rfl) | hu | hu
  · rfl
  · rfl
  · rfl
  · rfl
  · obtain ⟨x, _, rfl⟩ := List.mem_map.1 hu; rfl
  · obtain ⟨x, _, rfl⟩ := List.mem_map.1 hu; rfl
theorem qV_0 : (qV a b c d s t).cells[0]? = some (.int .i64 a) := by simp [qV, Value.cells]
theorem qV_1 : (qV a b c d s t).cells[1]? = some (.int .i64 b) := by simp [qV, Value.cells]
theorem qV_2 : (qV a b c d s t).cells[2]? = some (.int .i64 c) := by simp [qV, Value.cells]
theorem qV_3 : (qV a b c d s t).cells[3]? = some (.int .i64 d) := by simp [qV, Value.cells]
theorem qV_s : ∀ (q : Nat) u, (s.map bV).toArray[q]? = some u → (qV a b c d s t).cells[4 + q]? = some u := by
  intro q u h
  simp only [qV, Value.cells, List.getElem?_toArray] at h ⊢
  rw [List.getElem?_append_right (by simp), List.getElem?_append_left (by have := (List.getElem?_eq_some_iff.1 h).1; simpa using this)]
  simpa using h
theorem qV_t {m : Nat} (hm : 4 + s.length = m) : ∀ (q : Nat) u, (t.map bV).toArray[q]? = some u → (qV a b c d s t).cells[m + q]? = some u := by
  intro q u h
  subst hm
  simp only [qV, Value.cells, List.getElem?_toArray] at h ⊢
  rw [List.getElem?_append_right (by simp; omega), List.getElem?_append_right (by simp; omega)]
  simp only [List.length_cons, List.length_nil, List.length_map]
  rw [show 4 + s.length + q - (0 + 1 + 1 + 1 + 1) - s.length = q by omega]
  exact h
/-- One of its numbers set. -/
theorem qV_set0 (z : Int) : (qV a b c d s t).cells.setIfInBounds 0 (.int .i64 z) = (qV z b c d s t).cells := by simp [qV, Value.cells]
theorem qV_set1 (z : Int) : (qV a b c d s t).cells.setIfInBounds 1 (.int .i64 z) = (qV a z c d s t).cells := by simp [qV, Value.cells]
theorem qV_set2 (z : Int) : (qV a b c d s t).cells.setIfInBounds 2 (.int .i64 z) = (qV a b z d s t).cells := by simp [qV, Value.cells]
theorem qV_set3 (z : Int) : (qV a b c d s t).cells.setIfInBounds 3 (.int .i64 z) = (qV a b c z s t).cells := by simp [qV, Value.cells]
/-- A byte of its first array set. -/
theorem qV_setS (i : Nat) (x : UInt8) (h : i < s.length) : (qV a b c d s t).cells.setIfInBounds (4 + i) (bV x) = (qV a b c d (s.set i x) t).cells := by
  simp only [qV, Value.cells]
  rw [List.setIfInBounds_toArray, List.set_append_right _ _ (by simp), List.set_append_left _ _ (by simp; omega), List.map_set]
  congr 4
  simp
end
theorem fill_arr {place : Nat → Option (Nat × Nat)} {cells : Array Value} {i off m : Nat} {v : List UInt8} {rest : List (Nat × Value)} (hp : place i = some (off, m)) (hv : v.length = m) (ho : off + m ≤ cells.size) :
    Instr.fill place cells ((i, hV v) :: rest) = Instr.fill place (cells.toList.take off ++ v.map bV ++ cells.toList.drop (off + m)).toArray rest := by
  have hs : (hV v).cells.size = m := hVs hv
  rw [Instr.fill, hp]
  simp only
  rw [if_neg (by rw [hs]; simp; omega)]
  congr 1
  have hz := Go.Great.foldl_set off ((hV v).cells.toList) 0 cells
  have e : ((hV v).cells.zipIdx.foldl (fun cs (x : Value × Nat) => cs.setIfInBounds (off + x.2) x.1) cells) = (((hV v).cells.toList.zipIdx 0).foldl (fun cs (x : Value × Nat) => cs.setIfInBounds (off + x.2) x.1) cells) := by
    rw [← Array.foldl_toList, Array.toList_zipIdx]
  show ((hV v).cells.zipIdx.foldl (fun cs (x : Value × Nat) => cs.setIfInBounds (off + x.2) x.1) cells) = _
  rw [e]
  apply Array.ext_getElem?
  intro k
  rw [hz.2 k]
  have hl : (hV v).cells.toList.length = m := by simpa using hs
  have ht : (cells.toList.take off).length = off := by rw [List.length_take, Array.length_toList]; omega
  have er : (cells.toList.take off ++ v.map bV ++ cells.toList.drop (off + m)).toArray[k]? = (cells.toList.take off ++ v.map bV ++ cells.toList.drop (off + m))[k]? := by simp
  rw [er, List.append_assoc]
  by_cases h1 : k < off
  · rw [if_neg (by omega), List.getElem?_append_left (by omega), List.getElem?_take, if_pos h1, Array.getElem?_toList]
  · by_cases h2 : k < off + m
    · rw [if_pos (by omega), List.getElem?_append_right (by omega), ht, List.getElem?_append_left (by rw [List.length_map]; omega), hcell1]
      simp
    · rw [if_neg (by omega), List.getElem?_append_right (by omega), ht, List.getElem?_append_right (by rw [List.length_map]; omega), List.length_map, List.getElem?_drop, hv, show off + m + (k - off - m) = k by omega, Array.getElem?_toList]

/-! Building one, a field at a time. -/
section
variable {a b c d z : Int} {s t x : List UInt8} {place : Nat → Option (Nat × Nat)} {i : Nat} {rest : List (Nat × Value)}
theorem fill_q0 (hp : place i = some (0, 1)) : Instr.fill place (qV a b c d s t).cells ((i, .int .i64 z) :: rest) = Instr.fill place (qV z b c d s t).cells rest := by
  rw [fill_one hp rfl (by rw [qV_size]; omega), qV_set0]
theorem fill_q1 (hp : place i = some (1, 1)) : Instr.fill place (qV a b c d s t).cells ((i, .int .i64 z) :: rest) = Instr.fill place (qV a z c d s t).cells rest := by
  rw [fill_one hp rfl (by rw [qV_size]; omega), qV_set1]
theorem fill_q2 (hp : place i = some (2, 1)) : Instr.fill place (qV a b c d s t).cells ((i, .int .i64 z) :: rest) = Instr.fill place (qV a b z d s t).cells rest := by
  rw [fill_one hp rfl (by rw [qV_size]; omega), qV_set2]
theorem fill_q3 (hp : place i = some (3, 1)) : Instr.fill place (qV a b c d s t).cells ((i, .int .i64 z) :: rest) = Instr.fill place (qV a b c z s t).cells rest := by
  rw [fill_one hp rfl (by rw [qV_size]; omega), qV_set3]
theorem fill_q4 {m : Nat} (hp : place i = some (4, m)) (hs : s.length = m) (hx : x.length = m) : Instr.fill place (qV a b c d s t).cells ((i, hV x) :: rest) = Instr.fill place (qV a b c d x t).cells rest := by
  rw [fill_arr hp hx (by rw [qV_size]; omega)]
  congr 1
  simp only [qV, Value.cells]
  congr 1
  rw [List.take_append_of_le_length (by simp), List.drop_append, List.drop_of_length_le (by simp), List.drop_append, List.drop_of_length_le (by simp; omega)]
  simp [hs]
theorem fill_q5 {p k : Nat} (hp : place i = some (p, k)) (hs : 4 + s.length = p) (ht : t.length = k) (hx : x.length = k) : Instr.fill place (qV a b c d s t).cells ((i, hV x) :: rest) = Instr.fill place (qV a b c d s x).cells rest := by
  subst hs
  rw [fill_arr hp hx (by rw [qV_size]; omega)]
  congr 1
  simp only [qV, Value.cells]
  congr 1
  rw [List.take_append, List.take_of_length_le (by simp), List.drop_append, List.drop_of_length_le (by simp; omega), List.take_append, List.take_of_length_le (by simp), List.drop_append, List.drop_of_length_le (by simp; omega)]
  simp only [List.length_cons, List.length_nil, List.length_map]
  rw [show 4 + s.length - (0 + 1 + 1 + 1 + 1) - s.length = 0 by omega, show 4 + s.length + k - (0 + 1 + 1 + 1 + 1) - s.length = k by omega, List.drop_of_length_le (by simp; omega)]
  simp
end
/-- Nought, of 32 and 32 bytes; of 16 and 32. -/
def qz32 : Value := qV 0 0 0 0 (List.replicate 32 0) (List.replicate 32 0)
def qz16 : Value := qV 0 0 0 0 (List.replicate 16 0) (List.replicate 32 0)
section
variable {a b c d : Int} {s t : List UInt8}
theorem fill_q32 (hs : s.length = 32) (ht : t.length = 32) : Instr.fill (fun j => [(0, 1), (1, 1), (2, 1), (3, 1), (4, 32), (36, 32)].toArray[j]?) (qz32 : Value).cells [(0, .int .i64 a), (1, .int .i64 b), (2, .int .i64 c), (3, .int .i64 d), (4, hV s), (5, hV t)] = some (qV a b c d s t).cells := by
  unfold qz32
  rw [fill_q0 rfl, fill_q1 rfl, fill_q2 rfl, fill_q3 rfl, fill_q4 rfl List.length_replicate hs, fill_q5 rfl (by rw [hs]) List.length_replicate ht]
  rfl
theorem fill_q16 (hs : s.length = 16) (ht : t.length = 32) : Instr.fill (fun j => [(0, 1), (1, 1), (2, 1), (3, 1), (4, 16), (20, 32)].toArray[j]?) (qz16 : Value).cells [(0, .int .i64 a), (1, .int .i64 b), (2, .int .i64 c), (3, .int .i64 d), (4, hV s), (5, hV t)] = some (qV a b c d s t).cells := by
  unfold qz16
  rw [fill_q0 rfl, fill_q1 rfl, fill_q2 rfl, fill_q3 rfl, fill_q4 rfl List.length_replicate hs, fill_q5 rfl (by rw [hs]) List.length_replicate ht]
  rfl
theorem fill_q16r (ht : t.length = 32) : Instr.fill (fun j => [(0, 1), (1, 1), (2, 1), (3, 1), (4, 16), (20, 32)].toArray[j]?) (qz16 : Value).cells [(1, .int .i64 b), (2, .int .i64 c), (5, hV t)] = some (qV 0 b c 0 (List.replicate 16 0) t).cells := by
  unfold qz16
  rw [fill_q1 rfl, fill_q2 rfl, fill_q5 rfl (by rw [List.length_replicate]) List.length_replicate ht]
  rfl
end
theorem q_len {x y m k n : Nat} (h : x = m) (h' : y = k) (e : 4 + (m + k) = n) : 4 + (x + y) = n := by subst h; subst h'; exact e
/-- The first bytes of an array put in, one at a time. -/
def hashTo (m : Nat) (D : List UInt8) : Nat → List UInt8
  | 0 => List.replicate m 0
  | k + 1 => (hashTo m D k).set k (D.getD k 0)
theorem hashTo_len (m : Nat) (D : List UInt8) : ∀ k, (hashTo m D k).length = m
  | 0 => List.length_replicate
  | k + 1 => by rw [hashTo, List.length_set]; exact hashTo_len m D k
theorem hashTo_eq {m : Nat} {D : List UInt8} (h : D.length = m) : ∀ k, k ≤ m → hashTo m D k = D.take k ++ List.replicate (m - k) 0
  | 0, _ => by simp [hashTo]
  | k + 1, hk => by
    have h1 : (D.take k).length = k := by rw [List.length_take]; omega
    have hr : List.replicate (m - k) (0 : UInt8) = 0 :: List.replicate (m - (k + 1)) 0 := by rw [show m - k = (m - (k + 1)) + 1 by omega, List.replicate_succ]
    rw [hashTo, hashTo_eq h k (by omega), List.set_append_right _ _ (by omega), h1, Nat.sub_self, hr, List.take_succ_eq_append_getElem (show k < D.length by omega), List.append_assoc, List.getD_eq_getElem?_getD, List.getElem?_eq_getElem (show k < D.length by omega)]
    rfl
theorem hashTo_full {m : Nat} {D : List UInt8} (h : D.length = m) : hashTo m D m = D := by
  rw [hashTo_eq h m (Nat.le_refl _), List.take_of_length_le (by omega)]; simp
theorem hashTo_put {m : Nat} {D : List UInt8} {k : Nat} : (hV (hashTo m D k)).cells.setIfInBounds k (bV (D.getD k 0)) = (hV (hashTo m D (k + 1))).cells := by
  show ((hashTo m D k).map bV).toArray.setIfInBounds k (bV (D.getD k 0)) = (((hashTo m D k).set k (D.getD k 0)).map bV).toArray
  rw [List.setIfInBounds_toArray, List.map_set]
theorem qV_putS {a b c d : Int} {t : List UInt8} {m : Nat} {D : List UInt8} {k : Nat} (h : k < m) : (qV a b c d (hashTo m D k) t).cells.setIfInBounds (4 + k) (bV (D.getD k 0)) = (qV a b c d (hashTo m D (k + 1)) t).cells := by
  rw [qV_setS _ _ (by rw [hashTo_len]; exact h)]; rfl
theorem take_len16 {l : List UInt8} (h : 16 ≤ l.length) : (l.take 16).length = 16 := by rw [List.length_take]; omega

theorem St.re {W w : World} {H G : Hp} {its : List Item} (S : St W H G its w) (j : Nat) {b : Nat} {c c' : Array Value} {t : TypeId} (hj : its[j]? = some (.blk b c t)) (h : c = c') : St W H G (its.set j (.blk b c' t)) w := by
  subst h
  obtain ⟨hl, he⟩ := List.getElem?_eq_some_iff.1 hj
  have e : its.set j (.blk b c t) = its := by rw [← he]; exact List.set_getElem_self hl
  rw [e]; exact S
section
variable {P : Program} {N : Plan} {n : Nat} {ops : Array Oper} {K : Env → World → Prop} {rest : List Oper} {ρ : Env} {w : World}
theorem run_partA {e : TypeId} (hs : isAggB P e = true) {i : TypeInfo} (hi : P.info? e = some i) {cs : Array Value} {q : Nat} {xs : List UInt8} (h : cs.extract q (q + i.size) = (xs.map bV).toArray) (u : World) : (part e cs q).run P u = .ok (hV xs) u := by
  simp only [part, Sem.run_bind, run_isAgg_yes hs, Result.andThen_ok, if_true, run_size hi, Sem.run_pure, h]
theorem run_eqQ {t e : TypeId} {f0 f1 f2 f3 f4 f5 : Field} {i4 i5 ie : TypeInfo} {m k : Nat} {k0 : IntKind}
    (ht : P.underlying t = some (.struct #[f0, f1, f2, f3, f4, f5])) (hnm : ([f0, f1, f2, f3, f4, f5].all fun f => f.name != "_") = true)
    (o0 : f0.offset = 0) (o1 : f1.offset = 1) (o2 : f2.offset = 2) (o3 : f3.offset = 3) (o4 : f4.offset = 4) (o5 : f5.offset = 4 + m)
    (u0 : P.underlying f0.type = some (.int .i64)) (u1 : P.underlying f1.type = some (.int .i64)) (u2 : P.underlying f2.type = some (.int .i64)) (u3 : P.underlying f3.type = some (.int .i64))
    (u4 : P.underlying f4.type = some (.array m e)) (u5 : P.underlying f5.type = some (.array k e)) (he : P.underlying e = some (.int k0)) (hie : P.info? e = some ie) (hce : P.cellsOf e = 1)
    (h4 : P.info? f4.type = some i4) (h5 : P.info? f5.type = some i5) (s4 : i4.size = m) (s5 : i5.size = k) (hp : P.stoodInHeld t = false)
    (a b c d a' b' c' d' : Int) (x y x' y' : List UInt8) (lx : x.length = m) (lx' : x'.length = m) (ly : y.length = k) (ly' : y'.length = k) (u : World) :
    (Op.equal t (qV a b c d x y) (qV a' b' c' d' x' y')).run P u = .ok (decide (a = a' ∧ b = b' ∧ c = c' ∧ d = d' ∧ x = x' ∧ y = y')) u := by
  have hfs : P.fieldsOf t = #[f0, f1, f2, f3, f4, f5] := by simp [Program.fieldsOf, ht]
  have ht' : P.underlying t = some (.struct (P.fieldsOf t)) := by rw [hfs]; exact ht
  simp only [List.all_cons, List.all_nil, Bool.and_true, Bool.and_eq_true, bne_iff_ne] at hnm
  obtain ⟨n0, n1, n2, n3, n4, n5⟩ := hnm
  have sc : ∀ {f : Field}, P.underlying f.type = some (.int .i64) → scalar P f.type = true := fun h => by simp [scalar, h]
  have a4 : isAggB P f4.type = true := by simp [isAggB, u4]
  have a5 : isAggB P f5.type = true := by simp [isAggB, u5]
  have X4 : ∀ (a b c d : Int) (x y : List UInt8), x.length = m → (qV a b c d x y).cells.extract 4 (4 + i4.size) = (x.map bV).toArray := fun a b c d x y hx => by
    rw [s4, ← hx]
    simp only [qV, Value.cells, List.extract_toArray, List.extract_eq_take_drop, Nat.add_sub_cancel_left]
    congr 1
    rw [List.drop_append, List.drop_of_length_le (by simp)]
    simp
  have X5 : ∀ (a b c d : Int) (x y : List UInt8), x.length = m → y.length = k → (qV a b c d x y).cells.extract (4 + m) (4 + m + i5.size) = (y.map bV).toArray := fun a b c d x y hx hy => by
    rw [s5, ← hx, ← hy]
    simp only [qV, Value.cells, List.extract_toArray, List.extract_eq_take_drop, Nat.add_sub_cancel_left]
    congr 1
    rw [List.drop_append, List.drop_of_length_le (by simp), List.drop_append, List.drop_of_length_le (by simp)]
    simp only [List.length_cons, List.length_nil, List.length_map, List.nil_append]
    rw [show 4 + x.length - (0 + 1 + 1 + 1 + 1) - x.length = 0 by omega]
    exact List.take_of_length_le (by simp)
  have q : ∀ (f : Field) (len : Nat) (a b : List UInt8), P.underlying f.type = some (.array len e) → a.length = len → b.length = len → ∀ u, (Op.equalIn (9998 + 1) f.type (hV a) (hV b)).run P u = .ok (decide (a = b)) u := fun f len a b hf ha hb u => by
    have hr := run_eqItems_b (P := P) he 9997 a b u (by omega) a.length 0 (by omega)
    rw [run_equalIn_array u 9998 _ _ hf hie, hce, ← ha, List.range_eq_range']
    simpa using hr
  show (Op.equalIn (9999 + 1) t (.agg _) (.agg _)).run P u = _
  rw [run_equalIn_struct u 9999 t _ _ ht' hp, hfs]
  have p0 := fun a b c d x y u => run_part1 (P := P) (sc u0) (cs := (qV a b c d x y).cells) qV_0 u
  have p1 := fun a b c d x y u => run_part1 (P := P) (sc u1) (cs := (qV a b c d x y).cells) qV_1 u
  have p2 := fun a b c d x y u => run_part1 (P := P) (sc u2) (cs := (qV a b c d x y).cells) qV_2 u
  have p3 := fun a b c d x y u => run_part1 (P := P) (sc u3) (cs := (qV a b c d x y).cells) qV_3 u
  have p4 := fun a b c d x y h u => run_partA (P := P) a4 h4 (X4 a b c d x y h) u
  have p5 := fun a b c d x y h h' u => run_partA (P := P) a5 h5 (X5 a b c d x y h h') u
  have E : ∀ z z' : Int, (z == z') = decide (z = z') := fun z z' => rfl
  show (Op.eqFields 9999 (qV a b c d x y).cells (qV a' b' c' d' x' y').cells [f0, f1, f2, f3, f4, f5]).run P u = _
  unfold Op.eqFields; rw [if_pos n0, o0]
  simp only [Sem.run_bind, p0, Result.andThen_ok, run_equalIn_int _ _ _ _ _ _ _ u0, E]
  by_cases h0 : a = a'
  · rw [decide_eq_true h0]; simp only [Bool.not_true, Bool.false_eq_true, if_false]
    unfold Op.eqFields; rw [if_pos n1, o1]
    simp only [Sem.run_bind, p1, Result.andThen_ok, run_equalIn_int _ _ _ _ _ _ _ u1, E]
    by_cases h1 : b = b'
    · rw [decide_eq_true h1]; simp only [Bool.not_true, Bool.false_eq_true, if_false]
      unfold Op.eqFields; rw [if_pos n2, o2]
      simp only [Sem.run_bind, p2, Result.andThen_ok, run_equalIn_int _ _ _ _ _ _ _ u2, E]
      by_cases h2 : c = c'
      · rw [decide_eq_true h2]; simp only [Bool.not_true, Bool.false_eq_true, if_false]
        unfold Op.eqFields; rw [if_pos n3, o3]
        simp only [Sem.run_bind, p3, Result.andThen_ok, run_equalIn_int _ _ _ _ _ _ _ u3, E]
        by_cases h3 : d = d'
        · rw [decide_eq_true h3]; simp only [Bool.not_true, Bool.false_eq_true, if_false]
          unfold Op.eqFields; rw [if_pos n4, o4]
          simp only [Sem.run_bind, p4 _ _ _ _ _ _ lx, p4 _ _ _ _ _ _ lx', Result.andThen_ok, q f4 m x x' u4 lx lx']
          by_cases h4' : x = x'
          · rw [decide_eq_true h4']; simp only [Bool.not_true, Bool.false_eq_true, if_false]
            unfold Op.eqFields; rw [if_pos n5, o5]
            simp only [Sem.run_bind, p5 _ _ _ _ _ _ lx ly, p5 _ _ _ _ _ _ lx' ly', Result.andThen_ok, q f5 k y y' u5 ly ly']
            by_cases h5' : y = y'
            · rw [decide_eq_true h5', decide_eq_true ⟨h0, h1, h2, h3, h4', h5'⟩]; simp [Op.eqFields]
            · rw [decide_eq_false h5', decide_eq_false (fun h => h5' h.2.2.2.2.2)]; simp
          · rw [decide_eq_false h4', decide_eq_false (fun h => h4' h.2.2.2.2.1)]; simp
        · rw [decide_eq_false h3, decide_eq_false (fun h => h3 h.2.2.2.1)]; simp
      · rw [decide_eq_false h2, decide_eq_false (fun h => h2 h.2.2.1)]; simp
    · rw [decide_eq_false h1, decide_eq_false (fun h => h1 h.2.1)]; simp
  · rw [decide_eq_false h0, decide_eq_false (fun h => h0 h.1)]; simp
theorem T_eqQ {o : Oper} {dd : Nat} {t t' e : TypeId} {X Y : Operand} {f0 f1 f2 f3 f4 f5 : Field} {i4 i5 ie : TypeInfo} {m k : Nat} {k0 : IntKind} {a b c d a' b' c' d' : Int} {x y x' y' : List UInt8}
    (ho : o.op = .binOp .eql t X Y t') (hx : ρ.ev X = some (qV a b c d x y)) (hy : ρ.ev Y = some (qV a' b' c' d' x' y'))
    (ht : P.underlying t = some (.struct #[f0, f1, f2, f3, f4, f5])) (hnm : ([f0, f1, f2, f3, f4, f5].all fun f => f.name != "_") = true)
    (o0 : f0.offset = 0) (o1 : f1.offset = 1) (o2 : f2.offset = 2) (o3 : f3.offset = 3) (o4 : f4.offset = 4) (o5 : f5.offset = 4 + m)
    (u0 : P.underlying f0.type = some (.int .i64)) (u1 : P.underlying f1.type = some (.int .i64)) (u2 : P.underlying f2.type = some (.int .i64)) (u3 : P.underlying f3.type = some (.int .i64))
    (u4 : P.underlying f4.type = some (.array m e)) (u5 : P.underlying f5.type = some (.array k e)) (he : P.underlying e = some (.int k0)) (hie : P.info? e = some ie) (hce : P.cellsOf e = 1)
    (h4 : P.info? f4.type = some i4) (h5 : P.info? f5.type = some i5) (s4 : i4.size = m) (s5 : i5.size = k) (hp : P.stoodInHeld t = false) (hgd : P.eqGuardType P.depth t = false)
    (hg : o.guard = none) (hd : o.dst = some dd) (hn : Nat.ble (dd + 1) n = true) (lx : x.length = m) (lx' : x'.length = m) (ly : y.length = k) (ly' : y'.length = k)
    (kk : T P N n ops K rest ((dd, .bool (decide (a = a' ∧ b = b' ∧ c = c' ∧ d = d' ∧ x = x' ∧ y = y'))) :: ρ) w) : T P N n ops K (o :: rest) ρ w :=
  T_val hg hd hn (fun A ha u => by
    have e1 := ha.ev hx
    have e2 := ha.ev hy
    have hq := run_eqQ ht hnm o0 o1 o2 o3 o4 o5 u0 u1 u2 u3 u4 u5 he hie hce h4 h5 s4 s5 hp a b c d a' b' c' d' x y x' y' lx lx' ly ly' u
    have hg' : (eqGuard .eql t X Y (qV a b c d x y) (qV a' b' c' d' x' y')).run P u = .ok () u := run_eqGuard_agg u _ t X Y _ _ hgd
    have hb : (binOp .eql t (qV a b c d x y) (qV a' b' c' d' x' y')).run P u = .ok (.bool (decide (a = a' ∧ b = b' ∧ c = c' ∧ d = d' ∧ x = x' ∧ y = y'))) u := by
      refine (run_eql_struct u t _ _).trans ?_
      refine (congrArg (fun z => Result.andThen z fun b w' => Result.ok (Value.bool b) w') hq).trans rfl
    unfold execOp; rw [ho]; simp only [e1, e2]
    simp only [Sem.run_bind, hg', hb, Result.andThen_ok, Sem.run_pure]) kk
end
end Go.F
