/- The operations over what the call knows of memory. -/
import Derived.Test.YtadiakpbodlecaaDoorFSt
set_option linter.unusedVariables false
set_option linter.unusedSimpArgs false
set_option maxRecDepth 8192
namespace Go.F
open Go Go.RowKit
section
variable {P : Program} {N : Plan} {n : Nat} {ops : Array Oper} {K : Env → World → Prop} {rest : List Oper} {ρ : Env} {w W : World} {H G : Hp} {its : List Item}

/-- The plan with some operations (by their slots) taken as pure; it holds what stands still. -/
def planF (P : Program) (G0 : Hp) (ds : List Nat) : Plan := ⟨fun o => match o.dst with | some d => (match ds.contains d with | true => .pure | false => cls P o.op) | none => cls P o.op, fun w => G0.le (hw w)⟩

theorem T_ran {o : Oper} {d : Nat} {v : Value} {w' : World} (hcl : N.cl o = .loud) (hg : o.guard = none) (hd : o.dst = some d) (hn : Nat.ble (d + 1) n = true)
    (hrun : ∀ a, Agree n ρ a → (execOp a.eval o).run P w = .ok (.value v) w') (hC : N.C w') (k : T P N n ops K rest ((d, v) :: ρ) w') : T P N n ops K (o :: rest) ρ w := by
  refine T_loud hg hcl fun a ha hc => ?_
  unfold Oper.wp
  rw [hrun a ha]
  exact ⟨hC, _, by rw [hd]; exact ha.put hn _, k⟩
theorem T_ran0 {o : Oper} {w' : World} (hcl : N.cl o = .loud) (hg : o.guard = none) (hd : o.dst = none)
    (hrun : ∀ a, Agree n ρ a → (execOp a.eval o).run P w = .ok .skip w') (hC : N.C w') (k : T P N n ops K rest ρ w') : T P N n ops K (o :: rest) ρ w := by
  refine T_loud hg hcl fun a ha hc => ?_
  unfold Oper.wp
  rw [hrun a ha]
  exact ⟨hC, _, by rw [hd]; exact ha, k⟩

/-- The value said otherwise. -/
theorem T_re {d : Nat} {v v' : Value} (h : v = v') (k : T P N n ops K rest ((d, v') :: ρ) w) : T P N n ops K rest ((d, v) :: ρ) w := by rw [h]; exact k
theorem W_re {c : Code} {Q : Exit → Env → World → Prop} {d : Nat} {v v' : Value} (h : v = v') (k : F.W P n c Q ((d, v') :: ρ) w) : F.W P n c Q ((d, v) :: ρ) w := by rw [h]; exact k
/-- A Bool that is known. -/
theorem T_bool {o : Oper} {l : List Oper} (t : Nat) {b : Bool} (b' : Bool) (hb : ρ.get? t = some (.bool b)) (hbb : b = b') (k : T P N n ops K (o :: l) ((t, .bool b') :: ρ) w) : T P N n ops K (o :: l) ρ w :=
  T_part hb (by simp) (fun h => by rw [← hbb, h] at k; exact k) (fun h => by rw [← hbb, h] at k; exact k)
theorem W_bool {c : Code} {Q : Exit → Env → World → Prop} (t : Nat) {b : Bool} (b' : Bool) (hb : ρ.get? t = some (.bool b)) (hbb : b = b') (k : F.W P n c Q ((t, .bool b') :: ρ) w) : F.W P n c Q ρ w := fun a ha => by
  refine k a ⟨ha.1, ha.2.1, fun t' v hv => ?_⟩
  rw [get?_cons] at hv
  split at hv
  · rename_i e; subst e; simp only [Option.some.injEq] at hv; subst hv; subst hbb; exact ha.2.2 t _ hb
  · exact ha.2.2 t' v hv

/-! ### New memory -/

theorem T_allocS {o : Oper} {d : Nat} {t : TypeId} {i : TypeInfo} {z : Value} (S : St W H G its w) (hC : ∀ u, G.le (hw u) → N.C u) (ho : o.op = .alloc t) (hi : P.info? t = some i) (hz : i.zero = some z) (hcl : N.cl o = .loud) (hg : o.guard = none) (hd : o.dst = some d) (hn : Nat.ble (d + 1) n = true)
    (k : ∀ b w', St W H G (.blk b z.cells t :: its) w' → T P N n ops K rest ((d, .pointer (some ⟨b, 0, none⟩)) :: ρ) w') : T P N n ops K (o :: rest) ρ w := by
  have S' := S.new (World.grownBy_alloc w (.cells z.cells t (0, 0)) none) rfl (heap_alloc_new w _)
  refine T_ran hcl hg hd hn (fun a ha => ?_) (hC _ S'.le) (k _ _ S')
  unfold execOp; rw [ho]; simp [Instr.alloc, zeroValue, typeInfo, hi, hz, newVar, newRow]
theorem T_boxS {o : Oper} {d : Nat} {t : TypeId} {x : Operand} {v : Value} (S : St W H G its w) (hC : ∀ u, G.le (hw u) → N.C u) (ho : o.op = .box t x) (hx : ρ.ev x = some v) (hcl : N.cl o = .loud) (hg : o.guard = none) (hd : o.dst = some d) (hn : Nat.ble (d + 1) n = true)
    (k : ∀ b w', St W H G (.blk b v.cells t :: its) w' → T P N n ops K rest ((d, .pointer (some ⟨b, 0, none⟩)) :: ρ) w') : T P N n ops K (o :: rest) ρ w := by
  have S' := S.new (World.grownBy_alloc w (.cells v.cells t (0, 0)) none) rfl (heap_alloc_new w _)
  refine T_ran hcl hg hd hn (fun a ha => ?_) (hC _ S'.le) (k _ _ S')
  have e1 := ha.ev hx
  unfold execOp; rw [ho]; simp [Instr.box, e1, newVar, newRow]
/-- 'make([]T, n)': a block of the call's own. -/
theorem T_makeS {o : Oper} {d : Nat} {t e : TypeId} {i : TypeInfo} {z : Value} {x y : Operand} {kx ky : IntKind} {p q : Int} (m : Nat) (S : St W H G its w) (hC : ∀ u, G.le (hw u) → N.C u) (ho : o.op = .makeSlice t x y) (hx : ρ.ev x = some (.int kx p)) (hy : ρ.ev y = some (.int ky q))
    (ht : P.underlying t = some (.slice e)) (hi : P.info? e = some i) (hz : i.zero = some z) (hcl : N.cl o = .loud) (hg : o.guard = none) (hd : o.dst = some d) (hn : Nat.ble (d + 1) n = true)
    (hp : p = (m : Int)) (hq : q = (m : Int)) (hbytes : i.bytes * m ≤ 281474976710656) (h63 : m ≤ maxLen)
    (k : ∀ b w', St W H G (.blk b (madeCells z.cells (m * i.size)) e :: its) w' → T P N n ops K rest ((d, .slice (some ⟨b, 0, none⟩) m m) :: ρ) w') : T P N n ops K (o :: rest) ρ w := by
  have h63' : (m : Int) ≤ 9223372036854775807 := by simp only [maxLen] at h63; omega
  have hb' : (i.bytes : Int) * (m : Int) ≤ 281474976710656 := by
    have h : ((i.bytes * m : Nat) : Int) ≤ 281474976710656 := by omega
    rwa [Int.natCast_mul] at h
  have hr := run_make (P := P) w t e i z ht hi hz kx ky m m (by omega) (Int.le_refl _) hb' h63'
  simp only [Int.toNat_natCast] at hr
  have S' := S.new (World.grownBy_alloc w (.cells (madeCells z.cells (m * i.size)) e (0, 0)) none) rfl (heap_alloc_new w _)
  refine T_ran hcl hg hd hn (fun a ha => ?_) (hC _ S'.le) (k _ _ S')
  have e1 := ha.ev hx
  have e2 := ha.ev hy
  unfold execOp; rw [ho]; simp only [e1, e2, hp, hq, Sem.run_bind, hr, Result.andThen_ok]; rfl

/-! ### Stores -/

theorem T_storeS {o : Oper} {t t0 : TypeId} {i : TypeInfo} {x y : Operand} {b off : Nat} {c : Array Value} {v : Value} (j : Nat) (S : St W H G its w) (hC : ∀ u, G.le (hw u) → N.C u) (hj : its[j]? = some (.blk b c t0)) (ho : o.op = .store t x y) (hx : ρ.ev x = some (.pointer (some ⟨b, off, none⟩))) (hy : ρ.ev y = some v)
    (hi : P.info? t = some i) (hcl : N.cl o = .loud) (hg : o.guard = none) (hd : o.dst = none) (hl : v.cells.size = i.size) (hfit : off + v.cells.size ≤ c.size) (h1 : ∀ u ∈ v.cells.toList, u.oneCell' = true)
    (k : ∀ w', St W H G (its.set j (.blk b (c.toList.take off ++ v.cells.toList ++ c.toList.drop (off + v.cells.size)).toArray t0)) w' → T P N n ops K rest ρ w') : T P N n ops K (o :: rest) ρ w := by
  have hb := S.blk j hj
  have hst := run_storeCells_at P b off t0 v.cells.toList 0 c w hb (by simpa using hfit) h1
  have S' := S.set j (it' := .blk b (c.toList.take off ++ v.cells.toList ++ c.toList.drop (off + v.cells.size)).toArray t0) hj
    (w' := w.setRow b (c.toList.take off ++ v.cells.toList ++ c.toList.drop (off + v.cells.size)).toArray) ⟨rfl, rfl, rfl, by simp, fun g _ hk => setRow_other w b g _ (fun e => hk (by simp [Item.spot, e]))⟩
    ⟨setRow_heap w b c _ t0 _ hb, (S.ok j _ hj).2⟩ (fun b' h => .inl h)
  refine T_ran0 hcl hg hd (fun a ha => ?_) (hC _ S'.le) (k _ S')
  have e1 := ha.ev hx
  have e2 := ha.ev hy
  unfold execOp; rw [ho]; simp only [e1, e2]
  simp only [Nat.add_zero, Array.length_toList] at hst
  have hst' : (storeCells ⟨b, off, none⟩ v.cells.toList).run P w = _ := hst
  simp [Instr.storeAt, Instr.sureAddr, storeVar, sizeOf, typeInfo, hi, hl, hst']
theorem seg1 {c : Array Value} {v : Value} {j : Nat} (h : j < c.size) : (c.toList.take j ++ [v] ++ c.toList.drop (j + 1)).toArray = c.setIfInBounds j v := by
  apply Array.toList_inj.1
  simp only [Array.toList_setIfInBounds, List.append_assoc, List.cons_append, List.nil_append]
  rw [List.set_eq_take_append_cons_drop, if_pos (by simpa using h)]
/-- .. of one cell. -/
theorem T_store1S {o : Oper} {t t0 : TypeId} {i : TypeInfo} {x y : Operand} {b off : Nat} {c : Array Value} {v : Value} (j m : Nat) (S : St W H G its w) (hC : ∀ u, G.le (hw u) → N.C u) (hj : its[j]? = some (.blk b c t0)) (ho : o.op = .store t x y) (hx : ρ.ev x = some (.pointer (some ⟨b, off, none⟩))) (hy : ρ.ev y = some v)
    (hi : P.info? t = some i) (hi1 : i.size = 1) (hv1 : v.cells = #[v]) (ho1 : v.oneCell' = true) (hcl : N.cl o = .loud) (hg : o.guard = none) (hd : o.dst = none) (hm : off = m) (hfit : m < c.size)
    (k : ∀ w', St W H G (its.set j (.blk b (c.setIfInBounds m v) t0)) w' → T P N n ops K rest ρ w') : T P N n ops K (o :: rest) ρ w := by
  subst hm
  refine T_storeS j S hC hj ho hx hy hi hcl hg hd (by rw [hv1, hi1]; rfl) (by rw [hv1]; simp; omega) (by rw [hv1]; simpa using ho1) fun w' S' => k w' ?_
  rw [hv1] at S'
  simpa only [seg1 hfit, List.size_toArray, List.length_cons, List.length_nil] using S'
/-- .. of a whole variable. -/
theorem T_storeFS {o : Oper} {t t0 : TypeId} {i : TypeInfo} {x y : Operand} {b off : Nat} {c : Array Value} {v : Value} (j : Nat) (S : St W H G its w) (hC : ∀ u, G.le (hw u) → N.C u) (hj : its[j]? = some (.blk b c t0)) (ho : o.op = .store t x y) (hx : ρ.ev x = some (.pointer (some ⟨b, off, none⟩))) (hy : ρ.ev y = some v)
    (hi : P.info? t = some i) (hcl : N.cl o = .loud) (hg : o.guard = none) (hd : o.dst = none) (ho0 : off = 0) (hl : v.cells.size = i.size) (hl2 : v.cells.size = c.size) (h1 : ∀ u ∈ v.cells.toList, u.oneCell' = true)
    (k : ∀ w', St W H G (its.set j (.blk b v.cells t0)) w' → T P N n ops K rest ρ w') : T P N n ops K (o :: rest) ρ w := by
  subst ho0
  refine T_storeS j S hC hj ho hx hy hi hcl hg hd hl (by omega) h1 fun w' S' => k w' ?_
  have e : c.toList.drop (0 + v.cells.size) = [] := by rw [hl2]; simp
  rw [e] at S'
  simpa using S'

/-! ### append, copy -/

theorem T_appendS {o : Oper} {d : Nat} {t e : TypeId} {i : TypeInfo} {z : Value} {x y : Operand} {v vs : Value} {size n0 m : Nat} {xs news : List Value} (j n' : Nat) (xs' : List Value) (S : St W H G its w) (hC : ∀ u, G.le (hw u) → N.C u) (hj : its[j]? = some (.row e size v n0 xs))
    (ho : o.op = .call ⟨.builtin .append, #[x, y], #[t, t]⟩) (hx : ρ.ev x = some v) (hy : ρ.ev y = some vs) (ht : P.underlying t = some (.slice e)) (hi : P.info? e = some i) (hz : i.zero = some z) (hcl : N.cl o = .loud) (hg : o.guard = none) (hd : o.dst = some d) (hn : Nat.ble (d + 1) n = true)
    (hsize : i.size = size) (hzs : z.cells.size = size) (hsz : Nat.ble 1 size = true) (hsrc : Rd (hw w) vs m size news) (h1 : ∀ u ∈ news, u.oneCell' = true) (hn' : n0 + m = n') (hx' : xs ++ news = xs') (h63 : n' ≤ maxLen) (hbytes : n' * i.bytes ≤ 140737488355328)
    (k : ∀ a c w', n' ≤ c → St W H G (its.set j (.row e size (.slice a n' c) n' xs')) w' → T P N n ops K rest ((d, .slice a n' c) :: ρ) w') : T P N n ops K (o :: rest) ρ w := by
  subst hsize
  subst hn'
  subst hx'
  have hown : rowZ w W.heap.size e i.size v n0 xs := S.row j hj
  obtain ⟨hlen, aa, c, hvs, hcc, hnone, hsome⟩ := hsrc
  have key : ∃ v' w', (Builtin.append_ #[t, t] o.type #[v, vs]).run P w = .ok v' w' ∧ rowZ w' W.heap.size e i.size v' (n0 + m) (xs ++ news) ∧ w.grownBy w' v.ownBlock ∧ ∀ b, v'.ownBlock = some b → v.ownBlock = some b ∨ w.heap.size ≤ b := by
    cases aa with
    | none =>
      obtain ⟨rfl, rfl⟩ := hnone rfl
      have : news = [] := List.eq_nil_of_length_eq_zero (by simpa using hlen)
      subst this
      rw [hvs]
      obtain ⟨a0, c0, hv0, _⟩ := (Rd.of_rowZ hown).shape
      refine ⟨v, w, ?_, by simpa using hown, gb_refl w _, fun b hb => .inl hb⟩
      subst hv0
      have hcap : n0 ≤ c0 := by
        rcases hown.2 with ⟨h, h0⟩ | ⟨g, cap, cur, fz, h, _, _, _, h2, _⟩
        · cases h; omega
        · cases h; exact h2
      cases a0 with
      | none =>
        rcases hown.2 with ⟨h, h0⟩ | ⟨g, cap, cur, fz, h, _⟩
        · cases h
          simp [Builtin.append_, run_underlying ht, sizeOf, typeInfo, hi, Builtin.lenOf, Builtin.firstCells]
        · cases h
      | some ad =>
        simp [Builtin.append_, run_underlying ht, sizeOf, typeInfo, hi, Builtin.lenOf, hcap, Builtin.firstCells, storeCells]
    | some ad =>
      rw [hvs]
      exact run_append_at (P := P) w W.heap.size t o.type e i z ht hi hz hzs v n0 xs hown ad m c news hlen
        (fun j u hj => by
          have hm : 0 < m := by
            have := (List.getElem?_eq_some_iff.1 hj).1
            rcases Nat.eq_zero_or_pos m with e | e
            · rw [e] at hlen; omega
            · exact e
          obtain ⟨hspot, hcell⟩ := hsome ad rfl hm
          obtain ⟨b, off, s⟩ := ad
          simp only at hspot; subst hspot
          rw [Addr.add_lit]; exact cell_of_hcell (hcell j u hj)) h1 h63 hbytes S.below.size (Nat.le_of_ble_eq_true hsz)
  obtain ⟨v', w', hr, h2, h3, h4⟩ := key
  obtain ⟨a', c', hv', hcc'⟩ := (Rd.of_rowZ h2).shape
  subst hv'
  have S' := S.set j (it' := .row e i.size (.slice a' (n0 + m) c') (n0 + m) (xs ++ news)) hj h3 h2 h4
  refine T_ran hcl hg hd hn (fun a ha => ?_) (hC _ S'.le) (k _ _ _ hcc' S')
  have e1 := ha.ev hx
  have e2 := ha.ev hy
  unfold execOp; rw [ho]
  simp only [resolve, Sem.run_bind, Sem.run_pure, Result.andThen_ok, invoke, builtin]
  simp [e1, e2, hr]

theorem T_copyS {o : Oper} {d : Nat} {dT sT e : TypeId} {i : TypeInfo} {x y : Operand} {g off dLen dCap m : Nat} {cur : Array Value} {t0 : TypeId} {vs : Value} {cs : List Value} (j : Nat) (S : St W H G its w) (hC : ∀ u, G.le (hw u) → N.C u) (hj : its[j]? = some (.blk g cur t0))
    (ho : o.op = .call ⟨.builtin .copy, #[x, y], #[dT, sT]⟩) (hx : ρ.ev x = some (.slice (some ⟨g, off, none⟩) dLen dCap)) (hy : ρ.ev y = some vs) (ht : P.underlying dT = some (.slice e)) (hi : P.info? e = some i) (h1 : i.size = 1) (hcl : N.cl o = .loud) (hg : o.guard = none) (hd : o.dst = some d) (hn : Nat.ble (d + 1) n = true)
    (hsrc : Rd (hw w) vs m 1 cs) (hm : m ≤ dLen) (hm0 : 0 < m) (hfit : off + m ≤ cur.size) (hone : ∀ v ∈ cs, v.oneCell' = true)
    (k : ∀ w', St W H G (its.set j (.blk g (cur.toList.take off ++ cs ++ cur.toList.drop (off + cs.length)).toArray t0)) w' → T P N n ops K rest ((d, .int .i64 (cs.length : Int)) :: ρ) w') : T P N n ops K (o :: rest) ρ w := by
  have hb := S.blk j hj
  have hlen : cs.length = m := by have := hsrc.1; omega
  obtain ⟨b, so, c, hvs, _, hcell⟩ := hsrc.get hm0
  have hr := run_copy_row (P := P) w dT sT o.type e g off dLen dCap ⟨b, so, none⟩ m c cur t0 cs ht (by rw [hi]; simp [h1]) hb (by rw [hlen]; exact (Nat.min_eq_left hm).symm) (fun j v hj => by rw [Addr.add_lit]; exact cell_of_hcell (hcell j v hj)) (by omega) hone
  have S' := S.set j (it' := .blk g (cur.toList.take off ++ cs ++ cur.toList.drop (off + cs.length)).toArray t0) hj
    (w' := w.setRow g (cur.toList.take off ++ cs ++ cur.toList.drop (off + cs.length)).toArray) ⟨rfl, rfl, rfl, by simp, fun q _ hk => setRow_other w g q _ (fun e => hk (by simp [Item.spot, e]))⟩
    ⟨setRow_heap w g cur _ t0 _ hb, (S.ok j _ hj).2⟩ (fun b' h => .inl h)
  refine T_ran hcl hg hd hn (fun a ha => ?_) (hC _ S'.le) (k _ S')
  have e1 := ha.ev hx
  have e2 := ha.ev hy
  unfold execOp; rw [ho]
  simp only [resolve, Sem.run_bind, Sem.run_pure, Result.andThen_ok, invoke, builtin]
  simp [e1, e2, hvs, hr, goInt]

/-! ### Literals of slices -/

theorem set_seg (cs : List Value) : ∀ (off j : Nat) (pre seg post : List Value), seg.length = cs.length → pre.length = off + j →
    (cs.zipIdx j).foldl (fun (a : Array Value) (p : Value × Nat) => a.setIfInBounds (off + p.2) p.1) (pre ++ (seg ++ post)).toArray = (pre ++ (cs ++ post)).toArray := by
  induction cs with
  | nil => intro off j pre seg post hl _; have : seg = [] := List.eq_nil_of_length_eq_zero (by simpa using hl); subst this; rfl
  | cons c cs ih =>
    intro off j pre seg post hl hp
    cases seg with
    | nil => simp at hl
    | cons s seg =>
      rw [List.zipIdx_cons, List.foldl_cons]
      have e : (pre ++ (s :: seg ++ post)).toArray.setIfInBounds (off + j) c = ((pre ++ [c]) ++ (seg ++ post)).toArray := by
        rw [List.setIfInBounds_toArray, List.set_append, if_neg (by omega), hp, Nat.sub_self]; simp
      simp only at e ⊢
      rw [e, ih off (j + 1) (pre ++ [c]) seg post (by simpa using hl) (by simp; omega)]
      simp

theorem fill_rangeS (s : Nat) : ∀ (vs : List Value) (k : Nat) (pre post : List Value), (∀ v ∈ vs, v.cells.size = s) → post.length = vs.length * s → pre.length = k * s →
    Instr.fill (fun j => some (j * s, s)) (pre ++ post).toArray ((List.range' k vs.length).zip vs) = some (pre ++ vs.flatMap (·.cells.toList)).toArray
  | [], k, pre, post, _, hl, _ => by
    have : post = [] := List.eq_nil_of_length_eq_zero (by simpa using hl)
    subst this
    simp [Instr.fill]
  | v :: vs, k, pre, post, h1, hl, hp => by
    have hv := h1 v (by simp)
    have hvl : v.cells.toList.length = s := by simpa using hv
    have hpl : s ≤ post.length := by rw [hl, List.length_cons, Nat.succ_mul]; omega
    have ih := fill_rangeS s vs (k + 1) (pre ++ v.cells.toList) (post.drop s) (fun u hu => h1 u (by simp [hu])) (by rw [List.length_drop, hl, List.length_cons, Nat.succ_mul]; omega) (by rw [List.length_append, hp, hvl, Nat.succ_mul])
    rw [List.length_cons, List.range'_succ, List.zip_cons_cons, Instr.fill]
    have hsz : ¬ (v.cells.size ≠ s ∨ k * s + v.cells.size > (pre ++ post).toArray.size) := by
      rw [hv]; simp only [List.size_toArray, List.length_append, hp]; omega
    have hsz' : (v.cells.size ≠ s || decide (k * s + v.cells.size > (pre ++ post).toArray.size)) = false := by
      simp only [ne_eq, not_or, Decidable.not_not, Nat.not_lt, gt_iff_lt] at hsz
      simp [hsz.1]
      simp only [List.size_toArray, List.length_append] at hsz
      omega
    have hset := set_seg v.cells.toList (k * s) 0 pre (post.take s) (post.drop s) (by rw [List.length_take, hvl]; omega) (by rw [hp]; omega)
    rw [List.take_append_drop] at hset
    have hset' : (v.cells.zipIdx.foldl (fun cs (x : Value × Nat) => match x with | (c, j) => cs.setIfInBounds (k * s + j) c) (pre ++ post).toArray) = (pre ++ (v.cells.toList ++ post.drop s)).toArray := by
      rw [← hset]
      rw [← Array.foldl_toList, Array.toList_zipIdx]
    simp only [hset']
    rw [if_neg (by rw [hsz']; simp)]
    rw [← List.append_assoc, ih]
    simp [List.append_assoc]

/-- '[]T{..}': all elements, in their order. -/
theorem T_litS {o : Oper} {d : Nat} {t e : TypeId} {i : TypeInfo} {z : Value} {len : Nat} {xs : List (Nat × Operand)} {vs : List (Nat × Value)} (xs' : List Value) (ho : o.op = .buildSlice t len xs.toArray) (hxs : evp ρ xs = some vs)
    (ht : P.underlying t = some (.slice e)) (hi : P.info? e = some i) (hz : i.zero = some z) (hsz : Nat.ble 1 i.size = true) (hlen : Nat.beq vs.length len = true) (hr : vs.map (·.1) = List.range' 0 vs.length) (hcl : N.cl o = .loud) (hg : o.guard = none) (hd : o.dst = some d) (hn : Nat.ble (d + 1) n = true)
    (hsm : Nat.ble (len * i.size) 16777216 = true) (hone : ∀ v ∈ vs.map (·.2), v.cells.size = i.size) (hx' : (vs.map (·.2)).flatMap (·.cells.toList) = xs')
    (k : ∀ a w', Below w.heap.size w w' → rowZ w' w.heap.size e i.size (.slice a len len) len xs' → N.C w' ∧ T P N n ops K rest ((d, .slice a len len) :: ρ) w') : T P N n ops K (o :: rest) ρ w := by
  subst hx'
  have hsm' := Nat.le_of_ble_eq_true hsm
  have hsz' := Nat.le_of_ble_eq_true hsz
  have hlen' := Nat.eq_of_beq_eq_true hlen
  have hl2 : ((vs.map (·.2)).flatMap (·.cells.toList)).length = len * i.size := by
    rw [← hlen']
    clear hxs hr hlen hlen' hsm hsm' k
    induction vs with
    | nil => simp
    | cons p vs ih =>
      have h1 := hone p.2 (by simp)
      have h2 := ih (fun v hv => hone v (by simp at hv ⊢; exact .inr hv))
      simp only [List.map_cons, List.flatMap_cons, List.length_append, List.length_cons, Array.length_toList, h1, h2, Nat.succ_mul]; omega
  have hB := below_of_grown (World.grownBy_alloc w (.cells ((vs.map (·.2)).flatMap (·.cells.toList)).toArray e (0, 0)) none)
  have ho2 : rowZ (w.alloc (.cells ((vs.map (·.2)).flatMap (·.cells.toList)).toArray e (0, 0))) w.heap.size e i.size (.slice (some ⟨w.heap.size, 0, none⟩) len len) len ((vs.map (·.2)).flatMap (·.cells.toList)) :=
    rowZ.of (owns_of_block (heap_alloc_new w _) (Nat.le_refl _) (by have : len * 1 ≤ len * i.size := Nat.mul_le_mul_left _ hsz'; unfold maxLen; omega) (by simp) hl2)
  obtain ⟨hCc, kk⟩ := k _ _ hB ho2
  refine T_ran hcl hg hd hn (fun a ha => ?_) hCc kk
  have h1 := ha.evp xs vs hxs
  have h3 : (xs.toArray.map fun (x : Nat × Operand) => match x with | (i, x) => (i, a.eval x)) = vs.toArray := by
    rw [← h1]; simp
  have hf := fill_rangeS i.size (vs.map (·.2)) 0 [] ((Array.range (len * i.size)).map (fun j => z.cells[j % z.cells.size]!)).toList hone (by simp [hlen']) (by simp)
  have ez : (vs.map (·.1)).zip (vs.map (·.2)) = vs := by simp [List.zip_map', List.map_id']
  simp only [List.length_map, ← hr, ez, List.nil_append, Array.toArray_toList] at hf
  have hgt : ¬ (len * i.size > 2 ^ 24) := by omega
  unfold execOp; rw [ho]
  by_cases h0 : len * i.size = 0
  · have hv0 : vs = [] := by
      have : len = 0 := by rcases Nat.mul_eq_zero.1 h0 with h | h <;> omega
      exact List.eq_nil_of_length_eq_zero (by omega)
    subst hv0
    have hl0 : len = 0 := by simpa using hlen'.symm
    subst hl0
    simp [Instr.buildSlice, h3, run_underlying ht, sizeOf, typeInfo, hi, newRow, Instr.fill]
    have er : Array.range 0 = #[] := by simp
    rw [er, Array.map_empty]
  · simp [Instr.buildSlice, h3, run_underlying ht, sizeOf, typeInfo, hi, zeroValue, hz, hgt, h0, newRow, hf]
  
/-! ### Calls -/

theorem T_callS {o : Oper} {d : Nat} {f : FuncId} {xs : List Operand} {ts : Array TypeId} {args : List Value} (ho : o.op = .call ⟨.value (.func f), xs.toArray, ts⟩) (hxs : evs ρ xs = some args) (hf : goFn P f = true) (hcl : N.cl o = .loud) (hg : o.guard = none) (hd : o.dst = some d) (hn : Nat.ble (d + 1) n = true)
    (c : Calls P f args.toArray w (fun e w' => ∃ v, e = .returned v ∧ N.C w' ∧ T P N n ops K rest ((d, v) :: ρ) w')) : T P N n ops K (o :: rest) ρ w := by
  refine T_loud hg hcl fun a ha hc => ?_
  unfold Oper.wp
  rw [run_call ho ha hxs hf w]
  refine c.mono fun e w' ⟨v, he, hc', h⟩ => ?_
  subst he
  exact ⟨hc', _, by rw [hd]; exact ha.put hn v, h⟩

/-! ### Loads -/

/-- One cell of what stands still. -/
theorem T_loadG {o : Oper} {d : Nat} {t : TypeId} {x : Operand} {b off : Nat} {v : Value} (S : St W H G its w) (r : hcell G b off = some v) (ho : o.op = .load t x) (hx : ρ.ev x = some (.pointer (some ⟨b, off, none⟩))) (hs : scalar P t = true) (hcl : N.cl o = .read) (hg : o.guard = none) (hd : o.dst = some d) (hn : Nat.ble (d + 1) n = true)
    (k : T P N n ops K rest ((d, v) :: ρ) w) : T P N n ops K (o :: rest) ρ w := T_load ho hx hs hcl hg hd hn (S.cellG r) k
theorem T_loadGA {o : Oper} {d : Nat} {t : TypeId} {i : TypeInfo} {x : Operand} {b off : Nat} (cs : Array Value) (S : St W H G its w) (r : ∀ (j : Nat) v, cs[j]? = some v → hcell G b (off + j) = some v) (ho : o.op = .load t x) (hx : ρ.ev x = some (.pointer (some ⟨b, off, none⟩))) (hs : isAggB P t = true) (hi : P.info? t = some i) (hcl : N.cl o = .read) (hg : o.guard = none) (hd : o.dst = some d) (hn : Nat.ble (d + 1) n = true)
    (hl : cs.size = i.size) (k : T P N n ops K rest ((d, .agg cs) :: ρ) w) : T P N n ops K (o :: rest) ρ w := T_loadA cs ho hx hs hi hcl hg hd hn hl (fun j v hj => S.cellG (r j v hj)) k
/-- .. taken as pure, under a plan that holds it. -/
theorem T_loadGP {o : Oper} {d : Nat} {t : TypeId} {x : Operand} {b off : Nat} {v : Value} (hC : ∀ u, N.C u → G.le (hw u)) (r : hcell G b off = some v) (ho : o.op = .load t x) (hx : ρ.ev x = some (.pointer (some ⟨b, off, none⟩))) (hs : scalar P t = true) (hcl : N.cl o = .pure) (hg : o.guard = none) (hd : o.dst = some d) (hn : Nat.ble (d + 1) n = true)
    (k : T P N n ops K rest ((d, v) :: ρ) w) : T P N n ops K (o :: rest) ρ w := T_loadP ho hx hs hcl hg hd hn (fun u hu => cell_of_hcell (hcell_mono (hC u hu) r)) k
theorem T_loadGAP {o : Oper} {d : Nat} {t : TypeId} {i : TypeInfo} {x : Operand} {b off : Nat} (cs : Array Value) (hC : ∀ u, N.C u → G.le (hw u)) (r : ∀ (j : Nat) v, cs[j]? = some v → hcell G b (off + j) = some v) (ho : o.op = .load t x) (hx : ρ.ev x = some (.pointer (some ⟨b, off, none⟩))) (hs : isAggB P t = true) (hi : P.info? t = some i) (hcl : N.cl o = .pure) (hg : o.guard = none) (hd : o.dst = some d) (hn : Nat.ble (d + 1) n = true)
    (hl : cs.size = i.size) (k : T P N n ops K rest ((d, .agg cs) :: ρ) w) : T P N n ops K (o :: rest) ρ w := fun a ha _ => by
  unfold xo
  rw [if_pos (wanted_none hg _), hcl]
  refine ⟨.agg cs, fun u hu => .inl ?_, (d, .agg cs) :: ρ, by rw [hd]; exact ha.put hn _, k⟩
  have h1 := ha.ev hx
  unfold execOp; rw [ho]; simp only [h1]
  simp [Instr.loadAt, Instr.sureAddr, run_loadVarA hs hi hl (fun j v hj => cell_of_hcell (hcell_mono (hC u hu) (r j v hj)))]
/-- One cell of a block of the call's own. -/
theorem T_loadS {o : Oper} {d : Nat} {t t0 : TypeId} {x : Operand} {b off : Nat} {c : Array Value} {v : Value} (j m : Nat) (S : St W H G its w) (hj : its[j]? = some (.blk b c t0)) (ho : o.op = .load t x) (hx : ρ.ev x = some (.pointer (some ⟨b, off, none⟩))) (hs : scalar P t = true) (hcl : N.cl o = .read) (hg : o.guard = none) (hd : o.dst = some d) (hn : Nat.ble (d + 1) n = true)
    (hm : off = m) (hv : c[m]? = some v) (k : T P N n ops K rest ((d, v) :: ρ) w) : T P N n ops K (o :: rest) ρ w := T_load ho hx hs hcl hg hd hn (S.cell j hj hv hm) k
/-- All of it. -/
theorem T_loadFS {o : Oper} {d : Nat} {t t0 : TypeId} {i : TypeInfo} {x : Operand} {b : Nat} {c : Array Value} (j : Nat) (S : St W H G its w) (hj : its[j]? = some (.blk b c t0)) (ho : o.op = .load t x) (hx : ρ.ev x = some (.pointer (some ⟨b, 0, none⟩))) (hs : isAggB P t = true) (hi : P.info? t = some i) (hcl : N.cl o = .read) (hg : o.guard = none) (hd : o.dst = some d) (hn : Nat.ble (d + 1) n = true)
    (hl : c.size = i.size) (k : T P N n ops K rest ((d, .agg c) :: ρ) w) : T P N n ops K (o :: rest) ρ w := T_loadA c ho hx hs hi hcl hg hd hn hl (S.cells j hj) k
/-- A part of it. -/
theorem T_loadAS {o : Oper} {d : Nat} {t t0 : TypeId} {i : TypeInfo} {x : Operand} {b off : Nat} {c : Array Value} (cs : Array Value) (j : Nat) (S : St W H G its w) (hj : its[j]? = some (.blk b c t0)) (ho : o.op = .load t x) (hx : ρ.ev x = some (.pointer (some ⟨b, off, none⟩))) (hs : isAggB P t = true) (hi : P.info? t = some i) (hcl : N.cl o = .read) (hg : o.guard = none) (hd : o.dst = some d) (hn : Nat.ble (d + 1) n = true)
    (hl : cs.size = i.size) (hcs : ∀ (q : Nat) v, cs[q]? = some v → c[off + q]? = some v) (k : T P N n ops K rest ((d, .agg cs) :: ρ) w) : T P N n ops K (o :: rest) ρ w :=
  T_loadA cs ho hx hs hi hcl hg hd hn hl (fun q v hq => S.cell j hj (hcs q v hq) rfl) k

/-! ### Slices that stand still -/

theorem ndec_t {p : Prop} [Decidable p] (h : ¬ p) : (!decide p) = true := by simp [h]
theorem ndec_f {p : Prop} [Decidable p] (h : p) : (!decide p) = false := by simp [h]
theorem of_ndec_t {p : Prop} [Decidable p] (h : (!decide p) = true) : ¬ p := by simpa using h
theorem of_ndec_f {p : Prop} [Decidable p] (h : (!decide p) = false) : p := by simpa using h

theorem Rd.of_blk {G : Hp} {b m size : Nat} {c : Array Value} {t : TypeId} {fz : Nat × Nat} {xs : List Value} (h : G b = some (.cells c t fz)) (hc : c.toList = xs) (hl : xs.length = m * size) : Rd G (.slice (some ⟨b, 0, none⟩) m m) m size xs :=
  ⟨hl, _, m, rfl, Nat.le_refl _, fun e => (by cases e), fun ad e _ => by
    cases e
    refine ⟨rfl, fun i u hi => ?_⟩
    unfold hcell
    rw [h]
    simp only [Nat.zero_add]
    rw [← hc] at hi
    simpa using hi⟩
/-- What stands still, at one place. -/
theorem Rd.of_cells {G : Hp} {b off m size : Nat} {xs : List Value} (h : ∀ (j : Nat) u, xs[j]? = some u → hcell G b (off + j) = some u) (hl : xs.length = m * size) : Rd G (.slice (some ⟨b, off, none⟩) m m) m size xs :=
  ⟨hl, _, m, rfl, Nat.le_refl _, fun e => (by cases e), fun ad e _ => by cases e; exact ⟨rfl, h⟩⟩
theorem Rd.canon {G : Hp} {v : Value} {m m' size : Nat} {xs : List Value} (r : Rd G v m size xs) (h : m = m') : Rd G v m' size xs := by subst h; exact r
theorem Rd.canonB {G : Hp} {v : Value} {m : Nat} {l : List UInt8} (r : Rd G v m 1 (l.map bV)) : Rd G v l.length 1 (l.map bV) := r.canon (by have := r.1; simp at this; omega)

/-- Headers of rows of bytes. -/
def Rds (G : Hp) (hs : List Value) (ls : List (List UInt8)) : Prop := hs.length = ls.length ∧ ∀ (i : Nat) v l, hs[i]? = some v → ls[i]? = some l → Rd G v l.length 1 (l.map bV)
theorem Rds.nil (G : Hp) : Rds G [] [] := ⟨rfl, fun i v l h => by simp at h⟩
theorem Rds.mono {G G' : Hp} {hs : List Value} {ls : List (List UInt8)} (h : Rds G hs ls) (hl : G.le G') : Rds G' hs ls := ⟨h.1, fun i v l a b => (h.2 i v l a b).mono hl⟩
theorem Rds.cons {G : Hp} {v : Value} {l : List UInt8} {hs : List Value} {ls : List (List UInt8)} (r : Rd G v l.length 1 (l.map bV)) (h : Rds G hs ls) : Rds G (v :: hs) (l :: ls) :=
  ⟨by simp [h.1], fun i u m a b => by
    cases i with
    | zero => simp at a b; subst a; subst b; exact r
    | succ i => exact h.2 i u m (by simpa using a) (by simpa using b)⟩
theorem Rds.append {G : Hp} {hs hs' : List Value} {ls ls' : List (List UInt8)} (h : Rds G hs ls) (h' : Rds G hs' ls') : Rds G (hs ++ hs') (ls ++ ls') :=
  ⟨by simp [h.1, h'.1], fun i u m a b => by
    rw [List.getElem?_append] at a b
    rw [h.1] at a
    split at a
    · rename_i hi; rw [if_pos hi] at b; exact h.2 i u m a b
    · rename_i hi; rw [if_neg hi] at b; exact h'.2 _ u m a b⟩
/-- A row of rows of bytes that stands still. -/
def RdL (G : Hp) (v : Value) (ls : List (List UInt8)) : Prop := ∃ hs, Rd G v ls.length 1 hs ∧ Rds G hs ls
theorem RdL.mono {G G' : Hp} {v : Value} {ls : List (List UInt8)} (h : RdL G v ls) (hl : G.le G') : RdL G' v ls := by obtain ⟨hs, a, b⟩ := h; exact ⟨hs, a.mono hl, b.mono hl⟩
theorem RdL.mk {G : Hp} {v : Value} {hs : List Value} {ls : List (List UInt8)} {m : Nat} (r : Rd G v m 1 hs) (h : Rds G hs ls) : RdL G v ls := ⟨hs, r.canon (by have := r.1; have := h.1; omega), h⟩
theorem RdL.shape {G : Hp} {v : Value} {ls : List (List UInt8)} (h : RdL G v ls) : ∃ a c, v = .slice a ls.length c ∧ ls.length ≤ c := by obtain ⟨hs, a, _⟩ := h; exact a.shape
theorem Rds.one {G : Hp} {hs : List Value} {ls : List (List UInt8)} (h : Rds G hs ls) : ∀ u ∈ hs, u.oneCell' = true := by
  intro u hu
  obtain ⟨i, hi⟩ := List.getElem?_of_mem hu
  have hlt : i < ls.length := by rw [← h.1]; exact (List.getElem?_eq_some_iff.1 hi).1
  obtain ⟨a, c, e, _⟩ := (h.2 i u _ hi (List.getElem?_eq_getElem hlt)).shape
  rw [e]; rfl

/-! Rows of numbers, of hashes. -/
abbrev iV (z : Int) : Value := .int .i64 z
theorem one_iV (l : List Int) : ∀ u ∈ l.map iV, u.oneCell' = true := by
  intro u hu; obtain ⟨a, _, rfl⟩ := List.mem_map.1 hu; rfl
def hcells (hs : List (List UInt8)) : List Value := hs.flatMap fun h => h.map bV
theorem one_hcells (l : List (List UInt8)) : ∀ u ∈ hcells l, u.oneCell' = true := by
  intro u hu; obtain ⟨a, _, h⟩ := List.mem_flatMap.1 hu; exact one_bV a u h
theorem hcells_append (a b : List (List UInt8)) : hcells (a ++ b) = hcells a ++ hcells b := List.flatMap_append
theorem hcells_len {k : Nat} : ∀ {l : List (List UInt8)}, (∀ h ∈ l, h.length = k) → (hcells l).length = l.length * k
  | [], _ => by simp [hcells]
  | h :: l, hl => by
    have := hcells_len (k := k) (l := l) (fun x hx => hl x (by simp [hx]))
    have h1 := hl h (by simp)
    simp only [hcells, List.flatMap_cons, List.length_append, List.length_map, h1, List.length_cons, Nat.succ_mul] at this ⊢
    omega
theorem hcells_at {k : Nat} : ∀ {l : List (List UInt8)} (_ : ∀ h ∈ l, h.length = k) (q : Nat) (h : List UInt8) (_ : l[q]? = some h) (j : Nat) (u : Value), (h.map bV)[j]? = some u → (hcells l)[q * k + j]? = some u
  | [], _, q, h, hq, _, _, _ => by simp at hq
  | x :: l, hl, 0, h, hq, j, u, hu => by
    simp at hq; subst hq
    simp only [hcells, List.flatMap_cons, Nat.zero_mul, Nat.zero_add]
    rw [List.getElem?_append_left (List.getElem?_eq_some_iff.1 hu).1]; exact hu
  | x :: l, hl, q + 1, h, hq, j, u, hu => by
    have h1 : (x.map bV).length = k := by rw [List.length_map]; exact hl x (by simp)
    have ih := hcells_at (l := l) (fun y hy => hl y (by simp [hy])) q h (by simpa using hq) j u hu
    simp only [hcells, List.flatMap_cons] at ih ⊢
    rw [List.getElem?_append_right (by rw [h1, Nat.succ_mul]; omega), h1]
    have : (q + 1) * k + j - k = q * k + j := by rw [Nat.succ_mul]; omega
    rw [this]; exact ih
/-- A row of hashes (of k bytes each) that stands still. -/
def RdH (G : Hp) (v : Value) (k : Nat) (hs : List (List UInt8)) : Prop := (∀ h ∈ hs, h.length = k) ∧ Rd G v hs.length k (hcells hs)
theorem RdH.mono {G G' : Hp} {v : Value} {k : Nat} {hs : List (List UInt8)} (h : RdH G v k hs) (hl : G.le G') : RdH G' v k hs := ⟨h.1, h.2.mono hl⟩
theorem RdH.shape {G : Hp} {v : Value} {k : Nat} {hs : List (List UInt8)} (h : RdH G v k hs) : ∃ a c, v = .slice a hs.length c ∧ hs.length ≤ c := h.2.shape

/-- 's[i]', its address. -/
theorem T_idxR {o : Oper} {d : Nat} {t e : TypeId} {i : TypeInfo} {x y : Operand} {v : Value} {m size : Nat} {xs : List Value} {k0 : IntKind} {z : Int} (q : Nat) (r : Rd G v m size xs) (ho : o.op = .indexAddr t x y) (hx : ρ.ev x = some v) (hy : ρ.ev y = some (.int k0 z))
    (ht : P.underlying t = some (.slice e)) (hi : P.info? e = some i) (h1 : i.size = size) (hg : o.guard = none) (hd : o.dst = some d) (hn : Nat.ble (d + 1) n = true)
    (hz : z = (q : Int)) (hq : q < m) (k : ∀ b off, (∀ (j : Nat) u, xs[q * size + j]? = some u → hcell G b (off + j) = some u) → T P N n ops K rest ((d, .pointer (some ⟨b, off, none⟩)) :: ρ) w) : T P N n ops K (o :: rest) ρ w := by
  obtain ⟨b, off, c, hv, hc, hcell⟩ := r.get (by omega)
  subst hv
  refine T_idx ho hx hy ht hi hg hd hn (by omega) ?_
  have e : z.toNat = q := by omega
  rw [e, h1]
  refine k b (off + q * size) fun j u hu => ?_
  rw [Nat.add_assoc]
  exact hcell _ u hu
/-- 's[lo:hi]' with numbers said. -/
theorem T_sliceR {o : Oper} {d : Nat} {t e : TypeId} {i : TypeInfo} {x : Operand} {lo hi : Option Operand} {vlo vhi : Option Value} {v : Value} {n0 size : Nat} {xs : List Value} (l h : Nat) (r : Rd G v n0 size xs)
    (ho : o.op = .slice t x lo hi none) (hx : ρ.ev x = some v) (hlo : optEv ρ lo = some vlo) (hhi : optEv ρ hi = some vhi) (ht : P.underlying t = some (.slice e)) (hi' : P.info? e = some i) (hsize : i.size = size) (hg : o.guard = none) (hd : o.dst = some d) (hn : Nat.ble (d + 1) n = true)
    (hh : bound n0 vhi = some h) (hl : bound 0 vlo = some l) (h1 : l ≤ h) (h2 : h ≤ n0)
    (k : ∀ a' c', h - l ≤ c' → Rd G (.slice a' (h - l) c') (h - l) size ((xs.drop (l * size)).take ((h - l) * size)) → T P N n ops K rest ((d, .slice a' (h - l) c') :: ρ) w) : T P N n ops K (o :: rest) ρ w :=
  T_slice ho hx hlo hhi ht hi' hsize hg hd hn r hh hl h1 h2 fun a' c' r' => k a' c' (by obtain ⟨_, _, _, he, hc, _⟩ := r'; cases he; exact hc) r'

/-! ### Strings, bytes -/

/-- '[]byte(s)'. -/
theorem T_s2b {o : Oper} {d : Nat} {s t e : TypeId} {x : Operand} {l : List UInt8} (ho : o.op = .convert s t x) (hx : ρ.ev x = some (str l)) (hs : P.underlying s = some .string) (ht : P.underlying t = some (.slice e)) (he : P.underlying e = some (.int .u8)) (hcl : N.cl o = .loud) (hg : o.guard = none) (hd : o.dst = some d) (hn : Nat.ble (d + 1) n = true)
    (hl : l.length ≤ maxLen) (k : ∀ a c w', l.length ≤ c → Below w.heap.size w w' → rowZ w' w.heap.size e 1 (.slice a l.length c) l.length (l.map bV) → N.C w' ∧ T P N n ops K rest ((d, .slice a l.length c) :: ρ) w') : T P N n ops K (o :: rest) ρ w := by
  have hsz : (⟨l.toArray⟩ : ByteArray).size = l.length := by simp [ByteArray.size]
  have hr := run_bytes_of_string (P := P) w s t e ⟨l.toArray⟩ hs ht he
  rw [hsz] at hr
  have hge := grownCap_ge w l.length 0 e
  have hcells : bytesRow ⟨l.toArray⟩ (grownCap w l.length 0 e) = (l.map bV ++ List.replicate (grownCap w l.length 0 e - l.length) (bV 0)).toArray := by
    unfold bytesRow
    rw [hsz]
    apply Array.toList_inj.1
    simp [bV]
  rw [hcells] at hr
  have hB := below_of_grown (undrew (World.grownBy_alloc w.drew (.cells (l.map bV ++ List.replicate (grownCap w l.length 0 e - l.length) (bV 0)).toArray e ((l.map bV ++ List.replicate (grownCap w l.length 0 e - l.length) (bV 0)).toArray.size, (l.map bV ++ List.replicate (grownCap w l.length 0 e - l.length) (bV 0)).toArray.size + 1)) none))
  obtain ⟨h1, h2⟩ := k _ _ _ hge hB ⟨by simp, .inr ⟨w.heap.size, _, _, _, rfl, Nat.le_refl _, heap_alloc_new w.drew _, .inr (Nat.le_refl _), hge, grownCap_le_maxLen _ _ _ _ hl, by simp; omega, by simp⟩⟩
  refine T_ran hcl hg hd hn (fun a ha => ?_) h1 h2
  have e1 := ha.ev hx
  unfold execOp; rw [ho]; simp only [e1, str]
  simp [hr]

/-- 'string(b)' of what stands still. -/
theorem T_convG {o : Oper} {d : Nat} {s t e : TypeId} {x : Operand} {v : Value} {l : List UInt8} {m : Nat} (S : St W H G its w) (r : Rd G v m 1 (l.map bV)) (ho : o.op = .convert s t x) (hx : ρ.ev x = some v) (hs : P.underlying s = some (.slice e)) (he : P.underlying e = some (.int .u8)) (ht : P.underlying t = some .string) (hcl : N.cl o = .read) (hg : o.guard = none) (hd : o.dst = some d) (hn : Nat.ble (d + 1) n = true)
    (k : T P N n ops K rest ((d, str l) :: ρ) w) : T P N n ops K (o :: rest) ρ w := by
  have hm : m = l.length := by have := r.1; simp at this; omega
  subst hm
  exact T_conv ho hx hs he ht hcl hg hd hn (r.mono S.le) k
theorem T_convGP {o : Oper} {d : Nat} {s t e : TypeId} {x : Operand} {v : Value} {l : List UInt8} {m : Nat} (hC : ∀ u, N.C u → G.le (hw u)) (r : Rd G v m 1 (l.map bV)) (ho : o.op = .convert s t x) (hx : ρ.ev x = some v) (hs : P.underlying s = some (.slice e)) (he : P.underlying e = some (.int .u8)) (ht : P.underlying t = some .string) (hcl : N.cl o = .pure) (hg : o.guard = none) (hd : o.dst = some d) (hn : Nat.ble (d + 1) n = true)
    (k : T P N n ops K rest ((d, str l) :: ρ) w) : T P N n ops K (o :: rest) ρ w := by
  have hm : m = l.length := by have := r.1; simp at this; omega
  subst hm
  exact T_convP ho hx hs he ht hcl hg hd hn (fun u hu => r.mono (hC u hu)) k

/-- 'len(s)' of a string. -/
theorem T_lenStr {o : Oper} {d : Nat} {x : Operand} {t : TypeId} {l : List UInt8} (ho : o.op = .call ⟨.builtin .len, #[x], #[t]⟩) (hx : ρ.ev x = some (str l)) (ht : P.underlying t = some .string) (hg : o.guard = none) (hd : o.dst = some d) (hn : Nat.ble (d + 1) n = true)
    (k : T P N n ops K rest ((d, .int .i64 (l.length : Int)) :: ρ) w) : T P N n ops K (o :: rest) ρ w := by
  refine T_pev (v := .int .i64 (l.length : Int)) ?_ hg hd hn k
  rw [ho]
  simp [pev, hx, ht, str, ByteArray.size]
/-- A byte as an int. -/
theorem T_b2i {o : Oper} {d : Nat} {s t : TypeId} {x : Operand} {k0 : IntKind} {b : UInt8} (ho : o.op = .convert s t x) (hs : P.underlying s = some (.int k0)) (ht : P.underlying t = some (.int .i64)) (hx : ρ.ev x = some (bV b)) (hg : o.guard = none) (hd : o.dst = some d) (hn : Nat.ble (d + 1) n = true)
    (k : T P N n ops K rest ((d, .int .i64 (b.toNat : Int)) :: ρ) w) : T P N n ops K (o :: rest) ρ w := by
  refine T_pev (v := .int .i64 (b.toNat : Int)) ?_ hg hd hn k
  rw [ho]
  have := b.toNat_lt
  simp only [pev, hs, ht, hx]
  rw [wrap64_id (by omega) (by omega)]
/-- A number as a byte. -/
theorem T_i2b {o : Oper} {d : Nat} {s t : TypeId} {x : Operand} {k0 k1 : IntKind} {z : Int} (m : Nat) (hm : z = (m : Int)) (ho : o.op = .convert s t x) (hs : P.underlying s = some (.int k0)) (ht : P.underlying t = some (.int .u8)) (hx : ρ.ev x = some (.int k1 z)) (hg : o.guard = none) (hd : o.dst = some d) (hn : Nat.ble (d + 1) n = true)
    (k : T P N n ops K rest ((d, bV (UInt8.ofNat m)) :: ρ) w) : T P N n ops K (o :: rest) ρ w := by
  refine T_pev (v := bV (UInt8.ofNat m)) ?_ hg hd hn k
  rw [ho]
  simp only [pev, hs, ht, hx, hm, b_wrap]
end
end Go.F
