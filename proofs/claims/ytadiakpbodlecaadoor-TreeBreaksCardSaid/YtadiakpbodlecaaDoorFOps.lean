/- General lemmas for walking the code, or plain mathematics. -/
import Derived.Test.YtadiakpbodlecaaDoorFMem
set_option linter.unusedVariables false
set_option linter.unusedSimpArgs false
set_option maxRecDepth 8192
namespace Go.F
open Go Go.RowKit

section
variable {P : Program} {N : Plan} {n : Nat} {ops : Array Oper} {K : Env → World → Prop} {rest : List Oper} {ρ : Env} {w : World}

def scalar (P : Program) (t : TypeId) : Bool := match P.underlying t with | some (.struct _) | some (.array _ _) => false | some _ => true | none => false
def isAggB (P : Program) (t : TypeId) : Bool := match P.underlying t with | some (.struct _) | some (.array _ _) => true | _ => false

theorem run_isAgg_no {t : TypeId} (h : scalar P t = true) (u : World) : (isAgg t).run P u = .ok false u := by
  unfold scalar at h
  unfold isAgg
  cases hu : P.underlying t with
  | none => simp [hu] at h
  | some d => simp only [Sem.run_bind, run_underlying hu, Result.andThen_ok]; cases d <;> simp_all
theorem run_isAgg_yes {t : TypeId} (h : isAggB P t = true) (u : World) : (isAgg t).run P u = .ok true u := by
  unfold isAggB at h
  unfold isAgg
  cases hu : P.underlying t with
  | none => simp [hu] at h
  | some d => simp only [Sem.run_bind, run_underlying hu, Result.andThen_ok]; cases d <;> simp_all

theorem run_loadVar1 {t : TypeId} (h : scalar P t = true) {u : World} {a : Addr} {v : Value} (hc : u.cell? a = some v) : (loadVar t a).run P u = .ok v u := by
  unfold loadVar
  simp [run_isAgg_no h, hc]
theorem run_loadVarA {t : TypeId} (h : isAggB P t = true) {i : TypeInfo} (hi : P.info? t = some i) {u : World} {b off : Nat} {cs : Array Value} (hl : cs.size = i.size) (hc : ∀ j v, cs[j]? = some v → u.cell? ⟨b, off + j, none⟩ = some v) :
    (loadVar t ⟨b, off, none⟩).run P u = .ok (.agg cs) u := by
  unfold loadVar
  have h1 := run_loadCells_list (P := P) u ⟨b, off, none⟩ cs.toList (fun j v hj => by rw [Addr.add_lit]; exact hc j v (by simpa using hj))
  have hl' : cs.toList.length = i.size := by simpa using hl
  rw [hl'] at h1
  simp [run_isAgg_yes h, sizeOf, typeInfo, hi, h1]

theorem xo_read {o : Oper} {a : Act} {v : Value} {L : Act → World → Prop} (hg : Region.wanted o (yielded ops a.tmps) = true) (hc : N.C w) (hcl : N.cl o ≠ .pure)
    (h : (execOp a.eval o).run P w = .ok (.value v) w) (k : L (a.put o.dst v) w) : xo P N ops o L a w := by
  unfold xo
  rw [if_pos hg]
  cases hcc : N.cl o with
  | pure => exact absurd hcc hcl
  | read => exact ⟨v, .inl h, k⟩
  | loud => exact wp_of_quiet (.inl h) ⟨hc, k⟩

/-- A value read out of memory. -/
theorem T_load {o : Oper} {d : Nat} {t : TypeId} {x : Operand} {ad : Addr} {v : Value} (ho : o.op = .load t x) (hx : ρ.ev x = some (.pointer (some ad))) (hs : scalar P t = true) (hcl : N.cl o = .read) (hg : o.guard = none) (hd : o.dst = some d) (hn : Nat.ble (d + 1) n = true)
    (hv : w.cell? ad = some v) (k : T P N n ops K rest ((d, v) :: ρ) w) : T P N n ops K (o :: rest) ρ w :=
  fun a ha hc => xo_read (v := v) (wanted_none hg _) hc (by rw [hcl]; simp) (by
    have h1 := ha.ev hx
    unfold execOp; rw [ho]; simp only [h1]
    simp [Instr.loadAt, Instr.sureAddr, run_loadVar1 hs hv]) ⟨(d, v) :: ρ, by rw [hd]; exact ha.put hn v, k⟩
theorem T_loadA {o : Oper} {d : Nat} {t : TypeId} {i : TypeInfo} {x : Operand} {b off : Nat} (cs : Array Value) (ho : o.op = .load t x) (hx : ρ.ev x = some (.pointer (some ⟨b, off, none⟩))) (hs : isAggB P t = true) (hi : P.info? t = some i) (hcl : N.cl o = .read) (hg : o.guard = none) (hd : o.dst = some d) (hn : Nat.ble (d + 1) n = true)
    (hl : cs.size = i.size) (hv : ∀ j v, cs[j]? = some v → w.cell? ⟨b, off + j, none⟩ = some v) (k : T P N n ops K rest ((d, .agg cs) :: ρ) w) : T P N n ops K (o :: rest) ρ w :=
  fun a ha hc => xo_read (v := .agg cs) (wanted_none hg _) hc (by rw [hcl]; simp) (by
    have h1 := ha.ev hx
    unfold execOp; rw [ho]; simp only [h1]
    simp [Instr.loadAt, Instr.sureAddr, run_loadVarA hs hi hl hv]) ⟨(d, .agg cs) :: ρ, by rw [hd]; exact ha.put hn _, k⟩

/-- A loud operation. -/
theorem T_loud {o : Oper} (hg : o.guard = none) (hcl : N.cl o = .loud) (h : ∀ a, Agree n ρ a → N.C w → o.wp P a w (fun a' w' => N.C w' ∧ lift n (T P N n ops K rest) a' w') (fun _ _ _ => False)) : T P N n ops K (o :: rest) ρ w := by
  intro a ha hc
  unfold xo
  rw [if_pos (wanted_none hg _), hcl]
  exact h a ha hc

/-- A store into a row that is the call's own. -/
theorem T_store {o : Oper} {t t0 : TypeId} {i : TypeInfo} {x y : Operand} {b off : Nat} {c : Array Value} {v : Value} (hC : ∀ w, N.C w) (ho : o.op = .store t x y) (hx : ρ.ev x = some (.pointer (some ⟨b, off, none⟩))) (hy : ρ.ev y = some v)
    (hi : P.info? t = some i) (hcl : N.cl o = .loud) (hg : o.guard = none) (hd : o.dst = none)
    (hb : w.heap[b]? = some (.cells c t0 (0, 0))) (hl : v.cells.size = i.size) (hfit : off + v.cells.size ≤ c.size) (h1 : ∀ u ∈ v.cells.toList, u.oneCell' = true)
    (k : ∀ w', w'.heap[b]? = some (.cells (c.toList.take off ++ v.cells.toList ++ c.toList.drop (off + v.cells.size)).toArray t0 (0, 0)) → w.grownBy w' (some b) → w'.heap.size = w.heap.size → T P N n ops K rest ρ w') : T P N n ops K (o :: rest) ρ w := by
  refine T_loud hg hcl fun a ha hc => ?_
  have e1 := ha.ev hx
  have e2 := ha.ev hy
  have hst := run_storeCells_at P b off t0 v.cells.toList 0 c w hb (by simpa using hfit) h1
  have hrun : (execOp a.eval o).run P w = .ok .skip (w.setRow b (c.toList.take off ++ v.cells.toList ++ c.toList.drop (off + v.cells.size)).toArray) := by
    unfold execOp; rw [ho]; simp only [e1, e2]
    simp only [Nat.add_zero, Array.length_toList] at hst
    have hst' : (storeCells ⟨b, off, none⟩ v.cells.toList).run P w = _ := hst
    simp [Instr.storeAt, Instr.sureAddr, storeVar, sizeOf, typeInfo, hi, hl, hst']
  unfold Oper.wp
  rw [hrun]
  refine ⟨hC _, ρ, by rw [hd]; exact ha, k _ (setRow_heap w b c _ t0 _ hb) ⟨rfl, rfl, rfl, by simp, fun g _ hk => setRow_other w b g _ (fun e => hk (by simp [e]))⟩ (by simp)⟩

theorem heap_alloc_size (w : World) (o : Obj) : (w.alloc o).heap[w.heap.size]? = some o := heap_alloc_new w o

/-- A new variable. -/
theorem T_alloc {o : Oper} {d : Nat} {t : TypeId} {i : TypeInfo} {z : Value} (hC : ∀ w, N.C w) (ho : o.op = .alloc t) (hi : P.info? t = some i) (hz : i.zero = some z) (hcl : N.cl o = .loud) (hg : o.guard = none) (hd : o.dst = some d) (hn : Nat.ble (d + 1) n = true)
    (k : ∀ b w', b = w.heap.size → w'.heap[b]? = some (.cells z.cells t (0, 0)) → w.grownBy w' none → T P N n ops K rest ((d, .pointer (some ⟨b, 0, none⟩)) :: ρ) w') : T P N n ops K (o :: rest) ρ w := by
  refine T_loud hg hcl fun a ha hc => ?_
  have hrun : (execOp a.eval o).run P w = .ok (.value (.pointer (some ⟨w.heap.size, 0, none⟩))) (w.alloc (.cells z.cells t (0, 0))) := by
    unfold execOp; rw [ho]; simp [Instr.alloc, zeroValue, typeInfo, hi, hz, newVar, newRow]
  unfold Oper.wp
  rw [hrun]
  exact ⟨hC _, _, by rw [hd]; exact ha.put hn _, k w.heap.size _ rfl (heap_alloc_new w _) (World.grownBy_alloc w _ none)⟩
theorem T_box {o : Oper} {d : Nat} {t : TypeId} {x : Operand} {v : Value} (hC : ∀ w, N.C w) (ho : o.op = .box t x) (hx : ρ.ev x = some v) (hcl : N.cl o = .loud) (hg : o.guard = none) (hd : o.dst = some d) (hn : Nat.ble (d + 1) n = true)
    (k : ∀ b w', b = w.heap.size → w'.heap[b]? = some (.cells v.cells t (0, 0)) → w.grownBy w' none → T P N n ops K rest ((d, .pointer (some ⟨b, 0, none⟩)) :: ρ) w') : T P N n ops K (o :: rest) ρ w := by
  refine T_loud hg hcl fun a ha hc => ?_
  have e1 := ha.ev hx
  have hrun : (execOp a.eval o).run P w = .ok (.value (.pointer (some ⟨w.heap.size, 0, none⟩))) (w.alloc (.cells v.cells t (0, 0))) := by
    unfold execOp; rw [ho]; simp [Instr.box, e1, newVar, newRow]
  unfold Oper.wp
  rw [hrun]
  exact ⟨hC _, _, by rw [hd]; exact ha.put hn _, k w.heap.size _ rfl (heap_alloc_new w _) (World.grownBy_alloc w _ none)⟩

/-! ### Calls -/

def goFn (P : Program) (f : FuncId) : Bool := match P.funcs[f]? with | some fn => fn.body.isSome && !(fn.name == "runtime.NumGoroutine") | none => false

theorem run_goFn {f : FuncId} (h : goFn P f = true) (args : Array Value) (u : World) : (callFunc f args).run P u = .ok (.enter f args) u := by
  unfold goFn at h
  cases hf : P.funcs[f]? with
  | none => simp [hf] at h
  | some fn =>
    simp only [hf, Bool.and_eq_true, Bool.not_eq_true'] at h
    have hb : fn.body.isNone = false := by cases hb : fn.body <;> simp_all
    have hp : (program).run P u = .ok P u := rfl
    unfold callFunc
    simp only [Sem.run_bind, hp, Result.andThen_ok, hf, h.2, hb]
    rfl

def evs (ρ : Env) : List Operand → Option (List Value)
  | [] => some []
  | x :: xs => match ρ.ev x, evs ρ xs with
    | some v, some vs => some (v :: vs)
    | _, _ => none

theorem Agree.evs {a : Act} (ha : Agree n ρ a) : ∀ (xs : List Operand) (vs : List Value), evs ρ xs = some vs → xs.map a.eval = vs
  | [], vs, h => by cases h; rfl
  | x :: xs, vs, h => by
    unfold F.evs at h
    split at h
    · rename_i v vs' h1 h2
      cases h
      rw [List.map_cons, ha.ev h1, Agree.evs ha xs vs' h2]
    · cases h

theorem run_call {o : Oper} {a : Act} {f : FuncId} {xs : List Operand} {ts : Array TypeId} {args : List Value} (ho : o.op = .call ⟨.value (.func f), xs.toArray, ts⟩) (ha : Agree n ρ a) (hxs : evs ρ xs = some args) (hf : goFn P f = true) (u : World) :
    (execOp a.eval o).run P u = .ok (.enter f args.toArray) u := by
  have h1 := ha.evs xs args hxs
  unfold execOp; rw [ho]
  have h2 : (xs.toArray.map a.eval) = args.toArray := by rw [← h1]; simp
  simp only [resolve, h2, Sem.run_bind]
  have h3 : (Deferred.ofValue (a.eval (.func f)) args.toArray).run P u = .ok { target := .fn (.func f) #[], args := args.toArray } u := by simp [Act.eval, Deferred.ofValue]
  rw [h3]
  simp only [Result.andThen_ok, invoke, Array.append_empty]
  exact run_goFn hf _ u

theorem T_call {o : Oper} {d : Nat} {f : FuncId} {xs : List Operand} {ts : Array TypeId} {args : List Value} (hC : ∀ w, N.C w) (ho : o.op = .call ⟨.value (.func f), xs.toArray, ts⟩) (hxs : evs ρ xs = some args) (hf : goFn P f = true) (hcl : N.cl o = .loud) (hg : o.guard = none) (hd : o.dst = some d) (hn : Nat.ble (d + 1) n = true)
    (c : Calls P f args.toArray w (fun e w' => ∃ v, e = .returned v ∧ T P N n ops K rest ((d, v) :: ρ) w')) : T P N n ops K (o :: rest) ρ w := by
  refine T_loud hg hcl fun a ha hc => ?_
  unfold Oper.wp
  rw [run_call ho ha hxs hf w]
  refine c.mono fun e w' ⟨v, he, h⟩ => ?_
  subst he
  exact ⟨hC _, _, by rw [hd]; exact ha.put hn v, h⟩
/-- A call whose result nobody takes. -/
theorem T_call0 {o : Oper} {f : FuncId} {xs : List Operand} {ts : Array TypeId} {args : List Value} (hC : ∀ w, N.C w) (ho : o.op = .call ⟨.value (.func f), xs.toArray, ts⟩) (hxs : evs ρ xs = some args) (hf : goFn P f = true) (hcl : N.cl o = .loud) (hg : o.guard = none) (hd : o.dst = none)
    (c : Calls P f args.toArray w (fun e w' => ∃ v, e = .returned v ∧ T P N n ops K rest ρ w')) : T P N n ops K (o :: rest) ρ w := by
  refine T_loud hg hcl fun a ha hc => ?_
  unfold Oper.wp
  rw [run_call ho ha hxs hf w]
  refine c.mono fun e w' ⟨v, he, h⟩ => ?_
  subst he
  exact ⟨hC _, _, by rw [hd]; exact ha, h⟩

/-! ### append -/

/-- 'append(s, t...)', s the call's own (or nil). -/
theorem T_append {o : Oper} {d : Nat} {t e : TypeId} {i : TypeInfo} {z : Value} {x y : Operand} {v vs : Value} {base size n0 m : Nat} {xs news : List Value} (hC : ∀ w, N.C w)
    (ho : o.op = .call ⟨.builtin .append, #[x, y], #[t, t]⟩) (hx : ρ.ev x = some v) (hy : ρ.ev y = some vs) (ht : P.underlying t = some (.slice e)) (hi : P.info? e = some i) (hz : i.zero = some z) (hcl : N.cl o = .loud) (hg : o.guard = none) (hd : o.dst = some d) (hn : Nat.ble (d + 1) n = true)
    (hsize : i.size = size) (hzs : z.cells.size = size) (hsz : 0 < size) (hown : w.ownsRow base e size v n0 xs) (hsrc : Rd (hw w) vs m size news) (h1 : ∀ u ∈ news, u.oneCell' = true)
    (h63 : n0 + m ≤ maxLen) (hbytes : (n0 + m) * i.bytes ≤ 140737488355328) (hbase : base ≤ w.heap.size)
    (k : ∀ v' w', w'.ownsRow base e size v' (n0 + m) (xs ++ news) → w.grownBy w' v.ownBlock → T P N n ops K rest ((d, v') :: ρ) w') : T P N n ops K (o :: rest) ρ w := by
  refine T_loud hg hcl fun a ha hc => ?_
  have e1 := ha.ev hx
  have e2 := ha.ev hy
  obtain ⟨hlen, aa, c, hvs, hcc, hnone, hsome⟩ := hsrc
  have key : ∃ v' w', (Builtin.append_ #[t, t] o.type #[v, vs]).run P w = .ok v' w' ∧ w'.ownsRow base e size v' (n0 + m) (xs ++ news) ∧ w.grownBy w' v.ownBlock := by
    cases aa with
    | none =>
      obtain ⟨rfl, rfl⟩ := hnone rfl
      have : news = [] := List.eq_nil_of_length_eq_zero (by simpa using hlen)
      subst this
      rw [hvs]
      refine ⟨v, w, run_append_owned_none (P := P) w base t o.type e i size ht hi _ n0 xs hown, by simpa using hown, ?_⟩
      exact ⟨rfl, rfl, rfl, Nat.le_refl _, fun _ _ _ => rfl⟩
    | some ad =>
      rw [hvs]
      obtain ⟨v', w', hr, h2, h3, _⟩ := run_append_own (P := P) w base t o.type e i z size i.bytes ht hi hz hsize rfl hzs hsz v n0 xs hown ad m c news hlen
        (fun j u hj => by
          have hm : 0 < m := by
            have := (List.getElem?_eq_some_iff.1 hj).1
            rcases Nat.eq_zero_or_pos m with e | e
            · rw [e] at hlen; omega
            · exact e
          obtain ⟨hspot, hcell⟩ := hsome ad rfl hm
          obtain ⟨b, off, s⟩ := ad
          simp only at hspot; subst hspot
          rw [Addr.add_lit]; exact cell_of_hcell (hcell j u hj)) h1 h63 hbytes hbase
      exact ⟨v', w', hr, h2, h3⟩
  obtain ⟨v', w', hr, h2, h3⟩ := key
  have hrun : (execOp a.eval o).run P w = .ok (.value v') w' := by
    unfold execOp; rw [ho]
    simp only [resolve, Sem.run_bind, Sem.run_pure, Result.andThen_ok, invoke, builtin]
    simp [e1, e2, hr]
  unfold Oper.wp
  rw [hrun]
  exact ⟨hC _, _, by rw [hd]; exact ha.put hn v', k v' w' h2 h3⟩

end
end Go.F
