/- Bytes as strings; calls under a plan that holds memory. -/
import Derived.Test.YtadiakpbodlecaaDoorFKeep
import Derived.Laws.BytesString
import Derived.Laws.IdiomStrings
import Derived.Laws.Strings
import Derived.Laws.Small
set_option linter.unusedVariables false
set_option linter.unusedSimpArgs false
set_option maxRecDepth 8192
namespace Go.F
open Go Go.RowKit
section
variable {P : Program} {N : Plan} {n : Nat} {ops : Array Oper} {K : Env → World → Prop} {rest : List Oper} {ρ : Env} {w : World}

def str (l : List UInt8) : Value := .string ⟨l.toArray⟩

theorem run_conv_rd {s t e : TypeId} (hs : P.underlying s = some (.slice e)) (he : P.underlying e = some (.int .u8)) (ht : P.underlying t = some .string) {v : Value} {l : List UInt8} {u : World} (r : Rd (hw u) v l.length 1 (l.map bV)) :
    (convert s t v).run P u = .ok (str l) u := by
  have key : (Conv.bytesToString v).run P u = .ok (str l) u := by
    obtain ⟨_, a, c, rfl, _, hnone, hsome⟩ := r
    cases a with
    | none =>
      obtain ⟨h0, rfl⟩ := hnone rfl
      have hl : l = [] := List.eq_nil_of_length_eq_zero h0
      subst hl
      rfl
    | some ad =>
      have hload : (loadCells ad l.length).run P u = .ok ((l.map fun b => (b.toNat : Int)).map (Value.int .u8)).toArray u := by
        have := run_loadCells_list (P := P) u ad (l.map bV) (fun j v hj => by
          have hp : 0 < l.length := by
            have h := (List.getElem?_eq_some_iff.1 hj).1
            rw [List.length_map] at h
            omega
          obtain ⟨hspot, hcell⟩ := hsome ad rfl hp
          obtain ⟨b, off, sp⟩ := ad
          simp only at hspot; subst hspot
          rw [Addr.add_lit]
          exact cell_of_hcell (hcell j v hj))
        rw [List.length_map] at this
        rw [this, List.map_map]
        rfl
      rw [run_bytesToString u ad l.length c _ hload, foldl_push_byteCells]
      unfold str
      have e : ByteArray.empty.data ++ l.toArray = l.toArray := by
        show (#[] : Array UInt8) ++ l.toArray = l.toArray
        simp
      rw [e]
  unfold convert
  obtain ⟨_, a, c, rfl, _⟩ := r
  simp only [Sem.run_bind, run_underlying hs, run_underlying ht, run_underlying he, Result.andThen_ok]
  exact key

/-- 'string(b)'. -/
theorem T_conv {o : Oper} {d : Nat} {s t e : TypeId} {x : Operand} {v : Value} {l : List UInt8} (ho : o.op = .convert s t x) (hx : ρ.ev x = some v) (hs : P.underlying s = some (.slice e)) (he : P.underlying e = some (.int .u8)) (ht : P.underlying t = some .string) (hcl : N.cl o = .read) (hg : o.guard = none) (hd : o.dst = some d) (hn : Nat.ble (d + 1) n = true)
    (r : Rd (hw w) v l.length 1 (l.map bV)) (k : T P N n ops K rest ((d, str l) :: ρ) w) : T P N n ops K (o :: rest) ρ w :=
  fun a ha hc => xo_read (v := str l) (wanted_none hg _) hc (by rw [hcl]; simp) (by
    have h1 := ha.ev hx
    unfold execOp; rw [ho]; simp only [h1]
    simp [run_conv_rd hs he ht r]) ⟨(d, str l) :: ρ, by rw [hd]; exact ha.put hn _, k⟩
theorem T_convP {o : Oper} {d : Nat} {s t e : TypeId} {x : Operand} {v : Value} {l : List UInt8} (ho : o.op = .convert s t x) (hx : ρ.ev x = some v) (hs : P.underlying s = some (.slice e)) (he : P.underlying e = some (.int .u8)) (ht : P.underlying t = some .string) (hcl : N.cl o = .pure) (hg : o.guard = none) (hd : o.dst = some d) (hn : Nat.ble (d + 1) n = true)
    (r : ∀ u, N.C u → Rd (hw u) v l.length 1 (l.map bV)) (k : T P N n ops K rest ((d, str l) :: ρ) w) : T P N n ops K (o :: rest) ρ w := fun a ha _ => by
  unfold xo
  rw [if_pos (wanted_none hg _), hcl]
  refine ⟨str l, fun u hu => .inl ?_, (d, str l) :: ρ, by rw [hd]; exact ha.put hn _, k⟩
  have h1 := ha.ev hx
  unfold execOp; rw [ho]; simp only [h1]
  simp [run_conv_rd hs he ht (r u hu)]

theorem str_beq (l m : List UInt8) : ((⟨l.toArray⟩ : ByteArray).toList == (⟨m.toArray⟩ : ByteArray).toList) = decide (l = m) := by
  rw [ByteArray.toList_mk, ByteArray.toList_mk]
  by_cases h : l = m
  · simp [h]
  · simp [h]

/-- Strings compared. -/
theorem T_streq {o : Oper} {d : Nat} {t t' : TypeId} {x y : Operand} {l m : List UInt8} (ho : o.op = .binOp .eql t x y t') (hx : ρ.ev x = some (str l)) (hy : ρ.ev y = some (str m)) (hg : o.guard = none) (hd : o.dst = some d) (hn : Nat.ble (d + 1) n = true)
    (k : T P N n ops K rest ((d, .bool (decide (l = m))) :: ρ) w) : T P N n ops K (o :: rest) ρ w :=
  T_val hg hd hn (fun a ha u => by
    have e1 := ha.ev hx
    have e2 := ha.ev hy
    unfold execOp; rw [ho]; simp only [e1, e2, str]
    simp only [eqGuard, binOp, Op.stringOp, str_beq]
    simp) k
theorem T_strne {o : Oper} {d : Nat} {t t' : TypeId} {x y : Operand} {l m : List UInt8} (ho : o.op = .binOp .neq t x y t') (hx : ρ.ev x = some (str l)) (hy : ρ.ev y = some (str m)) (hg : o.guard = none) (hd : o.dst = some d) (hn : Nat.ble (d + 1) n = true)
    (k : T P N n ops K rest ((d, .bool (!decide (l = m))) :: ρ) w) : T P N n ops K (o :: rest) ρ w :=
  T_val hg hd hn (fun a ha u => by
    have e1 := ha.ev hx
    have e2 := ha.ev hy
    unfold execOp; rw [ho]; simp only [e1, e2, str]
    simp only [eqGuard, binOp, Op.stringOp, str_beq]
    simp) k

/-- Two Bools that are one. -/
theorem T_beqT {o : Oper} {d : Nat} {t t' : TypeId} {x y : Operand} {p : Bool} (ho : o.op = .binOp .eql t x y t') (hx : ρ.ev x = some (.bool p)) (hy : ρ.ev y = some (.bool p)) (ht : P.underlying t = some .bool) (hg : o.guard = none) (hd : o.dst = some d) (hn : Nat.ble (d + 1) n = true)
    (k : T P N n ops K rest ((d, .bool true) :: ρ) w) : T P N n ops K (o :: rest) ρ w :=
  T_val hg hd hn (fun a ha u => by
    have e1 := ha.ev hx
    have e2 := ha.ev hy
    have hq := run_equal_bool (P := P) u t p p ht
    unfold execOp; rw [ho]; simp only [e1, e2]
    simp [eqGuard, binOp, hq]) k

/-- A call under a plan that holds memory. -/
theorem T_callC {o : Oper} {d : Nat} {f : FuncId} {xs : List Operand} {ts : Array TypeId} {args : List Value} (ho : o.op = .call ⟨.value (.func f), xs.toArray, ts⟩) (hxs : evs ρ xs = some args) (hf : goFn P f = true) (hcl : N.cl o = .loud) (hg : o.guard = none) (hd : o.dst = some d) (hn : Nat.ble (d + 1) n = true)
    (c : N.C w → Calls P f args.toArray w (fun e w' => ∃ v, e = .returned v ∧ N.C w' ∧ T P N n ops K rest ((d, v) :: ρ) w')) : T P N n ops K (o :: rest) ρ w := by
  refine T_loud hg hcl fun a ha hc => ?_
  unfold Oper.wp
  rw [run_call ho ha hxs hf w]
  refine (c hc).mono fun e w' ⟨v, he, hc', h⟩ => ?_
  subst he
  exact ⟨hc', _, by rw [hd]; exact ha.put hn v, h⟩

end
end Go.F
