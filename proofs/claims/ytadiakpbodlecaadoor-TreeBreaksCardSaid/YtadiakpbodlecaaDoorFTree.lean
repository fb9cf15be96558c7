/- A drawn region whose operations do not all commute: the orders as a tree. -/
import Derived.Test.YtadiakpbodlecaaDoorFRun
set_option linter.unusedVariables false
set_option linter.unusedSimpArgs false
set_option maxRecDepth 8192
namespace Go.F
open Go Go.RowKit

inductive Tree where
  | done
  | step (i : Nat) (t : Tree)
  | fork (i j : Nat) (t u : Tree)

def Tree.depth : Tree → Nat
  | .done => 0
  | .step _ t => t.depth + 1
  | .fork _ _ t u => max t.depth u.depth + 1

section
variable {P : Program} {N : Plan} {n : Nat} {ops : Array Oper} {ρ : Env} {w : World}

def freeB (N : Plan) (ops : Array Oper) (b : Array Nat) (i : Nat) (listed : Array Bool) : Bool :=
  (List.range ops.size).all fun j => Nat.beq j i || listed.getD j true || (b.getD j 0).testBit i || match ops[i]?, ops[j]? with
    | some oi, some oj => oi.apart ops oj && compat N oi oj
    | _, _ => true
def treeB (N : Plan) (ops : Array Oper) (b : Array Nat) : Tree → Array Bool → Bool
  | .done, listed => (Region.ready .any ops listed).isEmpty
  | .step i t, listed => (Region.ready .any ops listed).contains i && freeB N ops b i listed && treeB N ops b t (listed.setIfInBounds i true)
  | .fork i j t u, listed => (Region.ready .any ops listed).contains i && ((Region.ready .any ops listed).all fun k => Nat.beq k i || Nat.beq k j) && treeB N ops b t (listed.setIfInBounds i true) && treeB N ops b u (listed.setIfInBounds j true)
def treeB0 (N : Plan) (ops : Array Oper) (t : Tree) : Bool :=
  Region.noSelect ops && ancB ops (Region.before ops) && Nat.ble t.depth ops.size && treeB N ops (Region.before ops) t (Array.replicate ops.size false)

def TX (P : Program) (N : Plan) (ops : Array Oper) (K : Act → World → Prop) : Tree → Act → World → Prop
  | .done => K
  | .step i t => fun a w => ∃ o, ops[i]? = some o ∧ xo P N ops o (TX P N ops K t) a w
  | .fork i j t u => fun a w => (∃ o, ops[i]? = some o ∧ xo P N ops o (TX P N ops K t) a w) ∧ ∃ o, ops[j]? = some o ∧ xo P N ops o (TX P N ops K u) a w

theorem free_spec {b : Array Nat} {i : Nat} {listed : Array Bool} {oi : Oper} (hi : ops[i]? = some oi) (h : freeB N ops b i listed = true) :
    ∀ j oj, ops[j]? = some oj → j ≠ i → listed.getD j true = false → (b.getD j 0).testBit i = true ∨ (oi.apart ops oj = true ∧ compat N oi oj = true) := by
  intro j oj hj hji hun
  have h1 := List.all_eq_true.1 h j (List.mem_range.2 (Array.getElem?_eq_some_iff.1 hj).1)
  simp only [hi, hj, hun, Bool.or_eq_true, Bool.and_eq_true, Bool.false_eq_true, or_false] at h1
  rcases h1 with (h1 | h1) | h1
  · exact absurd (Nat.eq_of_beq_eq_true h1) hji
  · exact .inl h1
  · exact .inr h1

theorem XA_tree {K : Act → World → Prop} (hs : Region.noSelect ops = true) (hb : ancB ops (Region.before ops) = true) : ∀ (t : Tree) (f : Nat) (listed : Array Bool) (a : Act) (w : World), t.depth ≤ f → treeB N ops (Region.before ops) t listed = true → N.C w → Closed ops listed → TX P N ops K t a w → XA P N ops K f listed a w
  | .done, f, listed, a, w, _, hB, _, _, h => by
    have h0 : Region.ready .any ops listed = [] := by simpa [treeB] using hB
    cases f with
    | zero => exact ⟨h0, h⟩
    | succ f => exact ⟨fun _ => h, fun i hi => by rw [h0] at hi; cases hi⟩
  | .step i t, 0, listed, a, w, hd, _, _, _, _ => by simp [Tree.depth] at hd
  | .step i t, f + 1, listed, a, w, hd, hB, hC, hc, h => by
    simp only [treeB, Bool.and_eq_true] at hB
    obtain ⟨⟨h1, h2⟩, h3⟩ := hB
    obtain ⟨o, ho, hx⟩ := h
    have hr : i ∈ Region.ready .any ops listed := by simpa using h1
    refine XA_first hb (Region.noSelect_spec hs) ho f listed a w hC hc hr (free_spec ho h2) ?_
    exact xo_mono hC (fun a' w' hC' h' => XA_tree hs hb t f _ a' w' (by simp only [Tree.depth] at hd; omega) h3 hC' (hc.set hr) h') hx
  | .fork i j t u, 0, listed, a, w, hd, _, _, _, _ => by simp [Tree.depth] at hd
  | .fork i j t u, f + 1, listed, a, w, hd, hB, hC, hc, h => by
    simp only [treeB, Bool.and_eq_true] at hB
    obtain ⟨⟨⟨h1, h2⟩, h3⟩, h4⟩ := hB
    have hr : i ∈ Region.ready .any ops listed := by simpa using h1
    refine ⟨fun e => (by rw [e] at hr; cases hr), fun k hk => ?_⟩
    have h5 := List.all_eq_true.1 h2 k hk
    simp only [Bool.or_eq_true] at h5
    simp only [Tree.depth] at hd
    rcases h5 with h5 | h5
    · have e := Nat.eq_of_beq_eq_true h5
      subst e
      obtain ⟨o, ho, hx⟩ := h.1
      exact ⟨o, ho, xo_mono hC (fun a' w' hC' h' => XA_tree hs hb t f _ a' w' (by omega) h3 hC' (hc.set hk) h') hx⟩
    · have e := Nat.eq_of_beq_eq_true h5
      subst e
      obtain ⟨o, ho, hx⟩ := h.2
      exact ⟨o, ho, xo_mono hC (fun a' w' hC' h' => XA_tree hs hb u f _ a' w' (by omega) h4 hC' (hc.set hk) h') hx⟩

/-- The same over what is known of the slots. -/
def TT (P : Program) (N : Plan) (n : Nat) (ops : Array Oper) (K : Env → World → Prop) : Tree → Env → World → Prop
  | .done => K
  | .step i t => fun ρ w => ∃ o, ops[i]? = some o ∧ T P N n ops (TT P N n ops K t) [o] ρ w
  | .fork i j t u => fun ρ w => (∃ o, ops[i]? = some o ∧ T P N n ops (TT P N n ops K t) [o] ρ w) ∧ ∃ o, ops[j]? = some o ∧ T P N n ops (TT P N n ops K u) [o] ρ w

variable {K : Env → World → Prop}
theorem TT_done (h : K ρ w) : TT P N n ops K .done ρ w := h
theorem TT_step {i : Nat} {t : Tree} {o : Oper} (ho : ops[i]? = some o) (h : T P N n ops (TT P N n ops K t) [o] ρ w) : TT P N n ops K (.step i t) ρ w := ⟨o, ho, h⟩
theorem TT_fork {i j : Nat} {t u : Tree} {o o' : Oper} (ho : ops[i]? = some o) (ho' : ops[j]? = some o') (h : T P N n ops (TT P N n ops K t) [o] ρ w) (h' : T P N n ops (TT P N n ops K u) [o'] ρ w) : TT P N n ops K (.fork i j t u) ρ w := ⟨⟨o, ho, h⟩, o', ho', h'⟩

theorem TX_of_TT : ∀ (t : Tree) (ρ : Env) (a : Act) (w : World), Agree n ρ a → N.C w → TT P N n ops K t ρ w → TX P N ops (lift n K) t a w
  | .done, ρ, _, _, ha, _, h => ⟨ρ, ha, h⟩
  | .step _ t, _, a, w, ha, hC, ⟨o, ho, h⟩ => ⟨o, ho, xo_mono hC (fun a' w' hC' ⟨ρ', ha', h'⟩ => TX_of_TT t ρ' a' w' ha' hC' h') (h a ha hC)⟩
  | .fork _ _ t u, _, a, w, ha, hC, ⟨⟨o, ho, h⟩, o', ho', h'⟩ =>
    ⟨⟨o, ho, xo_mono hC (fun a' w' hC' ⟨ρ', ha', h'⟩ => TX_of_TT t ρ' a' w' ha' hC' h') (h a ha hC)⟩, o', ho', xo_mono hC (fun a' w' hC' ⟨ρ', ha', h'⟩ => TX_of_TT u ρ' a' w' ha' hC' h') (h' a ha hC)⟩

/-- A region that draws its order, by the tree of its orders. -/
theorem W_tree {id : Nat} {l : List Oper} {Q : Exit → Env → World → Prop} (N : Plan) (t : Tree) (hm : P.follows .mixedOrders = true) (hB : treeB0 N l.toArray t = true) (hc : N.C w.drew) (h : TT P N n l.toArray (fun ρ w => Q .normal ρ w) t ρ w.drew) : F.W P n (.region id l.toArray true) Q ρ w := fun a ha => by
  unfold treeB0 at hB
  simp only [Bool.and_eq_true] at hB
  obtain ⟨⟨⟨h1, h2⟩, h3⟩, h4⟩ := hB
  refine wp_region_any hm ?_
  refine wpAny_of_XA (N := N) (K := fun a w => liftQ n Q .normal a w) (fun _ _ _ h => h) _ _ _ _ hc ?_
  exact XA_tree h1 h2 t _ _ a w.drew (Nat.le_of_ble_eq_true h3) h4 hc closed_start (TX_of_TT t ρ a w.drew ha hc h)
end
end Go.F
