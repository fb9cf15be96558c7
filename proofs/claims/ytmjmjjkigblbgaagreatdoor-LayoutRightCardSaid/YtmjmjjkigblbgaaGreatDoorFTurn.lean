/- Rows of unlike lengths that are a call's own, behind other things; what a callee made is the caller's own. -/
import Derived.Test.YtmjmjjkigblbgaaGreatDoorFDoor
set_option linter.unusedVariables false
set_option linter.unusedSimpArgs false
set_option maxRecDepth 8192
namespace Go.F
open Go Go.RowKit
theorem Item.weaken {w : World} {B B' : Nat} (hb : B' ≤ B) : ∀ {it : Item}, it.ok w B → it.ok w B'
  | .blk _ _ _, ⟨h, h1⟩ => ⟨h, Nat.le_trans hb h1⟩
  | .row _ _ _ _ _, h => rowZ.mono h hb
section
variable {P : Program} {N : Plan} {n : Nat} {ops : Array Oper} {K : Env → World → Prop} {rest : List Oper} {ρ : Env} {w w' W : World} {H G : Hp} {its p : List Item} {uT : TypeId} {vs : List Value} {D : List (List UInt8)}
theorem St.join (S : St W H G its w) {G' : Hp} {l : List Item} (S' : St w G G' l w') : St W H G (its ++ l) w' := by
  have S1 := S.call S'.below
  have key : ∀ (i : Nat) (x : Item), (its ++ l)[i]? = some x → (i < its.length ∧ its[i]? = some x) ∨ (its.length ≤ i ∧ l[i - its.length]? = some x) := fun i x h => by
    rw [List.getElem?_append] at h
    split at h
    · exact .inl ⟨‹_›, h⟩
    · exact .inr ⟨by omega, h⟩
  have old : ∀ (i : Nat) (x : Item), its[i]? = some x → ∀ b, x.spot = some b → b < w.heap.size := fun i x h b hb => (Item.lt (S.ok i x h) b hb).2
  have new : ∀ (i : Nat) (x : Item), l[i]? = some x → ∀ b, x.spot = some b → w.heap.size ≤ b := fun i x h b hb => (Item.lt (S'.ok i x h) b hb).1
  refine ⟨S1.below, S1.le, S1.sup, S1.old, fun i x h => ?_, fun i x h b hb => ?_, fun i j x y hi hj hij b hx hy => ?_⟩
  · rcases key i x h with ⟨_, h1⟩ | ⟨_, h1⟩
    · exact S1.ok i x h1
    · exact Item.weaken S.below.size (S'.ok _ x h1)
  · rcases key i x h with ⟨_, h1⟩ | ⟨_, h1⟩
    · exact S1.free i x h1 b hb
    · exact S.none_of (new _ x h1 b hb)
  · rcases key i x hi with ⟨a1, h1⟩ | ⟨a1, h1⟩ <;> rcases key j y hj with ⟨a2, h2⟩ | ⟨a2, h2⟩
    · exact S1.apart i j x y h1 h2 hij b hx hy
    · have := old i x h1 b hx
      have := new _ y h2 b hy
      omega
    · have := new _ x h1 b hx
      have := old j y h2 b hy
      omega
    · exact S'.apart _ _ x y h1 h2 (by omega) b hx hy
theorem rag_perm (p m its : List Item) : (p ++ (m ++ its)).Perm (m ++ (p ++ its)) := by
  rw [← List.append_assoc, ← List.append_assoc]; exact (List.perm_append_comm (l₁ := p) (l₂ := m)).append_right its
theorem St.ragCell {r : Nat} (S : St W H G (p ++ (mrows uT vs D ++ its)) w) (hv : vs.length = D.length) (hr : r < D.length) (h0 : 0 < (D.getD r []).length) :
    ∃ g c, vs[r]? = some (.slice (some ⟨g, 0, none⟩) (D.getD r []).length c) ∧ (D.getD r []).length ≤ c ∧ D[r]? = some (D.getD r []) := by
  have S1 := S.perm (rag_perm p (mrows uT vs D) its)
  have hl : D[r]? = some (D.getD r []) := by rw [List.getD_eq_getElem?_getD, List.getElem?_eq_getElem hr]; rfl
  have hv0 : vs[r]? = some vs[r] := List.getElem?_eq_getElem (by omega)
  obtain ⟨g, c, hx, hc⟩ := S1.matRow hv0 hl h0
  rw [hx] at hv0
  exact ⟨g, c, hv0, hc, hl⟩
theorem rag_at {r : Nat} {v : Value} {l : List UInt8} (hv : vs[r]? = some v) (hl : D[r]? = some l) : (p ++ (mrows uT vs D ++ its))[p.length + r]? = some (mrow uT v l) := by
  rw [List.getElem?_append_right (by omega), show p.length + r - p.length = r by omega]
  exact mrows_at hv hl
theorem rag_set {r : Nat} {v v' : Value} {l l' : List UInt8} (hv : vs[r]? = some v) (hl : D[r]? = some l) : (p ++ (mrows uT vs D ++ its)).set (p.length + r) (mrow uT v' l') = p ++ (mrows uT (vs.set r v') (D.set r l') ++ its) := by
  have hj : r < (mrows uT vs D).length := by
    have h : (mrows uT vs D)[r]? = some (mrow uT v l) := by unfold mrows; rw [List.getElem?_zipWith, hv, hl]
    exact (List.getElem?_eq_some_iff.1 h).1
  rw [List.set_append_right _ _ (by omega), show p.length + r - p.length = r by omega, List.set_append_left _ _ hj]
  congr 2
  refine List.ext_getElem? fun k => ?_
  unfold mrows
  rw [List.getElem?_set, List.getElem?_zipWith, List.getElem?_zipWith, List.getElem?_set, List.getElem?_set]
  by_cases e : r = k
  · subst e
    have h1 := (List.getElem?_eq_some_iff.1 hl).1
    have h2 := (List.getElem?_eq_some_iff.1 hv).1
    rw [if_pos rfl, if_pos rfl, if_pos rfl, if_pos h1, if_pos h2]
    simp only [List.length_zipWith]
    rw [if_pos (by omega)]
  · rw [if_neg e, if_neg e, if_neg e]
theorem vs_same {r : Nat} {v : Value} (hv : vs[r]? = some v) : vs.set r v = vs := by
  obtain ⟨h, rfl⟩ := List.getElem?_eq_some_iff.1 hv
  exact List.set_getElem_self h
theorem St.ragRead {r q g m c : Nat} {l : List UInt8} (S : St W H G (p ++ (mrows uT vs D ++ its)) w) (hv : vs[r]? = some (.slice (some ⟨g, 0, none⟩) m c)) (hl : D[r]? = some l) (hm : l.length = m) (hq : q < m) : w.cell? ⟨g, q * 1, none⟩ = some (bV (l.getD q 0)) := by
  subst hm
  exact S.rowCell (p.length + r) (e := uT) (size := 1) (m := l.length) (c := c) (xs := l.map bV) (rag_at hv hl) (cellB_at hq)
theorem T_ragStore {o : Oper} {t : TypeId} {i : TypeInfo} {x y : Operand} {g m c off : Nat} {l : List UInt8} {u : UInt8} (p : List Item) (r q : Nat) (S : St W H G (p ++ (mrows uT vs D ++ its)) w) (hC : ∀ u, G.le (hw u) → N.C u) (hv : vs[r]? = some (.slice (some ⟨g, 0, none⟩) m c)) (hl : D[r]? = some l) (hm : l.length = m) (hq : q < m)
    (ho : o.op = .store t x y) (hx : ρ.ev x = some (.pointer (some ⟨g, off, none⟩))) (hy : ρ.ev y = some (bV u)) (hi : P.info? t = some i) (hi1 : i.size = 1) (hcl : N.cl o = .loud) (hg : o.guard = none) (hd : o.dst = none) (hoff : off = q * 1)
    (k : ∀ w', St W H G (p ++ (mrows uT vs (D.set r (l.set q u)) ++ its)) w' → T P N n ops K rest ρ w') : T P N n ops K (o :: rest) ρ w := by
  subst hm
  subst hoff
  refine T_storeRow (p.length + r) ((l.set q u).map bV) S hC (e := uT) (size := 1) (m := l.length) (c := c) (xs := l.map bV) (rag_at hv hl) ho hx hy hi hcl hg hd (by rw [hi1]; rfl) (by rw [hi1]; omega) (one_bV1 (b := u)) (set_bytes hq) fun w' S' => k w' ?_
  have e := rag_set (uT := uT) (p := p) (its := its) (v' := .slice (some ⟨g, 0, none⟩) l.length c) (l' := l.set q u) hv hl
  rw [vs_same hv] at e
  unfold mrow at e
  rw [List.length_set] at e
  rw [e] at S'
  exact S'
theorem T_ragAppend {o : Oper} {d : Nat} {t e : TypeId} {i : TypeInfo} {z : Value} {x y : Operand} {v ys : Value} {m : Nat} {l nw : List UInt8} (p : List Item) (r : Nat) (S : St W H G (p ++ (mrows e vs D ++ its)) w) (hC : ∀ u, G.le (hw u) → N.C u) (hv : vs[r]? = some v) (hl : D[r]? = some l)
    (ho : o.op = .call ⟨.builtin .append, #[x, y], #[t, t]⟩) (hx : ρ.ev x = some v) (hy : ρ.ev y = some ys) (ht : P.underlying t = some (.slice e)) (hi : P.info? e = some i) (hz : i.zero = some z) (hcl : N.cl o = .loud) (hg : o.guard = none) (hd : o.dst = some d) (hn : Nat.ble (d + 1) n = true)
    (hsize : i.size = 1) (hzs : z.cells.size = 1) (hsrc : Rd (hw w) ys m 1 (nw.map bV)) (hm : nw.length = m) (h63 : (l ++ nw).length ≤ maxLen) (hbytes : (l ++ nw).length * i.bytes ≤ 140737488355328)
    (k : ∀ a c w', (l ++ nw).length ≤ c → St W H G (p ++ (mrows e (vs.set r (.slice a (l ++ nw).length c)) (D.set r (l ++ nw)) ++ its)) w' → T P N n ops K rest ((d, .slice a (l ++ nw).length c) :: ρ) w') : T P N n ops K (o :: rest) ρ w := by
  refine T_appendS (p.length + r) (l ++ nw).length ((l ++ nw).map bV) S hC (rag_at hv hl) ho hx hy ht hi hz hcl hg hd hn hsize hzs rfl hsrc (one_bV _) (by rw [List.length_append, hm]) (by rw [List.map_append]) h63 hbytes fun a c w' hc S' => k a c w' hc ?_
  rw [show Item.row e 1 (.slice a (l ++ nw).length c) (l ++ nw).length ((l ++ nw).map bV) = mrow e (.slice a (l ++ nw).length c) (l ++ nw) from rfl, rag_set hv hl] at S'
  exact S'
theorem St.ragAll {e : TypeId} {v : Value} {k : Nat} (S : St W H G (p ++ (.row e 1 v k vs :: (mrows uT vs D ++ its))) w) (hv : vs.length = D.length) : ∃ G', G.le G' ∧ St W H G' (p ++ its) w ∧ RdL G' v D := by
  have S0 : St W H G (.row e 1 v k vs :: (mrows uT vs D ++ (p ++ its))) w := S.perm (List.perm_middle.trans (List.Perm.cons _ (rag_perm p (mrows uT vs D) its)))
  obtain ⟨G1, l1, S1, r1⟩ := S0.stillRow 0 (e := e) (size := 1) (v := v) (n := k) (xs := vs) rfl
  obtain ⟨G2, l2, S2, r2⟩ := St.matStill (uT := uT) (vs := vs) (M := D) hv S1
  exact ⟨G2, l1.trans l2, S2, RdL.mk (r1.mono l2) r2⟩
end
theorem set_le {B : List (List UInt8)} {l : List UInt8} {r m : Nat} (h : ∀ x ∈ B, x.length ≤ m) (hl : l.length ≤ m + 1) : ∀ x ∈ B.set r l, x.length ≤ m + 1 := fun x hx => by
  rcases List.mem_or_eq_of_mem_set hx with h1 | rfl
  · exact Nat.le_succ_of_le (h x h1)
  · exact hl
theorem take_row {B : List (List UInt8)} {i : Nat} (h : i < B.length) : B.take i ++ [B.getD i []] = B.take (i + 1) := by
  rw [List.take_succ_eq_append_getElem h, List.getD_eq_getElem?_getD, List.getElem?_eq_getElem h]; rfl
end Go.F
