/- General lemmas for walking the code, or plain mathematics. -/
import Derived.Test.YtikgpfhjhfpmbaaFBase
import Derived.Laws.BytesString
import Derived.Laws.IdiomStrings
import Derived.Laws.Strings
import Derived.Laws.Small
import Derived.Laws.Cover3
set_option linter.unusedVariables false
set_option linter.unusedSimpArgs false
set_option maxRecDepth 8192
namespace Go.F
open Go Go.RowKit
section
variable {P : Program} {N : Plan} {n : Nat} {ops : Array Oper} {K : Env → World → Prop} {rest : List Oper} {ρ : Env} {w : World}

/-- 's[:h]' up to the room. -/
theorem T_reslice {o : Oper} {d : Nat} {t e : TypeId} {i : TypeInfo} {x y : Operand} {b off : Nat} {l c : Nat} {k0 : IntKind} {z : Int} (h : Nat) (ho : o.op = .slice t x none (some y) none) (hx : ρ.ev x = some (.slice (some ⟨b, off, none⟩) l c)) (hy : ρ.ev y = some (.int k0 z)) (ht : P.underlying t = some (.slice e)) (hi' : P.info? e = some i) (hg : o.guard = none) (hd : o.dst = some d) (hn : Nat.ble (d + 1) n = true)
    (hz : z = (h : Int)) (h2 : h ≤ c) (hc0 : 0 < c) (k : T P N n ops K rest ((d, .slice (some ⟨b, off, none⟩) h c) :: ρ) w) : T P N n ops K (o :: rest) ρ w :=
  T_val hg hd hn (fun a ha u => by
    have e1 := ha.ev hx
    have e2 := ha.ev hy
    unfold execOp; rw [ho]; simp only [e1, e2, Option.map_none, Option.map_some]
    have hb := run_sliceBounds (P := P) (len := l) (cap := c) (lo := none) (hi := some (.int k0 z)) (l := 0) (h := h) true (bound_of hz) rfl (Nat.zero_le _) h2 u
    have hne : ¬ c = 0 := by omega
    simp [Instr.sliceAt, Instr.slice, run_underlying ht, hb, sizeOf, typeInfo, hi', hne, add_none]) k

end
end Go.F

namespace Go.F
open Go Go.RowKit
section
variable {P : Program} {N : Plan} {n : Nat} {ops : Array Oper} {K : Env → World → Prop} {rest : List Oper} {ρ : Env} {w : World}

def str (l : List UInt8) : Value := .string ⟨l.toArray⟩

end
end Go.F

namespace Go.F
open Go Go.RowKit
section
variable {P : Program} {N : Plan} {n : Nat} {ops : Array Oper} {K : Env → World → Prop} {rest : List Oper} {ρ : Env} {w : World}

theorem zeroCells_one (z : Value) (k : Nat) : Builtin.zeroCells #[z] k = (List.replicate k z).toArray := by
  unfold Builtin.zeroCells
  apply Array.ext
  · simp
  · intro i h1 h2
    simp [Nat.mod_one]

theorem T_appendN {o : Oper} {d : Nat} {t e : TypeId} {i : TypeInfo} {z : Value} {x y : Operand} {vs : Value} {m : Nat} {news : List Value} (hC : ∀ w, N.C w)
    (ho : o.op = .call ⟨.builtin .append, #[x, y], #[t, t]⟩) (hx : ρ.ev x = some (.slice none 0 0)) (hy : ρ.ev y = some vs) (ht : P.underlying t = some (.slice e)) (hi : P.info? e = some i) (hz : i.zero = some z) (hcl : N.cl o = .loud) (hg : o.guard = none) (hd : o.dst = some d) (hn : Nat.ble (d + 1) n = true)
    (hsize : i.size = 1) (hzs : z.cells = #[z]) (hsrc : Rd (hw w) vs m 1 news) (hm : 0 < m) (h63 : m ≤ maxLen) (hbytes : m * i.bytes ≤ 281474976710656)
    (k : ∀ g C w', g = w.heap.size → m ≤ C → C ≤ maxLen → w'.heap[g]? = some (.cells (news ++ List.replicate (C - m) z).toArray e (0, 0)) → w.grownBy w' none → T P N n ops K rest ((d, .slice (some ⟨g, 0, none⟩) m C) :: ρ) w') : T P N n ops K (o :: rest) ρ w := by
  refine T_loud hg hcl fun a ha hc => ?_
  have e1 := ha.ev hx
  have e2 := ha.ev hy
  have hlen := hsrc.1
  obtain ⟨b, off, c, rfl, _, hcell⟩ := hsrc.get hm
  have h63' : (m : Int) ≤ 9223372036854775807 := by simp only [maxLen] at h63; omega
  have hr := run_append_nil (P := P) w t o.type e i z ht hi hz ⟨b, off, none⟩ m c news (by rw [hsize]; exact hlen) (fun j u hj => by rw [Addr.add_lit]; exact cell_of_hcell (hcell j u hj)) hm h63' hbytes
  rw [hzs, zeroCells_one, List.append_toArray] at hr
  have hrun : (execOp a.eval o).run P w = .ok (.value (.slice (some ⟨w.heap.size, 0, none⟩) m (grownCap w m 0 e))) (w.drew.alloc (.cells (news ++ List.replicate (grownCap w m 0 e - m) z).toArray e (0, 0))) := by
    unfold execOp; rw [ho]
    simp only [resolve, Sem.run_bind, Sem.run_pure, Result.andThen_ok, invoke, builtin]
    simp [e1, e2, hr]
  unfold Oper.wp
  rw [hrun]
  exact ⟨hC _, _, by rw [hd]; exact ha.put hn _, k _ _ _ rfl (grownCap_ge _ _ _ _) (grownCap_le_maxLen _ _ _ _ h63) (heap_alloc_new w.drew _) (undrew (World.grownBy_alloc w.drew _ none))⟩

end
end Go.F

namespace Go.F
open Go Go.RowKit

/-- A mark that lies on no cell. -/
def Off (fz : Nat × Nat) (size : Nat) : Prop := fz = (0, 0) ∨ size ≤ fz.1

/-- v owns n elements, the cells xs, in a row from block B on; the row's mark, if any, lies behind it (as '[]byte(s)' lays it). -/
def rowZ (w : World) (B : Nat) (e : TypeId) (size : Nat) (v : Value) (n : Nat) (xs : List Value) : Prop :=
  xs.length = n * size ∧
  ((v = .slice none 0 0 ∧ n = 0) ∨
   ∃ g cap cur fz, v = .slice (some ⟨g, 0, none⟩) n cap ∧ B ≤ g ∧ w.heap[g]? = some (.cells cur e fz) ∧ Off fz cur.size ∧ n ≤ cap ∧ cap ≤ maxLen ∧ cur.size = cap * size ∧ cur.toList.take (n * size) = xs)

section
variable {w w' : World} {B : Nat} {e : TypeId} {size : Nat} {v : Value} {n : Nat} {xs : List Value}
theorem rowZ.of (h : w.ownsRow B e size v n xs) : rowZ w B e size v n xs := by
  refine ⟨h.1, ?_⟩
  rcases h.2 with hn | ⟨g, cap, cur, hv, hb, hg, rest⟩
  · exact .inl hn
  · exact .inr ⟨g, cap, cur, (0, 0), hv, hb, hg, .inl rfl, rest⟩
theorem rowZ.nil (w : World) (B : Nat) (e : TypeId) (size : Nat) : rowZ w B e size (.slice none 0 0) 0 [] := ⟨by simp, .inl ⟨rfl, rfl⟩⟩
theorem rowZ.mono {B' : Nat} (h : rowZ w B e size v n xs) (hb : B' ≤ B) : rowZ w B' e size v n xs := by
  refine ⟨h.1, ?_⟩
  rcases h.2 with hn | ⟨g, cap, cur, fz, hv, hg, rest⟩
  · exact .inl hn
  · exact .inr ⟨g, cap, cur, fz, hv, Nat.le_trans hb hg, rest⟩
theorem rowZ.lt (h : rowZ w B e size v n xs) : ∀ k, v.ownBlock = some k → B ≤ k ∧ k < w.heap.size := by
  intro k hk
  rcases h.2 with ⟨rfl, _⟩ | ⟨g, cap, cur, fz, rfl, hb, hg, _⟩
  · cases hk
  · cases hk
    exact ⟨hb, blk_lt hg⟩
theorem rowZ.kept {row : Option Nat} (h : rowZ w B e size v n xs) (hg : w.grownBy w' row) (hne : ∀ b, v.ownBlock = some b → some b ≠ row) : rowZ w' B e size v n xs := by
  refine ⟨h.1, ?_⟩
  rcases h.2 with hn | ⟨g, cap, cur, fz, rfl, hb, hgg, rest⟩
  · exact .inl hn
  · exact .inr ⟨g, cap, cur, fz, rfl, hb, blk_step hgg hg (fun e => hne g rfl e.symm), rest⟩
theorem rowZ.len (h : rowZ w B e size v n xs) : xs.length = n * size := h.1
theorem Rd.of_rowZ_in {G : Hp} (h : rowZ w B e size v n xs) (hG : ∀ b, v.ownBlock = some b → G b = w.heap[b]?) : Rd G v n size xs := by
  refine ⟨h.1, ?_⟩
  rcases h.2 with ⟨rfl, rfl⟩ | ⟨g, cap, cur, fz, rfl, hb, hg, _, hc, _, _, htake⟩
  · exact ⟨none, 0, rfl, Nat.le_refl _, fun _ => ⟨rfl, rfl⟩, fun _ e => by cases e⟩
  · refine ⟨_, cap, rfl, hc, (fun e => by cases e), fun ad e _ => ?_⟩
    cases e
    refine ⟨rfl, fun i u hi => ?_⟩
    unfold hcell
    rw [hG g rfl, hg]
    rw [← htake, List.getElem?_take] at hi
    split at hi
    · simpa using hi
    · cases hi
theorem Rd.of_rowZ (h : rowZ w B e size v n xs) : Rd (hw w) v n size xs := Rd.of_rowZ_in h fun _ _ => rfl
theorem rowZ.cells (h : rowZ w B e size v n xs) {g : Nat} (hg : v.ownBlock = some g) : ∀ j u, xs[j]? = some u → w.cell? ((⟨g, 0, none⟩ : Addr).add j) = some u := by
  intro j u hu
  rcases h.2 with ⟨rfl, _⟩ | ⟨g', cap, cur, fz, rfl, _, hgg, _, _, _, _, htake⟩
  · cases hg
  · cases hg
    rw [Addr.add_lit]
    refine cell_of_hcell ?_
    rw [hcell_blk hgg]
    rw [← htake, List.getElem?_take] at hu
    split at hu
    · simpa using hu
    · cases hu
end

theorem run_storeCells_atZ (P : Program) (g o : Nat) (t : TypeId) (fz : Nat × Nat) : ∀ (vs : List Value) (i : Nat) (cur : Array Value) (w : World), w.heap[g]? = some (.cells cur t fz) → Off fz cur.size → o + i + vs.length ≤ cur.size → (∀ v ∈ vs, v.oneCell' = true) →
    (storeCells ⟨g, o, none⟩ vs i).run P w = .ok () (w.setRow g (cur.toList.take (o + i) ++ vs ++ cur.toList.drop (o + i + vs.length)).toArray)
  | [], i, cur, w, hg, _, _, _ => by
    simp only [storeCells, List.append_nil, List.length_nil, Nat.add_zero, List.take_append_drop, Array.toArray_toList]
    rw [setRow_self w g cur t fz hg]
    rfl
  | v :: rest, i, cur, w, hg, hfz, hl, h1 => by
    have hi : o + i < cur.size := by simp at hl; omega
    have hcell : w.cell? ⟨g, o + i, none⟩ = some cur[o + i] := by simp [World.cell?, hg, hi]
    have hfro : w.frozen? ⟨g, o + i, none⟩ = false := by
      obtain ⟨lo, hi'⟩ := fz
      simp only [World.frozen?, hg, Bool.and_eq_false_iff, decide_eq_false_iff_not]
      rcases hfz with h | h
      · cases h; right; omega
      · left; simp only at h; omega
    have hst : (store ((⟨g, o, none⟩ : Addr).add i) v).run P w = .ok () (w.setRow g (cur.setIfInBounds (o + i) v)) := by
      rw [Addr.add_lit, run_store P w _ v _ (h1 v (by simp)), hcell]
      simp [hfro, setCell_eq_setRow w g (o + i) cur t fz v hg]
    have ih := run_storeCells_atZ P g o t fz rest (i + 1) (cur.setIfInBounds (o + i) v) (w.setRow g (cur.setIfInBounds (o + i) v)) (setRow_heap w g cur _ t _ hg) (by simpa using hfz) (by simp at hl ⊢; omega) (fun x hx => h1 x (by simp [hx]))
    simp only [storeCells, Sem.run_bind, hst, Result.andThen_ok, ih, setRow_setRow]
    congr 3
    have e := list_seg_step cur.toList (o + i) v rest (by simp at hl ⊢; omega)
    simpa [Array.toList_setIfInBounds, Nat.add_assoc] using e

/-! ### append, where the new row lies -/
section
variable {P : Program}
theorem run_append_at (w : World) (base : Nat) (t ty e : TypeId) (i : TypeInfo) (z : Value) (ht : P.underlying t = some (.slice e)) (hi : P.info? e = some i) (hz : i.zero = some z) (hzs : z.cells.size = i.size)
    (v : Value) (n : Nat) (xs : List Value) (hown : rowZ w base e i.size v n xs) (a : Addr) (m c : Nat) (news : List Value) (hl : news.length = m * i.size) (hnews : ∀ j u, news[j]? = some u → w.cell? (a.add j) = some u) (h1 : ∀ u ∈ news, u.oneCell' = true)
    (h63 : n + m ≤ maxLen) (hbytes : (n + m) * i.bytes ≤ 140737488355328) (hbase : base ≤ w.heap.size) (hsz : 0 < i.size) :
    ∃ v' w', (Builtin.append_ #[t, t] ty #[v, .slice (some a) m c]).run P w = .ok v' w' ∧ rowZ w' base e i.size v' (n + m) (xs ++ news) ∧ w.grownBy w' v.ownBlock ∧ ∀ b, v'.ownBlock = some b → v.ownBlock = some b ∨ w.heap.size ≤ b := by
  have hsmall : n + m ≤ 9223372036854775807 := by simp only [maxLen] at h63; omega
  have hlen : (xs ++ news).length = (n + m) * i.size := by rw [List.length_append, hown.1, hl, Nat.add_mul]
  rcases hown.2 with ⟨rfl, rfl⟩ | ⟨g, cap, cur, fz, rfl, hbg, hg, hfz, hnc, hcm, hcs, htake⟩
  · have hx : xs = [] := List.eq_nil_of_length_eq_zero (by simpa using hown.1)
    subst hx
    obtain ⟨v', w', hr, h2, h3, _⟩ := run_append_own (P := P) w w.heap.size t ty e i z i.size i.bytes ht hi hz rfl rfl hzs hsz _ 0 [] (World.ownsRow_nil _ _ _ _) a m c news hl hnews h1 h63 hbytes (Nat.le_refl _)
    exact ⟨v', w', hr, (rowZ.of h2).mono hbase, h3, fun b hb => .inr (World.ownsRow.lt h2 b hb).1⟩
  · by_cases hroom : n + m ≤ cap
    · have hfit : n * i.size + news.length ≤ cur.size := by rw [hl, hcs, ← Nat.add_mul]; exact Nat.mul_le_mul_right _ hroom
      have hf := run_firstCells_some (P := P) w i.size m a m c news hl hnews
      have hst := run_storeCells_atZ P g (n * i.size) e fz news 0 cur w hg hfz (by simpa using hfit) h1
      simp only [Nat.add_zero] at hst
      have hr : (Builtin.append_ #[t, t] ty #[.slice (some ⟨g, 0, none⟩) n cap, .slice (some a) m c]).run P w =
          .ok (.slice (some ⟨g, 0, none⟩) (n + m) cap) (w.setRow g (cur.toList.take (n * i.size) ++ news ++ cur.toList.drop (n * i.size + news.length)).toArray) := by
        simp [Builtin.append_, run_underlying ht, sizeOf, typeInfo, hi, Builtin.lenOf, hroom, hf, Addr.add_lit, hst]
      have hsize : (cur.toList.take (n * i.size) ++ news ++ cur.toList.drop (n * i.size + news.length)).toArray.size = cur.size := by
        simp only [List.size_toArray, List.length_append, List.length_take, List.length_drop, Array.length_toList]
        omega
      refine ⟨_, _, hr, ⟨hlen, .inr ⟨g, cap, _, fz, rfl, hbg, setRow_heap w g cur _ e _ hg, by rw [hsize]; exact hfz, hroom, hcm, by rw [hsize]; exact hcs, ?_⟩⟩, ⟨rfl, rfl, rfl, by simp, fun k _ hk => setRow_other w g k _ (fun e => hk (by simp [Value.ownBlock, e]))⟩, fun b hb => .inl hb⟩
      rw [htake, ← hlen]
      exact List.take_left
    · have hr := run_append_grow (P := P) w t ty e i z ht hi hz ⟨g, 0, none⟩ n cap xs hown.1 (hown.cells (g := g) rfl) a m c news hl hnews (by omega) (by omega) (growslice_fits (by omega) hbytes)
      have hge := grownCap_ge w (n + m) cap e
      have hcm2 : grownCap w (n + m) cap e ≤ maxLen := grownCap_le_maxLen w (n + m) cap e h63
      refine ⟨_, _, hr, ⟨hlen, .inr ⟨w.heap.size, _, _, (0, 0), rfl, hbase, heap_alloc_new w.drew _, .inl rfl, hge, hcm2, ?_, ?_⟩⟩, undrew (World.grownBy_alloc w.drew _ _), fun b hb => .inr ?_⟩
      · simp only [Array.size_append, List.size_toArray, size_zeroCells, hzs, hown.1, hl, ← Nat.add_mul]
        congr 1
        omega
      · simp only [Array.toList_append, List.append_assoc]
        rw [← List.append_assoc, ← hlen]
        exact List.take_left
      · simp only [Value.ownBlock, Option.some.injEq] at hb
        omega
end

/-- A thing of the call's own: a block whose cells are told, or a row that grows. -/
inductive Item where
  | blk (b : Nat) (c : Array Value) (t : TypeId)
  | row (e : TypeId) (size : Nat) (v : Value) (n : Nat) (xs : List Value)

def Item.spot : Item → Option Nat
  | .blk b _ _ => some b
  | .row _ _ v _ _ => v.ownBlock

def Item.ok (w : World) (B : Nat) : Item → Prop
  | .blk b c t => w.heap[b]? = some (.cells c t (0, 0)) ∧ B ≤ b
  | .row e size v n xs => rowZ w B e size v n xs

theorem Item.lt {w : World} {B : Nat} : ∀ {it : Item}, it.ok w B → ∀ b, it.spot = some b → B ≤ b ∧ b < w.heap.size
  | .blk _ _ _, ⟨h, hb⟩, _, e => by cases e; exact ⟨hb, blk_lt h⟩
  | .row _ _ _ _ _, h, b, e => rowZ.lt h b e

theorem Item.kept {w w' : World} {B : Nat} {row : Option Nat} (hg : w.grownBy w' row) : ∀ {it : Item}, it.ok w B → (∀ b, it.spot = some b → some b ≠ row) → it.ok w' B
  | .blk b _ _, ⟨h, hb⟩, hn => ⟨blk_step h hg (fun e => hn b rfl e.symm), hb⟩
  | .row _ _ _ _ _, h, hn => rowZ.kept h hg hn

/-- W: where the call began; H: what it was given to read; G: what stands still now; its: what is its own. -/
structure St (W : World) (H G : Hp) (its : List Item) (w : World) : Prop where
  below : Below W.heap.size W w
  le : G.le (hw w)
  sup : H.le G
  old : ∀ k o, G k = some o → k < W.heap.size → H k = some o
  ok : ∀ (i : Nat) (x : Item), its[i]? = some x → x.ok w W.heap.size
  free : ∀ (i : Nat) (x : Item), its[i]? = some x → ∀ b, x.spot = some b → G b = none
  apart : ∀ (i j : Nat) (x y : Item), its[i]? = some x → its[j]? = some y → i ≠ j → ∀ b, x.spot = some b → y.spot = some b → False

def ext (H : Hp) (B : Nat) (w : World) : Hp := fun k => if B ≤ k then w.heap[k]? else H k

section
variable {W w w' : World} {H G : Hp} {its : List Item}

theorem St.start {H : Hp} (w : World) (hH : H.le (hw w)) : St w H H [] w :=
  ⟨below_refl w, hH, Hp.le.refl _, fun _ _ h _ => h, fun i x h => (by simp at h), fun i x h => (by simp at h), fun i j x y h => (by simp at h)⟩

theorem St.lt (S : St W H G its w) {k : Nat} {o : Obj} (h : G k = some o) : k < w.heap.size := by
  have := S.le k o h
  exact (Array.getElem?_eq_some_iff.1 this).1
theorem St.none_of (S : St W H G its w) {k : Nat} (h : w.heap.size ≤ k) : G k = none := by
  cases e : G k with
  | none => rfl
  | some o => have := S.lt e; omega

theorem St.grow0 (S : St W H G its w) (hg : w.grownBy w' none) : St W H G its w' :=
  ⟨S.below.step0 hg, S.le.trans (hw_le_none hg), S.sup, S.old, fun i x h => Item.kept hg (S.ok i x h) (by simp), S.free, S.apart⟩
theorem St.call (S : St W H G its w) (hB : Below w.heap.size w w') : St W H G its w' := S.grow0 (grown_of_below hB none)
theorem St.drew (S : St W H G its w) : St W H G its w.drew := S.grow0 ⟨rfl, rfl, rfl, Nat.le_refl _, fun _ _ _ => rfl⟩

theorem St.cons (S : St W H G its w) (it : Item) (hok : it.ok w W.heap.size) (hn : ∀ b, it.spot = some b → G b = none ∧ ∀ (i : Nat) (y : Item), its[i]? = some y → y.spot ≠ some b) : St W H G (it :: its) w where
  below := S.below
  le := S.le
  sup := S.sup
  old := S.old
  ok := fun i x h => by
    cases i with
    | zero => simp at h; subst h; exact hok
    | succ i => exact S.ok i x (by simpa using h)
  free := fun i x h b hb => by
    cases i with
    | zero => simp at h; subst h; exact (hn b hb).1
    | succ i => exact S.free i x (by simpa using h) b hb
  apart := fun i j x y hi hj hij b hx hy => by
    cases i with
    | zero =>
      cases j with
      | zero => exact hij rfl
      | succ j => simp at hi; subst hi; exact (hn b hx).2 j y (by simpa using hj) hy
    | succ i =>
      cases j with
      | zero => simp at hj; subst hj; exact (hn b hy).2 i x (by simpa using hi) hx
      | succ j => exact S.apart i j x y (by simpa using hi) (by simpa using hj) (fun e => hij (by rw [e])) b hx hy

theorem St.set (S : St W H G its w) (i : Nat) {it it' : Item} (hi : its[i]? = some it) (hg : w.grownBy w' it.spot) (hok : it'.ok w' W.heap.size) (hsp : ∀ b, it'.spot = some b → it.spot = some b ∨ w.heap.size ≤ b) : St W H G (its.set i it') w' := by
  have hlt : i < its.length := (List.getElem?_eq_some_iff.1 hi).1
  have key : ∀ (j : Nat) (x : Item), (its.set i it')[j]? = some x → (j = i ∧ x = it') ∨ (j ≠ i ∧ its[j]? = some x) := fun j x h => by
    rw [List.getElem?_set] at h
    by_cases e : i = j
    · subst e; rw [if_pos rfl, if_pos hlt] at h; exact .inl ⟨rfl, (Option.some.inj h).symm⟩
    · rw [if_neg e] at h; exact .inr ⟨fun e' => e e'.symm, h⟩
  refine ⟨S.below.step hg (fun g e => (Item.lt (S.ok i it hi) g e).1), fun k o e => ?_, S.sup, S.old, fun j x h => ?_, fun j x h b hb => ?_, fun j l x y hj hl hjl b hx hy => ?_⟩
  · have h1 := S.le k o e
    have h2 := hg.block k (S.lt e) (fun e' => by rw [S.free i it hi k e'.symm] at e; cases e)
    exact h2.trans h1
  · rcases key j x h with ⟨rfl, rfl⟩ | ⟨hj, h⟩
    · exact hok
    · exact Item.kept hg (S.ok j x h) (fun b hb e => S.apart j i x it h hi hj b hb e.symm)
  · rcases key j x h with ⟨rfl, rfl⟩ | ⟨hj, h⟩
    · rcases hsp b hb with h1 | h1
      · exact S.free j it hi b h1
      · exact S.none_of h1
    · exact S.free j x h b hb
  · rcases key j x hj with ⟨e1, e2⟩ | ⟨hj', hj2⟩ <;> rcases key l y hl with ⟨e3, e4⟩ | ⟨hl', hl2⟩
    · exact hjl (e1.trans e3.symm)
    · subst e1; subst e2
      rcases hsp b hx with h1 | h1
      · exact S.apart _ _ _ _ hi hl2 hjl b h1 hy
      · have := (Item.lt (S.ok l y hl2) b hy).2; omega
    · subst e3; subst e4
      rcases hsp b hy with h1 | h1
      · exact S.apart _ _ _ _ hj2 hi hjl b hx h1
      · have := (Item.lt (S.ok j x hj2) b hx).2; omega
    · exact S.apart _ _ _ _ hj2 hl2 hjl b hx hy

theorem getElem?_erase {α : Type} (l : List α) (i j : Nat) : (l.eraseIdx i)[j]? = if j < i then l[j]? else l[j + 1]? := List.getElem?_eraseIdx

/-- What is the call's own stands still from here on. -/
theorem St.still (S : St W H G its w) (i : Nat) {it : Item} (hi : its[i]? = some it) :
    ∃ G', G.le G' ∧ St W H G' (its.eraseIdx i) w ∧ ∀ b, it.spot = some b → G' b = w.heap[b]? := by
  have key : ∀ (j : Nat) (x : Item), (its.eraseIdx i)[j]? = some x → ∃ j', its[j']? = some x ∧ j' ≠ i ∧ j' = (if j < i then j else j + 1) := fun j x h => by
    rw [getElem?_erase] at h
    split at h
    · exact ⟨j, h, by omega, by simp_all⟩
    · exact ⟨j + 1, h, by omega, by simp_all⟩
  refine ⟨fun k => if it.spot = some k then w.heap[k]? else G k, fun k o e => ?_, ⟨S.below, fun k o e => ?_, fun k o e => ?_, fun k o e hk => ?_, fun j x h => ?_, fun j x h b hb => ?_, fun j l x y hj hl hjl b hx hy => ?_⟩, fun b hb => by simp [hb]⟩
  · have : it.spot ≠ some k := fun e' => by rw [S.free i it hi k e'] at e; cases e
    show (if _ then _ else _) = _; rw [if_neg this]; exact e
  · split at e
    · exact e
    · exact S.le k o e
  · have h1 := S.sup k o e
    have : it.spot ≠ some k := fun e' => by rw [S.free i it hi k e'] at h1; cases h1
    show (if _ then _ else _) = _; rw [if_neg this]; exact h1
  · split at e
    · rename_i e'; have := (Item.lt (S.ok i it hi) k e').1; omega
    · exact S.old k o e hk
  · obtain ⟨j', h', _⟩ := key j x h; exact S.ok j' x h'
  · obtain ⟨j', h', hne, _⟩ := key j x h
    have : it.spot ≠ some b := fun e' => S.apart j' i x it h' hi hne b hb e'
    show (if _ then _ else _) = _; rw [if_neg this]; exact S.free j' x h' b hb
  · obtain ⟨j', h1, _, e1⟩ := key j x hj
    obtain ⟨l', h2, _, e2⟩ := key l y hl
    exact S.apart j' l' x y h1 h2 (by subst e1; subst e2; split <;> split <;> omega) b hx hy

theorem St.drop (S : St W H G its w) (i : Nat) : St W H G (its.eraseIdx i) w := by
  have key : ∀ (j : Nat) (x : Item), (its.eraseIdx i)[j]? = some x → ∃ j', its[j']? = some x ∧ j' = (if j < i then j else j + 1) := fun j x h => by
    rw [getElem?_erase] at h
    split at h
    · exact ⟨j, h, by simp_all⟩
    · exact ⟨j + 1, h, by simp_all⟩
  refine ⟨S.below, S.le, S.sup, S.old, fun j x h => ?_, fun j x h b hb => ?_, fun j l x y hj hl hjl b hx hy => ?_⟩
  · obtain ⟨j', h', _⟩ := key j x h; exact S.ok j' x h'
  · obtain ⟨j', h', _⟩ := key j x h; exact S.free j' x h' b hb
  · obtain ⟨j', h1, e1⟩ := key j x hj
    obtain ⟨l', h2, e2⟩ := key l y hl
    exact S.apart j' l' x y h1 h2 (by subst e1; subst e2; split <;> split <;> omega) b hx hy

/-- Its end: what stands still is what it was given, or new. -/
theorem St.fin (S : St W H G its w) : G.le (ext H W.heap.size w) := fun k o e => by
  unfold ext
  split
  · exact S.le k o e
  · exact S.old k o e (by omega)

theorem St.ext (S : St W H G its w) (hB : Below w.heap.size w w') : G.le (ext G w.heap.size w') ∧ St W H (F.ext G w.heap.size w') its w' := by
  have hle : G.le (F.ext G w.heap.size w') := fun k o e => by
    have := S.lt e
    unfold F.ext
    rw [if_neg (by omega)]; exact e
  have S' := S.call hB
  refine ⟨hle, S'.below, fun k o e => ?_, S.sup.trans hle, fun k o e hk => ?_, S'.ok, fun i x h b hb => ?_, S.apart⟩
  · unfold F.ext at e
    split at e
    · exact e
    · exact S'.le k o e
  · unfold F.ext at e
    have := S.below.size
    rw [if_neg (by omega)] at e
    exact S.old k o e hk
  · have := (Item.lt (S.ok i x h) b hb).2
    unfold F.ext
    rw [if_neg (by omega)]
    exact S.free i x h b hb

/-- A row that a call made is the caller's own. -/
theorem St.own (S : St W H G its w) (hB : Below w.heap.size w w') {e : TypeId} {size : Nat} {v : Value} {n : Nat} {xs : List Value} (ho : rowZ w' w.heap.size e size v n xs) : St W H G (.row e size v n xs :: its) w' :=
  (S.call hB).cons _ (rowZ.mono ho S.below.size) fun b hb => by
    have h := (rowZ.lt ho b hb).1
    exact ⟨S.none_of h, fun i y hy e => by have := (Item.lt (S.ok i y hy) b e).2; omega⟩
theorem St.nilRow (S : St W H G its w) (e : TypeId) (size : Nat) : St W H G (.row e size (.slice none 0 0) 0 [] :: its) w :=
  S.cons _ (rowZ.nil _ _ _ _) fun b hb => by cases hb
theorem St.new (S : St W H G its w) (hg : w.grownBy w' none) {b : Nat} {c : Array Value} {t : TypeId} (hb : b = w.heap.size) (hc : w'.heap[b]? = some (.cells c t (0, 0))) : St W H G (.blk b c t :: its) w' := by
  subst hb
  refine (S.grow0 hg).cons _ ⟨hc, S.below.size⟩ fun b hb => ?_
  cases hb
  exact ⟨S.none_of (Nat.le_refl _), fun i y hy e => by have := (Item.lt (S.ok i y hy) _ e).2; omega⟩
theorem St.row (S : St W H G its w) (i : Nat) {e : TypeId} {size : Nat} {v : Value} {n : Nat} {xs : List Value} (hi : its[i]? = some (.row e size v n xs)) : rowZ w W.heap.size e size v n xs := S.ok i _ hi
theorem St.rd (S : St W H G its w) (i : Nat) {e : TypeId} {size : Nat} {v : Value} {n : Nat} {xs : List Value} (hi : its[i]? = some (.row e size v n xs)) : Rd (hw w) v n size xs := Rd.of_rowZ (S.row i hi)
theorem St.shape (S : St W H G its w) (i : Nat) {e : TypeId} {size : Nat} {v : Value} {n : Nat} {xs : List Value} (hi : its[i]? = some (.row e size v n xs)) : ∃ a c, v = .slice a n c := by
  obtain ⟨a, c, h, _⟩ := (S.rd i hi).shape; exact ⟨a, c, h⟩
theorem St.blk (S : St W H G its w) (i : Nat) {b : Nat} {c : Array Value} {t : TypeId} (hi : its[i]? = some (.blk b c t)) : w.heap[b]? = some (.cells c t (0, 0)) := (S.ok i _ hi).1
theorem St.cell (S : St W H G its w) (i : Nat) {b : Nat} {c : Array Value} {t : TypeId} (hi : its[i]? = some (.blk b c t)) {off j : Nat} {v : Value} (hv : c[j]? = some v) (he : off = j) : w.cell? ⟨b, off, none⟩ = some v := by
  subst he
  exact cell_of_hcell (by rw [hcell_blk (S.blk i hi)]; exact hv)
theorem St.cells (S : St W H G its w) (i : Nat) {b : Nat} {c : Array Value} {t : TypeId} (hi : its[i]? = some (.blk b c t)) : ∀ (j : Nat) (v : Value), c[j]? = some v → w.cell? ⟨b, 0 + j, none⟩ = some v := blk_cells (S.blk i hi)
theorem St.cellG (S : St W H G its w) {b off : Nat} {v : Value} (h : hcell G b off = some v) : w.cell? ⟨b, off, none⟩ = some v := cell_of_hcell (hcell_mono S.le h)
end


end Go.F

namespace Go.F
open Go Go.RowKit
section
variable {P : Program} {N : Plan} {n : Nat} {ops : Array Oper} {K : Env → World → Prop} {rest : List Oper} {ρ : Env} {w W : World} {H G : Hp} {its : List Item}

/-- The plan with some operations (by their slots) taken as pure; it holds what stands still. -/
def planF (P : Program) (G0 : Hp) (ds : List Nat) : Plan := ⟨fun o => match o.dst with | some d => (match ds.contains d with | true => .pure | false => cls P o.op) | none => cls P o.op, fun w => G0.le (hw w)⟩

theorem T_ran {o : Oper} {d : Nat} {v : Value} {w' : World} (hcl : N.cl o = .loud) (hg : o.guard = none) (hd : o.dst = some d) (hn : Nat.ble (d + 1) n = true)
    (hrun : ∀ a, Agree n ρ a → (execOp a.eval o).run P w = .ok (.value v) w') (hC : N.C w') (k : T P N n ops K rest ((d, v) :: ρ) w') : T P N n ops K (o :: rest) ρ w := by
  refine T_loud hg hcl fun a ha hc => ?_
  unfold Oper.wp
  rw [hrun a ha]
  exact ⟨hC, _, by rw [hd]; exact ha.put hn _, k⟩
/-- A Bool that is known. -/
theorem T_bool {o : Oper} {l : List Oper} (t : Nat) {b : Bool} (b' : Bool) (hb : ρ.get? t = some (.bool b)) (hbb : b = b') (k : T P N n ops K (o :: l) ((t, .bool b') :: ρ) w) : T P N n ops K (o :: l) ρ w :=
  T_part hb (by simp) (fun h => by rw [← hbb, h] at k; exact k) (fun h => by rw [← hbb, h] at k; exact k)
theorem W_bool {c : Code} {Q : Exit → Env → World → Prop} (t : Nat) {b : Bool} (b' : Bool) (hb : ρ.get? t = some (.bool b)) (hbb : b = b') (k : F.W P n c Q ((t, .bool b') :: ρ) w) : F.W P n c Q ρ w := fun a ha => by
  refine k a ⟨ha.1, ha.2.1, fun t' v hv => ?_⟩
  rw [get?_cons] at hv
  split at hv
  · rename_i e; subst e; simp only [Option.some.injEq] at hv; subst hv; subst hbb; exact ha.2.2 t _ hb
  · exact ha.2.2 t' v hv

/-! ### New memory -/

/-! ### Stores -/

/-! ### append, copy -/

theorem T_appendS {o : Oper} {d : Nat} {t e : TypeId} {i : TypeInfo} {z : Value} {x y : Operand} {v vs : Value} {size n0 m : Nat} {xs news : List Value} (j n' : Nat) (xs' : List Value) (S : St W H G its w) (hC : ∀ u, G.le (hw u) → N.C u) (hj : its[j]? = some (.row e size v n0 xs))
    (ho : o.op = .call ⟨.builtin .append, #[x, y], #[t, t]⟩) (hx : ρ.ev x = some v) (hy : ρ.ev y = some vs) (ht : P.underlying t = some (.slice e)) (hi : P.info? e = some i) (hz : i.zero = some z) (hcl : N.cl o = .loud) (hg : o.guard = none) (hd : o.dst = some d) (hn : Nat.ble (d + 1) n = true)
    (hsize : i.size = size) (hzs : z.cells.size = size) (hsz : Nat.ble 1 size = true) (hsrc : Rd (hw w) vs m size news) (h1 : ∀ u ∈ news, u.oneCell' = true) (hn' : n0 + m = n') (hx' : xs ++ news = xs') (h63 : n' ≤ maxLen) (hbytes : n' * i.bytes ≤ 140737488355328)
    (k : ∀ a c w', n' ≤ c → St W H G (its.set j (.row e size (.slice a n' c) n' xs')) w' → T P N n ops K rest ((d, .slice a n' c) :: ρ) w') : T P N n ops K (o :: rest) ρ w := by
  subst hsize
  subst hn'
  subst hx'
  have hown : rowZ w W.heap.size e i.size v n0 xs := S.row j hj
  obtain ⟨hlen, aa, c, hvs, hcc, hnone, hsome⟩ := hsrc
  have key : ∃ v' w', (Builtin.append_ #[t, t] o.type #[v, vs]).run P w = .ok v' w' ∧ rowZ w' W.heap.size e i.size v' (n0 + m) (xs ++ news) ∧ w.grownBy w' v.ownBlock ∧ ∀ b, v'.ownBlock = some b → v.ownBlock = some b ∨ w.heap.size ≤ b := by
    cases aa with
    | none =>
      obtain ⟨rfl, rfl⟩ := hnone rfl
      have : news = [] := List.eq_nil_of_length_eq_zero (by simpa using hlen)
      subst this
      rw [hvs]
      obtain ⟨a0, c0, hv0, _⟩ := (Rd.of_rowZ hown).shape
      refine ⟨v, w, ?_, by simpa using hown, gb_refl w _, fun b hb => .inl hb⟩
      subst hv0
      have hcap : n0 ≤ c0 := by
        rcases hown.2 with ⟨h, h0⟩ | ⟨g, cap, cur, fz, h, _, _, _, h2, _⟩
        · cases h; omega
        · cases h; exact h2
      cases a0 with
      | none =>
        rcases hown.2 with ⟨h, h0⟩ | ⟨g, cap, cur, fz, h, _⟩
        · cases h
          simp [Builtin.append_, run_underlying ht, sizeOf, typeInfo, hi, Builtin.lenOf, Builtin.firstCells]
        · cases h
      | some ad =>
        simp [Builtin.append_, run_underlying ht, sizeOf, typeInfo, hi, Builtin.lenOf, hcap, Builtin.firstCells, storeCells]
    | some ad =>
      rw [hvs]
      exact run_append_at (P := P) w W.heap.size t o.type e i z ht hi hz hzs v n0 xs hown ad m c news hlen
        (fun j u hj => by
          have hm : 0 < m := by
            have := (List.getElem?_eq_some_iff.1 hj).1
            rcases Nat.eq_zero_or_pos m with e | e
            · rw [e] at hlen; omega
            · exact e
          obtain ⟨hspot, hcell⟩ := hsome ad rfl hm
          obtain ⟨b, off, s⟩ := ad
          simp only at hspot; subst hspot
          rw [Addr.add_lit]; exact cell_of_hcell (hcell j u hj)) h1 h63 hbytes S.below.size (Nat.le_of_ble_eq_true hsz)
  obtain ⟨v', w', hr, h2, h3, h4⟩ := key
  obtain ⟨a', c', hv', hcc'⟩ := (Rd.of_rowZ h2).shape
  subst hv'
  have S' := S.set j (it' := .row e i.size (.slice a' (n0 + m) c') (n0 + m) (xs ++ news)) hj h3 h2 h4
  refine T_ran hcl hg hd hn (fun a ha => ?_) (hC _ S'.le) (k _ _ _ hcc' S')
  have e1 := ha.ev hx
  have e2 := ha.ev hy
  unfold execOp; rw [ho]
  simp only [resolve, Sem.run_bind, Sem.run_pure, Result.andThen_ok, invoke, builtin]
  simp [e1, e2, hr]

/-! ### Literals of slices -/

/-! ### Calls -/

theorem T_callS {o : Oper} {d : Nat} {f : FuncId} {xs : List Operand} {ts : Array TypeId} {args : List Value} (ho : o.op = .call ⟨.value (.func f), xs.toArray, ts⟩) (hxs : evs ρ xs = some args) (hf : goFn P f = true) (hcl : N.cl o = .loud) (hg : o.guard = none) (hd : o.dst = some d) (hn : Nat.ble (d + 1) n = true)
    (c : Calls P f args.toArray w (fun e w' => ∃ v, e = .returned v ∧ N.C w' ∧ T P N n ops K rest ((d, v) :: ρ) w')) : T P N n ops K (o :: rest) ρ w := by
  refine T_loud hg hcl fun a ha hc => ?_
  unfold Oper.wp
  rw [run_call ho ha hxs hf w]
  refine c.mono fun e w' ⟨v, he, hc', h⟩ => ?_
  subst he
  exact ⟨hc', _, by rw [hd]; exact ha.put hn v, h⟩

/-! ### Loads -/

/-- One cell of what stands still. -/
theorem T_loadG {o : Oper} {d : Nat} {t : TypeId} {x : Operand} {b off : Nat} {v : Value} (S : St W H G its w) (r : hcell G b off = some v) (ho : o.op = .load t x) (hx : ρ.ev x = some (.pointer (some ⟨b, off, none⟩))) (hs : scalar P t = true) (hcl : N.cl o = .read) (hg : o.guard = none) (hd : o.dst = some d) (hn : Nat.ble (d + 1) n = true)
    (k : T P N n ops K rest ((d, v) :: ρ) w) : T P N n ops K (o :: rest) ρ w := T_load ho hx hs hcl hg hd hn (S.cellG r) k
/-! ### Slices that stand still -/

theorem ndec_f {p : Prop} [Decidable p] (h : p) : (!decide p) = false := by simp [h]
theorem Rd.canon {G : Hp} {v : Value} {m m' size : Nat} {xs : List Value} (r : Rd G v m size xs) (h : m = m') : Rd G v m' size xs := by subst h; exact r
/-- Headers of rows of bytes. -/
def Rds (G : Hp) (hs : List Value) (ls : List (List UInt8)) : Prop := hs.length = ls.length ∧ ∀ (i : Nat) v l, hs[i]? = some v → ls[i]? = some l → Rd G v l.length 1 (l.map bV)
theorem Rds.nil (G : Hp) : Rds G [] [] := ⟨rfl, fun i v l h => by simp at h⟩
theorem Rds.mono {G G' : Hp} {hs : List Value} {ls : List (List UInt8)} (h : Rds G hs ls) (hl : G.le G') : Rds G' hs ls := ⟨h.1, fun i v l a b => (h.2 i v l a b).mono hl⟩
theorem Rds.cons {G : Hp} {v : Value} {l : List UInt8} {hs : List Value} {ls : List (List UInt8)} (r : Rd G v l.length 1 (l.map bV)) (h : Rds G hs ls) : Rds G (v :: hs) (l :: ls) :=
  ⟨by simp [h.1], fun i u m a b => by
    cases i with
    | zero => simp at a b; subst a; subst b; exact r
    | succ i => exact h.2 i u m (by simpa using a) (by simpa using b)⟩
theorem Rds.append {G : Hp} {hs hs' : List Value} {ls ls' : List (List UInt8)} (h : Rds G hs ls) (h' : Rds G hs' ls') : Rds G (hs ++ hs') (ls ++ ls') :=
  ⟨by simp [h.1, h'.1], fun i u m a b => by
    rw [List.getElem?_append] at a b
    rw [h.1] at a
    split at a
    · rename_i hi; rw [if_pos hi] at b; exact h.2 i u m a b
    · rename_i hi; rw [if_neg hi] at b; exact h'.2 _ u m a b⟩
/-- A row of rows of bytes that stands still. -/
def RdL (G : Hp) (v : Value) (ls : List (List UInt8)) : Prop := ∃ hs, Rd G v ls.length 1 hs ∧ Rds G hs ls
theorem RdL.mono {G G' : Hp} {v : Value} {ls : List (List UInt8)} (h : RdL G v ls) (hl : G.le G') : RdL G' v ls := by obtain ⟨hs, a, b⟩ := h; exact ⟨hs, a.mono hl, b.mono hl⟩
theorem RdL.shape {G : Hp} {v : Value} {ls : List (List UInt8)} (h : RdL G v ls) : ∃ a c, v = .slice a ls.length c ∧ ls.length ≤ c := by obtain ⟨hs, a, _⟩ := h; exact a.shape
theorem Rds.one {G : Hp} {hs : List Value} {ls : List (List UInt8)} (h : Rds G hs ls) : ∀ u ∈ hs, u.oneCell' = true := by
  intro u hu
  obtain ⟨i, hi⟩ := List.getElem?_of_mem hu
  have hlt : i < ls.length := by rw [← h.1]; exact (List.getElem?_eq_some_iff.1 hi).1
  obtain ⟨a, c, e, _⟩ := (h.2 i u _ hi (List.getElem?_eq_getElem hlt)).shape
  rw [e]; rfl

/-! Rows of numbers, of hashes. -/
abbrev iV (z : Int) : Value := .int .i64 z
def hcells (hs : List (List UInt8)) : List Value := hs.flatMap fun h => h.map bV
/-- A row of hashes (of k bytes each) that stands still. -/
def RdH (G : Hp) (v : Value) (k : Nat) (hs : List (List UInt8)) : Prop := (∀ h ∈ hs, h.length = k) ∧ Rd G v hs.length k (hcells hs)
theorem RdH.mono {G G' : Hp} {v : Value} {k : Nat} {hs : List (List UInt8)} (h : RdH G v k hs) (hl : G.le G') : RdH G' v k hs := ⟨h.1, h.2.mono hl⟩
theorem RdH.shape {G : Hp} {v : Value} {k : Nat} {hs : List (List UInt8)} (h : RdH G v k hs) : ∃ a c, v = .slice a hs.length c ∧ hs.length ≤ c := h.2.shape

/-- 's[i]', its address. -/
theorem T_idxR {o : Oper} {d : Nat} {t e : TypeId} {i : TypeInfo} {x y : Operand} {v : Value} {m size : Nat} {xs : List Value} {k0 : IntKind} {z : Int} (q : Nat) (r : Rd G v m size xs) (ho : o.op = .indexAddr t x y) (hx : ρ.ev x = some v) (hy : ρ.ev y = some (.int k0 z))
    (ht : P.underlying t = some (.slice e)) (hi : P.info? e = some i) (h1 : i.size = size) (hg : o.guard = none) (hd : o.dst = some d) (hn : Nat.ble (d + 1) n = true)
    (hz : z = (q : Int)) (hq : q < m) (k : ∀ b off, (∀ (j : Nat) u, xs[q * size + j]? = some u → hcell G b (off + j) = some u) → T P N n ops K rest ((d, .pointer (some ⟨b, off, none⟩)) :: ρ) w) : T P N n ops K (o :: rest) ρ w := by
  obtain ⟨b, off, c, hv, hc, hcell⟩ := r.get (by omega)
  subst hv
  refine T_idx ho hx hy ht hi hg hd hn (by omega) ?_
  have e : z.toNat = q := by omega
  rw [e, h1]
  refine k b (off + q * size) fun j u hu => ?_
  rw [Nat.add_assoc]
  exact hcell _ u hu
/-- 's[lo:hi]' with numbers said. -/
theorem T_sliceR {o : Oper} {d : Nat} {t e : TypeId} {i : TypeInfo} {x : Operand} {lo hi : Option Operand} {vlo vhi : Option Value} {v : Value} {n0 size : Nat} {xs : List Value} (l h : Nat) (r : Rd G v n0 size xs)
    (ho : o.op = .slice t x lo hi none) (hx : ρ.ev x = some v) (hlo : optEv ρ lo = some vlo) (hhi : optEv ρ hi = some vhi) (ht : P.underlying t = some (.slice e)) (hi' : P.info? e = some i) (hsize : i.size = size) (hg : o.guard = none) (hd : o.dst = some d) (hn : Nat.ble (d + 1) n = true)
    (hh : bound n0 vhi = some h) (hl : bound 0 vlo = some l) (h1 : l ≤ h) (h2 : h ≤ n0)
    (k : ∀ a' c', h - l ≤ c' → Rd G (.slice a' (h - l) c') (h - l) size ((xs.drop (l * size)).take ((h - l) * size)) → T P N n ops K rest ((d, .slice a' (h - l) c') :: ρ) w) : T P N n ops K (o :: rest) ρ w :=
  T_slice ho hx hlo hhi ht hi' hsize hg hd hn r hh hl h1 h2 fun a' c' r' => k a' c' (by obtain ⟨_, _, _, he, hc, _⟩ := r'; cases he; exact hc) r'

/-! ### Strings, bytes -/

end
end Go.F

namespace Go.F
open Go Go.RowKit

inductive Tree where
  | done
  | step (i : Nat) (t : Tree)
  | fork (i j : Nat) (t u : Tree)
  | fork3 (i j m : Nat) (t u v : Tree)
  | fork4 (i j m q : Nat) (t u v x : Tree)

def Tree.depth : Tree → Nat
  | .done => 0
  | .step _ t => t.depth + 1
  | .fork _ _ t u => max t.depth u.depth + 1
  | .fork3 _ _ _ t u v => max (max t.depth u.depth) v.depth + 1
  | .fork4 _ _ _ _ t u v x => max (max t.depth u.depth) (max v.depth x.depth) + 1

section
variable {P : Program} {N : Plan} {n : Nat} {ops : Array Oper} {ρ : Env} {w : World}

def freeB (N : Plan) (ops : Array Oper) (b : Array Nat) (i : Nat) (listed : Array Bool) : Bool :=
  (List.range ops.size).all fun j => Nat.beq j i || listed.getD j true || (b.getD j 0).testBit i || match ops[i]?, ops[j]? with
    | some oi, some oj => oi.apart ops oj && compat N oi oj
    | _, _ => true
def treeB (N : Plan) (ops : Array Oper) (b : Array Nat) : Tree → Array Bool → Bool
  | .done, listed => (Region.ready .any ops listed).isEmpty
  | .step i t, listed => (Region.ready .any ops listed).contains i && freeB N ops b i listed && treeB N ops b t (listed.setIfInBounds i true)
  | .fork i j t u, listed => (Region.ready .any ops listed).contains i && ((Region.ready .any ops listed).all fun k => Nat.beq k i || Nat.beq k j) && treeB N ops b t (listed.setIfInBounds i true) && treeB N ops b u (listed.setIfInBounds j true)
  | .fork3 i j m t u v, listed => (Region.ready .any ops listed).contains i && ((Region.ready .any ops listed).all fun k => Nat.beq k i || Nat.beq k j || Nat.beq k m) && treeB N ops b t (listed.setIfInBounds i true) && treeB N ops b u (listed.setIfInBounds j true) && treeB N ops b v (listed.setIfInBounds m true)
  | .fork4 i j m q t u v x, listed => (Region.ready .any ops listed).contains i && ((Region.ready .any ops listed).all fun k => Nat.beq k i || Nat.beq k j || Nat.beq k m || Nat.beq k q) && treeB N ops b t (listed.setIfInBounds i true) && treeB N ops b u (listed.setIfInBounds j true) && treeB N ops b v (listed.setIfInBounds m true) && treeB N ops b x (listed.setIfInBounds q true)
def treeB0 (N : Plan) (ops : Array Oper) (t : Tree) : Bool :=
  Region.noSelect ops && ancB ops (Region.before ops) && Nat.ble t.depth ops.size && treeB N ops (Region.before ops) t (Array.replicate ops.size false)

def TX (P : Program) (N : Plan) (ops : Array Oper) (K : Act → World → Prop) : Tree → Act → World → Prop
  | .done => K
  | .step i t => fun a w => ∃ o, ops[i]? = some o ∧ xo P N ops o (TX P N ops K t) a w
  | .fork i j t u => fun a w => (∃ o, ops[i]? = some o ∧ xo P N ops o (TX P N ops K t) a w) ∧ ∃ o, ops[j]? = some o ∧ xo P N ops o (TX P N ops K u) a w

  | .fork3 i j m t u v => fun a w => (∃ o, ops[i]? = some o ∧ xo P N ops o (TX P N ops K t) a w) ∧ (∃ o, ops[j]? = some o ∧ xo P N ops o (TX P N ops K u) a w) ∧ (∃ o, ops[m]? = some o ∧ xo P N ops o (TX P N ops K v) a w)
  | .fork4 i j m q t u v x => fun a w => (∃ o, ops[i]? = some o ∧ xo P N ops o (TX P N ops K t) a w) ∧ (∃ o, ops[j]? = some o ∧ xo P N ops o (TX P N ops K u) a w) ∧ (∃ o, ops[m]? = some o ∧ xo P N ops o (TX P N ops K v) a w) ∧ (∃ o, ops[q]? = some o ∧ xo P N ops o (TX P N ops K x) a w)

/-- The same over what is known of the slots. -/
def TT (P : Program) (N : Plan) (n : Nat) (ops : Array Oper) (K : Env → World → Prop) : Tree → Env → World → Prop
  | .done => K
  | .step i t => fun ρ w => ∃ o, ops[i]? = some o ∧ T P N n ops (TT P N n ops K t) [o] ρ w
  | .fork i j t u => fun ρ w => (∃ o, ops[i]? = some o ∧ T P N n ops (TT P N n ops K t) [o] ρ w) ∧ ∃ o, ops[j]? = some o ∧ T P N n ops (TT P N n ops K u) [o] ρ w
  | .fork3 i j m t u v => fun ρ w => (∃ o, ops[i]? = some o ∧ T P N n ops (TT P N n ops K t) [o] ρ w) ∧ (∃ o, ops[j]? = some o ∧ T P N n ops (TT P N n ops K u) [o] ρ w) ∧ (∃ o, ops[m]? = some o ∧ T P N n ops (TT P N n ops K v) [o] ρ w)
  | .fork4 i j m q t u v x => fun ρ w => (∃ o, ops[i]? = some o ∧ T P N n ops (TT P N n ops K t) [o] ρ w) ∧ (∃ o, ops[j]? = some o ∧ T P N n ops (TT P N n ops K u) [o] ρ w) ∧ (∃ o, ops[m]? = some o ∧ T P N n ops (TT P N n ops K v) [o] ρ w) ∧ (∃ o, ops[q]? = some o ∧ T P N n ops (TT P N n ops K x) [o] ρ w)

variable {K : Env → World → Prop}
end
end Go.F

namespace Go.F
open Go Go.RowKit

/-- A hash (or key) as a value. -/
abbrev hV (l : List UInt8) : Value := .agg (l.map bV).toArray
theorem Rd.len_of {G : Hp} {a : Option Addr} {m m' c size : Nat} {xs : List Value} (r : Rd G (.slice a m c) m' size xs) : m = m' := by
  obtain ⟨_, _, _, h, _⟩ := r; cases h; rfl
theorem RdL.len {G : Hp} {a : Option Addr} {m c : Nat} {ls : List (List UInt8)} (r : RdL G (.slice a m c) ls) : m = ls.length := by
  obtain ⟨hs, h, _⟩ := r; exact h.len_of
theorem RdH.len {G : Hp} {a : Option Addr} {m c k : Nat} {hs : List (List UInt8)} (r : RdH G (.slice a m c) k hs) : m = hs.length := r.2.len_of
theorem Rd.cutB {G : Hp} {v : Value} {m lo : Nat} {l : List UInt8} (r : Rd G v m 1 (((l.map bV).drop (lo * 1)).take (m * 1))) : Rd G v m 1 (((l.drop lo).take m).map bV) := by
  rw [Nat.mul_one, Nat.mul_one] at r; rw [List.map_take, List.map_drop]; exact r
theorem hcells_drop {k : Nat} : ∀ {l : List (List UInt8)} (_ : ∀ h ∈ l, h.length = k) (q : Nat), (hcells l).drop (q * k) = hcells (l.drop q)
  | [], _, q => by simp [hcells]
  | x :: l, hl, 0 => by simp
  | x :: l, hl, q + 1 => by
    have h1 : (x.map bV).length = k := by rw [List.length_map]; exact hl x (by simp)
    have ih := hcells_drop (l := l) (fun y hy => hl y (by simp [hy])) q
    simp only [hcells, List.flatMap_cons, List.drop_succ_cons] at ih ⊢
    rw [Nat.succ_mul, List.drop_append, h1]
    have e1 : q * k + k - k = q * k := by omega
    rw [e1, ih, List.drop_of_length_le (by rw [h1]; omega), List.nil_append]
theorem hcells_take {k : Nat} : ∀ {l : List (List UInt8)} (_ : ∀ h ∈ l, h.length = k) (q : Nat), (hcells l).take (q * k) = hcells (l.take q)
  | [], _, q => by simp [hcells]
  | x :: l, hl, 0 => by simp [hcells]
  | x :: l, hl, q + 1 => by
    have h1 : (x.map bV).length = k := by rw [List.length_map]; exact hl x (by simp)
    have ih := hcells_take (l := l) (fun y hy => hl y (by simp [hy])) q
    simp only [hcells, List.flatMap_cons, List.take_succ_cons] at ih ⊢
    rw [Nat.succ_mul, List.take_append, h1]
    have e1 : q * k + k - k = q * k := by omega
    rw [e1, ih, List.take_of_length_le (by rw [h1]; omega)]
theorem RdH.cut {G : Hp} {v : Value} {m lo k : Nat} {l : List (List UInt8)} (hl : ∀ h ∈ l, h.length = k) (hm : m = ((l.drop lo).take m).length) (r : Rd G v m k (((hcells l).drop (lo * k)).take (m * k))) : RdH G v k ((l.drop lo).take m) := by
  have h2 : ∀ h ∈ l.drop lo, h.length = k := fun h hh => hl h (List.mem_of_mem_drop hh)
  rw [hcells_drop hl, hcells_take h2] at r
  exact ⟨fun h hh => h2 h (List.mem_of_mem_take hh), r.canon hm⟩

theorem Rds.at {G : Hp} {hs : List Value} {ls : List (List UInt8)} (r : Rds G hs ls) (q : Nat) (h : q < ls.length) :
    ∃ a c, (ls.getD q []).length ≤ c ∧ hs[q]? = some (.slice a (ls.getD q []).length c) ∧ Rd G (.slice a (ls.getD q []).length c) (ls.getD q []).length 1 ((ls.getD q []).map bV) := by
  have hl : ls[q]? = some (ls.getD q []) := by rw [List.getD_eq_getElem?_getD, List.getElem?_eq_getElem h]; rfl
  have hq : q < hs.length := by rw [r.1]; exact h
  have hv : hs[q]? = some hs[q] := List.getElem?_eq_getElem hq
  have h1 := r.2 q _ _ hv hl
  obtain ⟨a, c, e, hc⟩ := h1.shape
  rw [e] at h1 hv
  exact ⟨a, c, hc, hv, h1⟩

section
variable {P : Program} {N : Plan} {n : Nat} {ops : Array Oper} {K : Env → World → Prop} {rest : List Oper} {ρ : Env} {w : World}

end
end Go.F
namespace Go.F
open Go Go.RowKit
section
variable {P : Program} {N : Plan} {n : Nat} {ops : Array Oper} {K : Env → World → Prop} {rest : List Oper} {ρ : Env} {w : World}

end
end Go.F

namespace Go.F
open Go Go.RowKit
theorem nilB (G : Hp) : Rd G (.slice none 0 0) 0 1 (([] : List UInt8).map bV) := Rd.nil _ _
section
variable {P : Program} {N : Plan} {n : Nat} {ops : Array Oper} {K : Env → World → Prop} {rest : List Oper} {ρ : Env} {w W : World} {H G : Hp} {its : List Item}

end
end Go.F

namespace Go.F
open Go Go.RowKit
section
variable {P : Program} {N : Plan} {n : Nat} {ops : Array Oper} {K : Env → World → Prop} {rest : List Oper} {ρ : Env} {w : World}
end
end Go.F

namespace Go.F
open Go Go.RowKit

/-- Headers of rows of hashes. -/
def RdsH (G : Hp) (hs : List Value) (ls : List (List (List UInt8))) : Prop := hs.length = ls.length ∧ ∀ (i : Nat) v l, hs[i]? = some v → ls[i]? = some l → RdH G v 32 l
theorem RdsH.nil (G : Hp) : RdsH G [] [] := ⟨rfl, fun i v l h => by simp at h⟩
theorem RdsH.mono {G G' : Hp} {hs : List Value} {ls : List (List (List UInt8))} (h : RdsH G hs ls) (hl : G.le G') : RdsH G' hs ls := ⟨h.1, fun i v l a b => (h.2 i v l a b).mono hl⟩
theorem RdsH.cons {G : Hp} {v : Value} {l : List (List UInt8)} {hs : List Value} {ls : List (List (List UInt8))} (r : RdH G v 32 l) (h : RdsH G hs ls) : RdsH G (v :: hs) (l :: ls) :=
  ⟨by simp [h.1], fun i u m a b => by
    cases i with
    | zero => simp at a b; subst a; subst b; exact r
    | succ i => exact h.2 i u m (by simpa using a) (by simpa using b)⟩
theorem RdsH.append {G : Hp} {hs hs' : List Value} {ls ls' : List (List (List UInt8))} (h : RdsH G hs ls) (h' : RdsH G hs' ls') : RdsH G (hs ++ hs') (ls ++ ls') :=
  ⟨by simp [h.1, h'.1], fun i u m a b => by
    rw [List.getElem?_append] at a b
    rw [h.1] at a
    split at a
    · rename_i hi; rw [if_pos hi] at b; exact h.2 i u m a b
    · rename_i hi; rw [if_neg hi] at b; exact h'.2 _ u m a b⟩
/-- A row of rows of hashes that stands still. -/
def RdLH (G : Hp) (v : Value) (ls : List (List (List UInt8))) : Prop := ∃ hs, Rd G v ls.length 1 hs ∧ RdsH G hs ls
theorem RdLH.mono {G G' : Hp} {v : Value} {ls : List (List (List UInt8))} (h : RdLH G v ls) (hl : G.le G') : RdLH G' v ls := by obtain ⟨hs, a, b⟩ := h; exact ⟨hs, a.mono hl, b.mono hl⟩
theorem RdLH.shape {G : Hp} {v : Value} {ls : List (List (List UInt8))} (h : RdLH G v ls) : ∃ a c, v = .slice a ls.length c ∧ ls.length ≤ c := by obtain ⟨hs, a, _⟩ := h; exact a.shape
theorem RdLH.len {G : Hp} {a : Option Addr} {m c : Nat} {ls : List (List (List UInt8))} (r : RdLH G (.slice a m c) ls) : m = ls.length := by
  obtain ⟨b, d, e, _⟩ := r.shape; cases e; rfl
theorem RdsH.one {G : Hp} {hs : List Value} {ls : List (List (List UInt8))} (h : RdsH G hs ls) : ∀ u ∈ hs, u.oneCell' = true := by
  intro u hu
  obtain ⟨i, hi⟩ := List.getElem?_of_mem hu
  have hlt : i < ls.length := by rw [← h.1]; exact (List.getElem?_eq_some_iff.1 hi).1
  obtain ⟨a, c, e, _⟩ := (h.2 i u _ hi (List.getElem?_eq_getElem hlt)).shape
  rw [e]; rfl
theorem RdsH.at {G : Hp} {hs : List Value} {ls : List (List (List UInt8))} (r : RdsH G hs ls) (q : Nat) (h : q < ls.length) :
    ∃ a c, (ls.getD q []).length ≤ c ∧ hs[q]? = some (.slice a (ls.getD q []).length c) ∧ RdH G (.slice a (ls.getD q []).length c) 32 (ls.getD q []) := by
  have hq : q < hs.length := by rw [r.1]; exact h
  have e : ls[q]? = some (ls.getD q []) := by rw [List.getD_eq_getElem?_getD, List.getElem?_eq_getElem h]; rfl
  have h1 := r.2 q _ _ (List.getElem?_eq_getElem hq) e
  obtain ⟨a, c, hv, hc⟩ := h1.shape
  rw [hv] at h1
  exact ⟨a, c, hc, by rw [List.getElem?_eq_getElem hq, hv], h1⟩
end Go.F

namespace Go.F
open Go Go.RowKit
theorem RdsH.cut {G : Hp} {hs : List Value} {ls : List (List (List UInt8))} (h : RdsH G hs ls) (lo m : Nat) : RdsH G ((hs.drop (lo * 1)).take (m * 1)) ((ls.drop lo).take m) := by
  rw [Nat.mul_one, Nat.mul_one]
  refine ⟨by simp only [List.length_take, List.length_drop, h.1], fun i v l hv hl => ?_⟩
  rw [List.getElem?_take, List.getElem?_drop] at hv hl
  split at hv
  · rename_i hi; rw [if_pos hi] at hl; exact h.2 _ v l hv hl
  · cases hv
theorem Rds.cut {G : Hp} {hs : List Value} {ls : List (List UInt8)} (h : Rds G hs ls) (lo m : Nat) : Rds G ((hs.drop (lo * 1)).take (m * 1)) ((ls.drop lo).take m) := by
  rw [Nat.mul_one, Nat.mul_one]
  refine ⟨by simp only [List.length_take, List.length_drop, h.1], fun i v l hv hl => ?_⟩
  rw [List.getElem?_take, List.getElem?_drop] at hv hl
  split at hv
  · rename_i hi; rw [if_pos hi] at hl; exact h.2 _ v l hv hl
  · cases hv
end Go.F
