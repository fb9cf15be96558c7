/- What a call knows of memory: what stands still, and what is its own. -/
import Derived.Test.YtadiakpbodlecaaDoorFCap
set_option linter.unusedVariables false
set_option linter.unusedSimpArgs false
set_option maxRecDepth 8192
namespace Go.F
open Go Go.RowKit

/-- A mark that lies on no cell. -/
def Off (fz : Nat × Nat) (size : Nat) : Prop := fz = (0, 0) ∨ size ≤ fz.1

/-- v owns n elements, the cells xs, in a row from block B on; the row's mark, if any, lies behind it (as '[]byte(s)' lays it). -/
def rowZ (w : World) (B : Nat) (e : TypeId) (size : Nat) (v : Value) (n : Nat) (xs : List Value) : Prop :=
  xs.length = n * size ∧
  ((v = .slice none 0 0 ∧ n = 0) ∨
   ∃ g cap cur fz, v = .slice (some ⟨g, 0, none⟩) n cap ∧ B ≤ g ∧ w.heap[g]? = some (.cells cur e fz) ∧ Off fz cur.size ∧ n ≤ cap ∧ cap ≤ maxLen ∧ cur.size = cap * size ∧ cur.toList.take (n * size) = xs)

section
variable {w w' : World} {B : Nat} {e : TypeId} {size : Nat} {v : Value} {n : Nat} {xs : List Value}
theorem rowZ.of (h : w.ownsRow B e size v n xs) : rowZ w B e size v n xs := by
  refine ⟨h.1, ?_⟩
  rcases h.2 with hn | ⟨g, cap, cur, hv, hb, hg, rest⟩
  · exact .inl hn
  · exact .inr ⟨g, cap, cur, (0, 0), hv, hb, hg, .inl rfl, rest⟩
theorem rowZ.nil (w : World) (B : Nat) (e : TypeId) (size : Nat) : rowZ w B e size (.slice none 0 0) 0 [] := ⟨by simp, .inl ⟨rfl, rfl⟩⟩
theorem rowZ.mono {B' : Nat} (h : rowZ w B e size v n xs) (hb : B' ≤ B) : rowZ w B' e size v n xs := by
  refine ⟨h.1, ?_⟩
  rcases h.2 with hn | ⟨g, cap, cur, fz, hv, hg, rest⟩
  · exact .inl hn
  · exact .inr ⟨g, cap, cur, fz, hv, Nat.le_trans hb hg, rest⟩
theorem rowZ.lt (h : rowZ w B e size v n xs) : ∀ k, v.ownBlock = some k → B ≤ k ∧ k < w.heap.size := by
  intro k hk
  rcases h.2 with ⟨rfl, _⟩ | ⟨g, cap, cur, fz, rfl, hb, hg, _⟩
  · cases hk
  · cases hk
    exact ⟨hb, blk_lt hg⟩
theorem rowZ.kept {row : Option Nat} (h : rowZ w B e size v n xs) (hg : w.grownBy w' row) (hne : ∀ b, v.ownBlock = some b → some b ≠ row) : rowZ w' B e size v n xs := by
  refine ⟨h.1, ?_⟩
  rcases h.2 with hn | ⟨g, cap, cur, fz, rfl, hb, hgg, rest⟩
  · exact .inl hn
  · exact .inr ⟨g, cap, cur, fz, rfl, hb, blk_step hgg hg (fun e => hne g rfl e.symm), rest⟩
theorem rowZ.len (h : rowZ w B e size v n xs) : xs.length = n * size := h.1
theorem Rd.of_rowZ_in {G : Hp} (h : rowZ w B e size v n xs) (hG : ∀ b, v.ownBlock = some b → G b = w.heap[b]?) : Rd G v n size xs := by
  refine ⟨h.1, ?_⟩
  rcases h.2 with ⟨rfl, rfl⟩ | ⟨g, cap, cur, fz, rfl, hb, hg, _, hc, _, _, htake⟩
  · exact ⟨none, 0, rfl, Nat.le_refl _, fun _ => ⟨rfl, rfl⟩, fun _ e => by cases e⟩
  · refine ⟨_, cap, rfl, hc, (fun e => by cases e), fun ad e _ => ?_⟩
    cases e
    refine ⟨rfl, fun i u hi => ?_⟩
    unfold hcell
    rw [hG g rfl, hg]
    rw [← htake, List.getElem?_take] at hi
    split at hi
    · simpa using hi
    · cases hi
theorem Rd.of_rowZ (h : rowZ w B e size v n xs) : Rd (hw w) v n size xs := Rd.of_rowZ_in h fun _ _ => rfl
theorem rowZ.cells (h : rowZ w B e size v n xs) {g : Nat} (hg : v.ownBlock = some g) : ∀ j u, xs[j]? = some u → w.cell? ((⟨g, 0, none⟩ : Addr).add j) = some u := by
  intro j u hu
  rcases h.2 with ⟨rfl, _⟩ | ⟨g', cap, cur, fz, rfl, _, hgg, _, _, _, _, htake⟩
  · cases hg
  · cases hg
    rw [Addr.add_lit]
    refine cell_of_hcell ?_
    rw [hcell_blk hgg]
    rw [← htake, List.getElem?_take] at hu
    split at hu
    · simpa using hu
    · cases hu
end

theorem run_storeCells_atZ (P : Program) (g o : Nat) (t : TypeId) (fz : Nat × Nat) : ∀ (vs : List Value) (i : Nat) (cur : Array Value) (w : World), w.heap[g]? = some (.cells cur t fz) → Off fz cur.size → o + i + vs.length ≤ cur.size → (∀ v ∈ vs, v.oneCell' = true) →
    (storeCells ⟨g, o, none⟩ vs i).run P w = .ok () (w.setRow g (cur.toList.take (o + i) ++ vs ++ cur.toList.drop (o + i + vs.length)).toArray)
  | [], i, cur, w, hg, _, _, _ => by
    simp only [storeCells, List.append_nil, List.length_nil, Nat.add_zero, List.take_append_drop, Array.toArray_toList]
    rw [setRow_self w g cur t fz hg]
    rfl
  | v :: rest, i, cur, w, hg, hfz, hl, h1 => by
    have hi : o + i < cur.size := by simp at hl; omega
    have hcell : w.cell? ⟨g, o + i, none⟩ = some cur[o + i] := by simp [World.cell?, hg, hi]
    have hfro : w.frozen? ⟨g, o + i, none⟩ = false := by
      obtain ⟨lo, hi'⟩ := fz
      simp only [World.frozen?, hg, Bool.and_eq_false_iff, decide_eq_false_iff_not]
      rcases hfz with h | h
      · cases h; right; omega
      · left; simp only at h; omega
    have hst : (store ((⟨g, o, none⟩ : Addr).add i) v).run P w = .ok () (w.setRow g (cur.setIfInBounds (o + i) v)) := by
      rw [Addr.add_lit, run_store P w _ v _ (h1 v (by simp)), hcell]
      simp [hfro, setCell_eq_setRow w g (o + i) cur t fz v hg]
    have ih := run_storeCells_atZ P g o t fz rest (i + 1) (cur.setIfInBounds (o + i) v) (w.setRow g (cur.setIfInBounds (o + i) v)) (setRow_heap w g cur _ t _ hg) (by simpa using hfz) (by simp at hl ⊢; omega) (fun x hx => h1 x (by simp [hx]))
    simp only [storeCells, Sem.run_bind, hst, Result.andThen_ok, ih, setRow_setRow]
    congr 3
    have e := list_seg_step cur.toList (o + i) v rest (by simp at hl ⊢; omega)
    simpa [Array.toList_setIfInBounds, Nat.add_assoc] using e

/-! ### append, where the new row lies -/
section
variable {P : Program}
theorem run_append_at (w : World) (base : Nat) (t ty e : TypeId) (i : TypeInfo) (z : Value) (ht : P.underlying t = some (.slice e)) (hi : P.info? e = some i) (hz : i.zero = some z) (hzs : z.cells.size = i.size)
    (v : Value) (n : Nat) (xs : List Value) (hown : rowZ w base e i.size v n xs) (a : Addr) (m c : Nat) (news : List Value) (hl : news.length = m * i.size) (hnews : ∀ j u, news[j]? = some u → w.cell? (a.add j) = some u) (h1 : ∀ u ∈ news, u.oneCell' = true)
    (h63 : n + m ≤ maxLen) (hbytes : (n + m) * i.bytes ≤ 140737488355328) (hbase : base ≤ w.heap.size) (hsz : 0 < i.size) :
    ∃ v' w', (Builtin.append_ #[t, t] ty #[v, .slice (some a) m c]).run P w = .ok v' w' ∧ rowZ w' base e i.size v' (n + m) (xs ++ news) ∧ w.grownBy w' v.ownBlock ∧ ∀ b, v'.ownBlock = some b → v.ownBlock = some b ∨ w.heap.size ≤ b := by
  have hsmall : n + m ≤ 9223372036854775807 := by simp only [maxLen] at h63; omega
  have hlen : (xs ++ news).length = (n + m) * i.size := by rw [List.length_append, hown.1, hl, Nat.add_mul]
  rcases hown.2 with ⟨rfl, rfl⟩ | ⟨g, cap, cur, fz, rfl, hbg, hg, hfz, hnc, hcm, hcs, htake⟩
  · have hx : xs = [] := List.eq_nil_of_length_eq_zero (by simpa using hown.1)
    subst hx
    obtain ⟨v', w', hr, h2, h3, _⟩ := run_append_own (P := P) w w.heap.size t ty e i z i.size i.bytes ht hi hz rfl rfl hzs hsz _ 0 [] (World.ownsRow_nil _ _ _ _) a m c news hl hnews h1 h63 hbytes (Nat.le_refl _)
    exact ⟨v', w', hr, (rowZ.of h2).mono hbase, h3, fun b hb => .inr (World.ownsRow.lt h2 b hb).1⟩
  · by_cases hroom : n + m ≤ cap
    · have hfit : n * i.size + news.length ≤ cur.size := by rw [hl, hcs, ← Nat.add_mul]; exact Nat.mul_le_mul_right _ hroom
      have hf := run_firstCells_some (P := P) w i.size m a m c news hl hnews
      have hst := run_storeCells_atZ P g (n * i.size) e fz news 0 cur w hg hfz (by simpa using hfit) h1
      simp only [Nat.add_zero] at hst
      have hr : (Builtin.append_ #[t, t] ty #[.slice (some ⟨g, 0, none⟩) n cap, .slice (some a) m c]).run P w =
          .ok (.slice (some ⟨g, 0, none⟩) (n + m) cap) (w.setRow g (cur.toList.take (n * i.size) ++ news ++ cur.toList.drop (n * i.size + news.length)).toArray) := by
        simp [Builtin.append_, run_underlying ht, sizeOf, typeInfo, hi, Builtin.lenOf, hroom, hf, Addr.add_lit, hst]
      have hsize : (cur.toList.take (n * i.size) ++ news ++ cur.toList.drop (n * i.size + news.length)).toArray.size = cur.size := by
        simp only [List.size_toArray, List.length_append, List.length_take, List.length_drop, Array.length_toList]
        omega
      refine ⟨_, _, hr, ⟨hlen, .inr ⟨g, cap, _, fz, rfl, hbg, setRow_heap w g cur _ e _ hg, by rw [hsize]; exact hfz, hroom, hcm, by rw [hsize]; exact hcs, ?_⟩⟩, ⟨rfl, rfl, rfl, by simp, fun k _ hk => setRow_other w g k _ (fun e => hk (by simp [Value.ownBlock, e]))⟩, fun b hb => .inl hb⟩
      rw [htake, ← hlen]
      exact List.take_left
    · have hr := run_append_grow (P := P) w t ty e i z ht hi hz ⟨g, 0, none⟩ n cap xs hown.1 (hown.cells (g := g) rfl) a m c news hl hnews (by omega) (by omega) (growslice_fits (by omega) hbytes)
      have hge := grownCap_ge w (n + m) cap e
      have hcm2 : grownCap w (n + m) cap e ≤ maxLen := grownCap_le_maxLen w (n + m) cap e h63
      refine ⟨_, _, hr, ⟨hlen, .inr ⟨w.heap.size, _, _, (0, 0), rfl, hbase, heap_alloc_new w.drew _, .inl rfl, hge, hcm2, ?_, ?_⟩⟩, undrew (World.grownBy_alloc w.drew _ _), fun b hb => .inr ?_⟩
      · simp only [Array.size_append, List.size_toArray, size_zeroCells, hzs, hown.1, hl, ← Nat.add_mul]
        congr 1
        omega
      · simp only [Array.toList_append, List.append_assoc]
        rw [← List.append_assoc, ← hlen]
        exact List.take_left
      · simp only [Value.ownBlock, Option.some.injEq] at hb
        omega
end

/-- A thing of the call's own: a block whose cells are told, or a row that grows. -/
inductive Item where
  | blk (b : Nat) (c : Array Value) (t : TypeId)
  | row (e : TypeId) (size : Nat) (v : Value) (n : Nat) (xs : List Value)

def Item.spot : Item → Option Nat
  | .blk b _ _ => some b
  | .row _ _ v _ _ => v.ownBlock

def Item.ok (w : World) (B : Nat) : Item → Prop
  | .blk b c t => w.heap[b]? = some (.cells c t (0, 0)) ∧ B ≤ b
  | .row e size v n xs => rowZ w B e size v n xs

theorem Item.lt {w : World} {B : Nat} : ∀ {it : Item}, it.ok w B → ∀ b, it.spot = some b → B ≤ b ∧ b < w.heap.size
  | .blk _ _ _, ⟨h, hb⟩, _, e => by cases e; exact ⟨hb, blk_lt h⟩
  | .row _ _ _ _ _, h, b, e => rowZ.lt h b e

theorem Item.kept {w w' : World} {B : Nat} {row : Option Nat} (hg : w.grownBy w' row) : ∀ {it : Item}, it.ok w B → (∀ b, it.spot = some b → some b ≠ row) → it.ok w' B
  | .blk b _ _, ⟨h, hb⟩, hn => ⟨blk_step h hg (fun e => hn b rfl e.symm), hb⟩
  | .row _ _ _ _ _, h, hn => rowZ.kept h hg hn

/-- W: where the call began; H: what it was given to read; G: what stands still now; its: what is its own. -/
structure St (W : World) (H G : Hp) (its : List Item) (w : World) : Prop where
  below : Below W.heap.size W w
  le : G.le (hw w)
  sup : H.le G
  old : ∀ k o, G k = some o → k < W.heap.size → H k = some o
  ok : ∀ (i : Nat) (x : Item), its[i]? = some x → x.ok w W.heap.size
  free : ∀ (i : Nat) (x : Item), its[i]? = some x → ∀ b, x.spot = some b → G b = none
  apart : ∀ (i j : Nat) (x y : Item), its[i]? = some x → its[j]? = some y → i ≠ j → ∀ b, x.spot = some b → y.spot = some b → False

def ext (H : Hp) (B : Nat) (w : World) : Hp := fun k => if B ≤ k then w.heap[k]? else H k

section
variable {W w w' : World} {H G : Hp} {its : List Item}

theorem St.start {H : Hp} (w : World) (hH : H.le (hw w)) : St w H H [] w :=
  ⟨below_refl w, hH, Hp.le.refl _, fun _ _ h _ => h, fun i x h => (by simp at h), fun i x h => (by simp at h), fun i j x y h => (by simp at h)⟩

theorem St.lt (S : St W H G its w) {k : Nat} {o : Obj} (h : G k = some o) : k < w.heap.size := by
  have := S.le k o h
  exact (Array.getElem?_eq_some_iff.1 this).1
theorem St.none_of (S : St W H G its w) {k : Nat} (h : w.heap.size ≤ k) : G k = none := by
  cases e : G k with
  | none => rfl
  | some o => have := S.lt e; omega

theorem St.grow0 (S : St W H G its w) (hg : w.grownBy w' none) : St W H G its w' :=
  ⟨S.below.step0 hg, S.le.trans (hw_le_none hg), S.sup, S.old, fun i x h => Item.kept hg (S.ok i x h) (by simp), S.free, S.apart⟩
theorem St.call (S : St W H G its w) (hB : Below w.heap.size w w') : St W H G its w' := S.grow0 (grown_of_below hB none)
theorem St.drew (S : St W H G its w) : St W H G its w.drew := S.grow0 ⟨rfl, rfl, rfl, Nat.le_refl _, fun _ _ _ => rfl⟩

theorem St.cons (S : St W H G its w) (it : Item) (hok : it.ok w W.heap.size) (hn : ∀ b, it.spot = some b → G b = none ∧ ∀ (i : Nat) (y : Item), its[i]? = some y → y.spot ≠ some b) : St W H G (it :: its) w where
  below := S.below
  le := S.le
  sup := S.sup
  old := S.old
  ok := fun i x h => by
    cases i with
    | zero => simp at h; subst h; exact hok
    | succ i => exact S.ok i x (by simpa using h)
  free := fun i x h b hb => by
    cases i with
    | zero => simp at h; subst h; exact (hn b hb).1
    | succ i => exact S.free i x (by simpa using h) b hb
  apart := fun i j x y hi hj hij b hx hy => by
    cases i with
    | zero =>
      cases j with
      | zero => exact hij rfl
      | succ j => simp at hi; subst hi; exact (hn b hx).2 j y (by simpa using hj) hy
    | succ i =>
      cases j with
      | zero => simp at hj; subst hj; exact (hn b hy).2 i x (by simpa using hi) hx
      | succ j => exact S.apart i j x y (by simpa using hi) (by simpa using hj) (fun e => hij (by rw [e])) b hx hy

theorem St.set (S : St W H G its w) (i : Nat) {it it' : Item} (hi : its[i]? = some it) (hg : w.grownBy w' it.spot) (hok : it'.ok w' W.heap.size) (hsp : ∀ b, it'.spot = some b → it.spot = some b ∨ w.heap.size ≤ b) : St W H G (its.set i it') w' := by
  have hlt : i < its.length := (List.getElem?_eq_some_iff.1 hi).1
  have key : ∀ (j : Nat) (x : Item), (its.set i it')[j]? = some x → (j = i ∧ x = it') ∨ (j ≠ i ∧ its[j]? = some x) := fun j x h => by
    rw [List.getElem?_set] at h
    by_cases e : i = j
    · subst e; rw [if_pos rfl, if_pos hlt] at h; exact .inl ⟨rfl, (Option.some.inj h).symm⟩
    · rw [if_neg e] at h; exact .inr ⟨fun e' => e e'.symm, h⟩
  refine ⟨S.below.step hg (fun g e => (Item.lt (S.ok i it hi) g e).1), fun k o e => ?_, S.sup, S.old, fun j x h => ?_, fun j x h b hb => ?_, fun j l x y hj hl hjl b hx hy => ?_⟩
  · have h1 := S.le k o e
    have h2 := hg.block k (S.lt e) (fun e' => by rw [S.free i it hi k e'.symm] at e; cases e)
    exact h2.trans h1
  · rcases key j x h with ⟨rfl, rfl⟩ | ⟨hj, h⟩
    · exact hok
    · exact Item.kept hg (S.ok j x h) (fun b hb e => S.apart j i x it h hi hj b hb e.symm)
  · rcases key j x h with ⟨rfl, rfl⟩ | ⟨hj, h⟩
    · rcases hsp b hb with h1 | h1
      · exact S.free j it hi b h1
      · exact S.none_of h1
    · exact S.free j x h b hb
  · rcases key j x hj with ⟨e1, e2⟩ | ⟨hj', hj2⟩ <;> rcases key l y hl with ⟨e3, e4⟩ | ⟨hl', hl2⟩
    · exact hjl (e1.trans e3.symm)
    · subst e1; subst e2
      rcases hsp b hx with h1 | h1
      · exact S.apart _ _ _ _ hi hl2 hjl b h1 hy
      · have := (Item.lt (S.ok l y hl2) b hy).2; omega
    · subst e3; subst e4
      rcases hsp b hy with h1 | h1
      · exact S.apart _ _ _ _ hj2 hi hjl b hx h1
      · have := (Item.lt (S.ok j x hj2) b hx).2; omega
    · exact S.apart _ _ _ _ hj2 hl2 hjl b hx hy

theorem getElem?_erase {α : Type} (l : List α) (i j : Nat) : (l.eraseIdx i)[j]? = if j < i then l[j]? else l[j + 1]? := List.getElem?_eraseIdx

/-- What is the call's own stands still from here on. -/
theorem St.still (S : St W H G its w) (i : Nat) {it : Item} (hi : its[i]? = some it) :
    ∃ G', G.le G' ∧ St W H G' (its.eraseIdx i) w ∧ ∀ b, it.spot = some b → G' b = w.heap[b]? := by
  have key : ∀ (j : Nat) (x : Item), (its.eraseIdx i)[j]? = some x → ∃ j', its[j']? = some x ∧ j' ≠ i ∧ j' = (if j < i then j else j + 1) := fun j x h => by
    rw [getElem?_erase] at h
    split at h
    · exact ⟨j, h, by omega, by simp_all⟩
    · exact ⟨j + 1, h, by omega, by simp_all⟩
  refine ⟨fun k => if it.spot = some k then w.heap[k]? else G k, fun k o e => ?_, ⟨S.below, fun k o e => ?_, fun k o e => ?_, fun k o e hk => ?_, fun j x h => ?_, fun j x h b hb => ?_, fun j l x y hj hl hjl b hx hy => ?_⟩, fun b hb => by simp [hb]⟩
  · have : it.spot ≠ some k := fun e' => by rw [S.free i it hi k e'] at e; cases e
    show (if _ then _ else _) = _; rw [if_neg this]; exact e
  · split at e
    · exact e
    · exact S.le k o e
  · have h1 := S.sup k o e
    have : it.spot ≠ some k := fun e' => by rw [S.free i it hi k e'] at h1; cases h1
    show (if _ then _ else _) = _; rw [if_neg this]; exact h1
  · split at e
    · rename_i e'; have := (Item.lt (S.ok i it hi) k e').1; omega
    · exact S.old k o e hk
  · obtain ⟨j', h', _⟩ := key j x h; exact S.ok j' x h'
  · obtain ⟨j', h', hne, _⟩ := key j x h
    have : it.spot ≠ some b := fun e' => S.apart j' i x it h' hi hne b hb e'
    show (if _ then _ else _) = _; rw [if_neg this]; exact S.free j' x h' b hb
  · obtain ⟨j', h1, _, e1⟩ := key j x hj
    obtain ⟨l', h2, _, e2⟩ := key l y hl
    exact S.apart j' l' x y h1 h2 (by subst e1; subst e2; split <;> split <;> omega) b hx hy

theorem St.stillRow (S : St W H G its w) (i : Nat) {e : TypeId} {size : Nat} {v : Value} {n : Nat} {xs : List Value} (hi : its[i]? = some (.row e size v n xs)) :
    ∃ G', G.le G' ∧ St W H G' (its.eraseIdx i) w ∧ Rd G' v n size xs := by
  obtain ⟨G', h1, h2, h3⟩ := S.still i hi
  exact ⟨G', h1, h2, Rd.of_rowZ_in (S.ok i _ hi) h3⟩
theorem St.stillBlk (S : St W H G its w) (i : Nat) {b : Nat} {c : Array Value} {t : TypeId} (hi : its[i]? = some (.blk b c t)) :
    ∃ G', G.le G' ∧ St W H G' (its.eraseIdx i) w ∧ G' b = some (.cells c t (0, 0)) := by
  obtain ⟨G', h1, h2, h3⟩ := S.still i hi
  exact ⟨G', h1, h2, (h3 b rfl).trans (S.ok i _ hi).1⟩
theorem St.drop (S : St W H G its w) (i : Nat) : St W H G (its.eraseIdx i) w := by
  have key : ∀ (j : Nat) (x : Item), (its.eraseIdx i)[j]? = some x → ∃ j', its[j']? = some x ∧ j' = (if j < i then j else j + 1) := fun j x h => by
    rw [getElem?_erase] at h
    split at h
    · exact ⟨j, h, by simp_all⟩
    · exact ⟨j + 1, h, by simp_all⟩
  refine ⟨S.below, S.le, S.sup, S.old, fun j x h => ?_, fun j x h b hb => ?_, fun j l x y hj hl hjl b hx hy => ?_⟩
  · obtain ⟨j', h', _⟩ := key j x h; exact S.ok j' x h'
  · obtain ⟨j', h', _⟩ := key j x h; exact S.free j' x h' b hb
  · obtain ⟨j', h1, e1⟩ := key j x hj
    obtain ⟨l', h2, e2⟩ := key l y hl
    exact S.apart j' l' x y h1 h2 (by subst e1; subst e2; split <;> split <;> omega) b hx hy

/-- Its end: what stands still is what it was given, or new. -/
theorem St.fin (S : St W H G its w) : G.le (ext H W.heap.size w) := fun k o e => by
  unfold ext
  split
  · exact S.le k o e
  · exact S.old k o e (by omega)

theorem St.ext (S : St W H G its w) (hB : Below w.heap.size w w') : G.le (ext G w.heap.size w') ∧ St W H (F.ext G w.heap.size w') its w' := by
  have hle : G.le (F.ext G w.heap.size w') := fun k o e => by
    have := S.lt e
    unfold F.ext
    rw [if_neg (by omega)]; exact e
  have S' := S.call hB
  refine ⟨hle, S'.below, fun k o e => ?_, S.sup.trans hle, fun k o e hk => ?_, S'.ok, fun i x h b hb => ?_, S.apart⟩
  · unfold F.ext at e
    split at e
    · exact e
    · exact S'.le k o e
  · unfold F.ext at e
    have := S.below.size
    rw [if_neg (by omega)] at e
    exact S.old k o e hk
  · have := (Item.lt (S.ok i x h) b hb).2
    unfold F.ext
    rw [if_neg (by omega)]
    exact S.free i x h b hb

/-- A row that a call made is the caller's own. -/
theorem St.own (S : St W H G its w) (hB : Below w.heap.size w w') {e : TypeId} {size : Nat} {v : Value} {n : Nat} {xs : List Value} (ho : rowZ w' w.heap.size e size v n xs) : St W H G (.row e size v n xs :: its) w' :=
  (S.call hB).cons _ (rowZ.mono ho S.below.size) fun b hb => by
    have h := (rowZ.lt ho b hb).1
    exact ⟨S.none_of h, fun i y hy e => by have := (Item.lt (S.ok i y hy) b e).2; omega⟩
/-- .. or stands still. -/
theorem St.fresh (S : St W H G its w) (hB : Below w.heap.size w w') {e : TypeId} {size : Nat} {v : Value} {n : Nat} {xs : List Value} (ho : rowZ w' w.heap.size e size v n xs) : G.le (F.ext G w.heap.size w') ∧ St W H (F.ext G w.heap.size w') its w' ∧ Rd (F.ext G w.heap.size w') v n size xs :=
  ⟨(S.ext hB).1, (S.ext hB).2, Rd.of_rowZ_in ho fun b hb => by unfold F.ext; rw [if_pos (rowZ.lt ho b hb).1]⟩
theorem Rd.of_own_ext {W w : World} {H : Hp} {e : TypeId} {size : Nat} {v : Value} {n : Nat} {xs : List Value} (ho : rowZ w W.heap.size e size v n xs) : Rd (F.ext H W.heap.size w) v n size xs :=
  Rd.of_rowZ_in ho fun b hb => by unfold F.ext; rw [if_pos (rowZ.lt ho b hb).1]

theorem St.nilRow (S : St W H G its w) (e : TypeId) (size : Nat) : St W H G (.row e size (.slice none 0 0) 0 [] :: its) w :=
  S.cons _ (rowZ.nil _ _ _ _) fun b hb => by cases hb
theorem St.new (S : St W H G its w) (hg : w.grownBy w' none) {b : Nat} {c : Array Value} {t : TypeId} (hb : b = w.heap.size) (hc : w'.heap[b]? = some (.cells c t (0, 0))) : St W H G (.blk b c t :: its) w' := by
  subst hb
  refine (S.grow0 hg).cons _ ⟨hc, S.below.size⟩ fun b hb => ?_
  cases hb
  exact ⟨S.none_of (Nat.le_refl _), fun i y hy e => by have := (Item.lt (S.ok i y hy) _ e).2; omega⟩
/-- A block as a row. -/
theorem St.toRow (S : St W H G its w) (i : Nat) {b : Nat} {c : Array Value} {t : TypeId} {size m : Nat} {xs : List Value} (hi : its[i]? = some (.blk b c t)) (hc : c.toList = xs) (hl : xs.length = m * size) (hm : m ≤ maxLen) : St W H G (its.set i (.row t size (.slice (some ⟨b, 0, none⟩) m m) m xs)) w :=
  S.set i hi (gb_refl _ _) (rowZ.of (owns_of_block (S.ok i _ hi).1 (S.ok i _ hi).2 hm hc hl)) (fun b' hb' => .inl hb')

theorem St.row (S : St W H G its w) (i : Nat) {e : TypeId} {size : Nat} {v : Value} {n : Nat} {xs : List Value} (hi : its[i]? = some (.row e size v n xs)) : rowZ w W.heap.size e size v n xs := S.ok i _ hi
theorem St.rd (S : St W H G its w) (i : Nat) {e : TypeId} {size : Nat} {v : Value} {n : Nat} {xs : List Value} (hi : its[i]? = some (.row e size v n xs)) : Rd (hw w) v n size xs := Rd.of_rowZ (S.row i hi)
theorem St.shape (S : St W H G its w) (i : Nat) {e : TypeId} {size : Nat} {v : Value} {n : Nat} {xs : List Value} (hi : its[i]? = some (.row e size v n xs)) : ∃ a c, v = .slice a n c := by
  obtain ⟨a, c, h, _⟩ := (S.rd i hi).shape; exact ⟨a, c, h⟩
theorem St.blk (S : St W H G its w) (i : Nat) {b : Nat} {c : Array Value} {t : TypeId} (hi : its[i]? = some (.blk b c t)) : w.heap[b]? = some (.cells c t (0, 0)) := (S.ok i _ hi).1
theorem St.cell (S : St W H G its w) (i : Nat) {b : Nat} {c : Array Value} {t : TypeId} (hi : its[i]? = some (.blk b c t)) {off j : Nat} {v : Value} (hv : c[j]? = some v) (he : off = j) : w.cell? ⟨b, off, none⟩ = some v := by
  subst he
  exact cell_of_hcell (by rw [hcell_blk (S.blk i hi)]; exact hv)
theorem St.cells (S : St W H G its w) (i : Nat) {b : Nat} {c : Array Value} {t : TypeId} (hi : its[i]? = some (.blk b c t)) : ∀ (j : Nat) (v : Value), c[j]? = some v → w.cell? ⟨b, 0 + j, none⟩ = some v := blk_cells (S.blk i hi)
theorem St.cellG (S : St W H G its w) {b off : Nat} {v : Value} (h : hcell G b off = some v) : w.cell? ⟨b, off, none⟩ = some v := cell_of_hcell (hcell_mono S.le h)
end


end Go.F
