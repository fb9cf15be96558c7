/- General lemmas for walking the code, or plain mathematics. -/
import Derived.Test.YtfcejolipdcoaaaGreatDoorFBase
import Derived.Laws.BytesString
import Derived.Laws.IdiomStrings
import Derived.Laws.Strings
import Derived.Laws.Small
import Derived.Laws.Cover3
set_option linter.unusedVariables false
set_option linter.unusedSimpArgs false
set_option maxRecDepth 8192
namespace Go.F
open Go Go.RowKit
section
variable {P : Program} {N : Plan} {n : Nat} {ops : Array Oper} {K : Env → World → Prop} {rest : List Oper} {ρ : Env} {w : World}

end
end Go.F

namespace Go.F
open Go Go.RowKit
section
variable {P : Program} {N : Plan} {n : Nat} {ops : Array Oper} {K : Env → World → Prop} {rest : List Oper} {ρ : Env} {w : World}

def str (l : List UInt8) : Value := .string ⟨l.toArray⟩

theorem run_conv_rd {s t e : TypeId} (hs : P.underlying s = some (.slice e)) (he : P.underlying e = some (.int .u8)) (ht : P.underlying t = some .string) {v : Value} {l : List UInt8} {u : World} (r : Rd (hw u) v l.length 1 (l.map bV)) :
    (convert s t v).run P u = .ok (str l) u := by
  have key : (Conv.bytesToString v).run P u = .ok (str l) u := by
    obtain ⟨_, a, c, rfl, _, hnone, hsome⟩ := r
    cases a with
    | none =>
      obtain ⟨h0, rfl⟩ := hnone rfl
      have hl : l = [] := List.eq_nil_of_length_eq_zero h0
      subst hl
      rfl
    | some ad =>
      have hload : (loadCells ad l.length).run P u = .ok ((l.map fun b => (b.toNat : Int)).map (Value.int .u8)).toArray u := by
        have := run_loadCells_list (P := P) u ad (l.map bV) (fun j v hj => by
          have hp : 0 < l.length := by
            have h := (List.getElem?_eq_some_iff.1 hj).1
            rw [List.length_map] at h
            omega
          obtain ⟨hspot, hcell⟩ := hsome ad rfl hp
          obtain ⟨b, off, sp⟩ := ad
          simp only at hspot; subst hspot
          rw [Addr.add_lit]
          exact cell_of_hcell (hcell j v hj))
        rw [List.length_map] at this
        rw [this, List.map_map]
        rfl
      rw [run_bytesToString u ad l.length c _ hload, foldl_push_byteCells]
      unfold str
      have e : ByteArray.empty.data ++ l.toArray = l.toArray := by
        show (#[] : Array UInt8) ++ l.toArray = l.toArray
        simp
      rw [e]
  unfold convert
  obtain ⟨_, a, c, rfl, _⟩ := r
  simp only [Sem.run_bind, run_underlying hs, run_underlying ht, run_underlying he, Result.andThen_ok]
  exact key

theorem T_conv {o : Oper} {d : Nat} {s t e : TypeId} {x : Operand} {v : Value} {l : List UInt8} (ho : o.op = .convert s t x) (hx : ρ.ev x = some v) (hs : P.underlying s = some (.slice e)) (he : P.underlying e = some (.int .u8)) (ht : P.underlying t = some .string) (hcl : N.cl o = .read) (hg : o.guard = none) (hd : o.dst = some d) (hn : Nat.ble (d + 1) n = true)
    (r : Rd (hw w) v l.length 1 (l.map bV)) (k : T P N n ops K rest ((d, str l) :: ρ) w) : T P N n ops K (o :: rest) ρ w :=
  fun a ha hc => xo_read (v := str l) (wanted_none hg _) hc (by rw [hcl]; simp) (by
    have h1 := ha.ev hx
    unfold execOp; rw [ho]; simp only [h1]
    simp [run_conv_rd hs he ht r]) ⟨(d, str l) :: ρ, by rw [hd]; exact ha.put hn _, k⟩
theorem str_beq (l m : List UInt8) : ((⟨l.toArray⟩ : ByteArray).toList == (⟨m.toArray⟩ : ByteArray).toList) = decide (l = m) := by
  rw [ByteArray.toList_mk, ByteArray.toList_mk]
  by_cases h : l = m
  · simp [h]
  · simp [h]

theorem T_streq {o : Oper} {d : Nat} {t t' : TypeId} {x y : Operand} {l m : List UInt8} (ho : o.op = .binOp .eql t x y t') (hx : ρ.ev x = some (str l)) (hy : ρ.ev y = some (str m)) (hg : o.guard = none) (hd : o.dst = some d) (hn : Nat.ble (d + 1) n = true)
    (k : T P N n ops K rest ((d, .bool (decide (l = m))) :: ρ) w) : T P N n ops K (o :: rest) ρ w :=
  T_val hg hd hn (fun a ha u => by
    have e1 := ha.ev hx
    have e2 := ha.ev hy
    unfold execOp; rw [ho]; simp only [e1, e2, str]
    simp only [eqGuard, binOp, Op.stringOp, str_beq]
    simp) k
theorem T_strne {o : Oper} {d : Nat} {t t' : TypeId} {x y : Operand} {l m : List UInt8} (ho : o.op = .binOp .neq t x y t') (hx : ρ.ev x = some (str l)) (hy : ρ.ev y = some (str m)) (hg : o.guard = none) (hd : o.dst = some d) (hn : Nat.ble (d + 1) n = true)
    (k : T P N n ops K rest ((d, .bool (!decide (l = m))) :: ρ) w) : T P N n ops K (o :: rest) ρ w :=
  T_val hg hd hn (fun a ha u => by
    have e1 := ha.ev hx
    have e2 := ha.ev hy
    unfold execOp; rw [ho]; simp only [e1, e2, str]
    simp only [eqGuard, binOp, Op.stringOp, str_beq]
    simp) k

end
end Go.F

namespace Go.F
open Go Go.RowKit
section
variable {P : Program} {N : Plan} {n : Nat} {ops : Array Oper} {K : Env → World → Prop} {rest : List Oper} {ρ : Env} {w : World}

end
end Go.F

namespace Go.F
open Go Go.RowKit

def Off (fz : Nat × Nat) (size : Nat) : Prop := fz = (0, 0) ∨ size ≤ fz.1

def rowZ (w : World) (B : Nat) (e : TypeId) (size : Nat) (v : Value) (n : Nat) (xs : List Value) : Prop :=
  xs.length = n * size ∧
  ((v = .slice none 0 0 ∧ n = 0) ∨
   ∃ g cap cur fz, v = .slice (some ⟨g, 0, none⟩) n cap ∧ B ≤ g ∧ w.heap[g]? = some (.cells cur e fz) ∧ Off fz cur.size ∧ n ≤ cap ∧ cap ≤ maxLen ∧ cur.size = cap * size ∧ cur.toList.take (n * size) = xs)

section
variable {w w' : World} {B : Nat} {e : TypeId} {size : Nat} {v : Value} {n : Nat} {xs : List Value}
theorem rowZ.of (h : w.ownsRow B e size v n xs) : rowZ w B e size v n xs := by
  refine ⟨h.1, ?_⟩
  rcases h.2 with hn | ⟨g, cap, cur, hv, hb, hg, rest⟩
  · exact .inl hn
  · exact .inr ⟨g, cap, cur, (0, 0), hv, hb, hg, .inl rfl, rest⟩
theorem rowZ.nil (w : World) (B : Nat) (e : TypeId) (size : Nat) : rowZ w B e size (.slice none 0 0) 0 [] := ⟨by simp, .inl ⟨rfl, rfl⟩⟩
theorem rowZ.mono {B' : Nat} (h : rowZ w B e size v n xs) (hb : B' ≤ B) : rowZ w B' e size v n xs := by
  refine ⟨h.1, ?_⟩
  rcases h.2 with hn | ⟨g, cap, cur, fz, hv, hg, rest⟩
  · exact .inl hn
  · exact .inr ⟨g, cap, cur, fz, hv, Nat.le_trans hb hg, rest⟩
theorem rowZ.lt (h : rowZ w B e size v n xs) : ∀ k, v.ownBlock = some k → B ≤ k ∧ k < w.heap.size := by
  intro k hk
  rcases h.2 with ⟨rfl, _⟩ | ⟨g, cap, cur, fz, rfl, hb, hg, _⟩
  · cases hk
  · cases hk
    exact ⟨hb, blk_lt hg⟩
theorem rowZ.kept {row : Option Nat} (h : rowZ w B e size v n xs) (hg : w.grownBy w' row) (hne : ∀ b, v.ownBlock = some b → some b ≠ row) : rowZ w' B e size v n xs := by
  refine ⟨h.1, ?_⟩
  rcases h.2 with hn | ⟨g, cap, cur, fz, rfl, hb, hgg, rest⟩
  · exact .inl hn
  · exact .inr ⟨g, cap, cur, fz, rfl, hb, blk_step hgg hg (fun e => hne g rfl e.symm), rest⟩
theorem Rd.of_rowZ_in {G : Hp} (h : rowZ w B e size v n xs) (hG : ∀ b, v.ownBlock = some b → G b = w.heap[b]?) : Rd G v n size xs := by
  refine ⟨h.1, ?_⟩
  rcases h.2 with ⟨rfl, rfl⟩ | ⟨g, cap, cur, fz, rfl, hb, hg, _, hc, _, _, htake⟩
  · exact ⟨none, 0, rfl, Nat.le_refl _, fun _ => ⟨rfl, rfl⟩, fun _ e => by cases e⟩
  · refine ⟨_, cap, rfl, hc, (fun e => by cases e), fun ad e _ => ?_⟩
    cases e
    refine ⟨rfl, fun i u hi => ?_⟩
    unfold hcell
    rw [hG g rfl, hg]
    rw [← htake, List.getElem?_take] at hi
    split at hi
    · simpa using hi
    · cases hi
theorem Rd.of_rowZ (h : rowZ w B e size v n xs) : Rd (hw w) v n size xs := Rd.of_rowZ_in h fun _ _ => rfl
theorem rowZ.cells (h : rowZ w B e size v n xs) {g : Nat} (hg : v.ownBlock = some g) : ∀ j u, xs[j]? = some u → w.cell? ((⟨g, 0, none⟩ : Addr).add j) = some u := by
  intro j u hu
  rcases h.2 with ⟨rfl, _⟩ | ⟨g', cap, cur, fz, rfl, _, hgg, _, _, _, _, htake⟩
  · cases hg
  · cases hg
    rw [Addr.add_lit]
    refine cell_of_hcell ?_
    rw [hcell_blk hgg]
    rw [← htake, List.getElem?_take] at hu
    split at hu
    · simpa using hu
    · cases hu
end

theorem run_storeCells_atZ (P : Program) (g o : Nat) (t : TypeId) (fz : Nat × Nat) : ∀ (vs : List Value) (i : Nat) (cur : Array Value) (w : World), w.heap[g]? = some (.cells cur t fz) → Off fz cur.size → o + i + vs.length ≤ cur.size → (∀ v ∈ vs, v.oneCell' = true) →
    (storeCells ⟨g, o, none⟩ vs i).run P w = .ok () (w.setRow g (cur.toList.take (o + i) ++ vs ++ cur.toList.drop (o + i + vs.length)).toArray)
  | [], i, cur, w, hg, _, _, _ => by
    simp only [storeCells, List.append_nil, List.length_nil, Nat.add_zero, List.take_append_drop, Array.toArray_toList]
    rw [setRow_self w g cur t fz hg]
    rfl
  | v :: rest, i, cur, w, hg, hfz, hl, h1 => by
    have hi : o + i < cur.size := by simp at hl; omega
    have hcell : w.cell? ⟨g, o + i, none⟩ = some cur[o + i] := by simp [World.cell?, hg, hi]
    have hfro : w.frozen? ⟨g, o + i, none⟩ = false := by
      obtain ⟨lo, hi'⟩ := fz
      simp only [World.frozen?, hg, Bool.and_eq_false_iff, decide_eq_false_iff_not]
      rcases hfz with h | h
      · cases h; right; omega
      · left; simp only at h; omega
    have hst : (store ((⟨g, o, none⟩ : Addr).add i) v).run P w = .ok () (w.setRow g (cur.setIfInBounds (o + i) v)) := by
      rw [Addr.add_lit, run_store P w _ v _ (h1 v (by simp)), hcell]
      simp [hfro, setCell_eq_setRow w g (o + i) cur t fz v hg]
    have ih := run_storeCells_atZ P g o t fz rest (i + 1) (cur.setIfInBounds (o + i) v) (w.setRow g (cur.setIfInBounds (o + i) v)) (setRow_heap w g cur _ t _ hg) (by simpa using hfz) (by simp at hl ⊢; omega) (fun x hx => h1 x (by simp [hx]))
    simp only [storeCells, Sem.run_bind, hst, Result.andThen_ok, ih, setRow_setRow]
    congr 3
    have e := list_seg_step cur.toList (o + i) v rest (by simp at hl ⊢; omega)
    simpa [Array.toList_setIfInBounds, Nat.add_assoc] using e

section
variable {P : Program}
theorem run_append_at (w : World) (base : Nat) (t ty e : TypeId) (i : TypeInfo) (z : Value) (ht : P.underlying t = some (.slice e)) (hi : P.info? e = some i) (hz : i.zero = some z) (hzs : z.cells.size = i.size)
    (v : Value) (n : Nat) (xs : List Value) (hown : rowZ w base e i.size v n xs) (a : Addr) (m c : Nat) (news : List Value) (hl : news.length = m * i.size) (hnews : ∀ j u, news[j]? = some u → w.cell? (a.add j) = some u) (h1 : ∀ u ∈ news, u.oneCell' = true)
    (h63 : n + m ≤ maxLen) (hbytes : (n + m) * i.bytes ≤ 140737488355328) (hbase : base ≤ w.heap.size) (hsz : 0 < i.size) :
    ∃ v' w', (Builtin.append_ #[t, t] ty #[v, .slice (some a) m c]).run P w = .ok v' w' ∧ rowZ w' base e i.size v' (n + m) (xs ++ news) ∧ w.grownBy w' v.ownBlock ∧ ∀ b, v'.ownBlock = some b → v.ownBlock = some b ∨ w.heap.size ≤ b := by
  have hsmall : n + m ≤ 9223372036854775807 := by simp only [maxLen] at h63; omega
  have hlen : (xs ++ news).length = (n + m) * i.size := by rw [List.length_append, hown.1, hl, Nat.add_mul]
  rcases hown.2 with ⟨rfl, rfl⟩ | ⟨g, cap, cur, fz, rfl, hbg, hg, hfz, hnc, hcm, hcs, htake⟩
  · have hx : xs = [] := List.eq_nil_of_length_eq_zero (by simpa using hown.1)
    subst hx
    obtain ⟨v', w', hr, h2, h3, _⟩ := run_append_own (P := P) w w.heap.size t ty e i z i.size i.bytes ht hi hz rfl rfl hzs hsz _ 0 [] (World.ownsRow_nil _ _ _ _) a m c news hl hnews h1 h63 hbytes (Nat.le_refl _)
    exact ⟨v', w', hr, (rowZ.of h2).mono hbase, h3, fun b hb => .inr (World.ownsRow.lt h2 b hb).1⟩
  · by_cases hroom : n + m ≤ cap
    · have hfit : n * i.size + news.length ≤ cur.size := by rw [hl, hcs, ← Nat.add_mul]; exact Nat.mul_le_mul_right _ hroom
      have hf := run_firstCells_some (P := P) w i.size m a m c news hl hnews
      have hst := run_storeCells_atZ P g (n * i.size) e fz news 0 cur w hg hfz (by simpa using hfit) h1
      simp only [Nat.add_zero] at hst
      have hr : (Builtin.append_ #[t, t] ty #[.slice (some ⟨g, 0, none⟩) n cap, .slice (some a) m c]).run P w =
          .ok (.slice (some ⟨g, 0, none⟩) (n + m) cap) (w.setRow g (cur.toList.take (n * i.size) ++ news ++ cur.toList.drop (n * i.size + news.length)).toArray) := by
        simp [Builtin.append_, run_underlying ht, sizeOf, typeInfo, hi, Builtin.lenOf, hroom, hf, Addr.add_lit, hst]
      have hsize : (cur.toList.take (n * i.size) ++ news ++ cur.toList.drop (n * i.size + news.length)).toArray.size = cur.size := by
        simp only [List.size_toArray, List.length_append, List.length_take, List.length_drop, Array.length_toList]
        omega
      refine ⟨_, _, hr, ⟨hlen, .inr ⟨g, cap, _, fz, rfl, hbg, setRow_heap w g cur _ e _ hg, by rw [hsize]; exact hfz, hroom, hcm, by rw [hsize]; exact hcs, ?_⟩⟩, ⟨rfl, rfl, rfl, by simp, fun k _ hk => setRow_other w g k _ (fun e => hk (by simp [Value.ownBlock, e]))⟩, fun b hb => .inl hb⟩
      rw [htake, ← hlen]
      exact List.take_left
    · have hr := run_append_grow (P := P) w t ty e i z ht hi hz ⟨g, 0, none⟩ n cap xs hown.1 (hown.cells (g := g) rfl) a m c news hl hnews (by omega) (by omega) (growslice_fits (by omega) hbytes)
      have hge := grownCap_ge w (n + m) cap e
      have hcm2 : grownCap w (n + m) cap e ≤ maxLen := grownCap_le_maxLen w (n + m) cap e h63
      refine ⟨_, _, hr, ⟨hlen, .inr ⟨w.heap.size, _, _, (0, 0), rfl, hbase, heap_alloc_new w.drew _, .inl rfl, hge, hcm2, ?_, ?_⟩⟩, undrew (World.grownBy_alloc w.drew _ _), fun b hb => .inr ?_⟩
      · simp only [Array.size_append, List.size_toArray, size_zeroCells, hzs, hown.1, hl, ← Nat.add_mul]
        congr 1
        omega
      · simp only [Array.toList_append, List.append_assoc]
        rw [← List.append_assoc, ← hlen]
        exact List.take_left
      · simp only [Value.ownBlock, Option.some.injEq] at hb
        omega
end

inductive Item where
  | blk (b : Nat) (c : Array Value) (t : TypeId)
  | row (e : TypeId) (size : Nat) (v : Value) (n : Nat) (xs : List Value)

def Item.spot : Item → Option Nat
  | .blk b _ _ => some b
  | .row _ _ v _ _ => v.ownBlock

def Item.ok (w : World) (B : Nat) : Item → Prop
  | .blk b c t => w.heap[b]? = some (.cells c t (0, 0)) ∧ B ≤ b
  | .row e size v n xs => rowZ w B e size v n xs

theorem Item.lt {w : World} {B : Nat} : ∀ {it : Item}, it.ok w B → ∀ b, it.spot = some b → B ≤ b ∧ b < w.heap.size
  | .blk _ _ _, ⟨h, hb⟩, _, e => by cases e; exact ⟨hb, blk_lt h⟩
  | .row _ _ _ _ _, h, b, e => rowZ.lt h b e

theorem Item.kept {w w' : World} {B : Nat} {row : Option Nat} (hg : w.grownBy w' row) : ∀ {it : Item}, it.ok w B → (∀ b, it.spot = some b → some b ≠ row) → it.ok w' B
  | .blk b _ _, ⟨h, hb⟩, hn => ⟨blk_step h hg (fun e => hn b rfl e.symm), hb⟩
  | .row _ _ _ _ _, h, hn => rowZ.kept h hg hn

structure St (W : World) (H G : Hp) (its : List Item) (w : World) : Prop where
  below : Below W.heap.size W w
  le : G.le (hw w)
  sup : H.le G
  old : ∀ k o, G k = some o → k < W.heap.size → H k = some o
  ok : ∀ (i : Nat) (x : Item), its[i]? = some x → x.ok w W.heap.size
  free : ∀ (i : Nat) (x : Item), its[i]? = some x → ∀ b, x.spot = some b → G b = none
  apart : ∀ (i j : Nat) (x y : Item), its[i]? = some x → its[j]? = some y → i ≠ j → ∀ b, x.spot = some b → y.spot = some b → False

def ext (H : Hp) (B : Nat) (w : World) : Hp := fun k => if B ≤ k then w.heap[k]? else H k

section
variable {W w w' : World} {H G : Hp} {its : List Item}

theorem St.start {H : Hp} (w : World) (hH : H.le (hw w)) : St w H H [] w :=
  ⟨below_refl w, hH, Hp.le.refl _, fun _ _ h _ => h, fun i x h => (by simp at h), fun i x h => (by simp at h), fun i j x y h => (by simp at h)⟩

theorem St.lt (S : St W H G its w) {k : Nat} {o : Obj} (h : G k = some o) : k < w.heap.size := by
  have := S.le k o h
  exact (Array.getElem?_eq_some_iff.1 this).1
theorem St.none_of (S : St W H G its w) {k : Nat} (h : w.heap.size ≤ k) : G k = none := by
  cases e : G k with
  | none => rfl
  | some o => have := S.lt e; omega

theorem St.grow0 (S : St W H G its w) (hg : w.grownBy w' none) : St W H G its w' :=
  ⟨S.below.step0 hg, S.le.trans (hw_le_none hg), S.sup, S.old, fun i x h => Item.kept hg (S.ok i x h) (by simp), S.free, S.apart⟩
theorem St.call (S : St W H G its w) (hB : Below w.heap.size w w') : St W H G its w' := S.grow0 (grown_of_below hB none)
theorem St.drew (S : St W H G its w) : St W H G its w.drew := S.grow0 ⟨rfl, rfl, rfl, Nat.le_refl _, fun _ _ _ => rfl⟩

theorem St.cons (S : St W H G its w) (it : Item) (hok : it.ok w W.heap.size) (hn : ∀ b, it.spot = some b → G b = none ∧ ∀ (i : Nat) (y : Item), its[i]? = some y → y.spot ≠ some b) : St W H G (it :: its) w where
  below := S.below
  le := S.le
  sup := S.sup
  old := S.old
  ok := fun i x h => by
    cases i with
    | zero => simp at h; subst h; exact hok
    | succ i => exact S.ok i x (by simpa using h)
  free := fun i x h b hb => by
    cases i with
    | zero => simp at h; subst h; exact (hn b hb).1
    | succ i => exact S.free i x (by simpa using h) b hb
  apart := fun i j x y hi hj hij b hx hy => by
    cases i with
    | zero =>
      cases j with
      | zero => exact hij rfl
      | succ j => simp at hi; subst hi; exact (hn b hx).2 j y (by simpa using hj) hy
    | succ i =>
      cases j with
      | zero => simp at hj; subst hj; exact (hn b hy).2 i x (by simpa using hi) hx
      | succ j => exact S.apart i j x y (by simpa using hi) (by simpa using hj) (fun e => hij (by rw [e])) b hx hy

theorem St.set (S : St W H G its w) (i : Nat) {it it' : Item} (hi : its[i]? = some it) (hg : w.grownBy w' it.spot) (hok : it'.ok w' W.heap.size) (hsp : ∀ b, it'.spot = some b → it.spot = some b ∨ w.heap.size ≤ b) : St W H G (its.set i it') w' := by
  have hlt : i < its.length := (List.getElem?_eq_some_iff.1 hi).1
  have key : ∀ (j : Nat) (x : Item), (its.set i it')[j]? = some x → (j = i ∧ x = it') ∨ (j ≠ i ∧ its[j]? = some x) := fun j x h => by
    rw [List.getElem?_set] at h
    by_cases e : i = j
    · subst e; rw [if_pos rfl, if_pos hlt] at h; exact .inl ⟨rfl, (Option.some.inj h).symm⟩
    · rw [if_neg e] at h; exact .inr ⟨fun e' => e e'.symm, h⟩
  refine ⟨S.below.step hg (fun g e => (Item.lt (S.ok i it hi) g e).1), fun k o e => ?_, S.sup, S.old, fun j x h => ?_, fun j x h b hb => ?_, fun j l x y hj hl hjl b hx hy => ?_⟩
  · have h1 := S.le k o e
    have h2 := hg.block k (S.lt e) (fun e' => by rw [S.free i it hi k e'.symm] at e; cases e)
    exact h2.trans h1
  · rcases key j x h with ⟨rfl, rfl⟩ | ⟨hj, h⟩
    · exact hok
    · exact Item.kept hg (S.ok j x h) (fun b hb e => S.apart j i x it h hi hj b hb e.symm)
  · rcases key j x h with ⟨rfl, rfl⟩ | ⟨hj, h⟩
    · rcases hsp b hb with h1 | h1
      · exact S.free j it hi b h1
      · exact S.none_of h1
    · exact S.free j x h b hb
  · rcases key j x hj with ⟨e1, e2⟩ | ⟨hj', hj2⟩ <;> rcases key l y hl with ⟨e3, e4⟩ | ⟨hl', hl2⟩
    · exact hjl (e1.trans e3.symm)
    · subst e1; subst e2
      rcases hsp b hx with h1 | h1
      · exact S.apart _ _ _ _ hi hl2 hjl b h1 hy
      · have := (Item.lt (S.ok l y hl2) b hy).2; omega
    · subst e3; subst e4
      rcases hsp b hy with h1 | h1
      · exact S.apart _ _ _ _ hj2 hi hjl b hx h1
      · have := (Item.lt (S.ok j x hj2) b hx).2; omega
    · exact S.apart _ _ _ _ hj2 hl2 hjl b hx hy

theorem getElem?_erase {α : Type} (l : List α) (i j : Nat) : (l.eraseIdx i)[j]? = if j < i then l[j]? else l[j + 1]? := List.getElem?_eraseIdx

theorem St.still (S : St W H G its w) (i : Nat) {it : Item} (hi : its[i]? = some it) :
    ∃ G', G.le G' ∧ St W H G' (its.eraseIdx i) w ∧ ∀ b, it.spot = some b → G' b = w.heap[b]? := by
  have key : ∀ (j : Nat) (x : Item), (its.eraseIdx i)[j]? = some x → ∃ j', its[j']? = some x ∧ j' ≠ i ∧ j' = (if j < i then j else j + 1) := fun j x h => by
    rw [getElem?_erase] at h
    split at h
    · exact ⟨j, h, by omega, by simp_all⟩
    · exact ⟨j + 1, h, by omega, by simp_all⟩
  refine ⟨fun k => if it.spot = some k then w.heap[k]? else G k, fun k o e => ?_, ⟨S.below, fun k o e => ?_, fun k o e => ?_, fun k o e hk => ?_, fun j x h => ?_, fun j x h b hb => ?_, fun j l x y hj hl hjl b hx hy => ?_⟩, fun b hb => by simp [hb]⟩
  · have : it.spot ≠ some k := fun e' => by rw [S.free i it hi k e'] at e; cases e
    show (if _ then _ else _) = _; rw [if_neg this]; exact e
  · split at e
    · exact e
    · exact S.le k o e
  · have h1 := S.sup k o e
    have : it.spot ≠ some k := fun e' => by rw [S.free i it hi k e'] at h1; cases h1
    show (if _ then _ else _) = _; rw [if_neg this]; exact h1
  · split at e
    · rename_i e'; have := (Item.lt (S.ok i it hi) k e').1; omega
    · exact S.old k o e hk
  · obtain ⟨j', h', _⟩ := key j x h; exact S.ok j' x h'
  · obtain ⟨j', h', hne, _⟩ := key j x h
    have : it.spot ≠ some b := fun e' => S.apart j' i x it h' hi hne b hb e'
    show (if _ then _ else _) = _; rw [if_neg this]; exact S.free j' x h' b hb
  · obtain ⟨j', h1, _, e1⟩ := key j x hj
    obtain ⟨l', h2, _, e2⟩ := key l y hl
    exact S.apart j' l' x y h1 h2 (by subst e1; subst e2; split <;> split <;> omega) b hx hy

theorem St.stillRow (S : St W H G its w) (i : Nat) {e : TypeId} {size : Nat} {v : Value} {n : Nat} {xs : List Value} (hi : its[i]? = some (.row e size v n xs)) :
    ∃ G', G.le G' ∧ St W H G' (its.eraseIdx i) w ∧ Rd G' v n size xs := by
  obtain ⟨G', h1, h2, h3⟩ := S.still i hi
  exact ⟨G', h1, h2, Rd.of_rowZ_in (S.ok i _ hi) h3⟩
theorem St.stillBlk (S : St W H G its w) (i : Nat) {b : Nat} {c : Array Value} {t : TypeId} (hi : its[i]? = some (.blk b c t)) :
    ∃ G', G.le G' ∧ St W H G' (its.eraseIdx i) w ∧ G' b = some (.cells c t (0, 0)) := by
  obtain ⟨G', h1, h2, h3⟩ := S.still i hi
  exact ⟨G', h1, h2, (h3 b rfl).trans (S.ok i _ hi).1⟩
theorem St.drop (S : St W H G its w) (i : Nat) : St W H G (its.eraseIdx i) w := by
  have key : ∀ (j : Nat) (x : Item), (its.eraseIdx i)[j]? = some x → ∃ j', its[j']? = some x ∧ j' = (if j < i then j else j + 1) := fun j x h => by
    rw [getElem?_erase] at h
    split at h
    · exact ⟨j, h, by simp_all⟩
    · exact ⟨j + 1, h, by simp_all⟩
  refine ⟨S.below, S.le, S.sup, S.old, fun j x h => ?_, fun j x h b hb => ?_, fun j l x y hj hl hjl b hx hy => ?_⟩
  · obtain ⟨j', h', _⟩ := key j x h; exact S.ok j' x h'
  · obtain ⟨j', h', _⟩ := key j x h; exact S.free j' x h' b hb
  · obtain ⟨j', h1, e1⟩ := key j x hj
    obtain ⟨l', h2, e2⟩ := key l y hl
    exact S.apart j' l' x y h1 h2 (by subst e1; subst e2; split <;> split <;> omega) b hx hy

theorem St.fin (S : St W H G its w) : G.le (ext H W.heap.size w) := fun k o e => by
  unfold ext
  split
  · exact S.le k o e
  · exact S.old k o e (by omega)

theorem St.ext (S : St W H G its w) (hB : Below w.heap.size w w') : G.le (ext G w.heap.size w') ∧ St W H (F.ext G w.heap.size w') its w' := by
  have hle : G.le (F.ext G w.heap.size w') := fun k o e => by
    have := S.lt e
    unfold F.ext
    rw [if_neg (by omega)]; exact e
  have S' := S.call hB
  refine ⟨hle, S'.below, fun k o e => ?_, S.sup.trans hle, fun k o e hk => ?_, S'.ok, fun i x h b hb => ?_, S.apart⟩
  · unfold F.ext at e
    split at e
    · exact e
    · exact S'.le k o e
  · unfold F.ext at e
    have := S.below.size
    rw [if_neg (by omega)] at e
    exact S.old k o e hk
  · have := (Item.lt (S.ok i x h) b hb).2
    unfold F.ext
    rw [if_neg (by omega)]
    exact S.free i x h b hb

theorem St.own (S : St W H G its w) (hB : Below w.heap.size w w') {e : TypeId} {size : Nat} {v : Value} {n : Nat} {xs : List Value} (ho : rowZ w' w.heap.size e size v n xs) : St W H G (.row e size v n xs :: its) w' :=
  (S.call hB).cons _ (rowZ.mono ho S.below.size) fun b hb => by
    have h := (rowZ.lt ho b hb).1
    exact ⟨S.none_of h, fun i y hy e => by have := (Item.lt (S.ok i y hy) b e).2; omega⟩
theorem Rd.of_own_ext {W w : World} {H : Hp} {e : TypeId} {size : Nat} {v : Value} {n : Nat} {xs : List Value} (ho : rowZ w W.heap.size e size v n xs) : Rd (F.ext H W.heap.size w) v n size xs :=
  Rd.of_rowZ_in ho fun b hb => by unfold F.ext; rw [if_pos (rowZ.lt ho b hb).1]

theorem St.nilRow (S : St W H G its w) (e : TypeId) (size : Nat) : St W H G (.row e size (.slice none 0 0) 0 [] :: its) w :=
  S.cons _ (rowZ.nil _ _ _ _) fun b hb => by cases hb
theorem St.new (S : St W H G its w) (hg : w.grownBy w' none) {b : Nat} {c : Array Value} {t : TypeId} (hb : b = w.heap.size) (hc : w'.heap[b]? = some (.cells c t (0, 0))) : St W H G (.blk b c t :: its) w' := by
  subst hb
  refine (S.grow0 hg).cons _ ⟨hc, S.below.size⟩ fun b hb => ?_
  cases hb
  exact ⟨S.none_of (Nat.le_refl _), fun i y hy e => by have := (Item.lt (S.ok i y hy) _ e).2; omega⟩
theorem St.toRow (S : St W H G its w) (i : Nat) {b : Nat} {c : Array Value} {t : TypeId} {size m : Nat} {xs : List Value} (hi : its[i]? = some (.blk b c t)) (hc : c.toList = xs) (hl : xs.length = m * size) (hm : m ≤ maxLen) : St W H G (its.set i (.row t size (.slice (some ⟨b, 0, none⟩) m m) m xs)) w :=
  S.set i hi (gb_refl _ _) (rowZ.of (owns_of_block (S.ok i _ hi).1 (S.ok i _ hi).2 hm hc hl)) (fun b' hb' => .inl hb')

theorem St.row (S : St W H G its w) (i : Nat) {e : TypeId} {size : Nat} {v : Value} {n : Nat} {xs : List Value} (hi : its[i]? = some (.row e size v n xs)) : rowZ w W.heap.size e size v n xs := S.ok i _ hi
theorem St.rd (S : St W H G its w) (i : Nat) {e : TypeId} {size : Nat} {v : Value} {n : Nat} {xs : List Value} (hi : its[i]? = some (.row e size v n xs)) : Rd (hw w) v n size xs := Rd.of_rowZ (S.row i hi)
theorem St.blk (S : St W H G its w) (i : Nat) {b : Nat} {c : Array Value} {t : TypeId} (hi : its[i]? = some (.blk b c t)) : w.heap[b]? = some (.cells c t (0, 0)) := (S.ok i _ hi).1
theorem St.cell (S : St W H G its w) (i : Nat) {b : Nat} {c : Array Value} {t : TypeId} (hi : its[i]? = some (.blk b c t)) {off j : Nat} {v : Value} (hv : c[j]? = some v) (he : off = j) : w.cell? ⟨b, off, none⟩ = some v := by
  subst he
  exact cell_of_hcell (by rw [hcell_blk (S.blk i hi)]; exact hv)
theorem St.cells (S : St W H G its w) (i : Nat) {b : Nat} {c : Array Value} {t : TypeId} (hi : its[i]? = some (.blk b c t)) : ∀ (j : Nat) (v : Value), c[j]? = some v → w.cell? ⟨b, 0 + j, none⟩ = some v := blk_cells (S.blk i hi)
theorem St.cellG (S : St W H G its w) {b off : Nat} {v : Value} (h : hcell G b off = some v) : w.cell? ⟨b, off, none⟩ = some v := cell_of_hcell (hcell_mono S.le h)
end


end Go.F

namespace Go.F
open Go Go.RowKit
section
variable {P : Program} {N : Plan} {n : Nat} {ops : Array Oper} {K : Env → World → Prop} {rest : List Oper} {ρ : Env} {w W : World} {H G : Hp} {its : List Item}

def planF (P : Program) (G0 : Hp) (ds : List Nat) : Plan := ⟨fun o => match o.dst with | some d => (match ds.contains d with | true => .pure | false => cls P o.op) | none => cls P o.op, fun w => G0.le (hw w)⟩

theorem T_ran {o : Oper} {d : Nat} {v : Value} {w' : World} (hcl : N.cl o = .loud) (hg : o.guard = none) (hd : o.dst = some d) (hn : Nat.ble (d + 1) n = true)
    (hrun : ∀ a, Agree n ρ a → (execOp a.eval o).run P w = .ok (.value v) w') (hC : N.C w') (k : T P N n ops K rest ((d, v) :: ρ) w') : T P N n ops K (o :: rest) ρ w := by
  refine T_loud hg hcl fun a ha hc => ?_
  unfold Oper.wp
  rw [hrun a ha]
  exact ⟨hC, _, by rw [hd]; exact ha.put hn _, k⟩
theorem T_ran0 {o : Oper} {w' : World} (hcl : N.cl o = .loud) (hg : o.guard = none) (hd : o.dst = none)
    (hrun : ∀ a, Agree n ρ a → (execOp a.eval o).run P w = .ok .skip w') (hC : N.C w') (k : T P N n ops K rest ρ w') : T P N n ops K (o :: rest) ρ w := by
  refine T_loud hg hcl fun a ha hc => ?_
  unfold Oper.wp
  rw [hrun a ha]
  exact ⟨hC, _, by rw [hd]; exact ha, k⟩

theorem T_re {d : Nat} {v v' : Value} (h : v = v') (k : T P N n ops K rest ((d, v') :: ρ) w) : T P N n ops K rest ((d, v) :: ρ) w := by rw [h]; exact k
theorem T_bool {o : Oper} {l : List Oper} (t : Nat) {b : Bool} (b' : Bool) (hb : ρ.get? t = some (.bool b)) (hbb : b = b') (k : T P N n ops K (o :: l) ((t, .bool b') :: ρ) w) : T P N n ops K (o :: l) ρ w :=
  T_part hb (by simp) (fun h => by rw [← hbb, h] at k; exact k) (fun h => by rw [← hbb, h] at k; exact k)
theorem W_bool {c : Code} {Q : Exit → Env → World → Prop} (t : Nat) {b : Bool} (b' : Bool) (hb : ρ.get? t = some (.bool b)) (hbb : b = b') (k : F.W P n c Q ((t, .bool b') :: ρ) w) : F.W P n c Q ρ w := fun a ha => by
  refine k a ⟨ha.1, ha.2.1, fun t' v hv => ?_⟩
  rw [get?_cons] at hv
  split at hv
  · rename_i e; subst e; simp only [Option.some.injEq] at hv; subst hv; subst hbb; exact ha.2.2 t _ hb
  · exact ha.2.2 t' v hv


theorem T_allocS {o : Oper} {d : Nat} {t : TypeId} {i : TypeInfo} {z : Value} (S : St W H G its w) (hC : ∀ u, G.le (hw u) → N.C u) (ho : o.op = .alloc t) (hi : P.info? t = some i) (hz : i.zero = some z) (hcl : N.cl o = .loud) (hg : o.guard = none) (hd : o.dst = some d) (hn : Nat.ble (d + 1) n = true)
    (k : ∀ b w', St W H G (.blk b z.cells t :: its) w' → T P N n ops K rest ((d, .pointer (some ⟨b, 0, none⟩)) :: ρ) w') : T P N n ops K (o :: rest) ρ w := by
  have S' := S.new (World.grownBy_alloc w (.cells z.cells t (0, 0)) none) rfl (heap_alloc_new w _)
  refine T_ran hcl hg hd hn (fun a ha => ?_) (hC _ S'.le) (k _ _ S')
  unfold execOp; rw [ho]; simp [Instr.alloc, zeroValue, typeInfo, hi, hz, newVar, newRow]
theorem Ac {o : Oper} {d : Nat} {t : TypeId} {i : TypeInfo} {z : Value} (S : St W H G its w) (k : ∀ b w', St W H G (.blk b z.cells t :: its) w' → T P N n ops K rest ((d, .pointer (some ⟨b, 0, none⟩)) :: ρ) w') (ho : o.op = .alloc t := by exact rfl) (hi : P.info? t = some i := by exact rfl) (hz : i.zero = some z := by exact rfl) (hcl : N.cl o = .loud := by exact rfl) (hg : o.guard = none := by exact rfl) (hd : o.dst = some d := by exact rfl) (hn : Nat.ble (d + 1) n = true := by exact rfl) (hC : ∀ u, G.le (hw u) → N.C u := by exact fun _ _ => trivial) : T P N n ops K (o :: rest) ρ w := T_allocS S hC ho hi hz hcl hg hd hn k
theorem T_boxS {o : Oper} {d : Nat} {t : TypeId} {x : Operand} {v : Value} (S : St W H G its w) (hC : ∀ u, G.le (hw u) → N.C u) (ho : o.op = .box t x) (hx : ρ.ev x = some v) (hcl : N.cl o = .loud) (hg : o.guard = none) (hd : o.dst = some d) (hn : Nat.ble (d + 1) n = true)
    (k : ∀ b w', St W H G (.blk b v.cells t :: its) w' → T P N n ops K rest ((d, .pointer (some ⟨b, 0, none⟩)) :: ρ) w') : T P N n ops K (o :: rest) ρ w := by
  have S' := S.new (World.grownBy_alloc w (.cells v.cells t (0, 0)) none) rfl (heap_alloc_new w _)
  refine T_ran hcl hg hd hn (fun a ha => ?_) (hC _ S'.le) (k _ _ S')
  have e1 := ha.ev hx
  unfold execOp; rw [ho]; simp [Instr.box, e1, newVar, newRow]
theorem Ah {o : Oper} {d : Nat} {t : TypeId} {x : Operand} {v : Value} (S : St W H G its w) (k : ∀ b w', St W H G (.blk b v.cells t :: its) w' → T P N n ops K rest ((d, .pointer (some ⟨b, 0, none⟩)) :: ρ) w') (ho : o.op = .box t x := by exact rfl) (hx : ρ.ev x = some v := by exact rfl) (hcl : N.cl o = .loud := by exact rfl) (hg : o.guard = none := by exact rfl) (hd : o.dst = some d := by exact rfl) (hn : Nat.ble (d + 1) n = true := by exact rfl) (hC : ∀ u, G.le (hw u) → N.C u := by exact fun _ _ => trivial) : T P N n ops K (o :: rest) ρ w := T_boxS S hC ho hx hcl hg hd hn k
theorem T_makeS {o : Oper} {d : Nat} {t e : TypeId} {i : TypeInfo} {z : Value} {x y : Operand} {kx ky : IntKind} {p q : Int} (m : Nat) (S : St W H G its w) (hC : ∀ u, G.le (hw u) → N.C u) (ho : o.op = .makeSlice t x y) (hx : ρ.ev x = some (.int kx p)) (hy : ρ.ev y = some (.int ky q))
    (ht : P.underlying t = some (.slice e)) (hi : P.info? e = some i) (hz : i.zero = some z) (hcl : N.cl o = .loud) (hg : o.guard = none) (hd : o.dst = some d) (hn : Nat.ble (d + 1) n = true)
    (hp : p = (m : Int)) (hq : q = (m : Int)) (hbytes : i.bytes * m ≤ 281474976710656) (h63 : m ≤ maxLen)
    (k : ∀ b w', St W H G (.blk b (madeCells z.cells (m * i.size)) e :: its) w' → T P N n ops K rest ((d, .slice (some ⟨b, 0, none⟩) m m) :: ρ) w') : T P N n ops K (o :: rest) ρ w := by
  have h63' : (m : Int) ≤ 9223372036854775807 := by simp only [maxLen] at h63; omega
  have hb' : (i.bytes : Int) * (m : Int) ≤ 281474976710656 := by
    have h : ((i.bytes * m : Nat) : Int) ≤ 281474976710656 := by omega
    rwa [Int.natCast_mul] at h
  have hr := run_make (P := P) w t e i z ht hi hz kx ky m m (by omega) (Int.le_refl _) hb' h63'
  simp only [Int.toNat_natCast] at hr
  have S' := S.new (World.grownBy_alloc w (.cells (madeCells z.cells (m * i.size)) e (0, 0)) none) rfl (heap_alloc_new w _)
  refine T_ran hcl hg hd hn (fun a ha => ?_) (hC _ S'.le) (k _ _ S')
  have e1 := ha.ev hx
  have e2 := ha.ev hy
  unfold execOp; rw [ho]; simp only [e1, e2, hp, hq, Sem.run_bind, hr, Result.andThen_ok]; rfl


theorem T_storeS {o : Oper} {t t0 : TypeId} {i : TypeInfo} {x y : Operand} {b off : Nat} {c : Array Value} {v : Value} (j : Nat) (S : St W H G its w) (hC : ∀ u, G.le (hw u) → N.C u) (hj : its[j]? = some (.blk b c t0)) (ho : o.op = .store t x y) (hx : ρ.ev x = some (.pointer (some ⟨b, off, none⟩))) (hy : ρ.ev y = some v)
    (hi : P.info? t = some i) (hcl : N.cl o = .loud) (hg : o.guard = none) (hd : o.dst = none) (hl : v.cells.size = i.size) (hfit : off + v.cells.size ≤ c.size) (h1 : ∀ u ∈ v.cells.toList, u.oneCell' = true)
    (k : ∀ w', St W H G (its.set j (.blk b (c.toList.take off ++ v.cells.toList ++ c.toList.drop (off + v.cells.size)).toArray t0)) w' → T P N n ops K rest ρ w') : T P N n ops K (o :: rest) ρ w := by
  have hb := S.blk j hj
  have hst := run_storeCells_at P b off t0 v.cells.toList 0 c w hb (by simpa using hfit) h1
  have S' := S.set j (it' := .blk b (c.toList.take off ++ v.cells.toList ++ c.toList.drop (off + v.cells.size)).toArray t0) hj
    (w' := w.setRow b (c.toList.take off ++ v.cells.toList ++ c.toList.drop (off + v.cells.size)).toArray) ⟨rfl, rfl, rfl, by simp, fun g _ hk => setRow_other w b g _ (fun e => hk (by simp [Item.spot, e]))⟩
    ⟨setRow_heap w b c _ t0 _ hb, (S.ok j _ hj).2⟩ (fun b' h => .inl h)
  refine T_ran0 hcl hg hd (fun a ha => ?_) (hC _ S'.le) (k _ S')
  have e1 := ha.ev hx
  have e2 := ha.ev hy
  unfold execOp; rw [ho]; simp only [e1, e2]
  simp only [Nat.add_zero, Array.length_toList] at hst
  have hst' : (storeCells ⟨b, off, none⟩ v.cells.toList).run P w = _ := hst
  simp [Instr.storeAt, Instr.sureAddr, storeVar, sizeOf, typeInfo, hi, hl, hst']
theorem seg1 {c : Array Value} {v : Value} {j : Nat} (h : j < c.size) : (c.toList.take j ++ [v] ++ c.toList.drop (j + 1)).toArray = c.setIfInBounds j v := by
  apply Array.toList_inj.1
  simp only [Array.toList_setIfInBounds, List.append_assoc, List.cons_append, List.nil_append]
  rw [List.set_eq_take_append_cons_drop, if_pos (by simpa using h)]
theorem T_store1S {o : Oper} {t t0 : TypeId} {i : TypeInfo} {x y : Operand} {b off : Nat} {c : Array Value} {v : Value} (j m : Nat) (S : St W H G its w) (hC : ∀ u, G.le (hw u) → N.C u) (hj : its[j]? = some (.blk b c t0)) (ho : o.op = .store t x y) (hx : ρ.ev x = some (.pointer (some ⟨b, off, none⟩))) (hy : ρ.ev y = some v)
    (hi : P.info? t = some i) (hi1 : i.size = 1) (hv1 : v.cells = #[v]) (ho1 : v.oneCell' = true) (hcl : N.cl o = .loud) (hg : o.guard = none) (hd : o.dst = none) (hm : off = m) (hfit : m < c.size)
    (k : ∀ w', St W H G (its.set j (.blk b (c.setIfInBounds m v) t0)) w' → T P N n ops K rest ρ w') : T P N n ops K (o :: rest) ρ w := by
  subst hm
  refine T_storeS j S hC hj ho hx hy hi hcl hg hd (by rw [hv1, hi1]; rfl) (by rw [hv1]; simp; omega) (by rw [hv1]; simpa using ho1) fun w' S' => k w' ?_
  rw [hv1] at S'
  simpa only [seg1 hfit, List.size_toArray, List.length_cons, List.length_nil] using S'
theorem T_storeFS {o : Oper} {t t0 : TypeId} {i : TypeInfo} {x y : Operand} {b off : Nat} {c : Array Value} {v : Value} (j : Nat) (S : St W H G its w) (hC : ∀ u, G.le (hw u) → N.C u) (hj : its[j]? = some (.blk b c t0)) (ho : o.op = .store t x y) (hx : ρ.ev x = some (.pointer (some ⟨b, off, none⟩))) (hy : ρ.ev y = some v)
    (hi : P.info? t = some i) (hcl : N.cl o = .loud) (hg : o.guard = none) (hd : o.dst = none) (ho0 : off = 0) (hl : v.cells.size = i.size) (hl2 : v.cells.size = c.size) (h1 : ∀ u ∈ v.cells.toList, u.oneCell' = true)
    (k : ∀ w', St W H G (its.set j (.blk b v.cells t0)) w' → T P N n ops K rest ρ w') : T P N n ops K (o :: rest) ρ w := by
  subst ho0
  refine T_storeS j S hC hj ho hx hy hi hcl hg hd hl (by omega) h1 fun w' S' => k w' ?_
  have e : c.toList.drop (0 + v.cells.size) = [] := by rw [hl2]; simp
  rw [e] at S'
  simpa using S'
theorem Ag {o : Oper} {t t0 : TypeId} {i : TypeInfo} {x y : Operand} {b off : Nat} {c : Array Value} {v : Value} (j : Nat) (S : St W H G its w) (k : ∀ w', St W H G (its.set j (.blk b v.cells t0)) w' → T P N n ops K rest ρ w') (hj : its[j]? = some (.blk b c t0) := by exact rfl) (ho : o.op = .store t x y := by exact rfl) (hx : ρ.ev x = some (.pointer (some ⟨b, off, none⟩)) := by exact rfl) (hy : ρ.ev y = some v := by exact rfl) (hi : P.info? t = some i := by exact rfl) (hcl : N.cl o = .loud := by exact rfl) (hg : o.guard = none := by exact rfl) (hd : o.dst = none := by exact rfl) (ho0 : off = 0 := by exact rfl) (hC : ∀ u, G.le (hw u) → N.C u := by exact fun _ _ => trivial) (hl : v.cells.size = i.size) (hl2 : v.cells.size = c.size) (h1 : ∀ u ∈ v.cells.toList, u.oneCell' = true) : T P N n ops K (o :: rest) ρ w := T_storeFS j S hC hj ho hx hy hi hcl hg hd ho0 hl hl2 h1 k
theorem T_appendS {o : Oper} {d : Nat} {t e : TypeId} {i : TypeInfo} {z : Value} {x y : Operand} {v vs : Value} {size n0 m : Nat} {xs news : List Value} (j n' : Nat) (xs' : List Value) (S : St W H G its w) (hC : ∀ u, G.le (hw u) → N.C u) (hj : its[j]? = some (.row e size v n0 xs))
    (ho : o.op = .call ⟨.builtin .append, #[x, y], #[t, t]⟩) (hx : ρ.ev x = some v) (hy : ρ.ev y = some vs) (ht : P.underlying t = some (.slice e)) (hi : P.info? e = some i) (hz : i.zero = some z) (hcl : N.cl o = .loud) (hg : o.guard = none) (hd : o.dst = some d) (hn : Nat.ble (d + 1) n = true)
    (hsize : i.size = size) (hzs : z.cells.size = size) (hsz : Nat.ble 1 size = true) (hsrc : Rd (hw w) vs m size news) (h1 : ∀ u ∈ news, u.oneCell' = true) (hn' : n0 + m = n') (hx' : xs ++ news = xs') (h63 : n' ≤ maxLen) (hbytes : n' * i.bytes ≤ 140737488355328)
    (k : ∀ a c w', n' ≤ c → St W H G (its.set j (.row e size (.slice a n' c) n' xs')) w' → T P N n ops K rest ((d, .slice a n' c) :: ρ) w') : T P N n ops K (o :: rest) ρ w := by
  subst hsize
  subst hn'
  subst hx'
  have hown : rowZ w W.heap.size e i.size v n0 xs := S.row j hj
  obtain ⟨hlen, aa, c, hvs, hcc, hnone, hsome⟩ := hsrc
  have key : ∃ v' w', (Builtin.append_ #[t, t] o.type #[v, vs]).run P w = .ok v' w' ∧ rowZ w' W.heap.size e i.size v' (n0 + m) (xs ++ news) ∧ w.grownBy w' v.ownBlock ∧ ∀ b, v'.ownBlock = some b → v.ownBlock = some b ∨ w.heap.size ≤ b := by
    cases aa with
    | none =>
      obtain ⟨rfl, rfl⟩ := hnone rfl
      have : news = [] := List.eq_nil_of_length_eq_zero (by simpa using hlen)
      subst this
      rw [hvs]
      obtain ⟨a0, c0, hv0, _⟩ := (Rd.of_rowZ hown).shape
      refine ⟨v, w, ?_, by simpa using hown, gb_refl w _, fun b hb => .inl hb⟩
      subst hv0
      have hcap : n0 ≤ c0 := by
        rcases hown.2 with ⟨h, h0⟩ | ⟨g, cap, cur, fz, h, _, _, _, h2, _⟩
        · cases h; omega
        · cases h; exact h2
      cases a0 with
      | none =>
        rcases hown.2 with ⟨h, h0⟩ | ⟨g, cap, cur, fz, h, _⟩
        · cases h
          simp [Builtin.append_, run_underlying ht, sizeOf, typeInfo, hi, Builtin.lenOf, Builtin.firstCells]
        · cases h
      | some ad =>
        simp [Builtin.append_, run_underlying ht, sizeOf, typeInfo, hi, Builtin.lenOf, hcap, Builtin.firstCells, storeCells]
    | some ad =>
      rw [hvs]
      exact run_append_at (P := P) w W.heap.size t o.type e i z ht hi hz hzs v n0 xs hown ad m c news hlen
        (fun j u hj => by
          have hm : 0 < m := by
            have := (List.getElem?_eq_some_iff.1 hj).1
            rcases Nat.eq_zero_or_pos m with e | e
            · rw [e] at hlen; omega
            · exact e
          obtain ⟨hspot, hcell⟩ := hsome ad rfl hm
          obtain ⟨b, off, s⟩ := ad
          simp only at hspot; subst hspot
          rw [Addr.add_lit]; exact cell_of_hcell (hcell j u hj)) h1 h63 hbytes S.below.size (Nat.le_of_ble_eq_true hsz)
  obtain ⟨v', w', hr, h2, h3, h4⟩ := key
  obtain ⟨a', c', hv', hcc'⟩ := (Rd.of_rowZ h2).shape
  subst hv'
  have S' := S.set j (it' := .row e i.size (.slice a' (n0 + m) c') (n0 + m) (xs ++ news)) hj h3 h2 h4
  refine T_ran hcl hg hd hn (fun a ha => ?_) (hC _ S'.le) (k _ _ _ hcc' S')
  have e1 := ha.ev hx
  have e2 := ha.ev hy
  unfold execOp; rw [ho]
  simp only [resolve, Sem.run_bind, Sem.run_pure, Result.andThen_ok, invoke, builtin]
  simp [e1, e2, hr]
theorem Ae {o : Oper} {d : Nat} {t e : TypeId} {i : TypeInfo} {z : Value} {x y : Operand} {v vs : Value} {size n0 m : Nat} {xs news : List Value} (j : Nat) (n' : Nat) (xs' : List Value) (S : St W H G its w) (hsrc : Rd (hw w) vs m size news) (k : ∀ a c w', n' ≤ c → St W H G (its.set j (.row e size (.slice a n' c) n' xs')) w' → T P N n ops K rest ((d, .slice a n' c) :: ρ) w') (hj : its[j]? = some (.row e size v n0 xs) := by exact rfl) (ho : o.op = .call ⟨.builtin .append, #[x, y], #[t, t]⟩ := by exact rfl) (hx : ρ.ev x = some v := by exact rfl) (hy : ρ.ev y = some vs := by exact rfl) (ht : P.underlying t = some (.slice e) := by exact rfl) (hi : P.info? e = some i := by exact rfl) (hz : i.zero = some z := by exact rfl) (hcl : N.cl o = .loud := by exact rfl) (hg : o.guard = none := by exact rfl) (hd : o.dst = some d := by exact rfl) (hn : Nat.ble (d + 1) n = true := by exact rfl) (hsize : i.size = size := by exact rfl) (hzs : z.cells.size = size := by exact rfl) (hsz : Nat.ble 1 size = true := by exact rfl) (hC : ∀ u, G.le (hw u) → N.C u := by exact fun _ _ => trivial) (h63 : n' ≤ maxLen := by unfold maxLen; omega) (h1 : ∀ u ∈ news, u.oneCell' = true) (hn' : n0 + m = n') (hx' : xs ++ news = xs') (hbytes : n' * i.bytes ≤ 140737488355328) : T P N n ops K (o :: rest) ρ w := T_appendS j n' xs' S hC hj ho hx hy ht hi hz hcl hg hd hn hsize hzs hsz hsrc h1 hn' hx' h63 hbytes k
theorem set_seg (cs : List Value) : ∀ (off j : Nat) (pre seg post : List Value), seg.length = cs.length → pre.length = off + j →
    (cs.zipIdx j).foldl (fun (a : Array Value) (p : Value × Nat) => a.setIfInBounds (off + p.2) p.1) (pre ++ (seg ++ post)).toArray = (pre ++ (cs ++ post)).toArray := by
  induction cs with
  | nil => intro off j pre seg post hl _; have : seg = [] := List.eq_nil_of_length_eq_zero (by simpa using hl); subst this; rfl
  | cons c cs ih =>
    intro off j pre seg post hl hp
    cases seg with
    | nil => simp at hl
    | cons s seg =>
      rw [List.zipIdx_cons, List.foldl_cons]
      have e : (pre ++ (s :: seg ++ post)).toArray.setIfInBounds (off + j) c = ((pre ++ [c]) ++ (seg ++ post)).toArray := by
        rw [List.setIfInBounds_toArray, List.set_append, if_neg (by omega), hp, Nat.sub_self]; simp
      simp only at e ⊢
      rw [e, ih off (j + 1) (pre ++ [c]) seg post (by simpa using hl) (by simp; omega)]
      simp

theorem fill_rangeS (s : Nat) : ∀ (vs : List Value) (k : Nat) (pre post : List Value), (∀ v ∈ vs, v.cells.size = s) → post.length = vs.length * s → pre.length = k * s →
    Instr.fill (fun j => some (j * s, s)) (pre ++ post).toArray ((List.range' k vs.length).zip vs) = some (pre ++ vs.flatMap (·.cells.toList)).toArray
  | [], k, pre, post, _, hl, _ => by
    have : post = [] := List.eq_nil_of_length_eq_zero (by simpa using hl)
    subst this
    simp [Instr.fill]
  | v :: vs, k, pre, post, h1, hl, hp => by
    have hv := h1 v (by simp)
    have hvl : v.cells.toList.length = s := by simpa using hv
    have hpl : s ≤ post.length := by rw [hl, List.length_cons, Nat.succ_mul]; omega
    have ih := fill_rangeS s vs (k + 1) (pre ++ v.cells.toList) (post.drop s) (fun u hu => h1 u (by simp [hu])) (by rw [List.length_drop, hl, List.length_cons, Nat.succ_mul]; omega) (by rw [List.length_append, hp, hvl, Nat.succ_mul])
    rw [List.length_cons, List.range'_succ, List.zip_cons_cons, Instr.fill]
    have hsz : ¬ (v.cells.size ≠ s ∨ k * s + v.cells.size > (pre ++ post).toArray.size) := by
      rw [hv]; simp only [List.size_toArray, List.length_append, hp]; omega
    have hsz' : (v.cells.size ≠ s || decide (k * s + v.cells.size > (pre ++ post).toArray.size)) = false := by
      simp only [ne_eq, not_or, Decidable.not_not, Nat.not_lt, gt_iff_lt] at hsz
      simp [hsz.1]
      simp only [List.size_toArray, List.length_append] at hsz
      omega
    have hset := set_seg v.cells.toList (k * s) 0 pre (post.take s) (post.drop s) (by rw [List.length_take, hvl]; omega) (by rw [hp]; omega)
    rw [List.take_append_drop] at hset
    have hset' : (v.cells.zipIdx.foldl (fun cs (x : Value × Nat) => match x with | (c, j) => cs.setIfInBounds (k * s + j) c) (pre ++ post).toArray) = (pre ++ (v.cells.toList ++ post.drop s)).toArray := by
      rw [← hset]
      rw [← Array.foldl_toList, Array.toList_zipIdx]
    simp only [hset']
    rw [if_neg (by rw [hsz']; simp)]
    rw [← List.append_assoc, ih]
    simp [List.append_assoc]

theorem T_litS {o : Oper} {d : Nat} {t e : TypeId} {i : TypeInfo} {z : Value} {len : Nat} {xs : List (Nat × Operand)} {vs : List (Nat × Value)} (xs' : List Value) (ho : o.op = .buildSlice t len xs.toArray) (hxs : evp ρ xs = some vs)
    (ht : P.underlying t = some (.slice e)) (hi : P.info? e = some i) (hz : i.zero = some z) (hsz : Nat.ble 1 i.size = true) (hlen : Nat.beq vs.length len = true) (hr : vs.map (·.1) = List.range' 0 vs.length) (hcl : N.cl o = .loud) (hg : o.guard = none) (hd : o.dst = some d) (hn : Nat.ble (d + 1) n = true)
    (hsm : Nat.ble (len * i.size) 16777216 = true) (hone : ∀ v ∈ vs.map (·.2), v.cells.size = i.size) (hx' : (vs.map (·.2)).flatMap (·.cells.toList) = xs')
    (k : ∀ a w', Below w.heap.size w w' → rowZ w' w.heap.size e i.size (.slice a len len) len xs' → N.C w' ∧ T P N n ops K rest ((d, .slice a len len) :: ρ) w') : T P N n ops K (o :: rest) ρ w := by
  subst hx'
  have hsm' := Nat.le_of_ble_eq_true hsm
  have hsz' := Nat.le_of_ble_eq_true hsz
  have hlen' := Nat.eq_of_beq_eq_true hlen
  have hl2 : ((vs.map (·.2)).flatMap (·.cells.toList)).length = len * i.size := by
    rw [← hlen']
    clear hxs hr hlen hlen' hsm hsm' k
    induction vs with
    | nil => simp
    | cons p vs ih =>
      have h1 := hone p.2 (by simp)
      have h2 := ih (fun v hv => hone v (by simp at hv ⊢; exact .inr hv))
      simp only [List.map_cons, List.flatMap_cons, List.length_append, List.length_cons, Array.length_toList, h1, h2, Nat.succ_mul]; omega
  have hB := below_of_grown (World.grownBy_alloc w (.cells ((vs.map (·.2)).flatMap (·.cells.toList)).toArray e (0, 0)) none)
  have ho2 : rowZ (w.alloc (.cells ((vs.map (·.2)).flatMap (·.cells.toList)).toArray e (0, 0))) w.heap.size e i.size (.slice (some ⟨w.heap.size, 0, none⟩) len len) len ((vs.map (·.2)).flatMap (·.cells.toList)) :=
    rowZ.of (owns_of_block (heap_alloc_new w _) (Nat.le_refl _) (by have : len * 1 ≤ len * i.size := Nat.mul_le_mul_left _ hsz'; unfold maxLen; omega) (by simp) hl2)
  obtain ⟨hCc, kk⟩ := k _ _ hB ho2
  refine T_ran hcl hg hd hn (fun a ha => ?_) hCc kk
  have h1 := ha.evp xs vs hxs
  have h3 : (xs.toArray.map fun (x : Nat × Operand) => match x with | (i, x) => (i, a.eval x)) = vs.toArray := by
    rw [← h1]; simp
  have hf := fill_rangeS i.size (vs.map (·.2)) 0 [] ((Array.range (len * i.size)).map (fun j => z.cells[j % z.cells.size]!)).toList hone (by simp [hlen']) (by simp)
  have ez : (vs.map (·.1)).zip (vs.map (·.2)) = vs := by simp [List.zip_map', List.map_id']
  simp only [List.length_map, ← hr, ez, List.nil_append, Array.toArray_toList] at hf
  have hgt : ¬ (len * i.size > 2 ^ 24) := by omega
  unfold execOp; rw [ho]
  by_cases h0 : len * i.size = 0
  · have hv0 : vs = [] := by
      have : len = 0 := by rcases Nat.mul_eq_zero.1 h0 with h | h <;> omega
      exact List.eq_nil_of_length_eq_zero (by omega)
    subst hv0
    have hl0 : len = 0 := by simpa using hlen'.symm
    subst hl0
    simp [Instr.buildSlice, h3, run_underlying ht, sizeOf, typeInfo, hi, newRow, Instr.fill]
    have er : Array.range 0 = #[] := by simp
    rw [er, Array.map_empty]
  · simp [Instr.buildSlice, h3, run_underlying ht, sizeOf, typeInfo, hi, zeroValue, hz, hgt, h0, newRow, hf]
  
theorem Ad {o : Oper} {d : Nat} {t e : TypeId} {i : TypeInfo} {z : Value} {len : Nat} {xs : List (Nat × Operand)} {vs : List (Nat × Value)} (xs' : List Value) (k : ∀ a w', Below w.heap.size w w' → rowZ w' w.heap.size e i.size (.slice a len len) len xs' → N.C w' ∧ T P N n ops K rest ((d, .slice a len len) :: ρ) w') (ho : o.op = .buildSlice t len xs.toArray := by exact rfl) (hxs : evp ρ xs = some vs := by exact rfl) (ht : P.underlying t = some (.slice e) := by exact rfl) (hi : P.info? e = some i := by exact rfl) (hz : i.zero = some z := by exact rfl) (hsz : Nat.ble 1 i.size = true := by exact rfl) (hlen : Nat.beq vs.length len = true := by exact rfl) (hr : vs.map (·.1) = List.range' 0 vs.length := by exact rfl) (hcl : N.cl o = .loud := by exact rfl) (hg : o.guard = none := by exact rfl) (hd : o.dst = some d := by exact rfl) (hn : Nat.ble (d + 1) n = true := by exact rfl) (hsm : Nat.ble (len * i.size) 16777216 = true := by exact rfl) (hx' : (vs.map (·.2)).flatMap (·.cells.toList) = xs' := by exact rfl) (hone : ∀ v ∈ vs.map (·.2), v.cells.size = i.size) : T P N n ops K (o :: rest) ρ w := T_litS xs' ho hxs ht hi hz hsz hlen hr hcl hg hd hn hsm hone hx' k
theorem T_callS {o : Oper} {d : Nat} {f : FuncId} {xs : List Operand} {ts : Array TypeId} {args : List Value} (ho : o.op = .call ⟨.value (.func f), xs.toArray, ts⟩) (hxs : evs ρ xs = some args) (hf : goFn P f = true) (hcl : N.cl o = .loud) (hg : o.guard = none) (hd : o.dst = some d) (hn : Nat.ble (d + 1) n = true)
    (c : Calls P f args.toArray w (fun e w' => ∃ v, e = .returned v ∧ N.C w' ∧ T P N n ops K rest ((d, v) :: ρ) w')) : T P N n ops K (o :: rest) ρ w := by
  refine T_loud hg hcl fun a ha hc => ?_
  unfold Oper.wp
  rw [run_call ho ha hxs hf w]
  refine c.mono fun e w' ⟨v, he, hc', h⟩ => ?_
  subst he
  exact ⟨hc', _, by rw [hd]; exact ha.put hn v, h⟩


theorem T_loadG {o : Oper} {d : Nat} {t : TypeId} {x : Operand} {b off : Nat} {v : Value} (S : St W H G its w) (r : hcell G b off = some v) (ho : o.op = .load t x) (hx : ρ.ev x = some (.pointer (some ⟨b, off, none⟩))) (hs : scalar P t = true) (hcl : N.cl o = .read) (hg : o.guard = none) (hd : o.dst = some d) (hn : Nat.ble (d + 1) n = true)
    (k : T P N n ops K rest ((d, v) :: ρ) w) : T P N n ops K (o :: rest) ρ w := T_load ho hx hs hcl hg hd hn (S.cellG r) k
theorem Ab {o : Oper} {d : Nat} {t : TypeId} {x : Operand} {b off : Nat} {v : Value} (S : St W H G its w) (k : T P N n ops K rest ((d, v) :: ρ) w) (ho : o.op = .load t x := by exact rfl) (hx : ρ.ev x = some (.pointer (some ⟨b, off, none⟩)) := by exact rfl) (hs : scalar P t = true := by exact rfl) (hcl : N.cl o = .read := by exact rfl) (hg : o.guard = none := by exact rfl) (hd : o.dst = some d := by exact rfl) (hn : Nat.ble (d + 1) n = true := by exact rfl) (r : hcell G b off = some v) : T P N n ops K (o :: rest) ρ w := T_loadG S r ho hx hs hcl hg hd hn k
theorem T_loadGA {o : Oper} {d : Nat} {t : TypeId} {i : TypeInfo} {x : Operand} {b off : Nat} (cs : Array Value) (S : St W H G its w) (r : ∀ (j : Nat) v, cs[j]? = some v → hcell G b (off + j) = some v) (ho : o.op = .load t x) (hx : ρ.ev x = some (.pointer (some ⟨b, off, none⟩))) (hs : isAggB P t = true) (hi : P.info? t = some i) (hcl : N.cl o = .read) (hg : o.guard = none) (hd : o.dst = some d) (hn : Nat.ble (d + 1) n = true)
    (hl : cs.size = i.size) (k : T P N n ops K rest ((d, .agg cs) :: ρ) w) : T P N n ops K (o :: rest) ρ w := T_loadA cs ho hx hs hi hcl hg hd hn hl (fun j v hj => S.cellG (r j v hj)) k
theorem T_loadGP {o : Oper} {d : Nat} {t : TypeId} {x : Operand} {b off : Nat} {v : Value} (hC : ∀ u, N.C u → G.le (hw u)) (r : hcell G b off = some v) (ho : o.op = .load t x) (hx : ρ.ev x = some (.pointer (some ⟨b, off, none⟩))) (hs : scalar P t = true) (hcl : N.cl o = .pure) (hg : o.guard = none) (hd : o.dst = some d) (hn : Nat.ble (d + 1) n = true)
    (k : T P N n ops K rest ((d, v) :: ρ) w) : T P N n ops K (o :: rest) ρ w := T_loadP ho hx hs hcl hg hd hn (fun u hu => cell_of_hcell (hcell_mono (hC u hu) r)) k
theorem Ak {o : Oper} {d : Nat} {t : TypeId} {x : Operand} {b off : Nat} {v : Value} (k : T P N n ops K rest ((d, v) :: ρ) w) (ho : o.op = .load t x := by exact rfl) (hx : ρ.ev x = some (.pointer (some ⟨b, off, none⟩)) := by exact rfl) (hs : scalar P t = true := by exact rfl) (hcl : N.cl o = .pure := by exact rfl) (hg : o.guard = none := by exact rfl) (hd : o.dst = some d := by exact rfl) (hn : Nat.ble (d + 1) n = true := by exact rfl) (hC : ∀ u, N.C u → G.le (hw u) := by exact fun _ h => h) (r : hcell G b off = some v) : T P N n ops K (o :: rest) ρ w := T_loadGP hC r ho hx hs hcl hg hd hn k
theorem T_loadGAP {o : Oper} {d : Nat} {t : TypeId} {i : TypeInfo} {x : Operand} {b off : Nat} (cs : Array Value) (hC : ∀ u, N.C u → G.le (hw u)) (r : ∀ (j : Nat) v, cs[j]? = some v → hcell G b (off + j) = some v) (ho : o.op = .load t x) (hx : ρ.ev x = some (.pointer (some ⟨b, off, none⟩))) (hs : isAggB P t = true) (hi : P.info? t = some i) (hcl : N.cl o = .pure) (hg : o.guard = none) (hd : o.dst = some d) (hn : Nat.ble (d + 1) n = true)
    (hl : cs.size = i.size) (k : T P N n ops K rest ((d, .agg cs) :: ρ) w) : T P N n ops K (o :: rest) ρ w := fun a ha _ => by
  unfold xo
  rw [if_pos (wanted_none hg _), hcl]
  refine ⟨.agg cs, fun u hu => .inl ?_, (d, .agg cs) :: ρ, by rw [hd]; exact ha.put hn _, k⟩
  have h1 := ha.ev hx
  unfold execOp; rw [ho]; simp only [h1]
  simp [Instr.loadAt, Instr.sureAddr, run_loadVarA hs hi hl (fun j v hj => cell_of_hcell (hcell_mono (hC u hu) (r j v hj)))]
theorem T_loadS {o : Oper} {d : Nat} {t t0 : TypeId} {x : Operand} {b off : Nat} {c : Array Value} {v : Value} (j m : Nat) (S : St W H G its w) (hj : its[j]? = some (.blk b c t0)) (ho : o.op = .load t x) (hx : ρ.ev x = some (.pointer (some ⟨b, off, none⟩))) (hs : scalar P t = true) (hcl : N.cl o = .read) (hg : o.guard = none) (hd : o.dst = some d) (hn : Nat.ble (d + 1) n = true)
    (hm : off = m) (hv : c[m]? = some v) (k : T P N n ops K rest ((d, v) :: ρ) w) : T P N n ops K (o :: rest) ρ w := T_load ho hx hs hcl hg hd hn (S.cell j hj hv hm) k
theorem Aj {o : Oper} {d : Nat} {t t0 : TypeId} {x : Operand} {b off : Nat} {c : Array Value} {v : Value} (j : Nat) (m : Nat) (S : St W H G its w) (hv : c[m]? = some v) (k : T P N n ops K rest ((d, v) :: ρ) w) (hj : its[j]? = some (.blk b c t0) := by exact rfl) (ho : o.op = .load t x := by exact rfl) (hx : ρ.ev x = some (.pointer (some ⟨b, off, none⟩)) := by exact rfl) (hs : scalar P t = true := by exact rfl) (hcl : N.cl o = .read := by exact rfl) (hg : o.guard = none := by exact rfl) (hd : o.dst = some d := by exact rfl) (hn : Nat.ble (d + 1) n = true := by exact rfl) (hm : off = m := by exact rfl) : T P N n ops K (o :: rest) ρ w := T_loadS j m S hj ho hx hs hcl hg hd hn hm hv k
theorem T_loadFS {o : Oper} {d : Nat} {t t0 : TypeId} {i : TypeInfo} {x : Operand} {b : Nat} {c : Array Value} (j : Nat) (S : St W H G its w) (hj : its[j]? = some (.blk b c t0)) (ho : o.op = .load t x) (hx : ρ.ev x = some (.pointer (some ⟨b, 0, none⟩))) (hs : isAggB P t = true) (hi : P.info? t = some i) (hcl : N.cl o = .read) (hg : o.guard = none) (hd : o.dst = some d) (hn : Nat.ble (d + 1) n = true)
    (hl : c.size = i.size) (k : T P N n ops K rest ((d, .agg c) :: ρ) w) : T P N n ops K (o :: rest) ρ w := T_loadA c ho hx hs hi hcl hg hd hn hl (S.cells j hj) k
theorem Ai {o : Oper} {d : Nat} {t t0 : TypeId} {i : TypeInfo} {x : Operand} {b : Nat} {c : Array Value} (j : Nat) (S : St W H G its w) (k : T P N n ops K rest ((d, .agg c) :: ρ) w) (hj : its[j]? = some (.blk b c t0) := by exact rfl) (ho : o.op = .load t x := by exact rfl) (hx : ρ.ev x = some (.pointer (some ⟨b, 0, none⟩)) := by exact rfl) (hs : isAggB P t = true := by exact rfl) (hi : P.info? t = some i := by exact rfl) (hcl : N.cl o = .read := by exact rfl) (hg : o.guard = none := by exact rfl) (hd : o.dst = some d := by exact rfl) (hn : Nat.ble (d + 1) n = true := by exact rfl) (hl : c.size = i.size) : T P N n ops K (o :: rest) ρ w := T_loadFS j S hj ho hx hs hi hcl hg hd hn hl k
theorem T_loadAS {o : Oper} {d : Nat} {t t0 : TypeId} {i : TypeInfo} {x : Operand} {b off : Nat} {c : Array Value} (cs : Array Value) (j : Nat) (S : St W H G its w) (hj : its[j]? = some (.blk b c t0)) (ho : o.op = .load t x) (hx : ρ.ev x = some (.pointer (some ⟨b, off, none⟩))) (hs : isAggB P t = true) (hi : P.info? t = some i) (hcl : N.cl o = .read) (hg : o.guard = none) (hd : o.dst = some d) (hn : Nat.ble (d + 1) n = true)
    (hl : cs.size = i.size) (hcs : ∀ (q : Nat) v, cs[q]? = some v → c[off + q]? = some v) (k : T P N n ops K rest ((d, .agg cs) :: ρ) w) : T P N n ops K (o :: rest) ρ w :=
  T_loadA cs ho hx hs hi hcl hg hd hn hl (fun q v hq => S.cell j hj (hcs q v hq) rfl) k


theorem ndec_t {p : Prop} [Decidable p] (h : ¬ p) : (!decide p) = true := by simp [h]
theorem ndec_f {p : Prop} [Decidable p] (h : p) : (!decide p) = false := by simp [h]
theorem Rd.of_blk {G : Hp} {b m size : Nat} {c : Array Value} {t : TypeId} {fz : Nat × Nat} {xs : List Value} (h : G b = some (.cells c t fz)) (hc : c.toList = xs) (hl : xs.length = m * size) : Rd G (.slice (some ⟨b, 0, none⟩) m m) m size xs :=
  ⟨hl, _, m, rfl, Nat.le_refl _, fun e => (by cases e), fun ad e _ => by
    cases e
    refine ⟨rfl, fun i u hi => ?_⟩
    unfold hcell
    rw [h]
    simp only [Nat.zero_add]
    rw [← hc] at hi
    simpa using hi⟩
theorem Rd.of_cells {G : Hp} {b off m size : Nat} {xs : List Value} (h : ∀ (j : Nat) u, xs[j]? = some u → hcell G b (off + j) = some u) (hl : xs.length = m * size) : Rd G (.slice (some ⟨b, off, none⟩) m m) m size xs :=
  ⟨hl, _, m, rfl, Nat.le_refl _, fun e => (by cases e), fun ad e _ => by cases e; exact ⟨rfl, h⟩⟩
theorem Rd.canon {G : Hp} {v : Value} {m m' size : Nat} {xs : List Value} (r : Rd G v m size xs) (h : m = m') : Rd G v m' size xs := by subst h; exact r
theorem Rd.canonB {G : Hp} {v : Value} {m : Nat} {l : List UInt8} (r : Rd G v m 1 (l.map bV)) : Rd G v l.length 1 (l.map bV) := r.canon (by have := r.1; simp at this; omega)

def Rds (G : Hp) (hs : List Value) (ls : List (List UInt8)) : Prop := hs.length = ls.length ∧ ∀ (i : Nat) v l, hs[i]? = some v → ls[i]? = some l → Rd G v l.length 1 (l.map bV)
theorem Rds.nil (G : Hp) : Rds G [] [] := ⟨rfl, fun i v l h => by simp at h⟩
theorem Rds.mono {G G' : Hp} {hs : List Value} {ls : List (List UInt8)} (h : Rds G hs ls) (hl : G.le G') : Rds G' hs ls := ⟨h.1, fun i v l a b => (h.2 i v l a b).mono hl⟩
theorem Rds.cons {G : Hp} {v : Value} {l : List UInt8} {hs : List Value} {ls : List (List UInt8)} (r : Rd G v l.length 1 (l.map bV)) (h : Rds G hs ls) : Rds G (v :: hs) (l :: ls) :=
  ⟨by simp [h.1], fun i u m a b => by
    cases i with
    | zero => simp at a b; subst a; subst b; exact r
    | succ i => exact h.2 i u m (by simpa using a) (by simpa using b)⟩
theorem Rds.append {G : Hp} {hs hs' : List Value} {ls ls' : List (List UInt8)} (h : Rds G hs ls) (h' : Rds G hs' ls') : Rds G (hs ++ hs') (ls ++ ls') :=
  ⟨by simp [h.1, h'.1], fun i u m a b => by
    rw [List.getElem?_append] at a b
    rw [h.1] at a
    split at a
    · rename_i hi; rw [if_pos hi] at b; exact h.2 i u m a b
    · rename_i hi; rw [if_neg hi] at b; exact h'.2 _ u m a b⟩
def RdL (G : Hp) (v : Value) (ls : List (List UInt8)) : Prop := ∃ hs, Rd G v ls.length 1 hs ∧ Rds G hs ls
theorem RdL.mono {G G' : Hp} {v : Value} {ls : List (List UInt8)} (h : RdL G v ls) (hl : G.le G') : RdL G' v ls := by obtain ⟨hs, a, b⟩ := h; exact ⟨hs, a.mono hl, b.mono hl⟩
theorem RdL.mk {G : Hp} {v : Value} {hs : List Value} {ls : List (List UInt8)} {m : Nat} (r : Rd G v m 1 hs) (h : Rds G hs ls) : RdL G v ls := ⟨hs, r.canon (by have := r.1; have := h.1; omega), h⟩
theorem Rds.one {G : Hp} {hs : List Value} {ls : List (List UInt8)} (h : Rds G hs ls) : ∀ u ∈ hs, u.oneCell' = true := by
  intro u hu
  obtain ⟨i, hi⟩ := List.getElem?_of_mem hu
  have hlt : i < ls.length := by rw [← h.1]; exact (List.getElem?_eq_some_iff.1 hi).1
  obtain ⟨a, c, e, _⟩ := (h.2 i u _ hi (List.getElem?_eq_getElem hlt)).shape
  rw [e]; rfl

abbrev iV (z : Int) : Value := .int .i64 z
theorem one_iV (l : List Int) : ∀ u ∈ l.map iV, u.oneCell' = true := by
  intro u hu; obtain ⟨a, _, rfl⟩ := List.mem_map.1 hu; rfl
def hcells (hs : List (List UInt8)) : List Value := hs.flatMap fun h => h.map bV
theorem one_hcells (l : List (List UInt8)) : ∀ u ∈ hcells l, u.oneCell' = true := by
  intro u hu; obtain ⟨a, _, h⟩ := List.mem_flatMap.1 hu; exact one_bV a u h
theorem hcells_append (a b : List (List UInt8)) : hcells (a ++ b) = hcells a ++ hcells b := List.flatMap_append
theorem hcells_len {k : Nat} : ∀ {l : List (List UInt8)}, (∀ h ∈ l, h.length = k) → (hcells l).length = l.length * k
  | [], _ => by simp [hcells]
  | h :: l, hl => by
    have := hcells_len (k := k) (l := l) (fun x hx => hl x (by simp [hx]))
    have h1 := hl h (by simp)
    simp only [hcells, List.flatMap_cons, List.length_append, List.length_map, h1, List.length_cons, Nat.succ_mul] at this ⊢
    omega
theorem hcells_at {k : Nat} : ∀ {l : List (List UInt8)} (_ : ∀ h ∈ l, h.length = k) (q : Nat) (h : List UInt8) (_ : l[q]? = some h) (j : Nat) (u : Value), (h.map bV)[j]? = some u → (hcells l)[q * k + j]? = some u
  | [], _, q, h, hq, _, _, _ => by simp at hq
  | x :: l, hl, 0, h, hq, j, u, hu => by
    simp at hq; subst hq
    simp only [hcells, List.flatMap_cons, Nat.zero_mul, Nat.zero_add]
    rw [List.getElem?_append_left (List.getElem?_eq_some_iff.1 hu).1]; exact hu
  | x :: l, hl, q + 1, h, hq, j, u, hu => by
    have h1 : (x.map bV).length = k := by rw [List.length_map]; exact hl x (by simp)
    have ih := hcells_at (l := l) (fun y hy => hl y (by simp [hy])) q h (by simpa using hq) j u hu
    simp only [hcells, List.flatMap_cons] at ih ⊢
    rw [List.getElem?_append_right (by rw [h1, Nat.succ_mul]; omega), h1]
    have : (q + 1) * k + j - k = q * k + j := by rw [Nat.succ_mul]; omega
    rw [this]; exact ih
def RdH (G : Hp) (v : Value) (k : Nat) (hs : List (List UInt8)) : Prop := (∀ h ∈ hs, h.length = k) ∧ Rd G v hs.length k (hcells hs)
theorem RdH.mono {G G' : Hp} {v : Value} {k : Nat} {hs : List (List UInt8)} (h : RdH G v k hs) (hl : G.le G') : RdH G' v k hs := ⟨h.1, h.2.mono hl⟩
theorem RdH.shape {G : Hp} {v : Value} {k : Nat} {hs : List (List UInt8)} (h : RdH G v k hs) : ∃ a c, v = .slice a hs.length c ∧ hs.length ≤ c := h.2.shape

theorem T_idxR {o : Oper} {d : Nat} {t e : TypeId} {i : TypeInfo} {x y : Operand} {v : Value} {m size : Nat} {xs : List Value} {k0 : IntKind} {z : Int} (q : Nat) (r : Rd G v m size xs) (ho : o.op = .indexAddr t x y) (hx : ρ.ev x = some v) (hy : ρ.ev y = some (.int k0 z))
    (ht : P.underlying t = some (.slice e)) (hi : P.info? e = some i) (h1 : i.size = size) (hg : o.guard = none) (hd : o.dst = some d) (hn : Nat.ble (d + 1) n = true)
    (hz : z = (q : Int)) (hq : q < m) (k : ∀ b off, (∀ (j : Nat) u, xs[q * size + j]? = some u → hcell G b (off + j) = some u) → T P N n ops K rest ((d, .pointer (some ⟨b, off, none⟩)) :: ρ) w) : T P N n ops K (o :: rest) ρ w := by
  obtain ⟨b, off, c, hv, hc, hcell⟩ := r.get (by omega)
  subst hv
  refine T_idx ho hx hy ht hi hg hd hn (by omega) ?_
  have e : z.toNat = q := by omega
  rw [e, h1]
  refine k b (off + q * size) fun j u hu => ?_
  rw [Nat.add_assoc]
  exact hcell _ u hu
theorem Af {o : Oper} {d : Nat} {t e : TypeId} {i : TypeInfo} {x y : Operand} {v : Value} {m size : Nat} {xs : List Value} {k0 : IntKind} {z : Int} (q : Nat) (r : Rd G v m size xs) (k : ∀ b off, (∀ (j : Nat) u, xs[q * size + j]? = some u → hcell G b (off + j) = some u) → T P N n ops K rest ((d, .pointer (some ⟨b, off, none⟩)) :: ρ) w) (ho : o.op = .indexAddr t x y := by exact rfl) (hx : ρ.ev x = some v := by exact rfl) (hy : ρ.ev y = some (.int k0 z) := by exact rfl) (ht : P.underlying t = some (.slice e) := by exact rfl) (hi : P.info? e = some i := by exact rfl) (h1 : i.size = size := by exact rfl) (hg : o.guard = none := by exact rfl) (hd : o.dst = some d := by exact rfl) (hn : Nat.ble (d + 1) n = true := by exact rfl) (hz : z = (q : Int) := by omega) (hq : q < m := by omega) : T P N n ops K (o :: rest) ρ w := T_idxR q r ho hx hy ht hi h1 hg hd hn hz hq k
theorem T_sliceR {o : Oper} {d : Nat} {t e : TypeId} {i : TypeInfo} {x : Operand} {lo hi : Option Operand} {vlo vhi : Option Value} {v : Value} {n0 size : Nat} {xs : List Value} (l h : Nat) (r : Rd G v n0 size xs)
    (ho : o.op = .slice t x lo hi none) (hx : ρ.ev x = some v) (hlo : optEv ρ lo = some vlo) (hhi : optEv ρ hi = some vhi) (ht : P.underlying t = some (.slice e)) (hi' : P.info? e = some i) (hsize : i.size = size) (hg : o.guard = none) (hd : o.dst = some d) (hn : Nat.ble (d + 1) n = true)
    (hh : bound n0 vhi = some h) (hl : bound 0 vlo = some l) (h1 : l ≤ h) (h2 : h ≤ n0)
    (k : ∀ a' c', h - l ≤ c' → Rd G (.slice a' (h - l) c') (h - l) size ((xs.drop (l * size)).take ((h - l) * size)) → T P N n ops K rest ((d, .slice a' (h - l) c') :: ρ) w) : T P N n ops K (o :: rest) ρ w :=
  T_slice ho hx hlo hhi ht hi' hsize hg hd hn r hh hl h1 h2 fun a' c' r' => k a' c' (by obtain ⟨_, _, _, he, hc, _⟩ := r'; cases he; exact hc) r'


theorem T_s2b {o : Oper} {d : Nat} {s t e : TypeId} {x : Operand} {l : List UInt8} (ho : o.op = .convert s t x) (hx : ρ.ev x = some (str l)) (hs : P.underlying s = some .string) (ht : P.underlying t = some (.slice e)) (he : P.underlying e = some (.int .u8)) (hcl : N.cl o = .loud) (hg : o.guard = none) (hd : o.dst = some d) (hn : Nat.ble (d + 1) n = true)
    (hl : l.length ≤ maxLen) (k : ∀ a c w', l.length ≤ c → Below w.heap.size w w' → rowZ w' w.heap.size e 1 (.slice a l.length c) l.length (l.map bV) → N.C w' ∧ T P N n ops K rest ((d, .slice a l.length c) :: ρ) w') : T P N n ops K (o :: rest) ρ w := by
  have hsz : (⟨l.toArray⟩ : ByteArray).size = l.length := by simp [ByteArray.size]
  have hr := run_bytes_of_string (P := P) w s t e ⟨l.toArray⟩ hs ht he
  rw [hsz] at hr
  have hge := grownCap_ge w l.length 0 e
  have hcells : bytesRow ⟨l.toArray⟩ (grownCap w l.length 0 e) = (l.map bV ++ List.replicate (grownCap w l.length 0 e - l.length) (bV 0)).toArray := by
    unfold bytesRow
    rw [hsz]
    apply Array.toList_inj.1
    simp [bV]
  rw [hcells] at hr
  have hB := below_of_grown (undrew (World.grownBy_alloc w.drew (.cells (l.map bV ++ List.replicate (grownCap w l.length 0 e - l.length) (bV 0)).toArray e ((l.map bV ++ List.replicate (grownCap w l.length 0 e - l.length) (bV 0)).toArray.size, (l.map bV ++ List.replicate (grownCap w l.length 0 e - l.length) (bV 0)).toArray.size + 1)) none))
  obtain ⟨h1, h2⟩ := k _ _ _ hge hB ⟨by simp, .inr ⟨w.heap.size, _, _, _, rfl, Nat.le_refl _, heap_alloc_new w.drew _, .inr (Nat.le_refl _), hge, grownCap_le_maxLen _ _ _ _ hl, by simp; omega, by simp⟩⟩
  refine T_ran hcl hg hd hn (fun a ha => ?_) h1 h2
  have e1 := ha.ev hx
  unfold execOp; rw [ho]; simp only [e1, str]
  simp [hr]

theorem T_convG {o : Oper} {d : Nat} {s t e : TypeId} {x : Operand} {v : Value} {l : List UInt8} {m : Nat} (S : St W H G its w) (r : Rd G v m 1 (l.map bV)) (ho : o.op = .convert s t x) (hx : ρ.ev x = some v) (hs : P.underlying s = some (.slice e)) (he : P.underlying e = some (.int .u8)) (ht : P.underlying t = some .string) (hcl : N.cl o = .read) (hg : o.guard = none) (hd : o.dst = some d) (hn : Nat.ble (d + 1) n = true)
    (k : T P N n ops K rest ((d, str l) :: ρ) w) : T P N n ops K (o :: rest) ρ w := by
  have hm : m = l.length := by have := r.1; simp at this; omega
  subst hm
  exact T_conv ho hx hs he ht hcl hg hd hn (r.mono S.le) k
theorem T_b2i {o : Oper} {d : Nat} {s t : TypeId} {x : Operand} {k0 : IntKind} {b : UInt8} (ho : o.op = .convert s t x) (hs : P.underlying s = some (.int k0)) (ht : P.underlying t = some (.int .i64)) (hx : ρ.ev x = some (bV b)) (hg : o.guard = none) (hd : o.dst = some d) (hn : Nat.ble (d + 1) n = true)
    (k : T P N n ops K rest ((d, .int .i64 (b.toNat : Int)) :: ρ) w) : T P N n ops K (o :: rest) ρ w := by
  refine T_pev (v := .int .i64 (b.toNat : Int)) ?_ hg hd hn k
  rw [ho]
  have := b.toNat_lt
  simp only [pev, hs, ht, hx]
  rw [wrap64_id (by omega) (by omega)]
theorem T_i2b {o : Oper} {d : Nat} {s t : TypeId} {x : Operand} {k0 k1 : IntKind} {z : Int} (m : Nat) (hm : z = (m : Int)) (ho : o.op = .convert s t x) (hs : P.underlying s = some (.int k0)) (ht : P.underlying t = some (.int .u8)) (hx : ρ.ev x = some (.int k1 z)) (hg : o.guard = none) (hd : o.dst = some d) (hn : Nat.ble (d + 1) n = true)
    (k : T P N n ops K rest ((d, bV (UInt8.ofNat m)) :: ρ) w) : T P N n ops K (o :: rest) ρ w := by
  refine T_pev (v := bV (UInt8.ofNat m)) ?_ hg hd hn k
  rw [ho]
  simp only [pev, hs, ht, hx, hm, b_wrap]
end
end Go.F

namespace Go.F
open Go Go.RowKit

inductive Tree where
  | done
  | step (i : Nat) (t : Tree)
  | fork (i j : Nat) (t u : Tree)
  | fork3 (i j m : Nat) (t u v : Tree)
  | fork4 (i j m q : Nat) (t u v x : Tree)

def Tree.depth : Tree → Nat
  | .done => 0
  | .step _ t => t.depth + 1
  | .fork _ _ t u => max t.depth u.depth + 1
  | .fork3 _ _ _ t u v => max (max t.depth u.depth) v.depth + 1
  | .fork4 _ _ _ _ t u v x => max (max t.depth u.depth) (max v.depth x.depth) + 1

section
variable {P : Program} {N : Plan} {n : Nat} {ops : Array Oper} {ρ : Env} {w : World}

def freeB (N : Plan) (ops : Array Oper) (b : Array Nat) (i : Nat) (listed : Array Bool) : Bool :=
  (List.range ops.size).all fun j => Nat.beq j i || listed.getD j true || (b.getD j 0).testBit i || match ops[i]?, ops[j]? with
    | some oi, some oj => oi.apart ops oj && compat N oi oj
    | _, _ => true
def treeB (N : Plan) (ops : Array Oper) (b : Array Nat) : Tree → Array Bool → Bool
  | .done, listed => (Region.ready .any ops listed).isEmpty
  | .step i t, listed => (Region.ready .any ops listed).contains i && freeB N ops b i listed && treeB N ops b t (listed.setIfInBounds i true)
  | .fork i j t u, listed => (Region.ready .any ops listed).contains i && ((Region.ready .any ops listed).all fun k => Nat.beq k i || Nat.beq k j) && treeB N ops b t (listed.setIfInBounds i true) && treeB N ops b u (listed.setIfInBounds j true)
  | .fork3 i j m t u v, listed => (Region.ready .any ops listed).contains i && ((Region.ready .any ops listed).all fun k => Nat.beq k i || Nat.beq k j || Nat.beq k m) && treeB N ops b t (listed.setIfInBounds i true) && treeB N ops b u (listed.setIfInBounds j true) && treeB N ops b v (listed.setIfInBounds m true)
  | .fork4 i j m q t u v x, listed => (Region.ready .any ops listed).contains i && ((Region.ready .any ops listed).all fun k => Nat.beq k i || Nat.beq k j || Nat.beq k m || Nat.beq k q) && treeB N ops b t (listed.setIfInBounds i true) && treeB N ops b u (listed.setIfInBounds j true) && treeB N ops b v (listed.setIfInBounds m true) && treeB N ops b x (listed.setIfInBounds q true)
def treeB0 (N : Plan) (ops : Array Oper) (t : Tree) : Bool :=
  Region.noSelect ops && ancB ops (Region.before ops) && Nat.ble t.depth ops.size && treeB N ops (Region.before ops) t (Array.replicate ops.size false)

def TX (P : Program) (N : Plan) (ops : Array Oper) (K : Act → World → Prop) : Tree → Act → World → Prop
  | .done => K
  | .step i t => fun a w => ∃ o, ops[i]? = some o ∧ xo P N ops o (TX P N ops K t) a w
  | .fork i j t u => fun a w => (∃ o, ops[i]? = some o ∧ xo P N ops o (TX P N ops K t) a w) ∧ ∃ o, ops[j]? = some o ∧ xo P N ops o (TX P N ops K u) a w

  | .fork3 i j m t u v => fun a w => (∃ o, ops[i]? = some o ∧ xo P N ops o (TX P N ops K t) a w) ∧ (∃ o, ops[j]? = some o ∧ xo P N ops o (TX P N ops K u) a w) ∧ (∃ o, ops[m]? = some o ∧ xo P N ops o (TX P N ops K v) a w)
  | .fork4 i j m q t u v x => fun a w => (∃ o, ops[i]? = some o ∧ xo P N ops o (TX P N ops K t) a w) ∧ (∃ o, ops[j]? = some o ∧ xo P N ops o (TX P N ops K u) a w) ∧ (∃ o, ops[m]? = some o ∧ xo P N ops o (TX P N ops K v) a w) ∧ (∃ o, ops[q]? = some o ∧ xo P N ops o (TX P N ops K x) a w)

theorem free_spec {b : Array Nat} {i : Nat} {listed : Array Bool} {oi : Oper} (hi : ops[i]? = some oi) (h : freeB N ops b i listed = true) :
    ∀ j oj, ops[j]? = some oj → j ≠ i → listed.getD j true = false → (b.getD j 0).testBit i = true ∨ (oi.apart ops oj = true ∧ compat N oi oj = true) := by
  intro j oj hj hji hun
  have h1 := List.all_eq_true.1 h j (List.mem_range.2 (Array.getElem?_eq_some_iff.1 hj).1)
  simp only [hi, hj, hun, Bool.or_eq_true, Bool.and_eq_true, Bool.false_eq_true, or_false] at h1
  rcases h1 with (h1 | h1) | h1
  · exact absurd (Nat.eq_of_beq_eq_true h1) hji
  · exact .inl h1
  · exact .inr h1

theorem XA_tree {K : Act → World → Prop} (hs : Region.noSelect ops = true) (hb : ancB ops (Region.before ops) = true) : ∀ (t : Tree) (f : Nat) (listed : Array Bool) (a : Act) (w : World), t.depth ≤ f → treeB N ops (Region.before ops) t listed = true → N.C w → Closed ops listed → TX P N ops K t a w → XA P N ops K f listed a w
  | .done, f, listed, a, w, _, hB, _, _, h => by
    have h0 : Region.ready .any ops listed = [] := by simpa [treeB] using hB
    cases f with
    | zero => exact ⟨h0, h⟩
    | succ f => exact ⟨fun _ => h, fun i hi => by rw [h0] at hi; cases hi⟩
  | .step i t, 0, listed, a, w, hd, _, _, _, _ => by simp [Tree.depth] at hd
  | .step i t, f + 1, listed, a, w, hd, hB, hC, hc, h => by
    simp only [treeB, Bool.and_eq_true] at hB
    obtain ⟨⟨h1, h2⟩, h3⟩ := hB
    obtain ⟨o, ho, hx⟩ := h
    have hr : i ∈ Region.ready .any ops listed := by simpa using h1
    refine XA_first hb (Region.noSelect_spec hs) ho f listed a w hC hc hr (free_spec ho h2) ?_
    exact xo_mono hC (fun a' w' hC' h' => XA_tree hs hb t f _ a' w' (by simp only [Tree.depth] at hd; omega) h3 hC' (hc.set hr) h') hx
  | .fork i j t u, 0, listed, a, w, hd, _, _, _, _ => by simp [Tree.depth] at hd
  | .fork i j t u, f + 1, listed, a, w, hd, hB, hC, hc, h => by
    simp only [treeB, Bool.and_eq_true] at hB
    obtain ⟨⟨⟨h1, h2⟩, h3⟩, h4⟩ := hB
    have hr : i ∈ Region.ready .any ops listed := by simpa using h1
    refine ⟨fun e => (by rw [e] at hr; cases hr), fun k hk => ?_⟩
    have h5 := List.all_eq_true.1 h2 k hk
    simp only [Bool.or_eq_true] at h5
    simp only [Tree.depth] at hd
    rcases h5 with h5 | h5
    · have e := Nat.eq_of_beq_eq_true h5
      subst e
      obtain ⟨o, ho, hx⟩ := h.1
      exact ⟨o, ho, xo_mono hC (fun a' w' hC' h' => XA_tree hs hb t f _ a' w' (by omega) h3 hC' (hc.set hk) h') hx⟩
    · have e := Nat.eq_of_beq_eq_true h5
      subst e
      obtain ⟨o, ho, hx⟩ := h.2
      exact ⟨o, ho, xo_mono hC (fun a' w' hC' h' => XA_tree hs hb u f _ a' w' (by omega) h4 hC' (hc.set hk) h') hx⟩
  | .fork3 i j m t u v, 0, listed, a, w, hd, _, _, _, _ => by simp [Tree.depth] at hd
  | .fork3 i j m t u v, f + 1, listed, a, w, hd, hB, hC, hc, h => by
    simp only [treeB, Bool.and_eq_true] at hB
    obtain ⟨⟨⟨⟨h1, h2⟩, g0⟩, g1⟩, g2⟩ := hB
    have hr : i ∈ Region.ready .any ops listed := by simpa using h1
    refine ⟨fun e => (by rw [e] at hr; cases hr), fun k hk => ?_⟩
    have h5 := List.all_eq_true.1 h2 k hk
    simp only [Bool.or_eq_true] at h5
    simp only [Tree.depth] at hd
    rcases h5 with (h5 | h5) | h5
    · have e := Nat.eq_of_beq_eq_true h5
      subst e
      obtain ⟨o, ho, hx⟩ := h.1
      exact ⟨o, ho, xo_mono hC (fun a' w' hC' h' => XA_tree hs hb t f _ a' w' (by omega) g0 hC' (hc.set hk) h') hx⟩
    · have e := Nat.eq_of_beq_eq_true h5
      subst e
      obtain ⟨o, ho, hx⟩ := h.2.1
      exact ⟨o, ho, xo_mono hC (fun a' w' hC' h' => XA_tree hs hb u f _ a' w' (by omega) g1 hC' (hc.set hk) h') hx⟩
    · have e := Nat.eq_of_beq_eq_true h5
      subst e
      obtain ⟨o, ho, hx⟩ := h.2.2
      exact ⟨o, ho, xo_mono hC (fun a' w' hC' h' => XA_tree hs hb v f _ a' w' (by omega) g2 hC' (hc.set hk) h') hx⟩
  | .fork4 i j m q t u v x, 0, listed, a, w, hd, _, _, _, _ => by simp [Tree.depth] at hd
  | .fork4 i j m q t u v x, f + 1, listed, a, w, hd, hB, hC, hc, h => by
    simp only [treeB, Bool.and_eq_true] at hB
    obtain ⟨⟨⟨⟨⟨h1, h2⟩, g0⟩, g1⟩, g2⟩, g3⟩ := hB
    have hr : i ∈ Region.ready .any ops listed := by simpa using h1
    refine ⟨fun e => (by rw [e] at hr; cases hr), fun k hk => ?_⟩
    have h5 := List.all_eq_true.1 h2 k hk
    simp only [Bool.or_eq_true] at h5
    simp only [Tree.depth] at hd
    rcases h5 with ((h5 | h5) | h5) | h5
    · have e := Nat.eq_of_beq_eq_true h5
      subst e
      obtain ⟨o, ho, hx⟩ := h.1
      exact ⟨o, ho, xo_mono hC (fun a' w' hC' h' => XA_tree hs hb t f _ a' w' (by omega) g0 hC' (hc.set hk) h') hx⟩
    · have e := Nat.eq_of_beq_eq_true h5
      subst e
      obtain ⟨o, ho, hx⟩ := h.2.1
      exact ⟨o, ho, xo_mono hC (fun a' w' hC' h' => XA_tree hs hb u f _ a' w' (by omega) g1 hC' (hc.set hk) h') hx⟩
    · have e := Nat.eq_of_beq_eq_true h5
      subst e
      obtain ⟨o, ho, hx⟩ := h.2.2.1
      exact ⟨o, ho, xo_mono hC (fun a' w' hC' h' => XA_tree hs hb v f _ a' w' (by omega) g2 hC' (hc.set hk) h') hx⟩
    · have e := Nat.eq_of_beq_eq_true h5
      subst e
      obtain ⟨o, ho, hx⟩ := h.2.2.2
      exact ⟨o, ho, xo_mono hC (fun a' w' hC' h' => XA_tree hs hb x f _ a' w' (by omega) g3 hC' (hc.set hk) h') hx⟩

def TT (P : Program) (N : Plan) (n : Nat) (ops : Array Oper) (K : Env → World → Prop) : Tree → Env → World → Prop
  | .done => K
  | .step i t => fun ρ w => ∃ o, ops[i]? = some o ∧ T P N n ops (TT P N n ops K t) [o] ρ w
  | .fork i j t u => fun ρ w => (∃ o, ops[i]? = some o ∧ T P N n ops (TT P N n ops K t) [o] ρ w) ∧ ∃ o, ops[j]? = some o ∧ T P N n ops (TT P N n ops K u) [o] ρ w
  | .fork3 i j m t u v => fun ρ w => (∃ o, ops[i]? = some o ∧ T P N n ops (TT P N n ops K t) [o] ρ w) ∧ (∃ o, ops[j]? = some o ∧ T P N n ops (TT P N n ops K u) [o] ρ w) ∧ (∃ o, ops[m]? = some o ∧ T P N n ops (TT P N n ops K v) [o] ρ w)
  | .fork4 i j m q t u v x => fun ρ w => (∃ o, ops[i]? = some o ∧ T P N n ops (TT P N n ops K t) [o] ρ w) ∧ (∃ o, ops[j]? = some o ∧ T P N n ops (TT P N n ops K u) [o] ρ w) ∧ (∃ o, ops[m]? = some o ∧ T P N n ops (TT P N n ops K v) [o] ρ w) ∧ (∃ o, ops[q]? = some o ∧ T P N n ops (TT P N n ops K x) [o] ρ w)

variable {K : Env → World → Prop}
theorem TT_done (h : K ρ w) : TT P N n ops K .done ρ w := h
theorem TT_step {i : Nat} {t : Tree} {o : Oper} (ho : ops[i]? = some o) (h : T P N n ops (TT P N n ops K t) [o] ρ w) : TT P N n ops K (.step i t) ρ w := ⟨o, ho, h⟩
theorem TT_fork {i j : Nat} {t u : Tree} {o o' : Oper} (ho : ops[i]? = some o) (ho' : ops[j]? = some o') (h : T P N n ops (TT P N n ops K t) [o] ρ w) (h' : T P N n ops (TT P N n ops K u) [o'] ρ w) : TT P N n ops K (.fork i j t u) ρ w := ⟨⟨o, ho, h⟩, o', ho', h'⟩

theorem TT_fork3 {i j m : Nat} {t u v : Tree} {oi oj om : Oper} (hoi : ops[i]? = some oi) (hoj : ops[j]? = some oj) (hom : ops[m]? = some om) (hi : T P N n ops (TT P N n ops K t) [oi] ρ w) (hj : T P N n ops (TT P N n ops K u) [oj] ρ w) (hm : T P N n ops (TT P N n ops K v) [om] ρ w) : TT P N n ops K (.fork3 i j m t u v) ρ w := ⟨⟨oi, hoi, hi⟩, ⟨oj, hoj, hj⟩, om, hom, hm⟩
theorem TX_of_TT : ∀ (t : Tree) (ρ : Env) (a : Act) (w : World), Agree n ρ a → N.C w → TT P N n ops K t ρ w → TX P N ops (lift n K) t a w
  | .done, ρ, _, _, ha, _, h => ⟨ρ, ha, h⟩
  | .step _ t, _, a, w, ha, hC, ⟨o, ho, h⟩ => ⟨o, ho, xo_mono hC (fun a' w' hC' ⟨ρ', ha', h'⟩ => TX_of_TT t ρ' a' w' ha' hC' h') (h a ha hC)⟩
  | .fork _ _ t u, _, a, w, ha, hC, ⟨⟨o, ho, h⟩, o', ho', h'⟩ =>
    ⟨⟨o, ho, xo_mono hC (fun a' w' hC' ⟨ρ', ha', h'⟩ => TX_of_TT t ρ' a' w' ha' hC' h') (h a ha hC)⟩, o', ho', xo_mono hC (fun a' w' hC' ⟨ρ', ha', h'⟩ => TX_of_TT u ρ' a' w' ha' hC' h') (h' a ha hC)⟩
  | .fork3 _ _ _ t u v, _, a, w, ha, hC, ⟨⟨o, ho, h⟩, ⟨o', ho', h'⟩, o2, ho2, h2⟩ =>
    ⟨⟨o, ho, xo_mono hC (fun a' w' hC' ⟨ρ', ha', h'⟩ => TX_of_TT t ρ' a' w' ha' hC' h') (h a ha hC)⟩, ⟨o', ho', xo_mono hC (fun a' w' hC' ⟨ρ', ha', h'⟩ => TX_of_TT u ρ' a' w' ha' hC' h') (h' a ha hC)⟩, ⟨o2, ho2, xo_mono hC (fun a' w' hC' ⟨ρ', ha', h'⟩ => TX_of_TT v ρ' a' w' ha' hC' h') (h2 a ha hC)⟩⟩
  | .fork4 _ _ _ _ t u v x, _, a, w, ha, hC, ⟨⟨o, ho, h⟩, ⟨o', ho', h'⟩, ⟨o2, ho2, h2⟩, o3, ho3, h3⟩ =>
    ⟨⟨o, ho, xo_mono hC (fun a' w' hC' ⟨ρ', ha', h'⟩ => TX_of_TT t ρ' a' w' ha' hC' h') (h a ha hC)⟩, ⟨o', ho', xo_mono hC (fun a' w' hC' ⟨ρ', ha', h'⟩ => TX_of_TT u ρ' a' w' ha' hC' h') (h' a ha hC)⟩, ⟨o2, ho2, xo_mono hC (fun a' w' hC' ⟨ρ', ha', h'⟩ => TX_of_TT v ρ' a' w' ha' hC' h') (h2 a ha hC)⟩, ⟨o3, ho3, xo_mono hC (fun a' w' hC' ⟨ρ', ha', h'⟩ => TX_of_TT x ρ' a' w' ha' hC' h') (h3 a ha hC)⟩⟩

theorem W_tree {id : Nat} {l : List Oper} {Q : Exit → Env → World → Prop} (N : Plan) (t : Tree) (hm : P.follows .mixedOrders = true) (hB : treeB0 N l.toArray t = true) (hc : N.C w.drew) (h : TT P N n l.toArray (fun ρ w => Q .normal ρ w) t ρ w.drew) : F.W P n (.region id l.toArray true) Q ρ w := fun a ha => by
  unfold treeB0 at hB
  simp only [Bool.and_eq_true] at hB
  obtain ⟨⟨⟨h1, h2⟩, h3⟩, h4⟩ := hB
  refine wp_region_any hm ?_
  refine wpAny_of_XA (N := N) (K := fun a w => liftQ n Q .normal a w) (fun _ _ _ h => h) _ _ _ _ hc ?_
  exact XA_tree h1 h2 t _ _ a w.drew (Nat.le_of_ble_eq_true h3) h4 hc closed_start (TX_of_TT t ρ a w.drew ha hc h)
end
end Go.F

namespace Go.F
open Go Go.RowKit

abbrev hV (l : List UInt8) : Value := .agg (l.map bV).toArray
theorem hVs {l : List UInt8} {k : Nat} (h : l.length = k) : (hV l).cells.size = k := by simp [Value.cells, h]
theorem one_hA (l : List UInt8) : ∀ u ∈ (hV l).cells.toList, u.oneCell' = true := by
  intro u hu; simp [Value.cells] at hu; obtain ⟨a, _, rfl⟩ := hu; rfl
theorem hcell1 (x : List UInt8) : (hV x).cells.toList = x.map bV := by simp [Value.cells]
theorem one_h {x : List UInt8} {k : Nat} (h : x.length = k) {q : Nat} : ∀ v ∈ [((q, hV x) : Nat × Value)].map (·.2), v.cells.size = k := by
  intro v hv; simp at hv; subst hv; exact hVs h
theorem all_h1 {x : List UInt8} {k : Nat} (h : x.length = k) : ∀ y ∈ [x], y.length = k := by intro y hy; simp at hy; subst hy; exact h
theorem all_app {a b : List (List UInt8)} {k : Nat} (h1 : ∀ y ∈ a, y.length = k) (h2 : ∀ y ∈ b, y.length = k) : ∀ y ∈ a ++ b, y.length = k := by
  intro y hy; rcases List.mem_append.1 hy with h | h
  · exact h1 y h
  · exact h2 y h

theorem Rd.lenB {G : Hp} {v : Value} {m : Nat} {l : List UInt8} (r : Rd G v m 1 (l.map bV)) : m = l.length := by have := r.1; simp at this; omega
theorem Rd.lenI {G : Hp} {v : Value} {m : Nat} {l : List Int} (r : Rd G v m 1 (l.map iV)) : m = l.length := by have := r.1; simp at this; omega
theorem Rd.len_of {G : Hp} {a : Option Addr} {m m' c size : Nat} {xs : List Value} (r : Rd G (.slice a m c) m' size xs) : m = m' := by
  obtain ⟨_, _, _, h, _⟩ := r; cases h; rfl
theorem RdL.len {G : Hp} {a : Option Addr} {m c : Nat} {ls : List (List UInt8)} (r : RdL G (.slice a m c) ls) : m = ls.length := by
  obtain ⟨hs, h, _⟩ := r; exact h.len_of
theorem RdH.len {G : Hp} {a : Option Addr} {m c k : Nat} {hs : List (List UInt8)} (r : RdH G (.slice a m c) k hs) : m = hs.length := r.2.len_of
theorem Rd.capOf {G : Hp} {a : Option Addr} {m m' c size : Nat} {xs : List Value} (r : Rd G (.slice a m c) m' size xs) : m ≤ c := by
  obtain ⟨_, _, _, h, hc, _⟩ := r; cases h; exact hc

theorem Rd.cutB {G : Hp} {v : Value} {m lo : Nat} {l : List UInt8} (r : Rd G v m 1 (((l.map bV).drop (lo * 1)).take (m * 1))) : Rd G v m 1 (((l.drop lo).take m).map bV) := by
  rw [Nat.mul_one, Nat.mul_one] at r; rw [List.map_take, List.map_drop]; exact r
theorem hcells_drop {k : Nat} : ∀ {l : List (List UInt8)} (_ : ∀ h ∈ l, h.length = k) (q : Nat), (hcells l).drop (q * k) = hcells (l.drop q)
  | [], _, q => by simp [hcells]
  | x :: l, hl, 0 => by simp
  | x :: l, hl, q + 1 => by
    have h1 : (x.map bV).length = k := by rw [List.length_map]; exact hl x (by simp)
    have ih := hcells_drop (l := l) (fun y hy => hl y (by simp [hy])) q
    simp only [hcells, List.flatMap_cons, List.drop_succ_cons] at ih ⊢
    rw [Nat.succ_mul, List.drop_append, h1]
    have e1 : q * k + k - k = q * k := by omega
    rw [e1, ih, List.drop_of_length_le (by rw [h1]; omega), List.nil_append]
theorem hcells_take {k : Nat} : ∀ {l : List (List UInt8)} (_ : ∀ h ∈ l, h.length = k) (q : Nat), (hcells l).take (q * k) = hcells (l.take q)
  | [], _, q => by simp [hcells]
  | x :: l, hl, 0 => by simp [hcells]
  | x :: l, hl, q + 1 => by
    have h1 : (x.map bV).length = k := by rw [List.length_map]; exact hl x (by simp)
    have ih := hcells_take (l := l) (fun y hy => hl y (by simp [hy])) q
    simp only [hcells, List.flatMap_cons, List.take_succ_cons] at ih ⊢
    rw [Nat.succ_mul, List.take_append, h1]
    have e1 : q * k + k - k = q * k := by omega
    rw [e1, ih, List.take_of_length_le (by rw [h1]; omega)]
theorem RdH.cut {G : Hp} {v : Value} {m lo k : Nat} {l : List (List UInt8)} (hl : ∀ h ∈ l, h.length = k) (hm : m = ((l.drop lo).take m).length) (r : Rd G v m k (((hcells l).drop (lo * k)).take (m * k))) : RdH G v k ((l.drop lo).take m) := by
  have h2 : ∀ h ∈ l.drop lo, h.length = k := fun h hh => hl h (List.mem_of_mem_drop hh)
  rw [hcells_drop hl, hcells_take h2] at r
  exact ⟨fun h hh => h2 h (List.mem_of_mem_take hh), r.canon hm⟩

theorem at_b (l : List UInt8) (q : Nat) (h : q < l.length) : (l.map bV)[q * 1 + 0]? = some (bV (l.getD q 0)) := by
  simp [h]
theorem at_i (l : List Int) (q : Nat) (h : q < l.length) : (l.map iV)[q * 1 + 0]? = some (iV (l.getD q 0)) := by
  simp [h]
theorem len_h {l : List (List UInt8)} {k : Nat} (hl : ∀ h ∈ l, h.length = k) (q : Nat) (h : q < l.length) : (l.getD q []).length = k := by
  rw [List.getD_eq_getElem?_getD, List.getElem?_eq_getElem h]; exact hl _ (List.getElem_mem h)
theorem cells_h {G : Hp} {b off k : Nat} {l : List (List UInt8)} (hl : ∀ h ∈ l, h.length = k) (q : Nat) (h : q < l.length) (hc : ∀ (j : Nat) u, (hcells l)[q * k + j]? = some u → hcell G b (off + j) = some u) :
    ∀ (j : Nat) u, ((l.getD q []).map bV).toArray[j]? = some u → hcell G b (off + j) = some u := fun j u hu => by
  refine hc j u (hcells_at hl q (l.getD q []) ?_ j u (by simpa using hu))
  rw [List.getD_eq_getElem?_getD, List.getElem?_eq_getElem h]; rfl
theorem cells_bV {G : Hp} {b off : Nat} {l : List UInt8} (hc : ∀ (j : Nat) u, (l.map bV).toArray[j]? = some u → hcell G b (off + j) = some u) : ∀ (j : Nat) u, (l.map bV)[j]? = some u → hcell G b (off + j) = some u := fun j u hu => hc j u (by simpa using hu)
theorem at_hV (l : List UInt8) (q : Nat) (h : q < l.length) : (l.map bV).toArray[((q : Nat) : Int).toNat]? = some (bV (l.getD q 0)) := by
  simp [h]
theorem Rds.at {G : Hp} {hs : List Value} {ls : List (List UInt8)} (r : Rds G hs ls) (q : Nat) (h : q < ls.length) :
    ∃ a c, (ls.getD q []).length ≤ c ∧ hs[q]? = some (.slice a (ls.getD q []).length c) ∧ Rd G (.slice a (ls.getD q []).length c) (ls.getD q []).length 1 ((ls.getD q []).map bV) := by
  have hl : ls[q]? = some (ls.getD q []) := by rw [List.getD_eq_getElem?_getD, List.getElem?_eq_getElem h]; rfl
  have hq : q < hs.length := by rw [r.1]; exact h
  have hv : hs[q]? = some hs[q] := List.getElem?_eq_getElem hq
  have h1 := r.2 q _ _ hv hl
  obtain ⟨a, c, e, hc⟩ := h1.shape
  rw [e] at h1 hv
  exact ⟨a, c, hc, hv, h1⟩

theorem still_cells {G : Hp} {b : Nat} {c : Array Value} {t : TypeId} {fz : Nat × Nat} (h : G b = some (.cells c t fz)) : ∀ (j : Nat) u, c[j]? = some u → hcell G b (0 + j) = some u := fun j u hu => by
  unfold hcell; rw [h]; simpa using hu
theorem still_cell {G : Hp} {b m : Nat} {c : Array Value} {t : TypeId} {fz : Nat × Nat} {v : Value} (h : G b = some (.cells c t fz)) (hv : c[m]? = some v) : hcell G b m = some v := by
  unfold hcell; rw [h]; exact hv
theorem still_part {G : Hp} {b off : Nat} {c cs : Array Value} {t : TypeId} {fz : Nat × Nat} (h : G b = some (.cells c t fz)) (hc : ∀ (q : Nat) v, cs[q]? = some v → c[off + q]? = some v) : ∀ (j : Nat) u, cs[j]? = some u → hcell G b (off + j) = some u := fun j u hu => by
  unfold hcell; rw [h]; exact hc j u hu

section
variable {P : Program} {N : Plan} {n : Nat} {ops : Array Oper} {K : Env → World → Prop} {rest : List Oper} {ρ : Env} {w : World}

theorem T_sliceAll {o : Oper} {d : Nat} {t e : TypeId} {i : TypeInfo} {x : Operand} {b off n0 : Nat} (ho : o.op = .slice t x none none none) (hx : ρ.ev x = some (.pointer (some ⟨b, off, none⟩))) (ht : P.underlying t = some (.array n0 e)) (hi' : P.info? e = some i) (hsize : i.size = 1) (hg : o.guard = none) (hd : o.dst = some d) (hn : Nat.ble (d + 1) n = true)
    (k : T P N n ops K rest ((d, .slice (some ⟨b, off, none⟩) n0 n0) :: ρ) w) : T P N n ops K (o :: rest) ρ w :=
  T_val hg hd hn (fun ac ha u => by
    have e1 := ha.ev hx
    unfold execOp; rw [ho]; simp only [e1, Option.map_none]
    have hb := run_sliceBounds (P := P) (len := n0) (cap := n0) (lo := none) (hi := none) (l := 0) (h := n0) false rfl rfl (Nat.zero_le _) (Nat.le_refl _) u
    by_cases h0 : n0 = 0
    · subst h0; simp [Instr.sliceAt, Instr.sureAddr, run_underlying ht, hb, run_size hi', hsize]
    · simp [Instr.sliceAt, Instr.sureAddr, run_underlying ht, hb, run_size hi', hsize, h0, add_none]) k

theorem T_bne {o : Oper} {d : Nat} {t t' : TypeId} {x y : Operand} {p q : Bool} (ho : o.op = .binOp .neq t x y t') (hx : ρ.ev x = some (.bool p)) (hy : ρ.ev y = some (.bool q)) (ht : P.underlying t = some .bool) (hg : o.guard = none) (hd : o.dst = some d) (hn : Nat.ble (d + 1) n = true)
    (k : T P N n ops K rest ((d, .bool (!decide (p = q))) :: ρ) w) : T P N n ops K (o :: rest) ρ w :=
  T_val hg hd hn (fun a ha u => by
    have e1 := ha.ev hx
    have e2 := ha.ev hy
    have hq := run_equal_bool (P := P) u t p q ht
    have e : (p == q) = decide (p = q) := by cases p <;> cases q <;> rfl
    unfold execOp; rw [ho]; simp only [e1, e2]
    simp [eqGuard, binOp, hq, e]) k

theorem str_append (l m : List UInt8) : (⟨l.toArray⟩ : ByteArray) ++ ⟨m.toArray⟩ = ⟨(l ++ m).toArray⟩ := by
  apply ByteArray.ext
  simp
theorem T_stradd {o : Oper} {d : Nat} {t t' : TypeId} {x y : Operand} {l m : List UInt8} (ho : o.op = .binOp .add t x y t') (hx : ρ.ev x = some (str l)) (hy : ρ.ev y = some (str m)) (hg : o.guard = none) (hd : o.dst = some d) (hn : Nat.ble (d + 1) n = true) (hlen : l.length + m.length ≤ 9223372036854775807)
    (k : T P N n ops K rest ((d, str (l ++ m)) :: ρ) w) : T P N n ops K (o :: rest) ρ w :=
  T_val hg hd hn (fun a ha u => by
    have e1 := ha.ev hx
    have e2 := ha.ev hy
    unfold execOp; rw [ho]; simp only [e1, e2, str]
    have hs : ¬ (9223372036854775807 < ((l.length : Nat) : Int) + ((m.length : Nat) : Int)) := by omega
    simp [eqGuard, binOp, Op.stringOp, str_append, ByteArray.size]
    omega) k
end
end Go.F
namespace Go.F
open Go Go.RowKit
section
variable {P : Program} {N : Plan} {n : Nat} {ops : Array Oper} {K : Env → World → Prop} {rest : List Oper} {ρ : Env} {w : World}

theorem T_indexStr {o : Oper} {d : Nat} {t : TypeId} {x y : Operand} {l : List UInt8} {k0 : IntKind} {z : Int} (q : Nat) (ho : o.op = .index t x y) (hx : ρ.ev x = some (str l)) (hy : ρ.ev y = some (.int k0 z)) (ht : P.underlying t = some .string) (hg : o.guard = none) (hd : o.dst = some d) (hn : Nat.ble (d + 1) n = true)
    (hz : z = (q : Int)) (hq : q < l.length) (k : T P N n ops K rest ((d, bV (l.getD q 0)) :: ρ) w) : T P N n ops K (o :: rest) ρ w :=
  T_val hg hd hn (fun a ha u => by
    have e1 := ha.ev hx
    have e2 := ha.ev hy
    subst hz
    have hs : (⟨l.toArray⟩ : ByteArray)[q]? = some (l.getD q 0) := by
      have hq' : q < (⟨l.toArray⟩ : ByteArray).size := by simpa [ByteArray.size] using hq
      rw [getElem?_pos _ q hq', List.getD_eq_getElem?_getD, List.getElem?_eq_getElem hq]
      rfl
    unfold execOp; rw [ho]; simp only [e1, e2, str]
    simp [Instr.index, asIntOf, run_underlying ht, hs]) k
theorem T_cutStr {o : Oper} {d : Nat} {t : TypeId} {x : Operand} {lo hi : Option Operand} {vlo vhi : Option Value} {l : List UInt8} (p q : Nat) (ho : o.op = .slice t x lo hi none) (hx : ρ.ev x = some (str l)) (hlo : optEv ρ lo = some vlo) (hhi : optEv ρ hi = some vhi) (ht : P.underlying t = some .string) (hg : o.guard = none) (hd : o.dst = some d) (hn : Nat.ble (d + 1) n = true)
    (hh : bound l.length vhi = some q) (hl : bound 0 vlo = some p) (h1 : p ≤ q) (h2 : q ≤ l.length) (k : T P N n ops K rest ((d, str ((l.drop p).take (q - p))) :: ρ) w) : T P N n ops K (o :: rest) ρ w :=
  T_val hg hd hn (fun a ha u => by
    have e1 := ha.ev hx
    have e2 := optEv_map ha hlo
    have e3 := optEv_map ha hhi
    have hsz : (⟨l.toArray⟩ : ByteArray).size = l.length := by simp [ByteArray.size]
    have hb := run_sliceBounds (P := P) (len := l.length) (cap := l.length) (lo := vlo) (hi := vhi) false hh hl h1 h2 u
    have he : (⟨l.toArray⟩ : ByteArray).extract p q = ⟨((l.drop p).take (q - p)).toArray⟩ := by
      apply ByteArray.ext
      simp [ByteArray.data_extract]
    unfold execOp; rw [ho]; simp only [e1, e2, e3, str, Option.map_none]
    simp [Instr.sliceAt, Instr.slice, run_underlying ht, hsz, hb, he]) k
theorem T_remU {o : Oper} {d : Nat} {t t' : TypeId} {x y : Operand} {k0 k1 : IntKind} {p q : Int} (ho : o.op = .binOp .rem t x y t') (hx : ρ.ev x = some (.int k0 p)) (hy : ρ.ev y = some (.int k1 q)) (hkk : k0 = k1) (hg : o.guard = none) (hd : o.dst = some d) (hn : Nat.ble (d + 1) n = true)
    (hp : 0 ≤ p ∧ 0 < q) (k : T P N n ops K rest ((d, .int k0 (p % q)) :: ρ) w) : T P N n ops K (o :: rest) ρ w :=
  T_val hg hd hn (fun a ha u => by
    have h1 := ha.ev hx
    have h2 := ha.ev hy
    subst hkk
    unfold execOp; rw [ho]; simp only [h1, h2]
    have e : p.tmod q = p % q := Int.tmod_eq_emod_of_nonneg hp.1
    have hq : q ≠ 0 := by omega
    simp [go_sem, Op.intDiv, hq, e]) k
theorem T_quoU {o : Oper} {d : Nat} {t t' : TypeId} {x y : Operand} {k0 k1 : IntKind} {p q : Int} (ho : o.op = .binOp .quo t x y t') (hx : ρ.ev x = some (.int k0 p)) (hy : ρ.ev y = some (.int k1 q)) (hkk : k0 = k1) (hg : o.guard = none) (hd : o.dst = some d) (hn : Nat.ble (d + 1) n = true)
    (hp : 0 ≤ p ∧ 0 < q) (hw : k0.wrap (p / q) = p / q) (k : T P N n ops K rest ((d, .int k0 (p / q)) :: ρ) w) : T P N n ops K (o :: rest) ρ w :=
  T_val hg hd hn (fun a ha u => by
    have h1 := ha.ev hx
    have h2 := ha.ev hy
    subst hkk
    unfold execOp; rw [ho]; simp only [h1, h2]
    have e : p.tdiv q = p / q := Int.tdiv_eq_ediv_of_nonneg hp.1
    have hq : q ≠ 0 := by omega
    simp [go_sem, Op.intDiv, hq, e, hw]) k
theorem T_shrU {o : Oper} {d : Nat} {t t' : TypeId} {x y : Operand} {kx ky : IntKind} {p z : Int} (q : Nat) (ho : o.op = .binOp .shr t x y t') (hx : ρ.ev x = some (.int kx p)) (hy : ρ.ev y = some (.int ky z)) (hz : z = (q : Int)) (hqb : q ≤ kx.bits) (hp : 0 ≤ p) (hg : o.guard = none) (hd : o.dst = some d) (hn : Nat.ble (d + 1) n = true)
    (k : T P N n ops K rest ((d, .int kx (p / 2 ^ q)) :: ρ) w) : T P N n ops K (o :: rest) ρ w := by
  refine T_shr ho hx hy hg hd hn (by omega) ?_
  have e : min z.toNat kx.bits = q := by omega
  rw [e, Int.fdiv_eq_ediv_of_nonneg _ (Int.pow_nonneg (by omega))]
  exact k
theorem T_sliceAc {o : Oper} {d : Nat} {t e : TypeId} {i : TypeInfo} {x : Operand} {lo hi : Option Operand} {vlo vhi : Option Value} {b off n0 : Nat} (l h : Nat) (ho : o.op = .slice t x lo hi none) (hx : ρ.ev x = some (.pointer (some ⟨b, off, none⟩))) (hlo : optEv ρ lo = some vlo) (hhi : optEv ρ hi = some vhi) (ht : P.underlying t = some (.array n0 e)) (hi' : P.info? e = some i) (hsize : i.size = 1) (hg : o.guard = none) (hd : o.dst = some d) (hn : Nat.ble (d + 1) n = true)
    (hh : bound n0 vhi = some h) (hl : bound 0 vlo = some l) (h1 : l ≤ h) (h2 : h ≤ n0) (h3 : l < n0)
    (k : T P N n ops K rest ((d, .slice (some ⟨b, off + l, none⟩) (h - l) (n0 - l)) :: ρ) w) : T P N n ops K (o :: rest) ρ w :=
  T_val hg hd hn (fun ac ha u => by
    have e1 := ha.ev hx
    have e2 := optEv_map ha hlo
    have e3 := optEv_map ha hhi
    unfold execOp; rw [ho]; simp only [e1, e2, e3, Option.map_none]
    have hb := run_sliceBounds (P := P) (len := n0) (cap := n0) (lo := vlo) (hi := vhi) false hh hl h1 h2 u
    have hne : ¬ n0 = l := by omega
    simp [Instr.sliceAt, Instr.sureAddr, run_underlying ht, hb, run_size hi', hsize, hne, add_none]) k
end
theorem Rd.of_blk_at {G : Hp} {b off m c0 size : Nat} {c : Array Value} {t : TypeId} {fz : Nat × Nat} {xs : List Value} (h : G b = some (.cells c t fz)) (hl : xs.length = m * size) (hm : m ≤ c0) (hc : ∀ (j : Nat) u, xs[j]? = some u → c[off + j]? = some u) : Rd G (.slice (some ⟨b, off, none⟩) m c0) m size xs :=
  ⟨hl, _, c0, rfl, hm, fun e => (by cases e), fun ad e _ => by
    cases e
    refine ⟨rfl, fun i u hi => ?_⟩
    unfold hcell
    rw [h]
    exact hc i u hi⟩
end Go.F

namespace Go.F
open Go Go.RowKit
theorem RdH.mk {G : Hp} {v : Value} {k m : Nat} {D : List (List UInt8)} (hl : ∀ h ∈ D, h.length = k) (hk : 0 < k) (r : Rd G v m k (hcells D)) : RdH G v k D :=
  ⟨hl, r.canon (by have h1 := r.1; rw [hcells_len hl] at h1; exact (Nat.eq_of_mul_eq_mul_right hk h1).symm)⟩
theorem take_min {α : Type} (b : List α) (n : Nat) : (b.drop 0).take (min b.length n - 0) = b.take n := by
  rw [List.drop_zero, Nat.sub_zero, List.take_eq_take_iff]; omega
theorem rdB_end {W w : World} {G : Hp} {D D' : List UInt8} {a : Option Addr} {m c : Nat} (hD : D = D') (hc : m ≤ c) (r : Rd G (.slice a m c) m 1 (D.map bV)) (hB : Below W.heap.size W w) :
    ∃ a' c', D'.length ≤ c' ∧ Ending.returned (.slice a m c) = .returned (.slice a' D'.length c') ∧ Rd G (.slice a' D'.length c') D'.length 1 (D'.map bV) ∧ Below W.heap.size W w := by
  subst hD
  obtain rfl : m = D.length := r.lenB
  exact ⟨a, c, hc, rfl, r, hB⟩
theorem take_ext {α : Type} {l m : List α} {d : α} (hl : l.length = m.length) {k : Nat} (hk : k < l.length) (h : l.take k = m.take k) (e : l.getD k d = m.getD k d) : l.take (k + 1) = m.take (k + 1) := by
  rw [List.take_succ_eq_append_getElem hk, List.take_succ_eq_append_getElem (by omega), h]
  simp only [List.getD_eq_getElem?_getD, List.getElem?_eq_getElem hk, List.getElem?_eq_getElem (show k < m.length by omega), Option.getD_some] at e
  rw [e]
theorem getD_ne {α : Type} {l m : List α} {d : α} {k : Nat} (h : l.getD k d ≠ m.getD k d) : l ≠ m := fun e => h (by rw [e])
theorem nilB (G : Hp) : Rd G (.slice none 0 0) 0 1 (([] : List UInt8).map bV) := Rd.nil _ _
theorem nilS (G : Hp) : RdL G (.slice none 0 0) [] := ⟨[], Rd.nil _ _, Rds.nil _⟩
theorem cell_hV (l : List UInt8) (q : Nat) (h : q < l.length) : (hV l).cells[q]? = some (bV (l.getD q 0)) := by
  simp [Value.cells, h]
section
variable {P : Program} {N : Plan} {n : Nat} {ops : Array Oper} {K : Env → World → Prop} {rest : List Oper} {ρ : Env} {w W : World} {H G : Hp} {its : List Item}

theorem freeze_off (w : World) {g : Nat} {cur : Array Value} {e : TypeId} {fz : Nat × Nat} (hg : w.heap[g]? = some (.cells cur e fz)) (ho : Off fz cur.size) :
    ∃ fz', Off fz' cur.size ∧ (w.freeze ⟨g, cur.size, none⟩ 1).heap[g]? = some (.cells cur e fz') ∧ w.grownBy (w.freeze ⟨g, cur.size, none⟩ 1) (some g) := by
  obtain ⟨lo, hi⟩ := fz
  refine ⟨if lo == hi then (cur.size, cur.size + 1) else (min lo cur.size, max hi (cur.size + 1)), ?_, ?_, ?_⟩
  · by_cases h : lo = hi
    · simp [h, Off]
    · rcases ho with h' | h'
      · simp only [Prod.mk.injEq] at h'; omega
      · simp only at h'; simp [h, Off]; omega
  · unfold World.freeze
    rw [if_neg (by simp)]
    simp [Array.getElem?_modify, hg]
  · unfold World.freeze
    rw [if_neg (by simp)]
    exact ⟨rfl, rfl, rfl, by simp, fun k _ hk => by
      simp only [Array.getElem?_modify]
      rw [if_neg (fun e => hk (by rw [e]))]⟩

theorem T_mark {o : Oper} {d : Nat} {s t e : TypeId} {x : Operand} {a : Option Addr} {n0 c : Nat} {xs : List Value} (j : Nat) (S : St W H G its w) (hC : ∀ u, G.le (hw u) → N.C u) (hj : its[j]? = some (.row e 1 (.slice a n0 c) n0 xs)) (ho : o.op = .convert s t x) (hst : s = t) (hx : ρ.ev x = some (.slice a n0 c)) (ht : P.underlying t = some (.slice e)) (he : P.underlying e = some (.int .u8)) (hcl : N.cl o = .loud) (hg : o.guard = none) (hd : o.dst = some d) (hn : Nat.ble (d + 1) n = true)
    (hp : 0 < n0) (k : ∀ w', St W H G (its.set j (.row e 1 (.slice a n0 c) n0 xs)) w' → T P N n ops K rest ((d, .slice a n0 c) :: ρ) w') : T P N n ops K (o :: rest) ρ w := by
  subst hst
  have hr := S.row j hj
  obtain ⟨hlen, hh⟩ := hr
  rcases hh with ⟨_, h0⟩ | ⟨g, cap, cur, fz, hv, hB, hgg, hoff, hnc, hcm, hcs, htake⟩
  · omega
  · cases hv
    obtain ⟨fz', ho', hg', hgr⟩ := freeze_off w hgg hoff
    have S' := S.set j (it' := .row e 1 (.slice (some ⟨g, 0, none⟩) n0 c) n0 xs) hj hgr ⟨hlen, .inr ⟨g, c, cur, fz', rfl, hB, hg', ho', hnc, hcm, hcs, htake⟩⟩ (fun b h => .inl h)
    refine T_ran hcl hg hd hn (fun ac ha => ?_) (hC _ S'.le) (k _ S')
    have e1 := ha.ev hx
    have hsh : w.shape? g = some (e, cur.size) := by unfold World.shape?; rw [hgg]
    unfold execOp; rw [ho]; simp only [e1]
    simp [convert, run_underlying ht, run_underlying he, markStringish, hsh]
end
end Go.F

namespace Go.F
open Go Go.RowKit
section
variable {P : Program} {N : Plan} {n : Nat} {ops : Array Oper} {K : Env → World → Prop} {rest : List Oper} {ρ : Env} {w : World}
end
theorem hV_cut {l : List UInt8} {m q : Nat} (h : q + m ≤ l.length) : ∀ (j : Nat) v, (((l.drop q).take m).map bV).toArray[j]? = some v → (hV l).cells[q + j]? = some v := by
  intro j v hv
  simp only [List.getElem?_toArray, List.getElem?_map, List.getElem?_take, List.getElem?_drop] at hv
  show (l.map bV).toArray[q + j]? = some v
  split at hv
  · simpa using hv
  · cases hv
end Go.F

namespace Go.F
open Go Go.RowKit

def RdsH (G : Hp) (hs : List Value) (ls : List (List (List UInt8))) : Prop := hs.length = ls.length ∧ ∀ (i : Nat) v l, hs[i]? = some v → ls[i]? = some l → RdH G v 32 l
theorem RdsH.nil (G : Hp) : RdsH G [] [] := ⟨rfl, fun i v l h => by simp at h⟩
theorem RdsH.mono {G G' : Hp} {hs : List Value} {ls : List (List (List UInt8))} (h : RdsH G hs ls) (hl : G.le G') : RdsH G' hs ls := ⟨h.1, fun i v l a b => (h.2 i v l a b).mono hl⟩
theorem RdsH.cons {G : Hp} {v : Value} {l : List (List UInt8)} {hs : List Value} {ls : List (List (List UInt8))} (r : RdH G v 32 l) (h : RdsH G hs ls) : RdsH G (v :: hs) (l :: ls) :=
  ⟨by simp [h.1], fun i u m a b => by
    cases i with
    | zero => simp at a b; subst a; subst b; exact r
    | succ i => exact h.2 i u m (by simpa using a) (by simpa using b)⟩
theorem RdsH.append {G : Hp} {hs hs' : List Value} {ls ls' : List (List (List UInt8))} (h : RdsH G hs ls) (h' : RdsH G hs' ls') : RdsH G (hs ++ hs') (ls ++ ls') :=
  ⟨by simp [h.1, h'.1], fun i u m a b => by
    rw [List.getElem?_append] at a b
    rw [h.1] at a
    split at a
    · rename_i hi; rw [if_pos hi] at b; exact h.2 i u m a b
    · rename_i hi; rw [if_neg hi] at b; exact h'.2 _ u m a b⟩
def RdLH (G : Hp) (v : Value) (ls : List (List (List UInt8))) : Prop := ∃ hs, Rd G v ls.length 1 hs ∧ RdsH G hs ls
theorem RdLH.mono {G G' : Hp} {v : Value} {ls : List (List (List UInt8))} (h : RdLH G v ls) (hl : G.le G') : RdLH G' v ls := by obtain ⟨hs, a, b⟩ := h; exact ⟨hs, a.mono hl, b.mono hl⟩
theorem RdLH.mk {G : Hp} {v : Value} {hs : List Value} {ls : List (List (List UInt8))} {m : Nat} (r : Rd G v m 1 hs) (h : RdsH G hs ls) : RdLH G v ls := ⟨hs, r.canon (by have := r.1; have := h.1; omega), h⟩
theorem RdsH.one {G : Hp} {hs : List Value} {ls : List (List (List UInt8))} (h : RdsH G hs ls) : ∀ u ∈ hs, u.oneCell' = true := by
  intro u hu
  obtain ⟨i, hi⟩ := List.getElem?_of_mem hu
  have hlt : i < ls.length := by rw [← h.1]; exact (List.getElem?_eq_some_iff.1 hi).1
  obtain ⟨a, c, e, _⟩ := (h.2 i u _ hi (List.getElem?_eq_getElem hlt)).shape
  rw [e]; rfl
theorem RdsH.at {G : Hp} {hs : List Value} {ls : List (List (List UInt8))} (r : RdsH G hs ls) (q : Nat) (h : q < ls.length) :
    ∃ a c, (ls.getD q []).length ≤ c ∧ hs[q]? = some (.slice a (ls.getD q []).length c) ∧ RdH G (.slice a (ls.getD q []).length c) 32 (ls.getD q []) := by
  have hq : q < hs.length := by rw [r.1]; exact h
  have e : ls[q]? = some (ls.getD q []) := by rw [List.getD_eq_getElem?_getD, List.getElem?_eq_getElem h]; rfl
  have h1 := r.2 q _ _ (List.getElem?_eq_getElem hq) e
  obtain ⟨a, c, hv, hc⟩ := h1.shape
  rw [hv] at h1
  exact ⟨a, c, hc, by rw [List.getElem?_eq_getElem hq, hv], h1⟩
end Go.F

namespace Go.F
open Go Go.RowKit
theorem RdsH.cut {G : Hp} {hs : List Value} {ls : List (List (List UInt8))} (h : RdsH G hs ls) (lo m : Nat) : RdsH G ((hs.drop (lo * 1)).take (m * 1)) ((ls.drop lo).take m) := by
  rw [Nat.mul_one, Nat.mul_one]
  refine ⟨by simp only [List.length_take, List.length_drop, h.1], fun i v l hv hl => ?_⟩
  rw [List.getElem?_take, List.getElem?_drop] at hv hl
  split at hv
  · rename_i hi; rw [if_pos hi] at hl; exact h.2 _ v l hv hl
  · cases hv
section
variable {P : Program} {N : Plan} {n : Nat} {ops : Array Oper} {K : Env → World → Prop} {rest : List Oper} {ρ : Env} {w : World}
theorem Cs {o : Oper} {d : Nat} {f : FuncId} {xs : List Operand} {ts : Array TypeId} {args : List Value} (hf : goFn P f = true) (c : Calls P f args.toArray w (fun e w' => ∃ v, e = .returned v ∧ N.C w' ∧ T P N n ops K rest ((d, v) :: ρ) w')) (ho : o.op = .call ⟨.value (.func f), xs.toArray, ts⟩ := by exact rfl) (hxs : evs ρ xs = some args := by exact rfl) (hcl : N.cl o = .loud := by exact rfl) (hg : o.guard = none := by exact rfl) (hd : o.dst = some d := by exact rfl) (hn : Nat.ble (d + 1) n = true := by exact rfl) : T P N n ops K (o :: rest) ρ w := T_callS ho hxs hf hcl hg hd hn c
end
theorem Nt {P : Program} {N : Plan} {n i : Nat} {ops : Array Oper} {K : Env → World → Prop} {t : Tree} {o : Oper} {ρ : Env} {w : World} (ho : ops[i]? = some o) (h : T P N n ops (TT P N n ops K t) [o] ρ w) : T P N n ops (TT P N n ops K (.step i t)) [] ρ w := T_nil (TT_step ho h)
end Go.F
