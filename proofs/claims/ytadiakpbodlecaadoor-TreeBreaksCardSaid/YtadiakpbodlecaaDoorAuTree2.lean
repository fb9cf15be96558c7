/- The hashes beside a leaf's way, and what a way makes, in plain words. -/
import Derived.Test.YtadiakpbodlecaaDoorAuTree
set_option linter.unusedVariables false
set_option linter.unusedSimpArgs false
set_option maxRecDepth 8192
namespace Go.Au
/-- The neighbour under one node. -/
def sib (i : Nat) : Nat := if i % 2 = 0 then i + 1 else i - 1
theorem sib_lt {i m : Nat} (hm : m % 2 = 0) (h : i < m) : sib i < m := by unfold sib; split <;> omega
/-- The first k hashes beside the way of leaf i above a row r. -/
def beside (r : List (List UInt8)) (i k : Nat) : List (List UInt8) := (List.range k).map fun j => (ups r j).getD (sib (i / 2 ^ j)) []
theorem beside_len (r : List (List UInt8)) (i k : Nat) : (beside r i k).length = k := by simp [beside]
theorem beside_snoc (r : List (List UInt8)) (i k : Nat) : beside r i k ++ [(ups r k).getD (sib (i / 2 ^ k)) []] = beside r i (k + 1) := by simp [beside, List.range_succ]
theorem range_at {α : Type} (f : Nat → α) (d : α) {k j : Nat} (h : j < k) : ((List.range k).map f).getD j d = f j := by
  rw [List.getD_eq_getElem?_getD, List.getElem?_map, List.getElem?_range h]; rfl
theorem beside_at (r : List (List UInt8)) (i : Nat) {k j : Nat} (h : j < k) : (beside r i k).getD j [] = (ups r j).getD (sib (i / 2 ^ j)) [] := range_at _ _ h
theorem half_lt {i m k : Nat} (h : i < 2 ^ m) (hk : k ≤ m) : i / 2 ^ k < 2 ^ (m - k) := by
  rw [Nat.div_lt_iff_lt_mul (Nat.pow_pos (by omega)), ← Nat.pow_add, Nat.sub_add_cancel hk]; exact h
theorem half_succ (i k : Nat) : i / 2 ^ k / 2 = i / 2 ^ (k + 1) := by rw [Nat.div_div_eq_div_mul, Nat.pow_succ]
theorem getD_len {l : List (List UInt8)} {n : Nat} (h : ∀ b ∈ l, b.length = n) {q : Nat} (hq : q < l.length) : (l.getD q []).length = n := by
  rw [List.getD_eq_getElem?_getD, List.getElem?_eq_getElem hq]; exact h _ (List.getElem_mem _)
theorem beside_all {l : List (List UInt8)} (h : ∀ b ∈ l, b.length = 32) {i : Nat} (hi : i < l.length) {k : Nat} (hk : k ≤ lg l.length) : ∀ b ∈ beside (rowP l) i k, b.length = 32 := by
  intro b hb
  obtain ⟨j, hj, rfl⟩ := List.mem_map.1 hb
  rw [List.mem_range] at hj
  have hlt : i / 2 ^ j < 2 ^ (lg l.length - j) := half_lt (Nat.lt_of_lt_of_le hi (lg_up _)) (by omega)
  refine getD_len (ups_all (rowP_all h) j) ?_
  rw [ups_len (rowP_len l) j (by omega)]
  refine sib_lt ?_ hlt
  rw [show lg l.length - j = (lg l.length - j - 1) + 1 by omega, Nat.pow_succ]; omega

/-- A node's two hashes: that on the way at place i, and that beside it. -/
def onW (i : Nat) (x q : List UInt8) : List UInt8 := if i % 2 = 1 then q ++ x else x ++ q
def textN (a b : List UInt8) : List UInt8 := text [110, 111, 100, 101] [a, b]
def textP (xy : List UInt8) : List UInt8 := textN (xy.take 32) (xy.drop 32)
def nodeP (xy : List UInt8) : List UInt8 := node (xy.take 32) (xy.drop 32)
theorem nodeP_sha (xy : List UInt8) : nodeP xy = Go.Sha.sha (textP xy) := rfl
theorem nodeP_len (xy : List UInt8) : (nodeP xy).length = 32 := node_len _ _
theorem nodeP_app {a b : List UInt8} (h : a.length = 32) : nodeP (a ++ b) = node a b := by
  unfold nodeP; rw [List.take_left' h, List.drop_left' h]
theorem textP_app {a b : List UInt8} (h : a.length = 32) : textP (a ++ b) = textN a b := by
  unfold textP; rw [List.take_left' h, List.drop_left' h]
theorem onW_len {i : Nat} {x q : List UInt8} (hx : x.length = 32) (hq : q.length = 32) : (onW i x q).length = 64 := by
  unfold onW; split <;> simp [hx, hq]
theorem onW_inj {i : Nat} {x q y r : List UInt8} (hx : x.length = 32) (hq : q.length = 32) (hy : y.length = 32) (hr : r.length = 32) (h : onW i x q = onW i y r) : x = y ∧ q = r := by
  unfold onW at h
  split at h
  · obtain ⟨a, b⟩ := List.append_inj h (by omega); exact ⟨b, a⟩
  · exact List.append_inj h (by omega)
theorem onW_take (i : Nat) {x q : List UInt8} (hx : x.length = 32) (hq : q.length = 32) : nodeP (onW i x q) = if i % 2 = 1 then node q x else node x q := by
  unfold onW; split
  · exact nodeP_app hq
  · exact nodeP_app hx
/-- What a way of k steps makes. -/
def climb (i : Nat) (x : List UInt8) (p : List (List UInt8)) : Nat → List UInt8
  | 0 => x
  | k + 1 => nodeP (onW (i / 2 ^ k) (climb i x p k) (p.getD k []))
theorem climb_len (i : Nat) {x : List UInt8} (hx : x.length = 32) (p : List (List UInt8)) : ∀ k, (climb i x p k).length = 32
  | 0 => hx
  | _ + 1 => nodeP_len _
/-- The nodes on a way of k steps. -/
def ways (i : Nat) (x : List UInt8) (p : List (List UInt8)) (k : Nat) : List (List UInt8) := (List.range k).map fun j => onW (i / 2 ^ j) (climb i x p j) (p.getD j [])
theorem ways_len (i : Nat) (x : List UInt8) (p : List (List UInt8)) (k : Nat) : (ways i x p k).length = k := by simp [ways]
theorem ways_snoc (i : Nat) (x : List UInt8) (p : List (List UInt8)) (k : Nat) : ways i x p k ++ [onW (i / 2 ^ k) (climb i x p k) (p.getD k [])] = ways i x p (k + 1) := by simp [ways, List.range_succ]
theorem ways_at (i : Nat) (x : List UInt8) (p : List (List UInt8)) {k j : Nat} (h : j < k) : (ways i x p k).getD j [] = onW (i / 2 ^ j) (climb i x p j) (p.getD j []) := range_at _ _ h
theorem ways_all (i : Nat) {x : List UInt8} (hx : x.length = 32) {p : List (List UInt8)} (hp : ∀ b ∈ p, b.length = 32) {k : Nat} (hk : k ≤ p.length) : ∀ b ∈ ways i x p k, b.length = 64 := by
  intro b hb
  obtain ⟨j, hj, rfl⟩ := List.mem_map.1 hb
  rw [List.mem_range] at hj
  exact onW_len (climb_len i hx p j) (getD_len hp (by omega))
/-- Is there a way: of a leaf that there is, in a tree that is not too great, of the tree's height. -/
def okW (n i : Int) (m : Nat) : Bool := decide (0 ≤ i ∧ i < n ∧ n ≤ 256 ∧ m = lg n.toNat)
def climbH (n i : Int) (x : List UInt8) (p : List (List UInt8)) : List UInt8 := if okW n i p.length then climb i.toNat x p p.length else List.replicate 32 0
def waysH (n i : Int) (x : List UInt8) (p : List (List UInt8)) : List (List UInt8) := if okW n i p.length then ways i.toNat x p p.length else []
theorem climbH_len (n i : Int) {x : List UInt8} (hx : x.length = 32) (p : List (List UInt8)) : (climbH n i x p).length = 32 := by
  unfold climbH; split
  · exact climb_len _ hx _ _
  · simp
theorem waysH_all (n i : Int) {x : List UInt8} (hx : x.length = 32) {p : List (List UInt8)} (hp : ∀ b ∈ p, b.length = 32) : ∀ b ∈ waysH n i x p, b.length = 64 := by
  unfold waysH; split
  · exact ways_all _ hx hp (Nat.le_refl _)
  · intro b hb; cases hb
theorem okW_of {n i : Int} {m : Nat} (h : okW n i m = true) : 0 ≤ i ∧ i < n ∧ n ≤ 256 ∧ m = lg n.toNat := of_decide_eq_true h
theorem okW_mk {n i : Int} {m : Nat} (h : 0 ≤ i ∧ i < n ∧ n ≤ 256 ∧ m = lg n.toNat) : okW n i m = true := decide_eq_true h
theorem okW_no {n i : Int} {m : Nat} (h : ¬ (0 ≤ i ∧ i < n ∧ n ≤ 256 ∧ m = lg n.toNat)) : okW n i m = false := decide_eq_false h
theorem climbH_ok {n i : Int} {x : List UInt8} {p : List (List UInt8)} (h : okW n i p.length = true) : climbH n i x p = climb i.toNat x p p.length := by unfold climbH; rw [if_pos h]
theorem climbH_no {n i : Int} {x : List UInt8} {p : List (List UInt8)} (h : okW n i p.length = false) : climbH n i x p = List.replicate 32 0 := by unfold climbH; rw [if_neg (by simp [h])]
theorem waysH_ok {n i : Int} {x : List UInt8} {p : List (List UInt8)} (h : okW n i p.length = true) : waysH n i x p = ways i.toNat x p p.length := by unfold waysH; rw [if_pos h]
theorem waysH_no {n i : Int} {x : List UInt8} {p : List (List UInt8)} (h : okW n i p.length = false) : waysH n i x p = [] := by unfold waysH; rw [if_neg (by simp [h])]

/-! ### A leaf's own way leads to the root -/
theorem up_at (r : List (List UInt8)) {j : Nat} (h : j < r.length / 2) : (up r).getD j [] = node (r.getD (2 * j) []) (r.getD (2 * j + 1) []) := range_at _ _ h
theorem climb_beside {r : List (List UInt8)} (hr : ∀ b ∈ r, b.length = 32) {m i : Nat} (hl : r.length = 2 ^ m) (hi : i < 2 ^ m) {p : List (List UInt8)} (hp : ∀ j, j < m → p.getD j [] = (ups r j).getD (sib (i / 2 ^ j)) []) : ∀ k, k ≤ m → climb i (r.getD i []) p k = (ups r k).getD (i / 2 ^ k) []
  | 0, _ => by simp [climb, ups]
  | k + 1, hk => by
    have ih := climb_beside hr hl hi hp k (by omega)
    have hu := ups_len hl k (by omega)
    have h2 : 2 ^ (m - k) = 2 * 2 ^ (m - (k + 1)) := by rw [show m - k = (m - (k + 1)) + 1 by omega, Nat.pow_succ]; omega
    have hlt := half_lt hi (show k ≤ m by omega)
    have hs := half_succ i k
    have hall := ups_all hr k
    rw [climb, ih, hp k (by omega), ups]
    generalize hg : i / 2 ^ k = q at *
    have hsl : sib q < 2 ^ (m - k) := sib_lt (by omega) hlt
    rw [onW_take q (getD_len hall (by omega)) (getD_len hall (by omega)), ← hs, up_at _ (by omega)]
    unfold sib
    by_cases e : q % 2 = 1
    · rw [if_pos e, if_neg (by omega), show 2 * (q / 2) = q - 1 by omega, show q - 1 + 1 = q by omega]
    · rw [if_neg e, if_pos (by omega), show 2 * (q / 2) = q by omega]
theorem rowP_at {l : List (List UInt8)} {i : Nat} (h : i < l.length) : (rowP l).getD i [] = l.getD i [] := by
  have : ∀ k, (padTo l k).getD i [] = l.getD i [] := by
    intro k
    induction k with
    | zero => rfl
    | succ k ih =>
      rw [padTo, ← ih, List.getD_eq_getElem?_getD, List.getD_eq_getElem?_getD, List.getElem?_append_left (by rw [padTo_len]; omega)]
  exact this _
theorem climb_root {l : List (List UInt8)} (h : ∀ b ∈ l, b.length = 32) {i : Nat} (hi : i < l.length) : climb i (l.getD i []) (beside (rowP l) i (lg l.length)) (lg l.length) = root l := by
  have h1 := climb_beside (rowP_all h) (rowP_len l) (i := i) (Nat.lt_of_lt_of_le hi (lg_up _)) (p := beside (rowP l) i (lg l.length)) (fun j hj => beside_at _ _ hj) (lg l.length) (Nat.le_refl _)
  rw [rowP_at hi] at h1
  rw [h1, Nat.div_eq_of_lt (Nat.lt_of_lt_of_le hi (lg_up _))]; rfl
theorem okW_beside {l : List (List UInt8)} (hl : l.length ≤ 256) {i : Int} (h0 : 0 ≤ i) (hi : i < l.length) (r : List (List UInt8)) (q : Nat) : okW (l.length : Int) i (beside r q (lg l.length)).length = true :=
  okW_mk ⟨h0, hi, by omega, by rw [beside_len, Int.toNat_natCast]⟩
theorem climbH_root {l : List (List UInt8)} (h : ∀ b ∈ l, b.length = 32) (hl : l.length ≤ 256) {i : Int} (h0 : 0 ≤ i) (hi : i < l.length) : climbH (l.length : Int) i (l.getD i.toNat []) (beside (rowP l) i.toNat (lg l.length)) = root l := by
  rw [climbH_ok (okW_beside hl h0 hi _ _), beside_len]
  exact climb_root h (by omega)

/-! ### Breaks -/
theorem textN_inj {a b c d : List UInt8} (ha : a.length = 32) (hb : b.length = 32) (hc : c.length = 32) (hd : d.length = 32) (h : textN a b = textN c d) : a = c ∧ b = d := by
  unfold textN text at h
  have h1 := List.append_cancel_left h
  simp only [nets_cons, nets_nil, List.append_nil, net, ha, hb, hc, hd, List.append_assoc] at h1
  have h2 := List.append_cancel_left (List.append_cancel_left h1)
  obtain ⟨e1, h3⟩ := List.append_inj h2 (by omega)
  have h4 := List.append_cancel_left (List.append_cancel_left (List.append_cancel_left h3))
  exact ⟨e1, (List.append_inj h4 (by omega)).1⟩
theorem textP_inj {x y : List UInt8} (hx : x.length = 64) (hy : y.length = 64) (h : textP x = textP y) : x = y := by
  obtain ⟨a, b⟩ := textN_inj (by simp; omega) (by simp; omega) (by simp; omega) (by simp; omega) h
  rw [← List.take_append_drop 32 x, ← List.take_append_drop 32 y, a, b]
/-- The last place below k where two rows are unlike. -/
def lastNe (x y : List (List UInt8)) : Nat → Option Nat
  | 0 => none
  | k + 1 => if x.getD k [] = y.getD k [] then lastNe x y k else some k
theorem lastNe_none {x y : List (List UInt8)} : ∀ {k : Nat}, lastNe x y k = none → ∀ j, j < k → x.getD j [] = y.getD j []
  | 0, _, j, hj => by omega
  | k + 1, h, j, hj => by
    unfold lastNe at h
    split at h
    · rename_i e
      rcases Nat.lt_or_ge j k with h1 | h1
      · exact lastNe_none h j h1
      · obtain rfl : j = k := by omega
        exact e
    · cases h
theorem lastNe_some {x y : List (List UInt8)} : ∀ {k j : Nat}, lastNe x y k = some j → j < k ∧ x.getD j [] ≠ y.getD j [] ∧ ∀ q, j < q → q < k → x.getD q [] = y.getD q []
  | 0, j, h => by cases h
  | k + 1, j, h => by
    unfold lastNe at h
    split at h
    · rename_i e
      obtain ⟨h1, h2, h3⟩ := lastNe_some h
      refine ⟨by omega, h2, fun q a b => ?_⟩
      rcases Nat.lt_or_ge q k with h4 | h4
      · exact h3 q a h4
      · obtain rfl : q = k := by omega
        exact e
    · rename_i e
      obtain rfl := Option.some.inj h
      exact ⟨by omega, e, fun q a b => by omega⟩
/-- What the break of two ways is, if there is one. -/
def brk (n i : Int) (a b : List UInt8) (p q : List (List UInt8)) : Option (List UInt8 × List UInt8) :=
  if okW n i p.length = true ∧ okW n i q.length = true ∧ climbH n i a p = climbH n i b q then
    (lastNe (waysH n i a p) (waysH n i b q) p.length).map fun k => (textP ((waysH n i a p).getD k []), textP ((waysH n i b q).getD k []))
  else none
theorem waysH_len {n i : Int} {x : List UInt8} {p : List (List UInt8)} (h : okW n i p.length = true) : (waysH n i x p).length = p.length := by rw [waysH_ok h, ways_len]
theorem lastNe_at {x y : List (List UInt8)} {j : Nat} (h : ¬ x.getD j [] = y.getD j []) : lastNe x y (j + 1) = some j := if_neg h
theorem lastNe_eq {x y : List (List UInt8)} {j : Nat} (h : x.getD j [] = y.getD j []) : lastNe x y (j + 1) = lastNe x y j := if_pos h
def brA (o : Option (List UInt8 × List UInt8)) : List UInt8 := match o with | some x => x.1 | none => []
def brB (o : Option (List UInt8 × List UInt8)) : List UInt8 := match o with | some x => x.2 | none => []
/-- Above the last place where they are unlike, ways with one end are one. -/
theorem ways_top {i : Nat} {a b : List UInt8} (ha : a.length = 32) (hb : b.length = 32) {p q : List (List UInt8)} (hp : ∀ x ∈ p, x.length = 32) (hq : ∀ x ∈ q, x.length = 32) {m : Nat} (hpm : m ≤ p.length) (hqm : m ≤ q.length) (h : climb i a p m = climb i b q m) :
    ∀ d j, j + d = m → (∀ k, j ≤ k → k < m → (ways i a p m).getD k [] = (ways i b q m).getD k []) → climb i a p j = climb i b q j ∧ ∀ k, j ≤ k → k < m → p.getD k [] = q.getD k []
  | 0, j, hj, _ => by
    obtain rfl : j = m := by omega
    exact ⟨h, fun k a b => by omega⟩
  | d + 1, j, hj, he => by
    obtain ⟨_, h2⟩ := ways_top ha hb hp hq hpm hqm h d (j + 1) (by omega) (fun k a b => he k (by omega) b)
    have e := he j (Nat.le_refl _) (by omega)
    rw [ways_at _ _ _ (by omega), ways_at _ _ _ (by omega)] at e
    obtain ⟨e1, e2⟩ := onW_inj (climb_len i ha p j) (getD_len hp (by omega)) (climb_len i hb q j) (getD_len hq (by omega)) e
    refine ⟨e1, fun k x y => ?_⟩
    rcases Nat.lt_or_ge j k with h3 | h3
    · exact h2 k h3 y
    · obtain rfl : k = j := by omega
      exact e2
/-- A place where ways are unlike, and above which they are one, is a break. -/
theorem brk_at {i : Nat} {a b : List UInt8} (ha : a.length = 32) (hb : b.length = 32) {p q : List (List UInt8)} (hp : ∀ x ∈ p, x.length = 32) (hq : ∀ x ∈ q, x.length = 32) {m : Nat} (hpm : m ≤ p.length) (hqm : m ≤ q.length) (h : climb i a p m = climb i b q m)
    {j : Nat} (hj : j < m) (he : ∀ k, j < k → k < m → (ways i a p m).getD k [] = (ways i b q m).getD k []) : Go.Sha.sha (textP ((ways i a p m).getD j [])) = Go.Sha.sha (textP ((ways i b q m).getD j [])) := by
  have h1 := (ways_top ha hb hp hq hpm hqm h (m - (j + 1)) (j + 1) (by omega) (fun k x y => he k (by omega) y)).1
  rw [ways_at _ _ _ hj, ways_at _ _ _ hj, ← nodeP_sha, ← nodeP_sha]
  exact h1
theorem textP_ne {i : Nat} {a b : List UInt8} (ha : a.length = 32) (hb : b.length = 32) {p q : List (List UInt8)} (hp : ∀ x ∈ p, x.length = 32) (hq : ∀ x ∈ q, x.length = 32) {m : Nat} (hpm : m ≤ p.length) (hqm : m ≤ q.length) {j : Nat} (hj : j < m) :
    textP ((ways i a p m).getD j []) = textP ((ways i b q m).getD j []) ↔ (ways i a p m).getD j [] = (ways i b q m).getD j [] := by
  refine ⟨fun h => textP_inj ?_ ?_ h, fun h => by rw [h]⟩
  · exact getD_len (ways_all i ha hp hpm) (by rw [ways_len]; exact hj)
  · exact getD_len (ways_all i hb hq hqm) (by rw [ways_len]; exact hj)
section
variable {n i : Int} {a b : List UInt8} {p q : List (List UInt8)}
theorem brk_some (ha : a.length = 32) (hb : b.length = 32) (hp : ∀ x ∈ p, x.length = 32) (hq : ∀ x ∈ q, x.length = 32) {A B : List UInt8} (h : brk n i a b p q = some (A, B)) : A ≠ B ∧ Go.Sha.sha A = Go.Sha.sha B := by
  unfold brk at h
  split at h
  · rename_i hc
    obtain ⟨h1, h2, h3⟩ := hc
    have e1 := okW_of h1
    have e2 := okW_of h2
    rw [climbH_ok h1, climbH_ok h2] at h3
    have hl : q.length = p.length := by omega
    rw [hl] at h3
    rw [waysH_ok h1, waysH_ok h2, hl] at h
    cases hk : lastNe (ways i.toNat a p p.length) (ways i.toNat b q p.length) p.length with
    | none => rw [hk] at h; cases h
    | some k =>
      rw [hk] at h
      obtain ⟨k1, k2, k3⟩ := lastNe_some hk
      simp only [Option.map_some, Option.some.injEq, Prod.mk.injEq] at h
      obtain ⟨rfl, rfl⟩ := h
      exact ⟨fun e => k2 ((textP_ne ha hb hp hq (Nat.le_refl _) (by omega) k1).1 e), brk_at ha hb hp hq (Nat.le_refl _) (by omega) h3 k1 k3⟩
  · cases h
/-- Two ways to one root have a break just where they are unlike. -/
theorem brk_isSome (ha : a.length = 32) (hb : b.length = 32) (hp : ∀ x ∈ p, x.length = 32) (hq : ∀ x ∈ q, x.length = 32) :
    (brk n i a b p q).isSome = decide (okW n i p.length = true ∧ okW n i q.length = true ∧ climbH n i a p = climbH n i b q ∧ ¬ (a = b ∧ p = q)) := by
  unfold brk
  split
  · rename_i hc
    obtain ⟨h1, h2, h3⟩ := hc
    have e1 := okW_of h1
    have e2 := okW_of h2
    have h3' := h3
    rw [climbH_ok h1, climbH_ok h2] at h3'
    have hl : q.length = p.length := by omega
    rw [hl] at h3'
    have ew : ways i.toNat b q q.length = ways i.toNat b q p.length := by rw [hl]
    rw [waysH_ok h1, waysH_ok h2, ew]
    cases hk : lastNe (ways i.toNat a p p.length) (ways i.toNat b q p.length) p.length with
    | none =>
      have hn := lastNe_none hk
      obtain ⟨t1, t2⟩ := ways_top ha hb hp hq (Nat.le_refl _) (by omega) h3' p.length 0 (by omega) (fun k _ y => hn k y)
      have hpq : p = q := by
        refine List.ext_getElem hl.symm fun k x y => ?_
        have := t2 k (by omega) x
        rwa [List.getD_eq_getElem?_getD, List.getD_eq_getElem?_getD, List.getElem?_eq_getElem x, List.getElem?_eq_getElem y] at this
      symm
      simp only [Option.map_none, Option.isSome_none, decide_eq_false_iff_not]
      intro hh; exact hh.2.2.2 ⟨t1, hpq⟩
    | some k =>
      obtain ⟨k1, k2, k3⟩ := lastNe_some hk
      symm
      simp only [Option.map_some, Option.isSome_some, decide_eq_true_eq]
      refine ⟨h1, h2, h3, fun hh => k2 ?_⟩
      obtain ⟨rfl, rfl⟩ := hh
      rfl
  · rename_i hc
    symm
    simp only [Option.isSome_none, decide_eq_false_iff_not]
    intro hh; exact hc ⟨hh.1, hh.2.1, hh.2.2.1⟩
theorem brk_no1 (h : okW n i p.length = false) : brk n i a b p q = none := by unfold brk; rw [if_neg (by simp [h])]
theorem brk_no2 (h : okW n i q.length = false) : brk n i a b p q = none := by unfold brk; rw [if_neg (by simp [h])]
theorem brk_no3 (h : ¬ climbH n i a p = climbH n i b q) : brk n i a b p q = none := by unfold brk; rw [if_neg (by simp [h])]
theorem brk_eq (h1 : okW n i p.length = true) (h2 : okW n i q.length = true) (h3 : climbH n i a p = climbH n i b q) {o : Option Nat} (h4 : lastNe (waysH n i a p) (waysH n i b q) p.length = o) :
    brk n i a b p q = o.map fun k => (textP ((waysH n i a p).getD k []), textP ((waysH n i b q).getD k [])) := by
  unfold brk; rw [if_pos ⟨h1, h2, h3⟩, h4]
/-- What is no break, is one node. -/
theorem brk_step (ha : a.length = 32) (hb : b.length = 32) (hp : ∀ x ∈ p, x.length = 32) (hq : ∀ x ∈ q, x.length = 32) (h1 : okW n i p.length = true) (h2 : okW n i q.length = true) (h3 : climbH n i a p = climbH n i b q) {j : Nat} (hj : j < p.length)
    (hi : lastNe (waysH n i a p) (waysH n i b q) p.length = lastNe (waysH n i a p) (waysH n i b q) (j + 1))
    (h : (!decide (textP ((waysH n i a p).getD j []) = textP ((waysH n i b q).getD j [])) && decide (Go.Sha.sha (textP ((waysH n i a p).getD j [])) = Go.Sha.sha (textP ((waysH n i b q).getD j [])))) = false) :
    (waysH n i a p).getD j [] = (waysH n i b q).getD j [] := by
  have e1 := okW_of h1
  have e2 := okW_of h2
  have hl : q.length = p.length := by omega
  rw [climbH_ok h1, climbH_ok h2, hl] at h3
  rw [waysH_ok h1, waysH_ok h2, hl] at h hi ⊢
  refine Decidable.byContradiction fun hne => ?_
  rw [lastNe_at hne] at hi
  obtain ⟨_, _, k3⟩ := lastNe_some hi
  have hs := brk_at ha hb hp hq (Nat.le_refl _) (by omega) h3 hj k3
  have ht := fun e => hne ((textP_ne ha hb hp hq (Nat.le_refl _) (by omega) hj).1 e)
  rw [decide_eq_false ht, decide_eq_true hs] at h
  simp at h
theorem brk_same : brk n i a a p p = none := by
  unfold brk; split
  · have : ∀ k, lastNe (waysH n i a p) (waysH n i a p) k = none := fun k => by
      induction k with
      | zero => rfl
      | succ k ih => unfold lastNe; rw [if_pos rfl]; exact ih
    rw [this]; rfl
  · rfl
end
/-- The texts of the nodes on a way. -/
def wtexts (i : Nat) (x : List UInt8) (p : List (List UInt8)) (k : Nat) : List (List UInt8) := (ways i x p k).map textP
theorem wtexts_len (i : Nat) (x : List UInt8) (p : List (List UInt8)) (k : Nat) : (wtexts i x p k).length = k := by rw [wtexts, List.length_map, ways_len]
theorem wtexts_snoc (i : Nat) (x : List UInt8) (p : List (List UInt8)) (k : Nat) : wtexts i x p k ++ [textP (onW (i / 2 ^ k) (climb i x p k) (p.getD k []))] = wtexts i x p (k + 1) := by rw [wtexts, wtexts, ← ways_snoc, List.map_append]; rfl
theorem wtexts_at (i : Nat) (x : List UInt8) (p : List (List UInt8)) {j k : Nat} (h : j < k) : (wtexts i x p k).getD j [] = textP ((ways i x p k).getD j []) := by
  rw [ways_at _ _ _ h, wtexts, ways, List.map_map]; exact range_at _ _ h
end Go.Au
