/- Unlike rows with one root; a row's halves: in plain words. -/
import Derived.Test.YtadiakpbodlecaaDoorAuAll
set_option linter.unusedVariables false
set_option linter.unusedSimpArgs false
set_option maxRecDepth 8192
namespace Go.Au
/-- The pairs of a row, a node's two hashes one behind the other. -/
def prs (r : List (List UInt8)) : List (List UInt8) := (List.range (r.length / 2)).map fun i => r.getD (2 * i) [] ++ r.getD (2 * i + 1) []
theorem prs_at (r : List (List UInt8)) {i : Nat} (h : i < r.length / 2) : (prs r).getD i [] = r.getD (2 * i) [] ++ r.getD (2 * i + 1) [] := range_at _ _ h
theorem prs_len {r : List (List UInt8)} (hr : ∀ b ∈ r, b.length = 32) {i : Nat} (h : i < r.length / 2) : ((prs r).getD i []).length = 64 := by
  rw [prs_at r h, List.length_append, getD_len hr (by omega), getD_len hr (by omega)]
theorem up_prs {r : List (List UInt8)} (hr : ∀ b ∈ r, b.length = 32) {i : Nat} (h : i < r.length / 2) : (up r).getD i [] = nodeP ((prs r).getD i []) := by
  rw [up_at r h, prs_at r h, nodeP_app (getD_len hr (by omega))]
theorem eq_of_prs {r s : List (List UInt8)} (hr : ∀ b ∈ r, b.length = 32) (hs : ∀ b ∈ s, b.length = 32) (hl : s.length = r.length) (he : r.length % 2 = 0) (h : ∀ i, i < r.length / 2 → (prs r).getD i [] = (prs s).getD i []) : r = s := by
  refine List.ext_getElem hl.symm fun q h1 h2 => ?_
  have e := h (q / 2) (by omega)
  rw [prs_at r (by omega), prs_at s (by omega)] at e
  obtain ⟨e1, e2⟩ := List.append_inj e (by rw [getD_len hr (by omega), getD_len hs (by omega)])
  have key : r.getD q [] = s.getD q [] := by
    rcases Nat.mod_two_eq_zero_or_one q with hq | hq
    · rw [show 2 * (q / 2) = q by omega] at e1; exact e1
    · rw [show 2 * (q / 2) + 1 = q by omega] at e2; exact e2
  rwa [List.getD_eq_getElem?_getD, List.getD_eq_getElem?_getD, List.getElem?_eq_getElem h1, List.getElem?_eq_getElem h2] at key
/-- The first place below c where two rows are unlike. -/
def firstNe (x y : List (List UInt8)) : Nat → Option Nat
  | 0 => none
  | c + 1 => match firstNe x y c with
    | some j => some j
    | none => if x.getD c [] = y.getD c [] then none else some c
theorem firstNe_next {x y : List (List UInt8)} {c : Nat} (h : firstNe x y c = none) (he : x.getD c [] = y.getD c []) : firstNe x y (c + 1) = none := by
  simp only [firstNe, h]; exact if_pos he
theorem firstNe_none {x y : List (List UInt8)} : ∀ {c : Nat}, firstNe x y c = none → ∀ i, i < c → x.getD i [] = y.getD i []
  | 0, _, i, hi => by omega
  | c + 1, h, i, hi => by
    unfold firstNe at h
    cases e : firstNe x y c with
    | some j => rw [e] at h; cases h
    | none =>
      rw [e] at h
      simp only at h
      split at h
      · rename_i e2
        rcases Nat.lt_or_ge i c with h1 | h1
        · exact firstNe_none e i h1
        · obtain rfl : i = c := by omega
          exact e2
      · cases h
theorem firstNe_some {x y : List (List UInt8)} : ∀ {c j : Nat}, firstNe x y c = some j → j < c ∧ ¬ x.getD j [] = y.getD j []
  | 0, j, h => by cases h
  | c + 1, j, h => by
    unfold firstNe at h
    cases e : firstNe x y c with
    | some i =>
      rw [e] at h
      obtain rfl := Option.some.inj h
      obtain ⟨h1, h2⟩ := firstNe_some e
      exact ⟨by omega, h2⟩
    | none =>
      rw [e] at h
      simp only at h
      split at h
      · cases h
      · rename_i e2
        obtain rfl := Option.some.inj h
        exact ⟨by omega, e2⟩
theorem firstNe_hit {x y : List (List UInt8)} {c : Nat} (h : firstNe x y c = none) (he : ¬ x.getD c [] = y.getD c []) : ∀ n, c < n → firstNe x y n = some c
  | 0, hn => by omega
  | n + 1, hn => by
    rcases Nat.lt_or_ge c n with h1 | h1
    · simp only [firstNe, firstNe_hit h he n h1]
    · obtain rfl : c = n := by omega
      simp only [firstNe, h]; exact if_neg he
theorem firstNe_self (x : List (List UInt8)) : ∀ c, firstNe x x c = none
  | 0 => rfl
  | c + 1 => firstNe_next (firstNe_self x c) rfl
/-- What is unlike below level k, from above. -/
def unl (r s : List (List UInt8)) : Nat → Option (List UInt8 × List UInt8)
  | 0 => none
  | k + 1 => match firstNe (prs (ups r k)) (prs (ups s k)) ((ups r k).length / 2) with
    | some j => some (textP ((prs (ups r k)).getD j []), textP ((prs (ups s k)).getD j []))
    | none => unl r s k
theorem unl_down {r s : List (List UInt8)} {k : Nat} (h : firstNe (prs (ups r k)) (prs (ups s k)) ((ups r k).length / 2) = none) : unl r s (k + 1) = unl r s k := by
  rw [unl, h]
theorem unl_hit {r s : List (List UInt8)} {k j : Nat} (h : firstNe (prs (ups r k)) (prs (ups s k)) ((ups r k).length / 2) = some j) : unl r s (k + 1) = some (textP ((prs (ups r k)).getD j []), textP ((prs (ups s k)).getD j [])) := by
  rw [unl, h]
theorem unl_self (r : List (List UInt8)) : ∀ k, unl r r k = none
  | 0 => rfl
  | k + 1 => by rw [unl_down (firstNe_self _ _)]; exact unl_self r k
/-- Levels with one row above them: what their pairs' texts say. -/
theorem level_break {r s : List (List UInt8)} {m : Nat} (hr : ∀ b ∈ r, b.length = 32) (hs : ∀ b ∈ s, b.length = 32) (hrl : r.length = 2 ^ m) (hsl : s.length = 2 ^ m) {k : Nat} (hk : k < m) (he : ups r (k + 1) = ups s (k + 1)) {j : Nat} (hj : j < (ups r k).length / 2) :
    Go.Sha.sha (textP ((prs (ups r k)).getD j [])) = Go.Sha.sha (textP ((prs (ups s k)).getD j [])) := by
  have hl : (ups s k).length = (ups r k).length := by rw [ups_len hsl k (by omega), ups_len hrl k (by omega)]
  rw [← nodeP_sha, ← nodeP_sha, ← up_prs (ups_all hr k) hj, ← up_prs (ups_all hs k) (by omega)]
  show (ups r (k + 1)).getD j [] = (ups s (k + 1)).getD j []
  rw [he]
theorem level_text {r s : List (List UInt8)} {m : Nat} (hr : ∀ b ∈ r, b.length = 32) (hs : ∀ b ∈ s, b.length = 32) (hrl : r.length = 2 ^ m) (hsl : s.length = 2 ^ m) {k : Nat} (hk : k < m) {j : Nat} (hj : j < (ups r k).length / 2) :
    textP ((prs (ups r k)).getD j []) = textP ((prs (ups s k)).getD j []) ↔ (prs (ups r k)).getD j [] = (prs (ups s k)).getD j [] := by
  have hl : (ups s k).length = (ups r k).length := by rw [ups_len hsl k (by omega), ups_len hrl k (by omega)]
  exact ⟨fun h => textP_inj (prs_len (ups_all hr k) hj) (prs_len (ups_all hs k) (by omega)) h, fun h => by rw [h]⟩
theorem level_eq {r s : List (List UInt8)} {m : Nat} (hr : ∀ b ∈ r, b.length = 32) (hs : ∀ b ∈ s, b.length = 32) (hrl : r.length = 2 ^ m) (hsl : s.length = 2 ^ m) {k : Nat} (hk : k < m) (h : firstNe (prs (ups r k)) (prs (ups s k)) ((ups r k).length / 2) = none) : ups r k = ups s k :=
  eq_of_prs (ups_all hr k) (ups_all hs k) (by rw [ups_len hsl k (by omega), ups_len hrl k (by omega)]) (ups_even hrl hk) (firstNe_none h)
theorem unl_spec {r s : List (List UInt8)} {m : Nat} (hr : ∀ b ∈ r, b.length = 32) (hs : ∀ b ∈ s, b.length = 32) (hrl : r.length = 2 ^ m) (hsl : s.length = 2 ^ m) : ∀ k, k ≤ m → ups r k = ups s k →
    (unl r s k = none → r = s) ∧ ∀ A B, unl r s k = some (A, B) → A ≠ B ∧ Go.Sha.sha A = Go.Sha.sha B
  | 0, _, h => ⟨fun _ => h, fun A B h => by cases h⟩
  | k + 1, hk, h => by
    cases e : firstNe (prs (ups r k)) (prs (ups s k)) ((ups r k).length / 2) with
    | none =>
      rw [unl_down e]
      exact unl_spec hr hs hrl hsl k (by omega) (level_eq hr hs hrl hsl (by omega) e)
    | some j =>
      rw [unl_hit e]
      obtain ⟨h1, h2⟩ := firstNe_some e
      refine ⟨fun h => (by cases h), fun A B h3 => ?_⟩
      obtain ⟨rfl, rfl⟩ := Prod.mk.inj (Option.some.inj h3)
      exact ⟨fun h4 => h2 ((level_text hr hs hrl hsl (by omega) h1).1 h4), level_break hr hs hrl hsl (by omega) h h1⟩
/-- What the break of two rows of leaves is, if there is one. -/
def unlike (l m : List (List UInt8)) : Option (List UInt8 × List UInt8) := if l.length = m.length ∧ root l = root m then unl (rowP l) (rowP m) (lg l.length) else none
theorem unlike_no1 {l m : List (List UInt8)} (h : ¬ l.length = m.length) : unlike l m = none := if_neg (fun x => h x.1)
theorem unlike_no2 {l m : List (List UInt8)} (h : ¬ root l = root m) : unlike l m = none := if_neg (fun x => h x.2)
theorem unlike_self (l : List (List UInt8)) : unlike l l = none := by unfold unlike; rw [if_pos ⟨rfl, rfl⟩]; exact unl_self _ _
theorem unlike_eq {l m : List (List UInt8)} (h1 : l.length = m.length) (h2 : root l = root m) {o : Option (List UInt8 × List UInt8)} (h : unl (rowP l) (rowP m) (lg l.length) = o) : unlike l m = o := by unfold unlike; rw [if_pos ⟨h1, h2⟩]; exact h
theorem row_inj {l m : List (List UInt8)} (hl : l.length = m.length) (h : rowP l = rowP m) : l = m := by
  refine List.ext_getElem hl fun q h1 h2 => ?_
  have e : (rowP l).getD q [] = (rowP m).getD q [] := by rw [h]
  rw [rowP_at h1, rowP_at h2] at e
  rwa [List.getD_eq_getElem?_getD, List.getD_eq_getElem?_getD, List.getElem?_eq_getElem h1, List.getElem?_eq_getElem h2] at e
theorem top_one {l m : List (List UInt8)} (hl : l.length = m.length) (h : root l = root m) : ups (rowP l) (lg l.length) = ups (rowP m) (lg l.length) := by
  have h1 := ups_len (rowP_len l) (lg l.length) (Nat.le_refl _)
  have h2 := ups_len (rowP_len m) (lg m.length) (Nat.le_refl _)
  rw [Nat.sub_self] at h1 h2
  unfold root at h
  rw [← hl] at h h2
  generalize ups (rowP l) (lg l.length) = x at *
  generalize ups (rowP m) (lg l.length) = y at *
  match x, y, h1, h2 with
  | [a], [b], _, _ => simp only [List.getD_cons_zero] at h; rw [h]
theorem rowP_len2 {l m : List (List UInt8)} (hl : l.length = m.length) : (rowP m).length = 2 ^ lg l.length := by rw [hl]; exact rowP_len m
section
variable {l m : List (List UInt8)}
theorem unlike_some (h1 : ∀ b ∈ l, b.length = 32) (h2 : ∀ b ∈ m, b.length = 32) {A B : List UInt8} (h : unlike l m = some (A, B)) : A ≠ B ∧ Go.Sha.sha A = Go.Sha.sha B := by
  unfold unlike at h
  split at h
  · rename_i hc
    exact (unl_spec (rowP_all h1) (rowP_all h2) (rowP_len l) (rowP_len2 hc.1) _ (Nat.le_refl _) (top_one hc.1 hc.2)).2 A B h
  · cases h
theorem unlike_isSome (h1 : ∀ b ∈ l, b.length = 32) (h2 : ∀ b ∈ m, b.length = 32) : (unlike l m).isSome = decide (l.length = m.length ∧ ¬ l = m ∧ root l = root m) := by
  cases e : unlike l m with
  | none =>
    symm
    simp only [Option.isSome_none, decide_eq_false_iff_not]
    rintro ⟨a, b, c⟩
    have h3 : unl (rowP l) (rowP m) (lg l.length) = none := by
      unfold unlike at e; rw [if_pos ⟨a, c⟩] at e; exact e
    exact b (row_inj a ((unl_spec (rowP_all h1) (rowP_all h2) (rowP_len l) (rowP_len2 a) _ (Nat.le_refl _) (top_one a c)).1 h3))
  | some v =>
    symm
    simp only [Option.isSome_some, decide_eq_true_eq]
    have hc : l.length = m.length ∧ root l = root m := by
      refine Decidable.byContradiction fun hn => ?_
      unfold unlike at e; rw [if_neg hn] at e; cases e
    refine ⟨hc.1, fun h => ?_, hc.2⟩
    rw [h, unlike_self] at e; cases e
end

/-! ### A row's halves -/
theorem lg_pow (m : Nat) : lg (2 ^ m) = m := by
  refine Nat.le_antisymm (lg_le (Nat.le_refl _)) ?_
  have h := lg_up (2 ^ m)
  exact (Nat.pow_le_pow_iff_right (by omega)).1 h
theorem rowP_pow {l : List (List UInt8)} {m : Nat} (h : l.length = 2 ^ m) : rowP l = l := by
  unfold rowP padN
  rw [h, lg_pow, Nat.sub_self]; rfl
theorem getD_take {l : List (List UInt8)} {n i : Nat} (h : i < n) : (l.take n).getD i [] = l.getD i [] := by
  rw [List.getD_eq_getElem?_getD, List.getD_eq_getElem?_getD, List.getElem?_take, if_pos h]
theorem getD_drop (l : List (List UInt8)) (n i : Nat) : (l.drop n).getD i [] = l.getD (n + i) [] := by
  rw [List.getD_eq_getElem?_getD, List.getD_eq_getElem?_getD, List.getElem?_drop]
theorem up_take {r : List (List UInt8)} {c : Nat} (h : 2 * c ≤ r.length) : up (r.take (2 * c)) = (up r).take c := by
  unfold up upTo
  rw [List.length_take, ← List.map_take, List.take_range, show min (2 * c) r.length / 2 = c by omega, show min c (r.length / 2) = c by omega]
  refine List.map_congr_left fun i hi => ?_
  rw [List.mem_range] at hi
  rw [getD_take (by omega), getD_take (by omega)]
theorem up_drop {r : List (List UInt8)} (c : Nat) : up (r.drop (2 * c)) = (up r).drop c := by
  refine List.ext_getElem? fun j => ?_
  unfold up upTo
  rw [List.getElem?_drop, List.getElem?_map, List.getElem?_map, List.length_drop]
  rcases Nat.lt_or_ge (c + j) (r.length / 2) with h | h
  · rw [List.getElem?_range h, List.getElem?_range (by omega)]
    simp only [Option.map_some, getD_drop]
    rw [show 2 * c + 2 * j = 2 * (c + j) by omega, show 2 * c + (2 * j + 1) = 2 * (c + j) + 1 by omega]
  · rw [List.getElem?_eq_none (by rw [List.length_range]; omega), List.getElem?_eq_none (by rw [List.length_range]; omega)]; rfl
theorem ups_halves {r : List (List UInt8)} {m : Nat} (h : r.length = 2 ^ (m + 1)) : ∀ k, k ≤ m → ups (r.take (2 ^ m)) k = (ups r k).take (2 ^ (m - k)) ∧ ups (r.drop (2 ^ m)) k = (ups r k).drop (2 ^ (m - k))
  | 0, _ => ⟨rfl, rfl⟩
  | k + 1, hk => by
    obtain ⟨h1, h2⟩ := ups_halves h k (by omega)
    have hl := ups_len h k (by omega)
    have e : 2 ^ (m - k) = 2 * 2 ^ (m - (k + 1)) := by rw [show m - k = (m - (k + 1)) + 1 by omega, Nat.pow_succ]; omega
    have e2 : 2 ^ (m + 1 - k) = 2 * 2 ^ (m - k) := by rw [show m + 1 - k = (m - k) + 1 by omega, Nat.pow_succ]; omega
    rw [ups, ups, ups, h1, h2, e]
    exact ⟨up_take (by omega), up_drop _⟩
theorem root_halves {r : List (List UInt8)} {m : Nat} (h : r.length = 2 ^ (m + 1)) : root r = node (root (r.take (2 ^ m))) (root (r.drop (2 ^ m))) := by
  have hp : 2 ^ (m + 1) = 2 * 2 ^ m := by rw [Nat.pow_succ]; omega
  have ht : (r.take (2 ^ m)).length = 2 ^ m := by rw [List.length_take]; omega
  have hd : (r.drop (2 ^ m)).length = 2 ^ m := by rw [List.length_drop]; omega
  obtain ⟨h1, h2⟩ := ups_halves h m (Nat.le_refl _)
  have hl := ups_len h m (by omega)
  rw [show m + 1 - m = 1 by omega] at hl
  unfold root
  rw [rowP_pow h, rowP_pow ht, rowP_pow hd, h, ht, hd, lg_pow, lg_pow, h1, h2, Nat.sub_self]
  show (up (ups r m)).getD 0 [] = _
  rw [up_at _ (by omega), getD_take (by omega), getD_drop]
end Go.Au
