/- Reading netstrings, in plain words: what was written is read, in one way. -/
import Derived.Test.YtmjmjjkigblbgaaDoorAuAll
set_option linter.unusedVariables false
set_option linter.unusedSimpArgs false
set_option maxRecDepth 8192
namespace Go.Au
/-- The number that digits say. -/
def dval (l : List UInt8) : Nat := l.foldl (fun v c => 10 * v + (c.toNat - 48)) 0
theorem dval_nil : dval [] = 0 := rfl
theorem dval_snoc (l : List UInt8) (c : UInt8) : dval (l ++ [c]) = 10 * dval l + (c.toNat - 48) := by simp [dval]
theorem digit_nat {n : Nat} (h : n < 10) : (digit n).toNat = 48 + n := by simp only [digit, UInt8.toNat_ofNat']; omega
theorem dval_dec (n : Nat) : dval (dec n) = n := by
  induction n using Nat.strongRecOn with
  | _ n ih =>
    by_cases h : n < 10
    · rw [dec_lt h]; show 10 * 0 + ((digit n).toNat - 48) = n
      rw [digit_nat h]; omega
    · rw [dec_ge h, dval_snoc, ih (n / 10) (by omega), digit_nat (by omega)]; omega
theorem dval_take {l : List UInt8} {k : Nat} (h : k < l.length) : dval (l.take (k + 1)) = 10 * dval (l.take k) + ((l.getD k 0).toNat - 48) := by
  rw [List.take_succ_eq_append_getElem h, dval_snoc]
  congr 1
  rw [List.getD_eq_getElem?_getD, List.getElem?_eq_getElem h]; rfl
theorem dval_le (l : List UInt8) : ∀ d k, k + d = l.length → dval (l.take k) ≤ dval l
  | 0, k, h => by rw [List.take_of_length_le (by omega)]; exact Nat.le_refl _
  | d + 1, k, h => by
    have h1 := dval_le l d (k + 1) (by omega)
    rw [dval_take (by omega)] at h1
    omega
theorem dec_val_le (n k : Nat) (h : k ≤ (dec n).length) : dval ((dec n).take k) ≤ n := by
  have := dval_le (dec n) ((dec n).length - k) k (by omega)
  rwa [dval_dec] at this
theorem dec_len4 {n : Nat} (h : n ≤ 99999) : (dec n).length ≤ 5 := dec_len_le 4 n (by omega)
/-- The first digit of many is no nought. -/
theorem dec_head (n : Nat) : 1 < (dec n).length → (dec n).getD 0 0 ≠ 48 := by
  induction n using Nat.strongRecOn with
  | _ n ih =>
    intro hl
    by_cases h : n < 10
    · rw [dec_lt h] at hl; simp at hl
    · rw [dec_ge h]
      have hp := dec_len_pos (n / 10)
      have e : (dec (n / 10) ++ [digit (n % 10)]).getD 0 0 = (dec (n / 10)).getD 0 0 := by
        rw [List.getD_eq_getElem?_getD, List.getD_eq_getElem?_getD, List.getElem?_append_left hp]
      rw [e]
      by_cases h2 : n / 10 < 10
      · rw [dec_lt h2]
        show digit (n / 10) ≠ 48
        intro h3
        have h4 : (digit (n / 10)).toNat = 48 := by rw [h3]; rfl
        rw [digit_nat h2] at h4; omega
      · refine ih (n / 10) (by omega) ?_
        rw [dec_ge h2, List.length_append]
        have := dec_len_pos (n / 10 / 10)
        simp; omega
/-- Digits, then what is none. -/
theorem split_digits {a b s t : List UInt8} (ha : ∀ c ∈ a, c ≠ 58) (hb : ∀ c ∈ b, c ≠ 58) (h : a ++ 58 :: s = b ++ 58 :: t) : a = b ∧ s = t := by
  induction a generalizing b with
  | nil =>
    cases b with
    | nil => simpa using h
    | cons c b => simp at h; exact absurd h.1.symm (hb c (by simp))
  | cons c a ih =>
    cases b with
    | nil => simp at h; exact absurd h.1 (ha c (by simp))
    | cons d b =>
      simp only [List.cons_append, List.cons.injEq] at h
      obtain ⟨e1, e2⟩ := ih (fun x hx => ha x (by simp [hx])) (fun x hx => hb x (by simp [hx])) h.2
      exact ⟨by rw [h.1, e1], e2⟩
theorem dec_no58 (n : Nat) : ∀ c ∈ dec n, c ≠ 58 := by
  intro c hc h
  have := dec_digit n c hc
  rw [h] at this
  exact absurd this.2 (by decide)
theorem dec_inj {m n : Nat} (h : dec m = dec n) : m = n := by rw [← dval_dec m, ← dval_dec n, h]
theorem net_eq (a s : List UInt8) : net a ++ s = dec a.length ++ 58 :: (a ++ 44 :: s) := by simp [net]
theorem net_inj {a b s t : List UInt8} (h : net a ++ s = net b ++ t) : a = b ∧ s = t := by
  rw [net_eq, net_eq] at h
  obtain ⟨e1, e2⟩ := split_digits (dec_no58 _) (dec_no58 _) h
  obtain ⟨e3, e4⟩ := List.append_inj e2 (dec_inj e1)
  exact ⟨e3, by simpa using e4⟩
theorem nets_inj : ∀ {l m : List (List UInt8)}, nets l = nets m → l = m
  | [], [], _ => rfl
  | [], b :: m, h => by
    have h1 : (nets (b :: m)).length = 0 := by rw [← h]; rfl
    rw [nets_cons, List.length_append, net_len] at h1; omega
  | a :: l, [], h => by
    have h1 : (nets (a :: l)).length = 0 := by rw [h]; rfl
    rw [nets_cons, List.length_append, net_len] at h1; omega
  | a :: l, b :: m, h => by
    rw [nets_cons, nets_cons] at h
    obtain ⟨e1, e2⟩ := net_inj h
    rw [e1, nets_inj e2]
theorem text_nets' (a : List UInt8) (l : List (List UInt8)) : text a l = nets (a :: l) := by rw [nets_cons]; rfl
theorem text_inj {a b : List UInt8} {l m : List (List UInt8)} (h : text a l = text b m) : a = b ∧ l = m := by
  rw [text_nets', text_nets'] at h
  have := nets_inj h
  simpa using this
theorem text_dec {a b : List UInt8} {l m : List (List UInt8)} (h : a = b) : decide (text a l = text b m) = decide (l = m) := by
  subst h
  by_cases e : l = m
  · rw [e]; simp
  · rw [decide_eq_false e]; exact decide_eq_false (fun h => e (text_inj h).2)
theorem nets_drop {l : List (List UInt8)} {k : Nat} (h : k < l.length) : nets (l.drop k) = net (l.getD k []) ++ nets (l.drop (k + 1)) := by
  rw [List.drop_eq_getElem_cons h, nets_cons]
  rw [List.getD_eq_getElem?_getD, List.getElem?_eq_getElem h]; rfl
/-! What stands in a net: its digits, a colon, the row, a comma. -/
section
variable {b r t : List UInt8}
theorem nr_len (hb : b = net r ++ t) : b.length = (dec r.length).length + r.length + 2 + t.length := by rw [hb, List.length_append, net_len]
theorem nr_digit (hb : b = net r ++ t) {k : Nat} (h : k < (dec r.length).length) : b.getD k 0 = (dec r.length).getD k 0 := by
  rw [hb, net_eq, List.getD_eq_getElem?_getD, List.getD_eq_getElem?_getD, List.getElem?_append_left h]
theorem nr_colon (hb : b = net r ++ t) : b.getD (dec r.length).length 0 = 58 := by
  rw [hb, net_eq, List.getD_eq_getElem?_getD, List.getElem?_append_right (Nat.le_refl _)]; simp
theorem nr_comma (hb : b = net r ++ t) : b.getD ((dec r.length).length + 1 + r.length) 0 = 44 := by
  rw [hb, net_eq, List.getD_eq_getElem?_getD, List.getElem?_append_right (by omega), show (dec r.length).length + 1 + r.length - (dec r.length).length = r.length + 1 by omega, List.getElem?_cons_succ, List.getElem?_append_right (Nat.le_refl _)]; simp
theorem nr_take (hb : b = net r ++ t) : (b.drop ((dec r.length).length + 1)).take ((dec r.length).length + 1 + r.length - ((dec r.length).length + 1)) = r := by
  rw [hb, net_eq, List.drop_append, List.drop_of_length_le (by omega), show (dec r.length).length + 1 - (dec r.length).length = 1 by omega, show (dec r.length).length + 1 + r.length - ((dec r.length).length + 1) = r.length by omega]
  simp
theorem nr_rest (hb : b = net r ++ t) : b.drop ((dec r.length).length + r.length + 2) = t := by
  rw [hb, net_eq, List.drop_append, List.drop_of_length_le (by omega), show (dec r.length).length + r.length + 2 - (dec r.length).length = r.length + 1 + 1 by omega, List.drop_succ_cons, List.drop_append, List.drop_of_length_le (by omega), show r.length + 1 - r.length = 0 + 1 by omega]
  simp
theorem nr_dtake (hb : b = net r ++ t) {k : Nat} (h : k ≤ (dec r.length).length) : b.take k = (dec r.length).take k := by
  rw [hb, net_eq, List.take_append, show k - (dec r.length).length = 0 by omega]; simp
end
end Go.Au
