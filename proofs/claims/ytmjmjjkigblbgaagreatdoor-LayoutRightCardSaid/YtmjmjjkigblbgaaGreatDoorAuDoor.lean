/- General lemmas for walking the code, or plain mathematics. -/
import Derived.Test.YtmjmjjkigblbgaaGreatDoorAuAll
set_option linter.unusedVariables false
set_option linter.unusedSimpArgs false
set_option maxRecDepth 8192
namespace Go.Au
def dval (l : List UInt8) : Nat := l.foldl (fun v c => 10 * v + (c.toNat - 48)) 0
theorem dval_nil : dval [] = 0 := rfl
theorem dval_snoc (l : List UInt8) (c : UInt8) : dval (l ++ [c]) = 10 * dval l + (c.toNat - 48) := by simp [dval]
theorem digit_nat {n : Nat} (h : n < 10) : (digit n).toNat = 48 + n := by simp only [digit, UInt8.toNat_ofNat']; omega
theorem dval_dec (n : Nat) : dval (dec n) = n := by
  induction n using Nat.strongRecOn with
  | _ n ih =>
    by_cases h : n < 10
    · rw [dec_lt h]; show 10 * 0 + ((digit n).toNat - 48) = n
      rw [digit_nat h]; omega
    · rw [dec_ge h, dval_snoc, ih (n / 10) (by omega), digit_nat (by omega)]; omega
theorem dval_take {l : List UInt8} {k : Nat} (h : k < l.length) : dval (l.take (k + 1)) = 10 * dval (l.take k) + ((l.getD k 0).toNat - 48) := by
  rw [List.take_succ_eq_append_getElem h, dval_snoc]
  congr 1
  rw [List.getD_eq_getElem?_getD, List.getElem?_eq_getElem h]; rfl
theorem dval_le (l : List UInt8) : ∀ d k, k + d = l.length → dval (l.take k) ≤ dval l
  | 0, k, h => by rw [List.take_of_length_le (by omega)]; exact Nat.le_refl _
  | d + 1, k, h => by
    have h1 := dval_le l d (k + 1) (by omega)
    rw [dval_take (by omega)] at h1
    omega
theorem dec_len4 {n : Nat} (h : n ≤ 99999) : (dec n).length ≤ 5 := dec_len_le 4 n (by omega)
theorem dec_head (n : Nat) : 1 < (dec n).length → (dec n).getD 0 0 ≠ 48 := by
  induction n using Nat.strongRecOn with
  | _ n ih =>
    intro hl
    by_cases h : n < 10
    · rw [dec_lt h] at hl; simp at hl
    · rw [dec_ge h]
      have hp := dec_len_pos (n / 10)
      have e : (dec (n / 10) ++ [digit (n % 10)]).getD 0 0 = (dec (n / 10)).getD 0 0 := by
        rw [List.getD_eq_getElem?_getD, List.getD_eq_getElem?_getD, List.getElem?_append_left hp]
      rw [e]
      by_cases h2 : n / 10 < 10
      · rw [dec_lt h2]
        show digit (n / 10) ≠ 48
        intro h3
        have h4 : (digit (n / 10)).toNat = 48 := by rw [h3]; rfl
        rw [digit_nat h2] at h4; omega
      · refine ih (n / 10) (by omega) ?_
        rw [dec_ge h2, List.length_append]
        have := dec_len_pos (n / 10 / 10)
        simp; omega
theorem net_eq (a s : List UInt8) : net a ++ s = dec a.length ++ 58 :: (a ++ 44 :: s) := by simp [net]
section
variable {b r t : List UInt8}
theorem nr_len (hb : b = net r ++ t) : b.length = (dec r.length).length + r.length + 2 + t.length := by rw [hb, List.length_append, net_len]
theorem nr_digit (hb : b = net r ++ t) {k : Nat} (h : k < (dec r.length).length) : b.getD k 0 = (dec r.length).getD k 0 := by
  rw [hb, net_eq, List.getD_eq_getElem?_getD, List.getD_eq_getElem?_getD, List.getElem?_append_left h]
theorem nr_colon (hb : b = net r ++ t) : b.getD (dec r.length).length 0 = 58 := by
  rw [hb, net_eq, List.getD_eq_getElem?_getD, List.getElem?_append_right (Nat.le_refl _)]; simp
theorem nr_comma (hb : b = net r ++ t) : b.getD ((dec r.length).length + 1 + r.length) 0 = 44 := by
  rw [hb, net_eq, List.getD_eq_getElem?_getD, List.getElem?_append_right (by omega), show (dec r.length).length + 1 + r.length - (dec r.length).length = r.length + 1 by omega, List.getElem?_cons_succ, List.getElem?_append_right (Nat.le_refl _)]; simp
theorem nr_take (hb : b = net r ++ t) : (b.drop ((dec r.length).length + 1)).take ((dec r.length).length + 1 + r.length - ((dec r.length).length + 1)) = r := by
  rw [hb, net_eq, List.drop_append, List.drop_of_length_le (by omega), show (dec r.length).length + 1 - (dec r.length).length = 1 by omega, show (dec r.length).length + 1 + r.length - ((dec r.length).length + 1) = r.length by omega]
  simp
theorem nr_rest (hb : b = net r ++ t) : b.drop ((dec r.length).length + r.length + 2) = t := by
  rw [hb, net_eq, List.drop_append, List.drop_of_length_le (by omega), show (dec r.length).length + r.length + 2 - (dec r.length).length = r.length + 1 + 1 by omega, List.drop_succ_cons, List.drop_append, List.drop_of_length_le (by omega), show r.length + 1 - r.length = 0 + 1 by omega]
  simp
end
end Go.Au

namespace Go.Au
def isDig (c : UInt8) : Bool := Nat.ble 48 c.toNat && Nat.ble c.toNat 57
def lead (b : List UInt8) : List UInt8 := b.takeWhile isDig
theorem lead_at : ∀ (b : List UInt8) (k : Nat), k ≤ (lead b).length →
    (k < (lead b).length ∧ k < b.length ∧ 48 ≤ (b.getD k 0).toNat ∧ (b.getD k 0).toNat ≤ 57) ∨ (k = (lead b).length ∧ (k = b.length ∨ (k < b.length ∧ ((b.getD k 0).toNat < 48 ∨ 57 < (b.getD k 0).toNat))))
  | [], k, h => by
    obtain rfl : k = 0 := by simpa [lead] using h
    exact .inr ⟨rfl, .inl rfl⟩
  | c :: b, k, h => by
    by_cases hc : isDig c = true
    · have e : lead (c :: b) = c :: lead b := by simp [lead, hc]
      rw [e] at h ⊢
      cases k with
      | zero =>
        simp only [isDig, Bool.and_eq_true, Nat.ble_eq] at hc
        exact .inl ⟨by simp, by simp, hc⟩
      | succ k =>
        have := lead_at b k (by simpa using h)
        simp only [List.length_cons, List.getD_cons_succ]
        omega
    · have e : lead (c :: b) = [] := by simp [lead, hc]
      rw [e] at h ⊢
      obtain rfl : k = 0 := by simpa using h
      refine .inr ⟨rfl, .inr ⟨by simp, ?_⟩⟩
      simp only [isDig, Bool.and_eq_true, Nat.ble_eq] at hc
      show c.toNat < 48 ∨ 57 < c.toNat
      omega
theorem lead_split (b : List UInt8) : b = lead b ++ b.dropWhile isDig := List.takeWhile_append_dropWhile.symm
theorem lead_le (b : List UInt8) : (lead b).length ≤ b.length := by
  have h := congrArg List.length (lead_split b)
  rw [List.length_append] at h; omega
theorem lead_take {b : List UInt8} {k : Nat} (h : k ≤ (lead b).length) : b.take k = (lead b).take k := by
  conv => lhs; rw [lead_split b]
  rw [List.take_append_of_le_length h]
theorem lead_get {b : List UInt8} {k : Nat} (h : k < (lead b).length) : b.getD k 0 = (lead b).getD k 0 := by
  conv => lhs; rw [lead_split b]
  rw [List.getD_eq_getElem?_getD, List.getD_eq_getElem?_getD, List.getElem?_append_left h]
theorem lead_dig (b : List UInt8) : ∀ c ∈ lead b, 48 ≤ c.toNat ∧ c.toNat ≤ 57 := by
  intro c hc
  have h : isDig c = true := by
    induction b with
    | nil => simp [lead] at hc
    | cons d b ih =>
      unfold lead at hc
      rw [List.takeWhile_cons] at hc
      split at hc
      · rcases List.mem_cons.1 hc with rfl | h
        · assumption
        · exact ih h
      · cases hc
  simpa [isDig] using h
theorem lead_val {b : List UInt8} {k : Nat} (h : k ≤ (lead b).length) : dval (b.take k) ≤ dval (lead b) := by
  rw [lead_take h]; exact dval_le _ ((lead b).length - k) k (by omega)
theorem lead_all (b : List UInt8) : dval (b.take (lead b).length) = dval (lead b) := by rw [lead_take (Nat.le_refl _), List.take_length]
theorem dec_dval (n : Nat) : ∀ a : List UInt8, a.length = n → (∀ c ∈ a, 48 ≤ c.toNat ∧ c.toNat ≤ 57) → 0 < a.length → (a.length = 1 ∨ a.getD 0 0 ≠ 48) → dec (dval a) = a := by
  induction n with
  | zero => intro a h _ h0; omega
  | succ n ih =>
    intro a hn hd h0 hz
    have hne : a ≠ [] := by intro e; rw [e] at h0; cases h0
    obtain ⟨s, c, rfl⟩ : ∃ s c, a = s ++ [c] := ⟨a.dropLast, a.getLast hne, (List.dropLast_concat_getLast hne).symm⟩
    have hc := hd c (by simp)
    have ec : digit (c.toNat - 48) = c := by
      apply UInt8.toNat_inj.1
      rw [digit_nat (by omega)]; omega
    rw [dval_snoc]
    by_cases hs : s = []
    · subst hs
      rw [dval_nil, dec_lt (by omega), show 10 * 0 + (c.toNat - 48) = c.toNat - 48 by omega, ec]; rfl
    · have hsl : 0 < s.length := by cases s with | nil => exact absurd rfl hs | cons _ _ => simp
      have hh : s.getD 0 0 ≠ 48 := by
        rcases hz with h | h
        · simp only [List.length_append, List.length_singleton] at h; omega
        · rwa [List.getD_eq_getElem?_getD, List.getElem?_append_left hsl, ← List.getD_eq_getElem?_getD] at h
      have hi := ih s (by rw [List.length_append] at hn; simp at hn; omega) (fun x hx => hd x (by simp [hx])) hsl (.inr hh)
      have hp : 0 < dval s := by
        rcases Nat.eq_zero_or_pos (dval s) with h | h
        · rw [h] at hi
          rw [← hi] at hh
          exact absurd (by decide : (dec 0).getD 0 0 = 48) hh
        · exact h
      rw [dec_ge (by omega), show (10 * dval s + (c.toNat - 48)) / 10 = dval s by omega, show (10 * dval s + (c.toNat - 48)) % 10 = c.toNat - 48 by omega, hi, ec]
theorem dval_six {a : List UInt8} (hd : ∀ c ∈ a, 48 ≤ c.toNat ∧ c.toNat ≤ 57) (h6 : 6 ≤ a.length) (hz : a.getD 0 0 ≠ 48) : 16384 < dval a := by
  have h := dec_dval _ a rfl hd (by omega) (.inr hz)
  rcases Nat.lt_or_ge 16384 (dval a) with h1 | h1
  · exact h1
  · have := dec_len4 (n := dval a) (by omega)
    rw [h] at this; omega

def NetOk (b : List UInt8) : Prop :=
  0 < (lead b).length ∧ ((lead b).length = 1 ∨ b.getD 0 0 ≠ 48) ∧ dval (lead b) ≤ 16384 ∧ (lead b).length + dval (lead b) + 2 ≤ b.length ∧ b.getD (lead b).length 0 = 58 ∧ b.getD ((lead b).length + 1 + dval (lead b)) 0 = 44
instance (b : List UInt8) : Decidable (NetOk b) := by unfold NetOk; infer_instance
def tn1 (b : List UInt8) : List UInt8 := if NetOk b then (b.drop ((lead b).length + 1)).take (dval (lead b)) else []
def tn2 (b : List UInt8) : List UInt8 := if NetOk b then b.drop ((lead b).length + dval (lead b) + 2) else []
theorem tn1_no {b : List UInt8} (h : ¬ NetOk b) : tn1 b = [] := if_neg h
theorem tn2_no {b : List UInt8} (h : ¬ NetOk b) : tn2 b = [] := if_neg h
theorem tn1_yes {b : List UInt8} (h : NetOk b) : tn1 b = (b.drop ((lead b).length + 1)).take (dval (lead b)) := if_pos h
theorem tn2_yes {b : List UInt8} (h : NetOk b) : tn2 b = b.drop ((lead b).length + dval (lead b) + 2) := if_pos h
theorem tn1_len {b : List UInt8} (h : NetOk b) : (tn1 b).length = dval (lead b) := by
  rw [tn1_yes h, List.length_take, List.length_drop]
  have := h.2.2.2.1; omega
theorem tn2_len {b : List UInt8} (h : NetOk b) : (tn2 b).length = b.length - ((lead b).length + dval (lead b) + 2) := by
  rw [tn2_yes h, List.length_drop]
theorem tn1_le (b : List UInt8) : (tn1 b).length ≤ 16384 ∧ (tn1 b).length ≤ b.length := by
  by_cases h : NetOk b
  · have := h.2.2.1; have := h.2.2.2.1
    rw [tn1_len h]; omega
  · rw [tn1_no h]; simp
theorem tn2_le (b : List UInt8) : (tn2 b).length ≤ b.length := by
  by_cases h : NetOk b
  · rw [tn2_len h]; omega
  · rw [tn2_no h]; simp
theorem tn_net {b : List UInt8} (h : NetOk b) : b = net (tn1 b) ++ tn2 b := by
  obtain ⟨h1, h2, h3, h4, h5, h6⟩ := h
  have hd : dec (tn1 b).length = lead b := by
    rw [tn1_len ⟨h1, h2, h3, h4, h5, h6⟩]
    refine dec_dval _ _ rfl (lead_dig b) h1 (h2.imp id fun e => ?_)
    rwa [← lead_get h1]
  rw [net_eq, hd, tn1_yes ⟨h1, h2, h3, h4, h5, h6⟩, tn2_yes ⟨h1, h2, h3, h4, h5, h6⟩]
  generalize hD : (lead b).length = D at *
  generalize dval (lead b) = n at *
  have e1 : b = lead b ++ b.drop D := by
    conv => lhs; rw [← List.take_append_drop D b]
    rw [lead_take (by omega), List.take_of_length_le (by omega)]
  have e2 : b.drop D = 58 :: b.drop (D + 1) := by
    rw [List.drop_eq_getElem_cons (by omega)]
    congr 1
    rwa [List.getD_eq_getElem?_getD, List.getElem?_eq_getElem (by omega)] at h5
  have e3 : b.drop (D + 1) = (b.drop (D + 1)).take n ++ b.drop (D + 1 + n) := by
    conv => lhs; rw [← List.take_append_drop n (b.drop (D + 1))]
    rw [List.drop_drop]
  have e4 : b.drop (D + 1 + n) = 44 :: b.drop (D + n + 2) := by
    rw [List.drop_eq_getElem_cons (by omega), show D + 1 + n + 1 = D + n + 2 by omega]
    congr 1
    rwa [List.getD_eq_getElem?_getD, List.getElem?_eq_getElem (by omega)] at h6
  rw [← e4, ← e3, ← e2]
  exact e1
theorem lead_dec (n : Nat) (s : List UInt8) : lead (dec n ++ 58 :: s) = dec n := by
  unfold lead
  rw [List.takeWhile_append_of_pos (fun c hc => by have := dec_digit n c hc; simp [isDig, this])]
  have : (58 :: s).takeWhile isDig = [] := by rw [List.takeWhile_cons]; rfl
  rw [this, List.append_nil]
theorem net_tn {r t : List UInt8} (h : r.length ≤ 16384) : NetOk (net r ++ t) ∧ tn1 (net r ++ t) = r ∧ tn2 (net r ++ t) = t := by
  have hb : net r ++ t = net r ++ t := rfl
  have hl : lead (net r ++ t) = dec r.length := by rw [net_eq]; exact lead_dec _ _
  have hv : dval (lead (net r ++ t)) = r.length := by rw [hl]; exact dval_dec _
  have hp := dec_len_pos r.length
  have hok : NetOk (net r ++ t) := by
    refine ⟨by rw [hl]; exact hp, ?_, by omega, by rw [hl, dval_dec, nr_len hb]; omega, by rw [hl]; exact nr_colon hb, by rw [hl, dval_dec]; exact nr_comma hb⟩
    rw [hl, nr_digit hb hp]
    rcases Nat.lt_or_ge 1 (dec r.length).length with h1 | h1
    · exact .inr (dec_head _ h1)
    · exact .inl (by omega)
  refine ⟨hok, ?_, ?_⟩
  · have := nr_take hb
    rw [tn1_yes hok, hl, dval_dec]
    rwa [show (dec r.length).length + 1 + r.length - ((dec r.length).length + 1) = r.length by omega] at this
  · rw [tn2_yes hok, hl, dval_dec]; exact nr_rest hb

theorem netOk_iff (b : List UInt8) : NetOk b ↔ 0 < (lead b).length ∧ ((lead b).length = 1 ∨ (b.getD 0 0).toNat ≠ 48) ∧ dval (lead b) ≤ 16384 ∧ (lead b).length + dval (lead b) + 2 ≤ b.length ∧ (b.getD (lead b).length 0).toNat = 58 ∧ (b.getD ((lead b).length + 1 + dval (lead b)) 0).toNat = 44 := by
  have e : ∀ (x : UInt8) (n : Nat) (h : n < 256), x = UInt8.ofNat n ↔ x.toNat = n := fun x n h => by
    constructor
    · intro h1; rw [h1, UInt8.toNat_ofNat']; omega
    · intro h1; apply UInt8.toNat_inj.1; rw [UInt8.toNat_ofNat']; omega
  have e1 := e (b.getD 0 0) 48 (by decide)
  have e2 := e (b.getD (lead b).length 0) 58 (by decide)
  have e3 := e (b.getD ((lead b).length + 1 + dval (lead b)) 0) 44 (by decide)
  unfold NetOk
  rw [← e2, ← e3]
  show _ ∧ (_ ∨ ¬ (b.getD 0 0 = UInt8.ofNat 48)) ∧ _ ↔ _
  rw [e1]
  rfl
def Told (b : List UInt8) (d n : Nat) : Prop := (d = (lead b).length ∧ n = dval (lead b)) ∨ (¬ NetOk b ∧ (16384 < n ∨ (b.getD d 0).toNat ≠ 58))
theorem told_size {b : List UInt8} {d : Nat} (hd : d ≤ (lead b).length) (h : d = (lead b).length ∨ 16384 < dval (b.take d)) : Told b d (dval (b.take d)) := by
  rcases h with h | h
  · exact .inl ⟨h, by rw [h]; exact lead_all b⟩
  · refine .inr ⟨fun hq => ?_, .inl h⟩
    have := lead_val hd; have := hq.2.2.1; omega
theorem told_ref {b : List UInt8} {d : Nat} (hd : d ≤ (lead b).length) (h : d = (lead b).length ∨ d = 6) : Told b d (dval (b.take d)) := by
  by_cases e : d = (lead b).length
  · exact .inl ⟨e, by rw [e]; exact lead_all b⟩
  · have h6 : d = 6 := by omega
    refine .inr ⟨fun hq => ?_, .inr ?_⟩
    · have h2 : b.getD 0 0 ≠ 48 := by
        rcases hq.2.1 with h1 | h1
        · omega
        · exact h1
      rw [lead_get (by omega)] at h2
      have := dval_six (lead_dig b) (by omega) h2
      have := hq.2.2.1; omega
    · rcases lead_at b d hd with h1 | h1 <;> omega
theorem told_no {b : List UInt8} {d n : Nat} (ht : Told b d n) (h : d = 0 ∨ (1 < d ∧ (b.getD 0 0).toNat = 48) ∨ 16384 < n ∨ b.length < d + n + 2 ∨ (b.getD d 0).toNat ≠ 58 ∨ (b.getD (d + 1 + n) 0).toNat ≠ 44) : ¬ NetOk b := by
  rcases ht with ⟨h1, h2⟩ | h1
  · subst h1; subst h2
    rw [netOk_iff]; omega
  · exact h1.1
theorem told_yes {b : List UInt8} {d n : Nat} (ht : Told b d n) (h1 : ¬ d = 0) (h2 : ¬ (1 < d ∧ (b.getD 0 0).toNat = 48)) (h3 : ¬ 16384 < n) (h4 : ¬ b.length < d + n + 2) (h5 : (b.getD d 0).toNat = 58) (h6 : (b.getD (d + 1 + n) 0).toNat = 44) :
    NetOk b ∧ d = (lead b).length ∧ n = dval (lead b) := by
  rcases ht with ⟨e1, e2⟩ | e
  · subst e1; subst e2
    refine ⟨?_, rfl, rfl⟩
    rw [netOk_iff]; omega
  · exact absurd e.2 (by omega)
theorem told_cut1 {b : List UInt8} {d n : Nat} (h : NetOk b ∧ d = (lead b).length ∧ n = dval (lead b)) : (b.drop (d + 1)).take (d + 1 + n - (d + 1)) = tn1 b := by
  obtain ⟨h, rfl, rfl⟩ := h
  rw [tn1_yes h, show (lead b).length + 1 + dval (lead b) - ((lead b).length + 1) = dval (lead b) by omega]
theorem told_cut2 {b : List UInt8} {d n : Nat} (h : NetOk b ∧ d = (lead b).length ∧ n = dval (lead b)) : (b.drop (d + n + 2)).take (b.length - (d + n + 2)) = tn2 b := by
  obtain ⟨h, rfl, rfl⟩ := h
  rw [tn2_yes h, List.take_of_length_le (by rw [List.length_drop]; omega)]

def ntRest : Nat → List UInt8 → List UInt8
  | 0, b => b
  | k + 1, b => tn2 (ntRest k b)
def ntRows (k : Nat) (b : List UInt8) : List (List UInt8) := (List.range k).map fun i => tn1 (ntRest i b)
def NtOks (k : Nat) (b : List UInt8) : Prop := ∀ i, i < k → NetOk (ntRest i b)
instance (k : Nat) (b : List UInt8) : Decidable (NtOks k b) := by unfold NtOks; infer_instance
def NtAll (k : Nat) (b : List UInt8) : Prop := NtOks k b ∧ ntRest k b = []
instance (k : Nat) (b : List UInt8) : Decidable (NtAll k b) := by unfold NtAll; infer_instance
def ntAll (k : Nat) (b : List UInt8) : List (List UInt8) := if NtAll k b then ntRows k b else []
theorem ntRows_zero (b : List UInt8) : ntRows 0 b = [] := rfl
theorem ntRows_snoc (k : Nat) (b : List UInt8) : ntRows k b ++ [tn1 (ntRest k b)] = ntRows (k + 1) b := by simp [ntRows, List.range_succ]
theorem ntRows_len (k : Nat) (b : List UInt8) : (ntRows k b).length = k := by simp [ntRows]
theorem ntRows_get {k i : Nat} (b : List UInt8) (h : i < k) : (ntRows k b).getD i [] = tn1 (ntRest i b) := by
  rw [List.getD_eq_getElem?_getD]; simp [ntRows, h]
theorem ntRest_le (b : List UInt8) : ∀ k, (ntRest k b).length ≤ b.length
  | 0 => Nat.le_refl _
  | k + 1 => Nat.le_trans (tn2_le _) (ntRest_le b k)
theorem ntRest_add (m : Nat) (b : List UInt8) : ∀ n, ntRest (m + n) b = ntRest n (ntRest m b)
  | 0 => rfl
  | n + 1 => by show tn2 (ntRest (m + n) b) = tn2 (ntRest n (ntRest m b)); rw [ntRest_add m b n]
theorem NtOks_zero (b : List UInt8) : NtOks 0 b := fun _ h => absurd h (Nat.not_lt_zero _)
theorem NtOks_succ {k : Nat} {b : List UInt8} (h : NtOks k b) (h1 : NetOk (ntRest k b)) : NtOks (k + 1) b := by
  intro i hi
  by_cases e : i = k
  · rw [e]; exact h1
  · exact h i (by omega)
theorem NtOks_not {n k : Nat} {b : List UInt8} (hk : k < n) (h1 : ¬ NetOk (ntRest k b)) : ¬ NtAll n b := fun h => h1 (h.1 k hk)
theorem NtOks_add {m n : Nat} {b : List UInt8} : NtOks (m + n) b ↔ NtOks m b ∧ NtOks n (ntRest m b) := by
  constructor
  · intro h
    exact ⟨fun i hi => h i (by omega), fun i hi => by rw [← ntRest_add]; exact h (m + i) (by omega)⟩
  · rintro ⟨h1, h2⟩ i hi
    rcases Nat.lt_or_ge i m with h | h
    · exact h1 i h
    · have := h2 (i - m) (by omega)
      rwa [← ntRest_add, show m + (i - m) = i by omega] at this
theorem ntRows_add (m : Nat) (b : List UInt8) : ∀ n, ntRows (m + n) b = ntRows m b ++ ntRows n (ntRest m b)
  | 0 => by rw [ntRows_zero, List.append_nil]; rfl
  | n + 1 => by rw [← Nat.add_assoc, ← ntRows_snoc, ntRows_add m b n, ← ntRows_snoc, ntRest_add, List.append_assoc]
theorem NtOks_nets {b : List UInt8} : ∀ {k : Nat}, NtOks k b → b = nets (ntRows k b) ++ ntRest k b
  | 0, _ => rfl
  | k + 1, h => by
    have h1 := NtOks_nets (k := k) fun i hi => h i (by omega)
    have h2 := tn_net (h k (by omega))
    rw [← ntRows_snoc, nets_snoc, List.append_assoc, ntRest, ← h2]
    exact h1
theorem NtAll_nets {b : List UInt8} {k : Nat} (h : NtAll k b) : nets (ntRows k b) = b := by
  have := NtOks_nets h.1
  rw [h.2, List.append_nil] at this
  exact this.symm
theorem ntRest_nets {l : List (List UInt8)} (t : List UInt8) (h : ∀ x ∈ l, x.length ≤ 16384) : NtOks l.length (nets l ++ t) ∧ ntRest l.length (nets l ++ t) = t ∧ ntRows l.length (nets l ++ t) = l := by
  induction l generalizing t with
  | nil => exact ⟨NtOks_zero _, rfl, rfl⟩
  | cons a l ih =>
    have ha := net_tn (t := nets l ++ t) (h a (by simp))
    have e : nets (a :: l) ++ t = net a ++ (nets l ++ t) := by rw [nets_cons, List.append_assoc]
    obtain ⟨i1, i2, i3⟩ := ih t (fun x hx => h x (by simp [hx]))
    rw [e, List.length_cons, Nat.add_comm]
    have e1 : ntRest 1 (net a ++ (nets l ++ t)) = nets l ++ t := ha.2.2
    refine ⟨NtOks_add.2 ⟨NtOks_succ (NtOks_zero _) ha.1, by rw [e1]; exact i1⟩, by rw [ntRest_add, e1]; exact i2, ?_⟩
    rw [ntRows_add, e1, i3]
    show [tn1 (net a ++ (nets l ++ t))] ++ l = a :: l
    rw [ha.2.1]; rfl
theorem nets_NtAll {l : List (List UInt8)} (h : ∀ x ∈ l, x.length ≤ 16384) : NtAll l.length (nets l) ∧ ntRows l.length (nets l) = l := by
  have := ntRest_nets (l := l) [] h
  rw [List.append_nil] at this
  exact ⟨⟨this.1, this.2.1⟩, this.2.2⟩
theorem ntAll_yes {k : Nat} {b : List UInt8} (h : NtAll k b) : ntAll k b = ntRows k b := if_pos h
theorem ntAll_no {k : Nat} {b : List UInt8} (h : ¬ NtAll k b) : ntAll k b = [] := if_neg h
theorem ntRows_el (b : List UInt8) (k : Nat) : ∀ x ∈ ntRows k b, x.length ≤ 16384 ∧ x.length ≤ b.length := by
  intro x hx
  simp only [ntRows, List.mem_map] at hx
  obtain ⟨i, _, rfl⟩ := hx
  have := tn1_le (ntRest i b); have := ntRest_le b i
  omega
def be (l : List UInt8) : Nat := l.foldl (fun v c => 256 * v + c.toNat) 0
theorem be_nil : be [] = 0 := rfl
theorem be_snoc (l : List UInt8) (c : UInt8) : be (l ++ [c]) = 256 * be l + c.toNat := by simp [be]
theorem be_take {l : List UInt8} {k : Nat} (h : k < l.length) : 256 * be (l.take k) + (l.getD k 0).toNat = be (l.take (k + 1)) := by
  rw [List.take_succ_eq_append_getElem h, be_snoc]
  congr 1
  rw [List.getD_eq_getElem?_getD, List.getElem?_eq_getElem h]; rfl
theorem be_lt (l : List UInt8) : be l < 256 ^ l.length := by
  generalize hn : l.length = n
  induction n generalizing l with
  | zero => rw [List.length_eq_zero_iff.1 hn]; decide
  | succ n ih =>
    have hne : l ≠ [] := by intro e; rw [e] at hn; cases hn
    obtain ⟨s, c, rfl⟩ : ∃ s c, l = s ++ [c] := ⟨l.dropLast, l.getLast hne, (List.dropLast_concat_getLast hne).symm⟩
    have h1 := ih s (by rw [List.length_append] at hn; simp at hn; omega)
    have h2 := c.toNat_lt
    rw [be_snoc, Nat.pow_succ]; omega
theorem be_take_lt {l : List UInt8} {k : Nat} (h : k ≤ 7) : be (l.take k) < 72057594037927936 := by
  have h1 := be_lt (l.take k)
  have h2 : (l.take k).length ≤ 7 := by rw [List.length_take]; omega
  have h3 : 256 ^ (l.take k).length ≤ 256 ^ 7 := Nat.pow_le_pow_right (by decide) h2
  have : (256 : Nat) ^ 7 = 72057594037927936 := by decide
  omega
theorem be_one (l : List UInt8) (h : l.length = 1) : be l = (l.getD 0 0).toNat := by
  match l, h with
  | [c], _ => simp [be]
theorem put_low (M r : Nat) : ∀ j, Go.Sha.put (M * 256 ^ j + r) j = Go.Sha.put r j
  | 0 => rfl
  | j + 1 => by
    show UInt8.ofNat ((M * 256 ^ (j + 1) + r) / 256 ^ j) :: Go.Sha.put (M * 256 ^ (j + 1) + r) j = UInt8.ofNat (r / 256 ^ j) :: Go.Sha.put r j
    have hp : 0 < 256 ^ j := Nat.pow_pos (by decide)
    have e : M * 256 ^ (j + 1) = (M * 256) * 256 ^ j := by rw [Nat.pow_succ, Nat.mul_assoc, Nat.mul_comm (256 ^ j) 256]
    congr 1
    · rw [e, Nat.add_comm, Nat.add_mul_div_right _ _ hp]
      apply UInt8.toNat_inj.1
      simp only [UInt8.toNat_ofNat']
      omega
    · rw [e]; exact put_low (M * 256) r j
theorem be_cons (c : UInt8) (l : List UInt8) : be (c :: l) = c.toNat * 256 ^ l.length + be l := by
  generalize hn : l.length = n
  induction n generalizing l with
  | zero => rw [List.length_eq_zero_iff.1 hn]; simp [be]
  | succ n ih =>
    have hne : l ≠ [] := by intro e; rw [e] at hn; cases hn
    obtain ⟨s, d, rfl⟩ : ∃ s c, l = s ++ [c] := ⟨l.dropLast, l.getLast hne, (List.dropLast_concat_getLast hne).symm⟩
    have h1 := ih s (by rw [List.length_append] at hn; simp at hn; omega)
    rw [← List.cons_append, be_snoc, be_snoc, h1, Nat.pow_succ, Nat.mul_add, ← Nat.mul_assoc, Nat.mul_comm 256 (c.toNat), Nat.mul_assoc, Nat.mul_comm 256 (256 ^ n)]
    omega
theorem put_be : ∀ l : List UInt8, Go.Sha.put (be l) l.length = l
  | [] => rfl
  | c :: l => by
    rw [be_cons]
    show UInt8.ofNat ((c.toNat * 256 ^ l.length + be l) / 256 ^ l.length) :: Go.Sha.put (c.toNat * 256 ^ l.length + be l) l.length = c :: l
    rw [put_low, put_be l]
    congr 1
    have hp : 0 < 256 ^ l.length := Nat.pow_pos (by decide)
    rw [Nat.add_comm, Nat.add_mul_div_right _ _ hp, Nat.div_eq_of_lt (be_lt l), Nat.zero_add]
    exact UInt8.ofNat_toNat
theorem be_put : ∀ (w N : Nat), be (Go.Sha.put N w) = N % 256 ^ w
  | 0, N => by simp [be_nil, Go.Sha.put, Nat.mod_one]
  | w + 1, N => by
    have hl : (Go.Sha.put N w).length = w := Go.Sha.put_len N w
    show be (UInt8.ofNat (N / 256 ^ w) :: Go.Sha.put N w) = _
    rw [be_cons, hl, be_put w N, UInt8.toNat_ofNat', show N % 256 ^ (w + 1) = N % (256 ^ w * 256) by rw [Nat.pow_succ], Nat.mod_mul, Nat.mul_comm, Nat.add_comm]
end Go.Au

namespace Go.Au
def numOk (L : List (List UInt8)) (M : List Int) (k : Nat) : Prop := ∀ i, i < k → ((L.getD i []).length : Int) = M.getD i 0
instance (L : List (List UInt8)) (M : List Int) (k : Nat) : Decidable (numOk L M k) := by unfold numOk; infer_instance
def numL (L : List (List UInt8)) (k : Nat) : List Int := (List.range k).map fun i => ((be (L.getD i []) : Nat) : Int)
def numA (L : List (List UInt8)) (M : List Int) : List Int := if numOk L M M.length then numL L M.length else []
theorem numL_snoc (L : List (List UInt8)) (k : Nat) : numL L k ++ [((be (L.getD k []) : Nat) : Int)] = numL L (k + 1) := by simp [numL, List.range_succ]
theorem numL_len (L : List (List UInt8)) (k : Nat) : (numL L k).length = k := by simp [numL]
theorem numL_get {L : List (List UInt8)} {k i : Nat} (h : i < k) : (numL L k).getD i 0 = ((be (L.getD i []) : Nat) : Int) := by
  rw [List.getD_eq_getElem?_getD]; simp [numL, h]
theorem numA_yes {L : List (List UInt8)} {M : List Int} (h : numOk L M M.length) : numA L M = numL L M.length := if_pos h
theorem numA_no {L : List (List UInt8)} {M : List Int} (h : ¬ numOk L M M.length) : numA L M = [] := if_neg h
theorem numOk_succ {L : List (List UInt8)} {M : List Int} {k : Nat} (h : numOk L M k) (h1 : ((L.getD k []).length : Int) = M.getD k 0) : numOk L M (k + 1) := by
  intro i hi
  by_cases e : i = k
  · rw [e]; exact h1
  · exact h i (by omega)
def getV (b : List UInt8) : Nat := if b.length ≤ 7 then be b else 0
theorem getV_yes {b : List UInt8} (h : b.length ≤ 7) : getV b = be b := if_pos h
theorem getV_no {b : List UInt8} (h : ¬ b.length ≤ 7) : getV b = 0 := if_neg h

def six (b : List UInt8) (i : Nat) : List UInt8 := (ntAll 6 b).getD i []
theorem ntAll_len {n : Nat} {b : List UInt8} (h : NtAll n b) : (ntAll n b).length = n := by rw [ntAll_yes h, ntRows_len]
theorem ntAll_el (n : Nat) (b : List UInt8) : ∀ x ∈ ntAll n b, x.length ≤ 16384 ∧ x.length ≤ b.length := by
  intro x hx
  unfold ntAll at hx
  split at hx
  · exact ntRows_el b n x hx
  · cases hx
theorem be_w {l : List UInt8} {w : Nat} (h : l.length = w) : be l < 256 ^ w := by rw [← h]; exact be_lt l
def UebOk (b : List UInt8) : Prop :=
  NtAll 6 b ∧ (six b 0).length = 1 ∧ (six b 1).length = 1 ∧ (six b 2).length = 4 ∧ (six b 3).length = 4 ∧ (six b 4).length = 32 ∧ (six b 5).length = 32 ∧
  1 ≤ be (six b 0) ∧ be (six b 0) ≤ be (six b 1) ∧ be (six b 1) ≤ 16 ∧ 1 ≤ be (six b 2) ∧ be (six b 2) ≤ 1024 ∧ be (six b 3) = 64
instance (b : List UInt8) : Decidable (UebOk b) := by unfold UebOk; infer_instance
def uN (b : List UInt8) (i : Nat) : Int := if UebOk b then ((be (six b i) : Nat) : Int) else 0
def uH (b : List UInt8) (i : Nat) : List UInt8 := if UebOk b then six b i else List.replicate 32 0
theorem uN_yes {b : List UInt8} (h : UebOk b) (i : Nat) : uN b i = ((be (six b i) : Nat) : Int) := if_pos h
theorem uN_no {b : List UInt8} (h : ¬ UebOk b) (i : Nat) : uN b i = 0 := if_neg h
theorem uH_yes {b : List UInt8} (h : UebOk b) (i : Nat) : uH b i = six b i := if_pos h
theorem uH_no {b : List UInt8} (h : ¬ UebOk b) (i : Nat) : uH b i = List.replicate 32 0 := if_neg h
theorem uH4 (b : List UInt8) : (uH b 4).length = 32 := by
  unfold uH; split
  · rename_i h; exact h.2.2.2.2.2.1
  · exact List.length_replicate
theorem uH5 (b : List UInt8) : (uH b 5).length = 32 := by
  unfold uH; split
  · rename_i h; exact h.2.2.2.2.2.2.1
  · exact List.length_replicate
def packU (a b c d : Int) (s t : List UInt8) : List UInt8 := nets [Go.Sha.put (max 0 a).toNat 1, Go.Sha.put (max 0 b).toNat 1, Go.Sha.put (max 0 c).toNat 4, Go.Sha.put (max 0 d).toNat 4, s, t]
theorem put_row {l : List UInt8} {w : Nat} (h : l.length = w) : Go.Sha.put (max 0 (((be l : Nat) : Int))).toNat w = l := by
  have e : (max 0 (((be l : Nat) : Int))).toNat = be l := by omega
  rw [e, ← h]; exact put_be l
theorem six_list {b : List UInt8} (h : NtAll 6 b) : ntRows 6 b = [six b 0, six b 1, six b 2, six b 3, six b 4, six b 5] := by
  have key : ∀ l : List (List UInt8), l.length = 6 → l = [l.getD 0 [], l.getD 1 [], l.getD 2 [], l.getD 3 [], l.getD 4 [], l.getD 5 []] := fun l hl => by
    match l, hl with
    | [_, _, _, _, _, _], _ => rfl
  unfold six
  rw [ntAll_yes h]
  exact key _ (ntRows_len _ _)
theorem packU_six {b : List UInt8} (h : NtAll 6 b) (h0 : (six b 0).length = 1) (h1 : (six b 1).length = 1) (h2 : (six b 2).length = 4) (h3 : (six b 3).length = 4) :
    packU ((be (six b 0) : Nat) : Int) ((be (six b 1) : Nat) : Int) ((be (six b 2) : Nat) : Int) ((be (six b 3) : Nat) : Int) (six b 4) (six b 5) = b := by
  unfold packU
  rw [put_row h0, put_row h1, put_row h2, put_row h3, ← six_list h, NtAll_nets h]
theorem packU_len (a b c d : Int) {s t : List UInt8} (hs : s.length ≤ 32) (ht : t.length ≤ 32) : (packU a b c d s t).length ≤ 122 := by
  have h := nets_le (l := [Go.Sha.put (max 0 a).toNat 1, Go.Sha.put (max 0 b).toNat 1, Go.Sha.put (max 0 c).toNat 4, Go.Sha.put (max 0 d).toNat 4, s, t]) (by
    intro x hx
    simp only [List.mem_cons, List.not_mem_nil, or_false] at hx
    rcases hx with rfl | rfl | rfl | rfl | rfl | rfl <;> first | (rw [Go.Sha.put_len]; omega) | omega)
  simp only [total, List.map_cons, List.map_nil, List.sum_cons, List.sum_nil, Go.Sha.put_len, List.length_cons, List.length_nil] at h
  unfold packU; omega

def VerOk (b : List UInt8) : Prop :=
  NtAll 6 b ∧ (six b 0).length = 4 ∧ (six b 1).length = 1 ∧ (six b 2).length = 1 ∧ (six b 3).length = 4 ∧ (six b 4).length = 16 ∧ (six b 5).length = 32 ∧
  1 ≤ be (six b 0) ∧ be (six b 0) ≤ 1048576 ∧ 1 ≤ be (six b 1) ∧ be (six b 1) ≤ be (six b 2) ∧ be (six b 2) ≤ 16 ∧ be (six b 3) ≤ 1024
instance (b : List UInt8) : Decidable (VerOk b) := by unfold VerOk; infer_instance
end Go.Au

namespace Go.Au
structure SigP where
  height : Int
  leaf : Int
  values : List (List UInt8)
  proof : List (List UInt8)
end Go.Au

namespace Go.Au
section
variable {fp m : List UInt8} {h l : Int} {v p : List (List UInt8)}
end
end Go.Au

namespace Go.Au
def chunks (b : List UInt8) (k : Nat) : List (List UInt8) := (List.range k).map fun i => (b.drop (32 * i)).take 32
theorem chunks_len (b : List UInt8) (k : Nat) : (chunks b k).length = k := by simp [chunks]
theorem flatten_len {l : List (List UInt8)} (h : ∀ x ∈ l, x.length = 32) : l.flatten.length = 32 * l.length := by
  induction l with
  | nil => rfl
  | cons a l ih =>
    rw [List.flatten_cons, List.length_append, h a (by simp), ih (fun x hx => h x (by simp [hx])), List.length_cons]; omega
theorem flatten_chunks : ∀ {l : List (List UInt8)}, (∀ x ∈ l, x.length = 32) → ∀ (t : List UInt8) (i : Nat), i < l.length → ((l.flatten ++ t).drop (32 * i)).take 32 = l.getD i []
  | [], _, t, i, hi => by simp at hi
  | a :: l, h, t, 0, _ => by
    rw [Nat.mul_zero, List.drop_zero, List.flatten_cons, List.append_assoc, List.take_append, List.take_of_length_le (by rw [h a (by simp)]; omega), h a (by simp)]
    simp
  | a :: l, h, t, i + 1, hi => by
    have ha := h a (by simp)
    rw [List.flatten_cons, List.append_assoc, List.drop_append, List.drop_of_length_le (by omega), ha, show 32 * (i + 1) - 32 = 32 * i by omega, List.nil_append, flatten_chunks (fun x hx => h x (by simp [hx])) t i (by simpa using hi)]
    rfl
theorem chunks_flatten {l : List (List UInt8)} (h : ∀ x ∈ l, x.length = 32) {k : Nat} (hk : k = l.length) : chunks l.flatten k = l := by
  subst hk
  refine List.ext_getElem (chunks_len _ _) fun i h1 h2 => ?_
  have e := flatten_chunks h [] i h2
  rw [List.append_nil] at e
  simp only [chunks, List.getElem_map, List.getElem_range]
  rw [e, List.getD_eq_getElem?_getD, List.getElem?_eq_getElem h2]; rfl
theorem flatten_snoc {l : List (List UInt8)} {k : Nat} (h : k < l.length) : (l.take k).flatten ++ l.getD k [] = (l.take (k + 1)).flatten := by
  rw [← take_snoc (d := []) h, List.flatten_append]; simp
def okU (b : List UInt8) : Prop := 3 ≤ b.length ∧ (b.getD 0 0).toNat ≤ 4 ∧ b.length = 3 + 32 * (67 + (b.getD 0 0).toNat)
end Go.Au
namespace Go.Au
def flatTo (b : List UInt8) (l : List (List UInt8)) : Nat → List UInt8
  | 0 => b
  | j + 1 => flatTo b l j ++ l.getD j []
theorem flatTo_eq (b : List UInt8) (l : List (List UInt8)) : ∀ j, j ≤ l.length → flatTo b l j = b ++ (l.take j).flatten
  | 0, _ => by simp [flatTo]
  | j + 1, h => by rw [flatTo, flatTo_eq b l j (by omega), List.append_assoc, flatten_snoc (by omega)]
theorem flatTo_all (b : List UInt8) (l : List (List UInt8)) : flatTo b l l.length = b ++ l.flatten := by rw [flatTo_eq b l _ (Nat.le_refl _), List.take_length]
theorem flatTo_len {b : List UInt8} {l : List (List UInt8)} (h : ∀ x ∈ l, x.length = 32) {j : Nat} (hj : j ≤ l.length) : (flatTo b l j).length = b.length + 32 * j := by
  rw [flatTo_eq b l j hj, List.length_append, flatten_len (fun x hx => h x (List.mem_of_mem_take hx)), List.length_take]; omega
section
variable {h l : Int} {v p : List (List UInt8)}
end
end Go.Au

namespace Go.Au
end Go.Au

namespace Go.Au
def row4 (b : List UInt8) (i : Nat) : List UInt8 := tn1 (ntRest i b)
def hashN (b : List UInt8) : List (List UInt8) := if b.length % 32 = 0 then chunks b (b.length / 32) else []
theorem hashN_yes {b : List UInt8} (h : b.length % 32 = 0) : hashN b = chunks b (b.length / 32) := if_pos h
def shK (b : List UInt8) : Nat := ((row4 b 3).getD 0 0).toNat
def ShOk (b : List UInt8) : Prop :=
  b.length ≤ 16384 ∧ NtOks 4 b ∧ (row4 b 0).length = 1 ∧ (row4 b 3).length = 1 ∧ ((row4 b 0).getD 0 0).toNat < 16 ∧ shK b ≤ 16 ∧ (row4 b 2).length % 32 = 0 ∧ NtAll (shK b) (ntRest 4 b)
instance (b : List UInt8) : Decidable (ShOk b) := by unfold ShOk; infer_instance
def shN (b : List UInt8) : Int := if ShOk b then ((((row4 b 0).getD 0 0).toNat : Nat) : Int) else 0
def shU (b : List UInt8) : List UInt8 := if ShOk b then row4 b 1 else []
def shP (b : List UInt8) : List (List UInt8) := if ShOk b then hashN (row4 b 2) else []
def shB (b : List UInt8) : List (List UInt8) := if ShOk b then ntRows (shK b) (ntRest 4 b) else []
section
variable {b : List UInt8}
theorem shN_yes (h : ShOk b) : shN b = ((((row4 b 0).getD 0 0).toNat : Nat) : Int) := if_pos h
theorem shU_yes (h : ShOk b) : shU b = row4 b 1 := if_pos h
theorem shP_yes (h : ShOk b) : shP b = hashN (row4 b 2) := if_pos h
theorem shB_yes (h : ShOk b) : shB b = ntRows (shK b) (ntRest 4 b) := if_pos h
end
def packS (n : Int) (u : List UInt8) (p B : List (List UInt8)) : List UInt8 := nets [Go.Sha.put (max 0 n).toNat 1, u, flatTo [] p p.length, Go.Sha.put (max 0 ((B.length : Nat) : Int)).toNat 1] ++ nets B
theorem nets_cap {m k : Nat} (hm : m < 1000) : ∀ {l : List (List UInt8)}, l.length ≤ k → (∀ x ∈ l, x.length ≤ m) → (nets l).length ≤ k * (m + 8)
  | [], _, _ => by simp [nets]
  | b :: l, h, hx => by
    match k, h with
    | k + 1, h =>
      have h1 := net_le (b := b) (by have := hx b (by simp); omega)
      have h2 := hx b (by simp)
      have h3 := nets_cap hm (k := k) (l := l) (by simpa using h) (fun x hq => hx x (by simp [hq]))
      rw [nets_cons, List.length_append, Nat.succ_mul]; omega
theorem head4_len (n : Int) {u : List UInt8} {p : List (List UInt8)} (z : Int) (hu : u.length ≤ 300) (hp : p.length ≤ 20) (h32 : ∀ x ∈ p, x.length = 32) : (nets [Go.Sha.put (max 0 n).toNat 1, u, flatTo [] p p.length, Go.Sha.put (max 0 z).toNat 1]).length ≤ 974 := by
  have hf : (flatTo [] p p.length).length ≤ 640 := by rw [flatTo_len h32 (Nat.le_refl _)]; simp; omega
  have h := nets_le (l := [Go.Sha.put (max 0 n).toNat 1, u, flatTo [] p p.length, Go.Sha.put (max 0 z).toNat 1]) (by
    intro x hx
    simp only [List.mem_cons, List.not_mem_nil, or_false] at hx
    rcases hx with rfl | rfl | rfl | rfl <;> first | (rw [Go.Sha.put_len]; omega) | omega)
  simp only [total, List.map_cons, List.map_nil, List.sum_cons, List.sum_nil, Go.Sha.put_len, List.length_cons, List.length_nil] at h
  omega
theorem packS_len (n : Int) {u : List UInt8} {p B : List (List UInt8)} (hu : u.length ≤ 300) (hp : p.length ≤ 20) (h32 : ∀ x ∈ p, x.length = 32) (hB : B.length ≤ 20) (hx : ∀ x ∈ B, x.length ≤ 100) : (packS n u p B).length ≤ 3134 := by
  have h1 := head4_len n (z := ((B.length : Nat) : Int)) hu hp h32
  have h2 := nets_cap (m := 100) (k := 20) (by decide) hB hx
  unfold packS
  rw [List.length_append]; omega
def leavesH (B : List (List UInt8)) (k : Nat) : List (List UInt8) := (B.take k).map leafH
theorem leavesH_snoc {B : List (List UInt8)} {k : Nat} (h : k < B.length) : leavesH B k ++ [leafH (B.getD k [])] = leavesH B (k + 1) := by
  unfold leavesH
  rw [List.take_succ_eq_append_getElem h, List.map_append, List.getD_eq_getElem?_getD, List.getElem?_eq_getElem h]; rfl
theorem leavesH_len (B : List (List UInt8)) : (leavesH B B.length).length = B.length := by simp [leavesH]
end Go.Au

namespace Go.Au
instance (b : List UInt8) : Decidable (okU b) := by unfold okU; infer_instance
section
variable {b : List UInt8}
end
def p5 (b : List UInt8) (i : Nat) : List UInt8 := (ntAll 5 b).getD i []
def PcOk (b : List UInt8) : Prop :=
  NtAll 5 b ∧ b.length ≤ 16384 ∧ (p5 b 0).length = 1 ∧ ((p5 b 0).getD 0 0).toNat < 16 ∧ VerOk (p5 b 1) ∧ okU (p5 b 2) ∧ (p5 b 3).length % 32 = 0
instance (b : List UInt8) : Decidable (PcOk b) := by unfold PcOk; infer_instance
section
variable {b : List UInt8}
end
end Go.Au

namespace Go.Au
def lenV (k z : Int) : Int := if k < 1 then -1 else if z < 1 then 0 else (z - 1) / k + 1
theorem lenV_neg {k : Int} (h : k < 1) (z : Int) : lenV k z = -1 := if_pos h
theorem lenV_zero {k z : Int} (h : ¬ k < 1) (h1 : z < 1) : lenV k z = 0 := by unfold lenV; rw [if_neg h, if_pos h1]
theorem lenV_pos {k z : Int} (h : ¬ k < 1) (h1 : ¬ z < 1) : lenV k z = (z - 1) / k + 1 := by unfold lenV; rw [if_neg h, if_neg h1]
theorem div_bd {k z : Int} (h : 1 ≤ k) (h1 : 1 ≤ z) : 0 ≤ (z - 1) / k ∧ (z - 1) / k ≤ z - 1 :=
  ⟨Int.ediv_nonneg (by omega) (by omega), Int.ediv_le_self _ (by omega)⟩
def FileP (kd ck cn cz : Int) (L : List UInt8) : Prop := (kd = 1 ∨ kd = 2) ∧ (1 ≤ ck ∧ ck ≤ cn ∧ cn ≤ 16) ∧ (1 ≤ cz ∧ cz ≤ 1024) ∧ L.length = 0
instance (kd ck cn cz : Int) (L : List UInt8) : Decidable (FileP kd ck cn cz L) := by unfold FileP; infer_instance
def BlkOk (ck cz : Int) (B : List (List UInt8)) (k : Nat) : Prop := ∀ j, j < k → 0 < cz - ((j : Nat) : Int) * 64 ∧ (((B.getD j []).length : Nat) : Int) = lenV ck (min (cz - ((j : Nat) : Int) * 64) 64)
instance (ck cz : Int) (B : List (List UInt8)) (k : Nat) : Decidable (BlkOk ck cz B k) := by unfold BlkOk; infer_instance
theorem BlkOk.zero (ck cz : Int) (B : List (List UInt8)) : BlkOk ck cz B 0 := fun j h => by omega
theorem BlkOk.step {ck cz : Int} {B : List (List UInt8)} {k : Nat} (h : BlkOk ck cz B k) (h1 : 0 < cz - ((k : Nat) : Int) * 64) (h2 : (((B.getD k []).length : Nat) : Int) = lenV ck (min (cz - ((k : Nat) : Int) * 64) 64)) : BlkOk ck cz B (k + 1) := fun j hj => by
  rcases Nat.lt_or_ge j k with h3 | h3
  · exact h j h3
  · obtain rfl : j = k := by omega
    exact ⟨h1, h2⟩
def RsOk (kd ck cn cz : Int) (L fp : List UInt8) (sn : Int) (u : List UInt8) (p B : List (List UInt8)) : Prop :=
  (UebOk u ∧ FileP kd ck cn cz L ∧ tagged [117, 101, 98] [u] = fp) ∧ (uN u 0 = ck ∧ uN u 1 = cn ∧ uN u 2 = cz) ∧ (0 ≤ sn ∧ sn < cn) ∧ ((B.length : Nat) : Int) = (cz - 1) / 64 + 1 ∧ BlkOk ck cz B B.length ∧
    (okW (uN u 1) sn p.length && decide (climbH (uN u 1) sn (root (leavesH B B.length)) p = uH u 5)) = true
instance (kd ck cn cz : Int) (L fp : List UInt8) (sn : Int) (u : List UInt8) (p B : List (List UInt8)) : Decidable (RsOk kd ck cn cz L fp sn u p B) := by unfold RsOk; infer_instance
def rsN (r : Bool) (u : List UInt8) (i : Nat) : Int := if r then uN u i else 0
def rsH (r : Bool) (u : List UInt8) (i : Nat) : List UInt8 := if r then uH u i else List.replicate 32 0
theorem rsH4 (r : Bool) (u : List UInt8) : (rsH r u 4).length = 32 := by
  unfold rsH; split
  · exact uH4 u
  · exact List.length_replicate
theorem rsH5 (r : Bool) (u : List UInt8) : (rsH r u 5).length = 32 := by
  unfold rsH; split
  · exact uH5 u
  · exact List.length_replicate
section
variable {fp : List UInt8} {pn va vb vc vd : Int} {vs vr : List UInt8} {sh sl : Int} {X Y Z : List (List UInt8)} {B : List UInt8}
end
end Go.Au

namespace Go.Au
def mA (x : Nat) : Nat → Nat
  | 0 => x
  | i + 1 => if 256 ≤ 2 * mA x i then (2 * mA x i) ^^^ 285 else 2 * mA x i
def mP (x y : Nat) : Nat → Nat
  | 0 => 0
  | i + 1 => if (y / 2 ^ i) % 2 = 1 then mP x y i ^^^ mA x i else mP x y i
def gmul (x y : UInt8) : UInt8 := UInt8.ofNat (mP x.toNat y.toNat 8)
theorem mA_step (x i : Nat) : mA x (i + 1) = if 256 ≤ 2 * mA x i then (2 * mA x i) ^^^ 285 else 2 * mA x i := rfl
theorem mP_step (x y i : Nat) : mP x y (i + 1) = if (y / 2 ^ i) % 2 = 1 then mP x y i ^^^ mA x i else mP x y i := rfl
theorem dbl_lt {a : Nat} (h : a < 256) : (if 256 ≤ 2 * a then (2 * a) ^^^ 285 else 2 * a) < 256 := by
  have key : ∀ q : Fin 256, (if 256 ≤ 2 * q.val then (2 * q.val) ^^^ 285 else 2 * q.val) < 256 := by decide +kernel
  exact key ⟨a, h⟩
theorem mA_lt {x : Nat} (h : x < 256) : ∀ i, mA x i < 256
  | 0 => h
  | i + 1 => dbl_lt (mA_lt h i)
theorem mP_lt {x : Nat} (h : x < 256) (y : Nat) : ∀ i, mP x y i < 256
  | 0 => by show 0 < 256; omega
  | i + 1 => by
    rw [mP_step]
    split
    · exact Nat.xor_lt_two_pow (n := 8) (mP_lt h y i) (mA_lt h i)
    · exact mP_lt h y i
def gpow (x : UInt8) : Nat → UInt8
  | 0 => 1
  | k + 1 => gmul (gpow x k) x
def ginvFrom (x : UInt8) : Nat → Nat → UInt8
  | 0, _ => 0
  | f + 1, m => if gmul x (UInt8.ofNat m) = 1 then UInt8.ofNat m else ginvFrom x f (m + 1)
def ginv (x : UInt8) : UInt8 := ginvFrom x 255 1
theorem ginv_yes {x : UInt8} {k : Nat} (h : k < 256) (e : gmul x (UInt8.ofNat k) = 1) : ginvFrom x (256 - k) k = UInt8.ofNat k := by
  rw [show 256 - k = (256 - (k + 1)) + 1 by omega]; exact if_pos e
theorem ginv_no {x : UInt8} {k : Nat} (h : k < 256) (e : ¬ gmul x (UInt8.ofNat k) = 1) : ginvFrom x (256 - k) k = ginvFrom x (256 - (k + 1)) (k + 1) := by
  rw [show 256 - k = (256 - (k + 1)) + 1 by omega]; exact if_neg e
theorem u8_one {z : UInt8} (h : (z.toNat : Int) = 1) : z = 1 := UInt8.toNat_inj.1 (by show z.toNat = 1; omega)
theorem u8_zero {z : UInt8} (h : (z.toNat : Int) = 0) : z = 0 := UInt8.toNat_inj.1 (by show z.toNat = 0; omega)
def vrow (i j : Nat) : List UInt8 := (List.range j).map fun q => gpow (UInt8.ofNat i) q
def vand (k n : Nat) : List (List UInt8) := (List.range n).map fun i => vrow i k
theorem vrow_len (i j : Nat) : (vrow i j).length = j := by unfold vrow; rw [List.length_map, List.length_range]
theorem vand_len (k n : Nat) : (vand k n).length = n := by unfold vand; rw [List.length_map, List.length_range]
theorem vrow_snoc (i j : Nat) : vrow i j ++ [gpow (UInt8.ofNat i) j] = vrow i (j + 1) := by unfold vrow; rw [List.range_succ, List.map_append]; rfl
theorem vand_snoc (k n : Nat) : vand k n ++ [vrow n k] = vand k (n + 1) := by unfold vand; rw [List.range_succ, List.map_append]; rfl
theorem vand_el (k n : Nat) : ∀ x ∈ vand k n, x.length = k := by
  intro x hx
  obtain ⟨i, _, rfl⟩ := List.mem_map.1 hx
  exact vrow_len i k
def urow (n i : Nat) : List UInt8 := (List.replicate n 0).set i 1
def unitM (n m : Nat) : List (List UInt8) := (List.range m).map (urow n)
theorem urow_len (n i : Nat) : (urow n i).length = n := by unfold urow; rw [List.length_set, List.length_replicate]
theorem unitM_len (n m : Nat) : (unitM n m).length = m := by unfold unitM; rw [List.length_map, List.length_range]
theorem unitM_snoc (n m : Nat) : unitM n m ++ [urow n m] = unitM n (m + 1) := by unfold unitM; rw [List.range_succ, List.map_append]; rfl
theorem unitM_el (n m : Nat) : ∀ x ∈ unitM n m, x.length = n := by
  intro x hx
  obtain ⟨i, _, rfl⟩ := List.mem_map.1 hx
  exact urow_len n i
def colTo (M : List (List UInt8)) (j k : Nat) : List UInt8 := (List.range k).map fun i => (M.getD i []).getD j 0
theorem colTo_len (M : List (List UInt8)) (j k : Nat) : (colTo M j k).length = k := by unfold colTo; rw [List.length_map, List.length_range]
theorem colTo_snoc (M : List (List UInt8)) (j k : Nat) : colTo M j k ++ [(M.getD k []).getD j 0] = colTo M j (k + 1) := by unfold colTo; rw [List.range_succ, List.map_append]; rfl
def dotTo (l m : List UInt8) : Nat → UInt8
  | 0 => 0
  | i + 1 => dotTo l m i ^^^ gmul (l.getD i 0) (m.getD i 0)
def prow (A B : List (List UInt8)) (i j : Nat) : List UInt8 := (List.range j).map fun q => dotTo (A.getD i []) (colTo B q B.length) (min (A.getD i []).length B.length)
def prod (A B : List (List UInt8)) (k i : Nat) : List (List UInt8) := (List.range i).map fun q => prow A B q k
theorem prow_len (A B : List (List UInt8)) (i j : Nat) : (prow A B i j).length = j := by unfold prow; rw [List.length_map, List.length_range]
theorem prow_snoc (A B : List (List UInt8)) (i j : Nat) : prow A B i j ++ [dotTo (A.getD i []) (colTo B j B.length) (min (A.getD i []).length B.length)] = prow A B i (j + 1) := by unfold prow; rw [List.range_succ, List.map_append]; rfl
theorem prod_len (A B : List (List UInt8)) (k i : Nat) : (prod A B k i).length = i := by unfold prod; rw [List.length_map, List.length_range]
theorem prod_snoc (A B : List (List UInt8)) (k i : Nat) : prod A B k i ++ [prow A B i k] = prod A B k (i + 1) := by unfold prod; rw [List.range_succ, List.map_append]; rfl
theorem prod_el (A B : List (List UInt8)) (k i : Nat) : ∀ x ∈ prod A B k i, x.length = k := by
  intro x hx
  obtain ⟨q, _, rfl⟩ := List.mem_map.1 hx
  exact prow_len A B q k
end Go.Au

namespace Go.Au
abbrev Mat := List (List UInt8)
def ent (M : Mat) (r c : Nat) : UInt8 := (M.getD r []).getD c 0
def pivF (M : Mat) (c k : Nat) : Nat → Nat → Nat
  | 0, p => p
  | f + 1, p => if p < k ∧ ent M p c = 0 then pivF M c k f (p + 1) else p
def swapR (M : Mat) (i j : Nat) : Mat := (M.set i (M.getD j [])).set j (M.getD i [])
def scaleTo (z : UInt8) (l : List UInt8) : Nat → List UInt8
  | 0 => l
  | j + 1 => (scaleTo z l j).set j (gmul ((scaleTo z l j).getD j 0) z)
def elimTo (f : UInt8) (q l : List UInt8) : Nat → List UInt8
  | 0 => l
  | j + 1 => (elimTo f q l j).set j ((elimTo f q l j).getD j 0 ^^^ gmul f (q.getD j 0))
def elimRow (M : Mat) (c r w : Nat) : Mat := if r = c ∨ ent M r c = 0 then M else M.set r (elimTo (ent M r c) (M.getD c []) (M.getD r []) w)
def elimAll (M : Mat) (c w : Nat) : Nat → Mat
  | 0 => M
  | r + 1 => elimRow (elimAll M c w r) c r w
def sweep (M : Mat) (c p k w : Nat) : Mat :=
  elimAll ((swapR M c p).set c (scaleTo (ginv (ent (swapR M c p) c c)) ((swapR M c p).getD c []) w)) c w k
def augTo (V : Mat) (k i : Nat) : Mat := (List.range i).map fun q => V.getD q [] ++ (unitM k k).getD q []
def gaussTo (V : Mat) (k : Nat) : Nat → Mat
  | 0 => augTo V k k
  | c + 1 => sweep (gaussTo V k c) c (pivF (gaussTo V k c) c k (k - c) c) k (2 * k)
def gaussOk (V : Mat) (k : Nat) : Bool := (List.range k).all fun c => decide (pivF (gaussTo V k c) c k (k - c) c < k)
set_option maxRecDepth 100000 in
theorem gauss5 : ∀ k, 1 ≤ k → k ≤ 5 → gaussOk (vand k k) k = true := by
  intro k h1 h2
  match k, h1, h2 with
  | 1, _, _ => decide +kernel
  | 2, _, _ => decide +kernel
  | 3, _, _ => decide +kernel
  | 4, _, _ => decide +kernel
  | 5, _, _ => decide +kernel
theorem gauss_piv {k c : Nat} (h1 : 1 ≤ k) (h2 : k ≤ 5) (hc : c < k) : pivF (gaussTo (vand k k) k c) c k (k - c) c < k :=
  of_decide_eq_true (List.all_eq_true.1 (gauss5 k h1 h2) c (List.mem_range.2 hc))
theorem piv_yes {M : Mat} {c k p : Nat} (hp : p < k) (e : ent M p c = 0) : pivF M c k (k - p) p = pivF M c k (k - (p + 1)) (p + 1) := by
  rw [show k - p = (k - (p + 1)) + 1 by omega]; exact if_pos ⟨hp, e⟩
theorem piv_end {M : Mat} {c k p : Nat} (h : p < k → ¬ ent M p c = 0) (hk : p ≤ k) : pivF M c k (k - p) p = p := by
  rcases Nat.lt_or_ge p k with h1 | h1
  · rw [show k - p = (k - (p + 1)) + 1 by omega]; exact if_neg fun q => h q.1 q.2
  · rw [show k - p = 0 by omega]; rfl
theorem row_step {M : Mat} {c : Nat} {l : List UInt8} (h : c < M.length) (f : List UInt8 → List UInt8) : (M.set c l).set c (f ((M.set c l).getD c [])) = M.set c (f l) := by
  rw [List.set_set, List.getD_eq_getElem?_getD, List.getElem?_set_self h]; rfl
theorem row_self {M : Mat} {c : Nat} (h : c < M.length) : M.set c (M.getD c []) = M := by
  rw [List.getD_eq_getElem?_getD, List.getElem?_eq_getElem h]
  exact List.set_getElem_self h
theorem row_other {M : Mat} {c r : Nat} {l : List UInt8} (h : ¬ r = c) : (M.set r l).getD c [] = M.getD c [] := by
  rw [List.getD_eq_getElem?_getD, List.getElem?_set_ne h, ← List.getD_eq_getElem?_getD]
theorem elim_skip {M : Mat} {c r w : Nat} (h : r = c ∨ ent (elimAll M c w r) r c = 0) : elimAll M c w (r + 1) = elimAll M c w r := if_pos h
theorem elim_do {M : Mat} {c r w : Nat} (h : ¬ r = c) (h1 : ¬ ent (elimAll M c w r) r c = 0) : elimAll M c w (r + 1) = (elimAll M c w r).set r (elimTo (ent (elimAll M c w r) r c) ((elimAll M c w r).getD c []) ((elimAll M c w r).getD r []) w) := if_neg (fun q => q.elim h h1)
theorem augTo_snoc (V : Mat) (k i : Nat) : augTo V k i ++ [V.getD i [] ++ (unitM k k).getD i []] = augTo V k (i + 1) := by unfold augTo; rw [List.range_succ, List.map_append]; rfl
def invTo (V : Mat) (k i : Nat) : Mat := (List.range i).map fun q => ((gaussTo V k k).getD q []).drop k
theorem invTo_snoc (V : Mat) (k i : Nat) : invTo V k i ++ [((gaussTo V k k).getD i []).drop k] = invTo V k (i + 1) := by unfold invTo; rw [List.range_succ, List.map_append]; rfl
theorem invTo_len (V : Mat) (k i : Nat) : (invTo V k i).length = i := by unfold invTo; rw [List.length_map, List.length_range]
theorem vand_cut {k n : Nat} (h : k ≤ n) : ((vand k n).drop 0).take (k - 0) = vand k k := by
  unfold vand
  rw [List.drop_zero, ← List.map_take, List.take_range, Nat.sub_zero, Nat.min_eq_left h]
end Go.Au
