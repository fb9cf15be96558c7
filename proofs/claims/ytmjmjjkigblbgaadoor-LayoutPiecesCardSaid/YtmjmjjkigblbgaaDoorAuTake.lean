/- Reading netstrings out of any bytes, in plain words. -/
import Derived.Test.YtmjmjjkigblbgaaDoorAuNet
set_option linter.unusedVariables false
set_option linter.unusedSimpArgs false
set_option maxRecDepth 8192
namespace Go.Au
def isDig (c : UInt8) : Bool := Nat.ble 48 c.toNat && Nat.ble c.toNat 57
/-- The digits that lead. -/
def lead (b : List UInt8) : List UInt8 := b.takeWhile isDig
theorem lead_at : ∀ (b : List UInt8) (k : Nat), k ≤ (lead b).length →
    (k < (lead b).length ∧ k < b.length ∧ 48 ≤ (b.getD k 0).toNat ∧ (b.getD k 0).toNat ≤ 57) ∨ (k = (lead b).length ∧ (k = b.length ∨ (k < b.length ∧ ((b.getD k 0).toNat < 48 ∨ 57 < (b.getD k 0).toNat))))
  | [], k, h => by
    obtain rfl : k = 0 := by simpa [lead] using h
    exact .inr ⟨rfl, .inl rfl⟩
  | c :: b, k, h => by
    by_cases hc : isDig c = true
    · have e : lead (c :: b) = c :: lead b := by simp [lead, hc]
      rw [e] at h ⊢
      cases k with
      | zero =>
        simp only [isDig, Bool.and_eq_true, Nat.ble_eq] at hc
        exact .inl ⟨by simp, by simp, hc⟩
      | succ k =>
        have := lead_at b k (by simpa using h)
        simp only [List.length_cons, List.getD_cons_succ]
        omega
    · have e : lead (c :: b) = [] := by simp [lead, hc]
      rw [e] at h ⊢
      obtain rfl : k = 0 := by simpa using h
      refine .inr ⟨rfl, .inr ⟨by simp, ?_⟩⟩
      simp only [isDig, Bool.and_eq_true, Nat.ble_eq] at hc
      show c.toNat < 48 ∨ 57 < c.toNat
      omega
theorem lead_split (b : List UInt8) : b = lead b ++ b.dropWhile isDig := List.takeWhile_append_dropWhile.symm
theorem lead_le (b : List UInt8) : (lead b).length ≤ b.length := by
  have h := congrArg List.length (lead_split b)
  rw [List.length_append] at h; omega
theorem lead_take {b : List UInt8} {k : Nat} (h : k ≤ (lead b).length) : b.take k = (lead b).take k := by
  conv => lhs; rw [lead_split b]
  rw [List.take_append_of_le_length h]
theorem lead_get {b : List UInt8} {k : Nat} (h : k < (lead b).length) : b.getD k 0 = (lead b).getD k 0 := by
  conv => lhs; rw [lead_split b]
  rw [List.getD_eq_getElem?_getD, List.getD_eq_getElem?_getD, List.getElem?_append_left h]
theorem lead_dig (b : List UInt8) : ∀ c ∈ lead b, 48 ≤ c.toNat ∧ c.toNat ≤ 57 := by
  intro c hc
  have h : isDig c = true := by
    induction b with
    | nil => simp [lead] at hc
    | cons d b ih =>
      unfold lead at hc
      rw [List.takeWhile_cons] at hc
      split at hc
      · rcases List.mem_cons.1 hc with rfl | h
        · assumption
        · exact ih h
      · cases hc
  simpa [isDig] using h
theorem lead_val {b : List UInt8} {k : Nat} (h : k ≤ (lead b).length) : dval (b.take k) ≤ dval (lead b) := by
  rw [lead_take h]; exact dval_le _ ((lead b).length - k) k (by omega)
theorem lead_all (b : List UInt8) : dval (b.take (lead b).length) = dval (lead b) := by rw [lead_take (Nat.le_refl _), List.take_length]
/-- Digits without a nought ahead are a number's. -/
theorem dec_dval (n : Nat) : ∀ a : List UInt8, a.length = n → (∀ c ∈ a, 48 ≤ c.toNat ∧ c.toNat ≤ 57) → 0 < a.length → (a.length = 1 ∨ a.getD 0 0 ≠ 48) → dec (dval a) = a := by
  induction n with
  | zero => intro a h _ h0; omega
  | succ n ih =>
    intro a hn hd h0 hz
    have hne : a ≠ [] := by intro e; rw [e] at h0; cases h0
    obtain ⟨s, c, rfl⟩ : ∃ s c, a = s ++ [c] := ⟨a.dropLast, a.getLast hne, (List.dropLast_concat_getLast hne).symm⟩
    have hc := hd c (by simp)
    have ec : digit (c.toNat - 48) = c := by
      apply UInt8.toNat_inj.1
      rw [digit_nat (by omega)]; omega
    rw [dval_snoc]
    by_cases hs : s = []
    · subst hs
      rw [dval_nil, dec_lt (by omega), show 10 * 0 + (c.toNat - 48) = c.toNat - 48 by omega, ec]; rfl
    · have hsl : 0 < s.length := by cases s with | nil => exact absurd rfl hs | cons _ _ => simp
      have hh : s.getD 0 0 ≠ 48 := by
        rcases hz with h | h
        · simp only [List.length_append, List.length_singleton] at h; omega
        · rwa [List.getD_eq_getElem?_getD, List.getElem?_append_left hsl, ← List.getD_eq_getElem?_getD] at h
      have hi := ih s (by rw [List.length_append] at hn; simp at hn; omega) (fun x hx => hd x (by simp [hx])) hsl (.inr hh)
      have hp : 0 < dval s := by
        rcases Nat.eq_zero_or_pos (dval s) with h | h
        · rw [h] at hi
          rw [← hi] at hh
          exact absurd (by decide : (dec 0).getD 0 0 = 48) hh
        · exact h
      rw [dec_ge (by omega), show (10 * dval s + (c.toNat - 48)) / 10 = dval s by omega, show (10 * dval s + (c.toNat - 48)) % 10 = c.toNat - 48 by omega, hi, ec]
theorem dval_six {a : List UInt8} (hd : ∀ c ∈ a, 48 ≤ c.toNat ∧ c.toNat ≤ 57) (h6 : 6 ≤ a.length) (hz : a.getD 0 0 ≠ 48) : 16384 < dval a := by
  have h := dec_dval _ a rfl hd (by omega) (.inr hz)
  rcases Nat.lt_or_ge 16384 (dval a) with h1 | h1
  · exact h1
  · have := dec_len4 (n := dval a) (by omega)
    rw [h] at this; omega

/-- A row stands at the beginning. -/
def NetOk (b : List UInt8) : Prop :=
  0 < (lead b).length ∧ ((lead b).length = 1 ∨ b.getD 0 0 ≠ 48) ∧ dval (lead b) ≤ 16384 ∧ (lead b).length + dval (lead b) + 2 ≤ b.length ∧ b.getD (lead b).length 0 = 58 ∧ b.getD ((lead b).length + 1 + dval (lead b)) 0 = 44
instance (b : List UInt8) : Decidable (NetOk b) := by unfold NetOk; infer_instance
/-- That row, and what is behind it. -/
def tn1 (b : List UInt8) : List UInt8 := if NetOk b then (b.drop ((lead b).length + 1)).take (dval (lead b)) else []
def tn2 (b : List UInt8) : List UInt8 := if NetOk b then b.drop ((lead b).length + dval (lead b) + 2) else []
theorem tn1_no {b : List UInt8} (h : ¬ NetOk b) : tn1 b = [] := if_neg h
theorem tn2_no {b : List UInt8} (h : ¬ NetOk b) : tn2 b = [] := if_neg h
theorem tn1_yes {b : List UInt8} (h : NetOk b) : tn1 b = (b.drop ((lead b).length + 1)).take (dval (lead b)) := if_pos h
theorem tn2_yes {b : List UInt8} (h : NetOk b) : tn2 b = b.drop ((lead b).length + dval (lead b) + 2) := if_pos h
theorem tn1_len {b : List UInt8} (h : NetOk b) : (tn1 b).length = dval (lead b) := by
  rw [tn1_yes h, List.length_take, List.length_drop]
  have := h.2.2.2.1; omega
theorem tn2_len {b : List UInt8} (h : NetOk b) : (tn2 b).length = b.length - ((lead b).length + dval (lead b) + 2) := by
  rw [tn2_yes h, List.length_drop]
theorem tn1_le (b : List UInt8) : (tn1 b).length ≤ 16384 ∧ (tn1 b).length ≤ b.length := by
  by_cases h : NetOk b
  · have := h.2.2.1; have := h.2.2.2.1
    rw [tn1_len h]; omega
  · rw [tn1_no h]; simp
theorem tn2_le (b : List UInt8) : (tn2 b).length ≤ b.length := by
  by_cases h : NetOk b
  · rw [tn2_len h]; omega
  · rw [tn2_no h]; simp
/-- What was read is what stood there. -/
theorem tn_net {b : List UInt8} (h : NetOk b) : b = net (tn1 b) ++ tn2 b := by
  obtain ⟨h1, h2, h3, h4, h5, h6⟩ := h
  have hd : dec (tn1 b).length = lead b := by
    rw [tn1_len ⟨h1, h2, h3, h4, h5, h6⟩]
    refine dec_dval _ _ rfl (lead_dig b) h1 (h2.imp id fun e => ?_)
    rwa [← lead_get h1]
  rw [net_eq, hd, tn1_yes ⟨h1, h2, h3, h4, h5, h6⟩, tn2_yes ⟨h1, h2, h3, h4, h5, h6⟩]
  generalize hD : (lead b).length = D at *
  generalize dval (lead b) = n at *
  have e1 : b = lead b ++ b.drop D := by
    conv => lhs; rw [← List.take_append_drop D b]
    rw [lead_take (by omega), List.take_of_length_le (by omega)]
  have e2 : b.drop D = 58 :: b.drop (D + 1) := by
    rw [List.drop_eq_getElem_cons (by omega)]
    congr 1
    rwa [List.getD_eq_getElem?_getD, List.getElem?_eq_getElem (by omega)] at h5
  have e3 : b.drop (D + 1) = (b.drop (D + 1)).take n ++ b.drop (D + 1 + n) := by
    conv => lhs; rw [← List.take_append_drop n (b.drop (D + 1))]
    rw [List.drop_drop]
  have e4 : b.drop (D + 1 + n) = 44 :: b.drop (D + n + 2) := by
    rw [List.drop_eq_getElem_cons (by omega), show D + 1 + n + 1 = D + n + 2 by omega]
    congr 1
    rwa [List.getD_eq_getElem?_getD, List.getElem?_eq_getElem (by omega)] at h6
  rw [← e4, ← e3, ← e2]
  exact e1
theorem netOk_iff (b : List UInt8) : NetOk b ↔ 0 < (lead b).length ∧ ((lead b).length = 1 ∨ (b.getD 0 0).toNat ≠ 48) ∧ dval (lead b) ≤ 16384 ∧ (lead b).length + dval (lead b) + 2 ≤ b.length ∧ (b.getD (lead b).length 0).toNat = 58 ∧ (b.getD ((lead b).length + 1 + dval (lead b)) 0).toNat = 44 := by
  have e : ∀ (x : UInt8) (n : Nat) (h : n < 256), x = UInt8.ofNat n ↔ x.toNat = n := fun x n h => by
    constructor
    · intro h1; rw [h1, UInt8.toNat_ofNat']; omega
    · intro h1; apply UInt8.toNat_inj.1; rw [UInt8.toNat_ofNat']; omega
  have e1 := e (b.getD 0 0) 48 (by decide)
  have e2 := e (b.getD (lead b).length 0) 58 (by decide)
  have e3 := e (b.getD ((lead b).length + 1 + dval (lead b)) 0) 44 (by decide)
  unfold NetOk
  rw [← e2, ← e3]
  show _ ∧ (_ ∨ ¬ (b.getD 0 0 = UInt8.ofNat 48)) ∧ _ ↔ _
  rw [e1]
  rfl
/-- What was read of the digits: all of them, or it is no row. -/
def Told (b : List UInt8) (d n : Nat) : Prop := (d = (lead b).length ∧ n = dval (lead b)) ∨ (¬ NetOk b ∧ (16384 < n ∨ (b.getD d 0).toNat ≠ 58))
theorem told_size {b : List UInt8} {d : Nat} (hd : d ≤ (lead b).length) (h : d = (lead b).length ∨ 16384 < dval (b.take d)) : Told b d (dval (b.take d)) := by
  rcases h with h | h
  · exact .inl ⟨h, by rw [h]; exact lead_all b⟩
  · refine .inr ⟨fun hq => ?_, .inl h⟩
    have := lead_val hd; have := hq.2.2.1; omega
theorem told_ref {b : List UInt8} {d : Nat} (hd : d ≤ (lead b).length) (h : d = (lead b).length ∨ d = 6) : Told b d (dval (b.take d)) := by
  by_cases e : d = (lead b).length
  · exact .inl ⟨e, by rw [e]; exact lead_all b⟩
  · have h6 : d = 6 := by omega
    refine .inr ⟨fun hq => ?_, .inr ?_⟩
    · have h2 : b.getD 0 0 ≠ 48 := by
        rcases hq.2.1 with h1 | h1
        · omega
        · exact h1
      rw [lead_get (by omega)] at h2
      have := dval_six (lead_dig b) (by omega) h2
      have := hq.2.2.1; omega
    · rcases lead_at b d hd with h1 | h1 <;> omega
theorem told_no {b : List UInt8} {d n : Nat} (ht : Told b d n) (h : d = 0 ∨ (1 < d ∧ (b.getD 0 0).toNat = 48) ∨ 16384 < n ∨ b.length < d + n + 2 ∨ (b.getD d 0).toNat ≠ 58 ∨ (b.getD (d + 1 + n) 0).toNat ≠ 44) : ¬ NetOk b := by
  rcases ht with ⟨h1, h2⟩ | h1
  · subst h1; subst h2
    rw [netOk_iff]; omega
  · exact h1.1
theorem told_yes {b : List UInt8} {d n : Nat} (ht : Told b d n) (h1 : ¬ d = 0) (h2 : ¬ (1 < d ∧ (b.getD 0 0).toNat = 48)) (h3 : ¬ 16384 < n) (h4 : ¬ b.length < d + n + 2) (h5 : (b.getD d 0).toNat = 58) (h6 : (b.getD (d + 1 + n) 0).toNat = 44) :
    NetOk b ∧ d = (lead b).length ∧ n = dval (lead b) := by
  rcases ht with ⟨e1, e2⟩ | e
  · subst e1; subst e2
    refine ⟨?_, rfl, rfl⟩
    rw [netOk_iff]; omega
  · exact absurd e.2 (by omega)
theorem told_cut1 {b : List UInt8} {d n : Nat} (h : NetOk b ∧ d = (lead b).length ∧ n = dval (lead b)) : (b.drop (d + 1)).take (d + 1 + n - (d + 1)) = tn1 b := by
  obtain ⟨h, rfl, rfl⟩ := h
  rw [tn1_yes h, show (lead b).length + 1 + dval (lead b) - ((lead b).length + 1) = dval (lead b) by omega]
theorem told_cut2 {b : List UInt8} {d n : Nat} (h : NetOk b ∧ d = (lead b).length ∧ n = dval (lead b)) : (b.drop (d + n + 2)).take (b.length - (d + n + 2)) = tn2 b := by
  obtain ⟨h, rfl, rfl⟩ := h
  rw [tn2_yes h, List.take_of_length_le (by rw [List.length_drop]; omega)]

/-! Rows, one behind the other. -/
def ntRest : Nat → List UInt8 → List UInt8
  | 0, b => b
  | k + 1, b => tn2 (ntRest k b)
def ntRows (k : Nat) (b : List UInt8) : List (List UInt8) := (List.range k).map fun i => tn1 (ntRest i b)
def NtOks (k : Nat) (b : List UInt8) : Prop := ∀ i, i < k → NetOk (ntRest i b)
instance (k : Nat) (b : List UInt8) : Decidable (NtOks k b) := by unfold NtOks; infer_instance
def NtAll (k : Nat) (b : List UInt8) : Prop := NtOks k b ∧ ntRest k b = []
instance (k : Nat) (b : List UInt8) : Decidable (NtAll k b) := by unfold NtAll; infer_instance
def ntAll (k : Nat) (b : List UInt8) : List (List UInt8) := if NtAll k b then ntRows k b else []
theorem ntRows_snoc (k : Nat) (b : List UInt8) : ntRows k b ++ [tn1 (ntRest k b)] = ntRows (k + 1) b := by simp [ntRows, List.range_succ]
theorem ntRows_len (k : Nat) (b : List UInt8) : (ntRows k b).length = k := by simp [ntRows]
theorem ntRest_le (b : List UInt8) : ∀ k, (ntRest k b).length ≤ b.length
  | 0 => Nat.le_refl _
  | k + 1 => Nat.le_trans (tn2_le _) (ntRest_le b k)
theorem NtOks_zero (b : List UInt8) : NtOks 0 b := fun _ h => absurd h (Nat.not_lt_zero _)
theorem NtOks_succ {k : Nat} {b : List UInt8} (h : NtOks k b) (h1 : NetOk (ntRest k b)) : NtOks (k + 1) b := by
  intro i hi
  by_cases e : i = k
  · rw [e]; exact h1
  · exact h i (by omega)
theorem NtOks_not {n k : Nat} {b : List UInt8} (hk : k < n) (h1 : ¬ NetOk (ntRest k b)) : ¬ NtAll n b := fun h => h1 (h.1 k hk)
theorem NtOks_nets {b : List UInt8} : ∀ {k : Nat}, NtOks k b → b = nets (ntRows k b) ++ ntRest k b
  | 0, _ => rfl
  | k + 1, h => by
    have h1 := NtOks_nets (k := k) fun i hi => h i (by omega)
    have h2 := tn_net (h k (by omega))
    rw [← ntRows_snoc, nets_snoc, List.append_assoc, ntRest, ← h2]
    exact h1
theorem NtAll_nets {b : List UInt8} {k : Nat} (h : NtAll k b) : nets (ntRows k b) = b := by
  have := NtOks_nets h.1
  rw [h.2, List.append_nil] at this
  exact this.symm
theorem ntAll_yes {k : Nat} {b : List UInt8} (h : NtAll k b) : ntAll k b = ntRows k b := if_pos h
theorem ntAll_no {k : Nat} {b : List UInt8} (h : ¬ NtAll k b) : ntAll k b = [] := if_neg h
theorem ntRows_el (b : List UInt8) (k : Nat) : ∀ x ∈ ntRows k b, x.length ≤ 16384 ∧ x.length ≤ b.length := by
  intro x hx
  simp only [ntRows, List.mem_map] at hx
  obtain ⟨i, _, rfl⟩ := hx
  have := tn1_le (ntRest i b); have := ntRest_le b i
  omega
/-! Numbers of bytes, the greatest first. -/
def be (l : List UInt8) : Nat := l.foldl (fun v c => 256 * v + c.toNat) 0
theorem be_snoc (l : List UInt8) (c : UInt8) : be (l ++ [c]) = 256 * be l + c.toNat := by simp [be]
theorem be_take {l : List UInt8} {k : Nat} (h : k < l.length) : 256 * be (l.take k) + (l.getD k 0).toNat = be (l.take (k + 1)) := by
  rw [List.take_succ_eq_append_getElem h, be_snoc]
  congr 1
  rw [List.getD_eq_getElem?_getD, List.getElem?_eq_getElem h]; rfl
theorem be_lt (l : List UInt8) : be l < 256 ^ l.length := by
  generalize hn : l.length = n
  induction n generalizing l with
  | zero => rw [List.length_eq_zero_iff.1 hn]; decide
  | succ n ih =>
    have hne : l ≠ [] := by intro e; rw [e] at hn; cases hn
    obtain ⟨s, c, rfl⟩ : ∃ s c, l = s ++ [c] := ⟨l.dropLast, l.getLast hne, (List.dropLast_concat_getLast hne).symm⟩
    have h1 := ih s (by rw [List.length_append] at hn; simp at hn; omega)
    have h2 := c.toNat_lt
    rw [be_snoc, Nat.pow_succ]; omega
theorem be_take_lt {l : List UInt8} {k : Nat} (h : k ≤ 7) : be (l.take k) < 72057594037927936 := by
  have h1 := be_lt (l.take k)
  have h2 : (l.take k).length ≤ 7 := by rw [List.length_take]; omega
  have h3 : 256 ^ (l.take k).length ≤ 256 ^ 7 := Nat.pow_le_pow_right (by decide) h2
  have : (256 : Nat) ^ 7 = 72057594037927936 := by decide
  omega
theorem be_one (l : List UInt8) (h : l.length = 1) : be l = (l.getD 0 0).toNat := by
  match l, h with
  | [c], _ => simp [be]
theorem put_low (M r : Nat) : ∀ j, Go.Sha.put (M * 256 ^ j + r) j = Go.Sha.put r j
  | 0 => rfl
  | j + 1 => by
    show UInt8.ofNat ((M * 256 ^ (j + 1) + r) / 256 ^ j) :: Go.Sha.put (M * 256 ^ (j + 1) + r) j = UInt8.ofNat (r / 256 ^ j) :: Go.Sha.put r j
    have hp : 0 < 256 ^ j := Nat.pow_pos (by decide)
    have e : M * 256 ^ (j + 1) = (M * 256) * 256 ^ j := by rw [Nat.pow_succ, Nat.mul_assoc, Nat.mul_comm (256 ^ j) 256]
    congr 1
    · rw [e, Nat.add_comm, Nat.add_mul_div_right _ _ hp]
      apply UInt8.toNat_inj.1
      simp only [UInt8.toNat_ofNat']
      omega
    · rw [e]; exact put_low (M * 256) r j
theorem be_cons (c : UInt8) (l : List UInt8) : be (c :: l) = c.toNat * 256 ^ l.length + be l := by
  generalize hn : l.length = n
  induction n generalizing l with
  | zero => rw [List.length_eq_zero_iff.1 hn]; simp [be]
  | succ n ih =>
    have hne : l ≠ [] := by intro e; rw [e] at hn; cases hn
    obtain ⟨s, d, rfl⟩ : ∃ s c, l = s ++ [c] := ⟨l.dropLast, l.getLast hne, (List.dropLast_concat_getLast hne).symm⟩
    have h1 := ih s (by rw [List.length_append] at hn; simp at hn; omega)
    rw [← List.cons_append, be_snoc, be_snoc, h1, Nat.pow_succ, Nat.mul_add, ← Nat.mul_assoc, Nat.mul_comm 256 (c.toNat), Nat.mul_assoc, Nat.mul_comm 256 (256 ^ n)]
    omega
/-- A number's bytes are the bytes. -/
theorem put_be : ∀ l : List UInt8, Go.Sha.put (be l) l.length = l
  | [] => rfl
  | c :: l => by
    rw [be_cons]
    show UInt8.ofNat ((c.toNat * 256 ^ l.length + be l) / 256 ^ l.length) :: Go.Sha.put (c.toNat * 256 ^ l.length + be l) l.length = c :: l
    rw [put_low, put_be l]
    congr 1
    have hp : 0 < 256 ^ l.length := Nat.pow_pos (by decide)
    rw [Nat.add_comm, Nat.add_mul_div_right _ _ hp, Nat.div_eq_of_lt (be_lt l), Nat.zero_add]
    exact UInt8.ofNat_toNat
end Go.Au
