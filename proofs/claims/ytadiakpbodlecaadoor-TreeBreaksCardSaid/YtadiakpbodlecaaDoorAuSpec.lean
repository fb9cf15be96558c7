/- Netstrings and tagged hashes in plain words: no program here. -/
import Derived.Test.YtadiakpbodlecaaDoorShaSpec
set_option linter.unusedVariables false
set_option linter.unusedSimpArgs false
set_option maxRecDepth 8192
namespace Go.Au

def digit (n : Nat) : UInt8 := UInt8.ofNat (48 + n)
/-- Decimal digits (n + 1 of them are enough). -/
def decF : Nat → Nat → List UInt8
  | 0, n => [digit (n % 10)]
  | f + 1, n => if n < 10 then [digit n] else decF f (n / 10) ++ [digit (n % 10)]
def dec (n : Nat) : List UInt8 := decF n n

theorem decF_eq : ∀ (f g n : Nat), n ≤ f → n ≤ g → decF f n = decF g n
  | 0, 0, _, _, _ => rfl
  | 0, g + 1, n, h, _ => by have : n = 0 := by omega
                            subst this; rfl
  | f + 1, 0, n, _, h => by have : n = 0 := by omega
                            subst this; rfl
  | f + 1, g + 1, n, h1, h2 => by
    unfold decF
    split
    · rfl
    · rw [decF_eq f g (n / 10) (by omega) (by omega)]
theorem dec_lt {n : Nat} (h : n < 10) : dec n = [digit n] := by
  unfold dec
  cases n with
  | zero => rfl
  | succ n => unfold decF; rw [if_pos h]
theorem dec_ge {n : Nat} (h : ¬ n < 10) : dec n = dec (n / 10) ++ [digit (n % 10)] := by
  unfold dec
  cases n with
  | zero => omega
  | succ n =>
    conv => lhs; unfold decF
    rw [if_neg h, decF_eq n ((n + 1) / 10) ((n + 1) / 10) (by omega) (Nat.le_refl _)]
theorem dec_len_pos (n : Nat) : 0 < (dec n).length := by
  by_cases h : n < 10
  · rw [dec_lt h]; simp
  · rw [dec_ge h]; simp
theorem dec_len_le : ∀ (k n : Nat), n < 10 ^ (k + 1) → (dec n).length ≤ k + 1
  | 0, n, h => by rw [dec_lt (by omega)]; simp
  | k + 1, n, h => by
    by_cases h' : n < 10
    · rw [dec_lt h']; simp
    · rw [dec_ge h', List.length_append]
      have := dec_len_le k (n / 10) (by rw [Nat.div_lt_iff_lt_mul (by omega)]; rw [Nat.pow_succ] at h; exact h)
      simp; omega
theorem dec_digit (n : Nat) : ∀ c ∈ dec n, 48 ≤ c.toNat ∧ c.toNat ≤ 57 := by
  induction n using Nat.strongRecOn with
  | _ n ih =>
    intro c hc
    by_cases h : n < 10
    · rw [dec_lt h] at hc
      simp at hc; subst hc
      simp only [digit, UInt8.toNat_ofNat']; omega
    · rw [dec_ge h, List.mem_append] at hc
      rcases hc with hc | hc
      · exact ih (n / 10) (by omega) c hc
      · simp at hc; subst hc
        simp only [digit, UInt8.toNat_ofNat']; omega

/-- Go's table of the numbers below a hundred. -/
def smalls : List UInt8 := [48, 48, 48, 49, 48, 50, 48, 51, 48, 52, 48, 53, 48, 54, 48, 55, 48, 56, 48, 57, 49, 48, 49, 49, 49, 50, 49, 51, 49, 52, 49, 53, 49, 54, 49, 55, 49, 56, 49, 57, 50, 48, 50, 49, 50, 50, 50, 51, 50, 52, 50, 53, 50, 54, 50, 55, 50, 56, 50, 57, 51, 48, 51, 49, 51, 50, 51, 51, 51, 52, 51, 53, 51, 54, 51, 55, 51, 56, 51, 57, 52, 48, 52, 49, 52, 50, 52, 51, 52, 52, 52, 53, 52, 54, 52, 55, 52, 56, 52, 57, 53, 48, 53, 49, 53, 50, 53, 51, 53, 52, 53, 53, 53, 54, 53, 55, 53, 56, 53, 57, 54, 48, 54, 49, 54, 50, 54, 51, 54, 52, 54, 53, 54, 54, 54, 55, 54, 56, 54, 57, 55, 48, 55, 49, 55, 50, 55, 51, 55, 52, 55, 53, 55, 54, 55, 55, 55, 56, 55, 57, 56, 48, 56, 49, 56, 50, 56, 51, 56, 52, 56, 53, 56, 54, 56, 55, 56, 56, 56, 57, 57, 48, 57, 49, 57, 50, 57, 51, 57, 52, 57, 53, 57, 54, 57, 55, 57, 56, 57, 57]
theorem smalls_at (q : Nat) (h : q < 100) : smalls.getD (2 * q) 0 = digit (q / 10) ∧ smalls.getD (2 * q + 1) 0 = digit (q % 10) := by
  have key : ∀ f : Fin 100, smalls.getD (2 * f.val) 0 = digit (f.val / 10) ∧ smalls.getD (2 * f.val + 1) 0 = digit (f.val % 10) := by decide +kernel
  exact key ⟨q, h⟩
theorem smalls_lo (u : Nat) : smalls.getD (u % 100 * 2 + 1) 0 = digit (u % 10) := by
  have h := (smalls_at (u % 100) (by omega)).2
  rw [show 2 * (u % 100) + 1 = u % 100 * 2 + 1 by omega, show u % 100 % 10 = u % 10 by omega] at h; exact h
theorem smalls_hi (u : Nat) : smalls.getD (u % 100 * 2) 0 = digit (u / 10 % 10) := by
  have h := (smalls_at (u % 100) (by omega)).1
  rw [show 2 * (u % 100) = u % 100 * 2 by omega, show u % 100 / 10 = u / 10 % 10 by omega] at h; exact h
theorem smalls_cut (q : Nat) (h : q < 100) (h' : 10 ≤ q) : (smalls.drop (q * 2)).take (q * 2 + 2 - q * 2) = dec q := by
  have key : ∀ f : Fin 100, 10 ≤ f.val → (smalls.drop (f.val * 2)).take (f.val * 2 + 2 - f.val * 2) = dec f.val := by decide +kernel
  exact key ⟨q, h⟩ h'
def digs : List UInt8 := [48, 49, 50, 51, 52, 53, 54, 55, 56, 57, 97, 98, 99, 100, 101, 102, 103, 104, 105, 106, 107, 108, 109, 110, 111, 112, 113, 114, 115, 116, 117, 118, 119, 120, 121, 122]
theorem digs_cut (q : Nat) (h : q < 10) : (digs.drop q).take (q + 1 - q) = dec q := by
  have key : ∀ f : Fin 10, (digs.drop f.val).take (f.val + 1 - f.val) = dec f.val := by decide +kernel
  exact key ⟨q, h⟩
/-- Go's table of how many binary digits a byte has. -/
def len8 : List UInt8 := [0, 1, 2, 2, 3, 3, 3, 3, 4, 4, 4, 4, 4, 4, 4, 4, 5, 5, 5, 5, 5, 5, 5, 5, 5, 5, 5, 5, 5, 5, 5, 5, 6, 6, 6, 6, 6, 6, 6, 6, 6, 6, 6, 6, 6, 6, 6, 6, 6, 6, 6, 6, 6, 6, 6, 6, 6, 6, 6, 6, 6, 6, 6, 6, 7, 7, 7, 7, 7, 7, 7, 7, 7, 7, 7, 7, 7, 7, 7, 7, 7, 7, 7, 7, 7, 7, 7, 7, 7, 7, 7, 7, 7, 7, 7, 7, 7, 7, 7, 7, 7, 7, 7, 7, 7, 7, 7, 7, 7, 7, 7, 7, 7, 7, 7, 7, 7, 7, 7, 7, 7, 7, 7, 7, 7, 7, 7, 7, 8, 8, 8, 8, 8, 8, 8, 8, 8, 8, 8, 8, 8, 8, 8, 8, 8, 8, 8, 8, 8, 8, 8, 8, 8, 8, 8, 8, 8, 8, 8, 8, 8, 8, 8, 8, 8, 8, 8, 8, 8, 8, 8, 8, 8, 8, 8, 8, 8, 8, 8, 8, 8, 8, 8, 8, 8, 8, 8, 8, 8, 8, 8, 8, 8, 8, 8, 8, 8, 8, 8, 8, 8, 8, 8, 8, 8, 8, 8, 8, 8, 8, 8, 8, 8, 8, 8, 8, 8, 8, 8, 8, 8, 8, 8, 8, 8, 8, 8, 8, 8, 8, 8, 8, 8, 8, 8, 8, 8, 8, 8, 8, 8, 8, 8, 8, 8, 8, 8, 8, 8, 8, 8, 8, 8, 8, 8, 8]
def bl (n : Nat) : Nat := if n < 256 then (len8.getD n 0).toNat else 8 + (len8.getD (n / 256) 0).toNat
def digB (n : Nat) : Bool := Nat.ble (bl n * 78913 / 262144 + (if 10 ^ (bl n * 78913 / 262144) ≤ n then 1 else 0)) 4 && Nat.beq (bl n * 78913 / 262144 + (if 10 ^ (bl n * 78913 / 262144) ≤ n then 1 else 0)) (if n < 1000 then 3 else 4)
def allB (p : Nat → Bool) : Nat → Bool
  | 0 => true
  | n + 1 => p n && allB p n
theorem allB_spec {p : Nat → Bool} : ∀ {n : Nat}, allB p n = true → ∀ k, k < n → p k = true
  | 0, _, k, hk => absurd hk (Nat.not_lt_zero _)
  | n + 1, h, k, hk => by
    simp only [allB, Bool.and_eq_true] at h
    by_cases e : k = n
    · subst e; exact h.1
    · exact allB_spec h.2 k (by omega)
theorem digs_nd (n : Nat) (h : 100 ≤ n) (h' : n < 10000) : bl n * 78913 / 262144 + (if 10 ^ (bl n * 78913 / 262144) ≤ n then 1 else 0) = (if n < 1000 then 3 else 4) ∧ bl n ≤ 16 := by
  have key : allB (fun n => Nat.ble n 99 || (digB n && Nat.ble (bl n) 16)) 10000 = true := by decide +kernel
  have h1 := allB_spec key n h'
  simp only [digB, Bool.or_eq_true, Bool.and_eq_true, Nat.ble_eq, Nat.beq_eq] at h1
  omega
theorem smalls_lo4 (u : Nat) : smalls.getD (u % 10000 / 100 * 2 + 1) 0 = digit (u / 100 % 10) := by
  have h := smalls_lo (u / 100)
  rw [show u / 100 % 100 = u % 10000 / 100 by omega] at h; exact h
theorem smalls_hi4 (u : Nat) : smalls.getD (u % 10000 / 100 * 2) 0 = digit (u / 1000 % 10) := by
  have h := smalls_hi (u / 100)
  rw [show u / 100 % 100 = u % 10000 / 100 by omega, Nat.div_div_eq_div_mul] at h; exact h
theorem smalls_lo4' (u : Nat) : smalls.getD (u % 10000 % 100 * 2 + 1) 0 = digit (u % 10) := by
  have h := smalls_lo u
  rw [show u % 100 = u % 10000 % 100 by omega] at h; exact h
theorem smalls_hi4' (u : Nat) : smalls.getD (u % 10000 % 100 * 2) 0 = digit (u / 10 % 10) := by
  have h := smalls_hi u
  rw [show u % 100 = u % 10000 % 100 by omega] at h; exact h
theorem dec3 (n : Nat) (h : 100 ≤ n) (h' : n < 1000) : dec n = [digit (n / 100), digit (n / 10 % 10), digit (n % 10)] := by
  rw [dec_ge (by omega), dec_ge (n := n / 10) (by omega), dec_lt (n := n / 10 / 10) (by omega), Nat.div_div_eq_div_mul]; rfl
theorem dec4 (n : Nat) (h : 1000 ≤ n) (h' : n < 10000) : dec n = [digit (n / 1000), digit (n / 100 % 10), digit (n / 10 % 10), digit (n % 10)] := by
  rw [dec_ge (by omega), dec3 (n / 10) (by omega) (by omega), Nat.div_div_eq_div_mul, Nat.div_div_eq_div_mul]; rfl

/-- A row with its length ahead. -/
def net (b : List UInt8) : List UInt8 := dec b.length ++ [58] ++ b ++ [44]
def nets (l : List (List UInt8)) : List UInt8 := l.flatMap net
def text (tag : List UInt8) (l : List (List UInt8)) : List UInt8 := net tag ++ nets l
def tagged (tag : List UInt8) (l : List (List UInt8)) : List UInt8 := Go.Sha.sha (text tag l)
theorem tagged_len (tag : List UInt8) (l : List (List UInt8)) : (tagged tag l).length = 32 := Go.Sha.sha_len _
theorem net_len (b : List UInt8) : (net b).length = (dec b.length).length + b.length + 2 := by simp [net]; omega
theorem net_le {b : List UInt8} (h : b.length < 1000000) : (net b).length ≤ b.length + 8 := by
  have := dec_len_le 5 b.length (by omega)
  rw [net_len]; omega
theorem nets_nil : nets [] = [] := rfl
theorem nets_snoc (l : List (List UInt8)) (b : List UInt8) : nets (l ++ [b]) = nets l ++ net b := by simp [nets]
theorem nets_cons (l : List (List UInt8)) (b : List UInt8) : nets (b :: l) = net b ++ nets l := by simp [nets]
def total (l : List (List UInt8)) : Nat := (l.map List.length).sum
theorem nets_le : ∀ {l : List (List UInt8)}, (∀ b ∈ l, b.length < 1000000) → (nets l).length ≤ total l + 8 * l.length
  | [], _ => by simp [nets, total]
  | b :: l, h => by
    have h1 := net_le (h b (by simp))
    have h2 := nets_le (l := l) (fun x hx => h x (by simp [hx]))
    rw [nets_cons, List.length_append]
    simp only [total, List.map_cons, List.sum_cons, List.length_cons] at h2 ⊢
    omega
theorem nets_append (l m : List (List UInt8)) : nets (l ++ m) = nets l ++ nets m := by simp [nets]
theorem nets_take {l : List (List UInt8)} {k : Nat} (h : k < l.length) : nets (l.take k) ++ net (l.getD k []) = nets (l.take (k + 1)) := by
  rw [List.take_succ_eq_append_getElem h, nets_snoc]
  simp [h]
theorem nets_take_le (l : List (List UInt8)) (k : Nat) : (nets (l.take k)).length ≤ (nets l).length := by
  conv => rhs; rw [← List.take_append_drop k l, nets_append]
  simp
theorem nets_count : ∀ (l : List (List UInt8)), l.length ≤ (nets l).length
  | [] => by simp
  | b :: l => by
    have := nets_count l
    rw [nets_cons, List.length_append, net_len, List.length_cons]; omega
theorem net_ge (b : List UInt8) : b.length ≤ (net b).length := by rw [net_len]; omega
theorem nets_el {l : List (List UInt8)} {B : Nat} (h : (nets l).length < B) (k : Nat) (hk : k < l.length) : (l.getD k []).length < B := by
  have h1 := nets_take_le l (k + 1)
  rw [← nets_take hk, List.length_append] at h1
  have := net_ge (l.getD k [])
  omega
theorem text_tag (tag : List UInt8) (l : List (List UInt8)) : tag.length ≤ (text tag l).length := by
  have := net_ge tag
  simp only [text, List.length_append]; omega
theorem text_nets (tag : List UInt8) (l : List (List UInt8)) : (nets l).length ≤ (text tag l).length := by
  simp only [text, List.length_append]; omega
end Go.Au
