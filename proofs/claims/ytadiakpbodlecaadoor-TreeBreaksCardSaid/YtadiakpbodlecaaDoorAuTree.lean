/- Trees of hashes in plain words: no program here. -/
import Derived.Test.YtadiakpbodlecaaDoorAuWots
set_option linter.unusedVariables false
set_option linter.unusedSimpArgs false
set_option maxRecDepth 8192
namespace Go.Au

def leafH (b : List UInt8) : List UInt8 := tagged [108, 101, 97, 102] [b]
def node (a b : List UInt8) : List UInt8 := tagged [110, 111, 100, 101] [a, b]
def padH : List UInt8 := tagged [112, 97, 100] []
theorem leafH_len (b : List UInt8) : (leafH b).length = 32 := tagged_len _ _
theorem node_len (a b : List UInt8) : (node a b).length = 32 := tagged_len _ _
theorem padH_len : padH.length = 32 := tagged_len _ _

/-- How many halvings lead to one. -/
def lgF : Nat → Nat → Nat
  | 0, _ => 0
  | f + 1, n => if n ≤ 1 then 0 else lgF f ((n + 1) / 2) + 1
def lg (n : Nat) : Nat := lgF n n
theorem lgF_up : ∀ (f n : Nat), n ≤ f + 1 → n ≤ 2 ^ lgF f n
  | 0, n, h => by simpa [lgF] using h
  | f + 1, n, h => by
    unfold lgF
    split
    · simpa using ‹n ≤ 1›
    · have := lgF_up f ((n + 1) / 2) (by omega)
      rw [Nat.pow_succ]; omega
theorem lgF_lo : ∀ (f n : Nat), n ≤ f + 1 → ∀ j, j < lgF f n → 2 ^ j < n
  | 0, n, _, j, hj => by simp [lgF] at hj
  | f + 1, n, h, j, hj => by
    unfold lgF at hj
    split at hj
    · omega
    · cases j with
      | zero => simp; omega
      | succ j =>
        have := lgF_lo f ((n + 1) / 2) (by omega) j (by omega)
        rw [Nat.pow_succ]; omega
theorem lg_up (n : Nat) : n ≤ 2 ^ lg n := lgF_up n n (by omega)
theorem lg_lo {n j : Nat} (h : j < lg n) : 2 ^ j < n := lgF_lo n n (by omega) j h
theorem lg_of {n k : Nat} (h : n ≤ 2 ^ k) (h' : k ≤ lg n) : k = lg n := by
  rcases Nat.lt_or_ge k (lg n) with h1 | h1
  · have := lg_lo h1; omega
  · omega
theorem lg_gt {n k : Nat} (h : 2 ^ k < n) (h' : k ≤ lg n) : k < lg n := by
  rcases Nat.lt_or_ge k (lg n) with h1 | h1
  · exact h1
  · obtain rfl : k = lg n := by omega
    have := lg_up n; omega
theorem lg_le {n m : Nat} (h : n ≤ 2 ^ m) : lg n ≤ m := by
  rcases Nat.lt_or_ge m (lg n) with h1 | h1
  · have := lg_lo h1; omega
  · exact h1
/-- The least power of two that is not below. -/
def padN (n : Nat) : Nat := 2 ^ lg n
theorem padN_le (n : Nat) : n ≤ padN n := lg_up n
theorem padN_lt (n m : Nat) (h : n ≤ 2 ^ m) : padN n ≤ 2 ^ m := Nat.pow_le_pow_right (by omega) (lg_le h)

/-- The first j nodes above a row. -/
def upTo (r : List (List UInt8)) (j : Nat) : List (List UInt8) := (List.range j).map fun i => node (r.getD (2 * i) []) (r.getD (2 * i + 1) [])
def up (r : List (List UInt8)) : List (List UInt8) := upTo r (r.length / 2)
theorem upTo_len (r : List (List UInt8)) (j : Nat) : (upTo r j).length = j := by simp [upTo]
theorem up_len (r : List (List UInt8)) : (up r).length = r.length / 2 := upTo_len _ _
theorem upTo_snoc (r : List (List UInt8)) (j : Nat) : upTo r j ++ [node (r.getD (2 * j) []) (r.getD (2 * j + 1) [])] = upTo r (j + 1) := by
  simp [upTo, List.range_succ]
theorem upTo_all (r : List (List UInt8)) (j : Nat) : ∀ h ∈ upTo r j, h.length = 32 := by
  intro h hh; obtain ⟨i, _, rfl⟩ := List.mem_map.1 hh; exact node_len _ _
def ups (r : List (List UInt8)) : Nat → List (List UInt8)
  | 0 => r
  | k + 1 => up (ups r k)
theorem ups_len {r : List (List UInt8)} {m : Nat} (h : r.length = 2 ^ m) : ∀ k, k ≤ m → (ups r k).length = 2 ^ (m - k)
  | 0, _ => h
  | k + 1, hk => by
    rw [ups, up_len, ups_len h k (by omega), show m - k = (m - (k + 1)) + 1 by omega, Nat.pow_succ]; omega
theorem ups_all {r : List (List UInt8)} (h : ∀ b ∈ r, b.length = 32) : ∀ k, ∀ b ∈ ups r k, b.length = 32
  | 0 => h
  | _ + 1 => upTo_all _ _
/-- A row of leaves, padded. -/
def padTo (l : List (List UInt8)) : Nat → List (List UInt8)
  | 0 => l
  | k + 1 => padTo l k ++ [padH]
theorem padTo_len (l : List (List UInt8)) : ∀ k, (padTo l k).length = l.length + k
  | 0 => rfl
  | k + 1 => by rw [padTo, List.length_append, padTo_len l k]; rfl
theorem padTo_all {l : List (List UInt8)} (h : ∀ b ∈ l, b.length = 32) : ∀ k, ∀ b ∈ padTo l k, b.length = 32
  | 0 => h
  | k + 1 => by
    intro b hb
    rcases List.mem_append.1 hb with h1 | h1
    · exact padTo_all h k b h1
    · rw [List.mem_singleton.1 h1]; exact padH_len
def rowP (l : List (List UInt8)) : List (List UInt8) := padTo l (padN l.length - l.length)
theorem rowP_len (l : List (List UInt8)) : (rowP l).length = 2 ^ lg l.length := by
  have := padN_le l.length
  rw [rowP, padTo_len]; show _ = padN _; omega
theorem rowP_all {l : List (List UInt8)} (h : ∀ b ∈ l, b.length = 32) : ∀ b ∈ rowP l, b.length = 32 := padTo_all h _
def levels (r : List (List UInt8)) (k : Nat) : List (List (List UInt8)) := (List.range k).map (ups r)
theorem levels_len (r : List (List UInt8)) (k : Nat) : (levels r k).length = k := by simp [levels]
theorem levels_snoc (r : List (List UInt8)) (k : Nat) : levels r k ++ [ups r k] = levels r (k + 1) := by simp [levels, List.range_succ]
theorem levels_at (r : List (List UInt8)) (k : Nat) : (levels r (k + 1)).getD k [] = ups r k := by simp [levels, List.getD_eq_getElem?_getD]
def root (l : List (List UInt8)) : List UInt8 := (ups (rowP l) (lg l.length)).getD 0 []
theorem root_len {l : List (List UInt8)} (h : ∀ b ∈ l, b.length = 32) : (root l).length = 32 := by
  have h1 := ups_len (rowP_len l) (lg l.length) (Nat.le_refl _)
  rw [Nat.sub_self] at h1
  have h2 := ups_all (rowP_all h) (lg l.length)
  unfold root
  rw [List.getD_eq_getElem?_getD, List.getElem?_eq_getElem (by omega)]
  exact h2 _ (List.getElem_mem _)
theorem ups_more {r : List (List UInt8)} {m k : Nat} (h : r.length = 2 ^ m) (hk : k ≤ m) (h1 : 1 < (ups r k).length) : k < m := by
  rcases Nat.lt_or_ge k m with h2 | h2
  · exact h2
  · obtain rfl : k = m := by omega
    rw [ups_len h k (Nat.le_refl _), Nat.sub_self] at h1
    simp at h1
theorem ups_even {r : List (List UInt8)} {m k : Nat} (h : r.length = 2 ^ m) (hk : k < m) : (ups r k).length % 2 = 0 := by
  rw [ups_len h k (by omega), show m - k = (m - k - 1) + 1 by omega, Nat.pow_succ]; omega
theorem ups_done {r : List (List UInt8)} {m k : Nat} (h : r.length = 2 ^ m) (hk : k ≤ m) (h1 : ¬ 1 < (ups r k).length) : k = m := by
  rcases Nat.lt_or_ge k m with h2 | h2
  · rw [ups_len h k hk, show m - k = (m - k - 1) + 1 by omega, Nat.pow_succ] at h1
    have := Nat.pow_pos (n := m - k - 1) (show 0 < 2 by omega)
    omega
  · omega
theorem ups_bd {l : List (List UInt8)} {k : Nat} (h : l.length ≤ 1024) (hk : k ≤ lg l.length) : (ups (rowP l) k).length ≤ 1024 ∧ 0 < (ups (rowP l) k).length := by
  rw [ups_len (rowP_len l) k hk]
  have h1 : lg l.length ≤ 10 := lg_le (by omega)
  exact ⟨(show 2 ^ (lg l.length - k) ≤ 2 ^ 10 from Nat.pow_le_pow_right (by omega) (by omega)), Nat.pow_pos (by omega)⟩
end Go.Au
