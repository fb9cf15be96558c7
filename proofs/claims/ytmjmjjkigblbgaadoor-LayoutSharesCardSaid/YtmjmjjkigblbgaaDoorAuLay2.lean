/- Shares as bytes, in plain words. -/
import Derived.Test.YtmjmjjkigblbgaaDoorAuLay
import Derived.Test.YtmjmjjkigblbgaaDoorAuMss3
set_option linter.unusedVariables false
set_option linter.unusedSimpArgs false
set_option maxRecDepth 8192
namespace Go.Au
def ntTk (n : Nat) (b : List UInt8) : List (List UInt8) := if NtOks n b then ntRows n b else []
def ntTr (n : Nat) (b : List UInt8) : List UInt8 := if NtOks n b then ntRest n b else []
theorem ntTk_yes {n : Nat} {b : List UInt8} (h : NtOks n b) : ntTk n b = ntRows n b := if_pos h
theorem ntTk_no {n : Nat} {b : List UInt8} (h : ¬ NtOks n b) : ntTk n b = [] := if_neg h
theorem ntTr_yes {n : Nat} {b : List UInt8} (h : NtOks n b) : ntTr n b = ntRest n b := if_pos h
theorem ntTr_no {n : Nat} {b : List UInt8} (h : ¬ NtOks n b) : ntTr n b = [] := if_neg h
theorem ntTr_le (n : Nat) (b : List UInt8) : (ntTr n b).length ≤ b.length := by
  unfold ntTr; split
  · exact ntRest_le b n
  · simp
def row4 (b : List UInt8) (i : Nat) : List UInt8 := tn1 (ntRest i b)
theorem row4_le (b : List UInt8) (i : Nat) : (row4 b i).length ≤ b.length := Nat.le_trans (tn1_le _).2 (ntRest_le b i)
theorem ntTk_get {n i : Nat} {b : List UInt8} (h : NtOks n b) (hi : i < n) : (ntTk n b).getD i [] = row4 b i := by rw [ntTk_yes h, ntRows_get b hi]; rfl
theorem ntAll_get {n i : Nat} {b : List UInt8} (h : NtAll n b) (hi : i < n) : (ntAll n b).getD i [] = row4 b i := by rw [ntAll_yes h, ntRows_get b hi]; rfl
theorem ntTk_len {n : Nat} {b : List UInt8} (h : NtOks n b) : (ntTk n b).length = n := by rw [ntTk_yes h, ntRows_len]
def hashN (b : List UInt8) : List (List UInt8) := if b.length % 32 = 0 then chunks b (b.length / 32) else []
theorem hashN_yes {b : List UInt8} (h : b.length % 32 = 0) : hashN b = chunks b (b.length / 32) := if_pos h
theorem hashN_no {b : List UInt8} (h : ¬ b.length % 32 = 0) : hashN b = [] := if_neg h
theorem hashN_all (b : List UInt8) : ∀ x ∈ hashN b, x.length = 32 := by
  unfold hashN; split
  · exact chunks_all (by omega)
  · intro x hx; cases hx
/-- How many blocks a share says to have. -/
def shK (b : List UInt8) : Nat := ((row4 b 3).getD 0 0).toNat
/-- A share stands there. -/
def ShOk (b : List UInt8) : Prop :=
  b.length ≤ 16384 ∧ NtOks 4 b ∧ (row4 b 0).length = 1 ∧ (row4 b 3).length = 1 ∧ ((row4 b 0).getD 0 0).toNat < 16 ∧ shK b ≤ 16 ∧ (row4 b 2).length % 32 = 0 ∧ NtAll (shK b) (ntRest 4 b)
instance (b : List UInt8) : Decidable (ShOk b) := by unfold ShOk; infer_instance
def shN (b : List UInt8) : Int := if ShOk b then ((((row4 b 0).getD 0 0).toNat : Nat) : Int) else 0
def shU (b : List UInt8) : List UInt8 := if ShOk b then row4 b 1 else []
def shP (b : List UInt8) : List (List UInt8) := if ShOk b then hashN (row4 b 2) else []
def shB (b : List UInt8) : List (List UInt8) := if ShOk b then ntRows (shK b) (ntRest 4 b) else []
section
variable {b : List UInt8}
theorem shN_yes (h : ShOk b) : shN b = ((((row4 b 0).getD 0 0).toNat : Nat) : Int) := if_pos h
theorem shN_no (h : ¬ ShOk b) : shN b = 0 := if_neg h
theorem shU_yes (h : ShOk b) : shU b = row4 b 1 := if_pos h
theorem shU_no (h : ¬ ShOk b) : shU b = [] := if_neg h
theorem shP_yes (h : ShOk b) : shP b = hashN (row4 b 2) := if_pos h
theorem shP_no (h : ¬ ShOk b) : shP b = [] := if_neg h
theorem shB_yes (h : ShOk b) : shB b = ntRows (shK b) (ntRest 4 b) := if_pos h
theorem shB_no (h : ¬ ShOk b) : shB b = [] := if_neg h
theorem shB_yes' (h : ShOk b) : shB b = ntAll (shK b) (ntRest 4 b) := by rw [shB_yes h, ntAll_yes h.2.2.2.2.2.2.2]
theorem shU_le (b : List UInt8) : (shU b).length ≤ b.length := by
  unfold shU; split
  · exact row4_le b 1
  · simp
theorem shP_len (b : List UInt8) : (shP b).length ≤ b.length := by
  unfold shP; split
  · rename_i h
    rw [hashN_yes h.2.2.2.2.2.2.1, chunks_len]
    have := row4_le b 2; omega
  · simp
theorem shB_len (b : List UInt8) : (shB b).length ≤ 16 ∧ ∀ x ∈ shB b, x.length ≤ b.length := by
  unfold shB; split
  · rename_i h
    refine ⟨by rw [ntRows_len]; exact h.2.2.2.2.2.1, fun x hx => ?_⟩
    have := (ntRows_el (ntRest 4 b) (shK b) x hx).2; have := ntRest_le b 4; omega
  · exact ⟨by simp, fun x hx => by cases hx⟩
/-- The document looks for the number of blocks. -/
def ShAt (b : List UInt8) (m : Nat) : Prop := NtAll (4 + m) b ∧ (row4 b 0).length = 1 ∧ ((row4 b 0).getD 0 0).toNat < 16 ∧ (row4 b 3).length = 1 ∧ shK b = m
theorem ShOk_at (h : ShOk b) : ShAt b (shK b) := by
  obtain ⟨h1, h2, h3, h4, h5, h6, h7, h8⟩ := h
  exact ⟨NtAll_add.2 ⟨h2, h8⟩, h3, h5, h4, rfl⟩
theorem ShAt_ok {m : Nat} (hl : b.length ≤ 16384) (h : ShAt b m) (hm : m ≤ 16) (h32 : (row4 b 2).length % 32 = 0) : ShOk b := by
  obtain ⟨h1, h2, h3, h4, h5⟩ := h
  obtain ⟨h6, h7⟩ := NtAll_add.1 h1
  exact ⟨hl, h6, h2, h4, h3, by omega, h32, by rw [h5]; exact h7⟩
theorem ShAt_rows {m : Nat} (h : ShAt b m) : (ntAll (4 + m) b).drop 4 = ntRows m (ntRest 4 b) := by
  rw [ntAll_yes h.1, ntRows_add, List.drop_append, List.drop_of_length_le (by rw [ntRows_len]; omega), ntRows_len]
  rfl
theorem ShOk_none (h : ∀ m, m < 17 → ¬ ShAt b m) : ¬ ShOk b := fun hq => h _ (by have := hq.2.2.2.2.2.1; omega) (ShOk_at hq)
theorem ShAt_32 {m : Nat} (h : ShAt b m) (h32 : ¬ (row4 b 2).length % 32 = 0) : ¬ ShOk b := fun hq => h32 hq.2.2.2.2.2.2.1
end
/-- A share's bytes. -/
def packS (n : Int) (u : List UInt8) (p B : List (List UInt8)) : List UInt8 := nets [Go.Sha.put (max 0 n).toNat 1, u, flatTo [] p p.length, Go.Sha.put (max 0 ((B.length : Nat) : Int)).toNat 1] ++ nets B
theorem nets_cap {m k : Nat} (hm : m < 1000) : ∀ {l : List (List UInt8)}, l.length ≤ k → (∀ x ∈ l, x.length ≤ m) → (nets l).length ≤ k * (m + 8)
  | [], _, _ => by simp [nets]
  | b :: l, h, hx => by
    match k, h with
    | k + 1, h =>
      have h1 := net_le (b := b) (by have := hx b (by simp); omega)
      have h2 := hx b (by simp)
      have h3 := nets_cap hm (k := k) (l := l) (by simpa using h) (fun x hq => hx x (by simp [hq]))
      rw [nets_cons, List.length_append, Nat.succ_mul]; omega
theorem head4_len (n : Int) {u : List UInt8} {p : List (List UInt8)} (z : Int) (hu : u.length ≤ 300) (hp : p.length ≤ 20) (h32 : ∀ x ∈ p, x.length = 32) : (nets [Go.Sha.put (max 0 n).toNat 1, u, flatTo [] p p.length, Go.Sha.put (max 0 z).toNat 1]).length ≤ 974 := by
  have hf : (flatTo [] p p.length).length ≤ 640 := by rw [flatTo_len h32 (Nat.le_refl _)]; simp; omega
  have h := nets_le (l := [Go.Sha.put (max 0 n).toNat 1, u, flatTo [] p p.length, Go.Sha.put (max 0 z).toNat 1]) (by
    intro x hx
    simp only [List.mem_cons, List.not_mem_nil, or_false] at hx
    rcases hx with rfl | rfl | rfl | rfl <;> first | (rw [Go.Sha.put_len]; omega) | omega)
  simp only [total, List.map_cons, List.map_nil, List.sum_cons, List.sum_nil, Go.Sha.put_len, List.length_cons, List.length_nil] at h
  omega
theorem packS_len (n : Int) {u : List UInt8} {p B : List (List UInt8)} (hu : u.length ≤ 300) (hp : p.length ≤ 20) (h32 : ∀ x ∈ p, x.length = 32) (hB : B.length ≤ 20) (hx : ∀ x ∈ B, x.length ≤ 100) : (packS n u p B).length ≤ 3134 := by
  have h1 := head4_len n (z := ((B.length : Nat) : Int)) hu hp h32
  have h2 := nets_cap (m := 100) (k := 20) (by decide) hB hx
  unfold packS
  rw [List.length_append]; omega
/-- The first of some rows, each cut. -/
def cutN (m : Nat) (l : List (List UInt8)) (k : Nat) : List (List UInt8) := (l.take k).map fun x => x.take m
theorem cutN_snoc {m : Nat} {l : List (List UInt8)} {k : Nat} (h : k < l.length) : cutN m l k ++ [(l.getD k []).take m] = cutN m l (k + 1) := by
  unfold cutN
  rw [List.take_succ_eq_append_getElem h, List.map_append, List.getD_eq_getElem?_getD, List.getElem?_eq_getElem h]; rfl
theorem cutN_len {m : Nat} (l : List (List UInt8)) (k : Nat) : (cutN m l k).length = min k l.length := by simp [cutN]
theorem cutN_el {m : Nat} (l : List (List UInt8)) (k : Nat) : ∀ x ∈ cutN m l k, x.length ≤ m := by
  intro x hx
  obtain ⟨y, _, rfl⟩ := List.mem_map.1 hx
  exact List.length_take_le _ _
theorem cutN_full {m k n : Nat} {l : List (List UInt8)} (h : k = l.length ∨ k = n) (hk : k ≤ n) (hl : k ≤ l.length) : cutN m l k = cutN m l n := by
  rcases h with h | h
  · unfold cutN; rw [List.take_of_length_le (by omega), List.take_of_length_le (by omega)]
  · rw [h]
def leavesH (B : List (List UInt8)) (k : Nat) : List (List UInt8) := (B.take k).map leafH
theorem leavesH_snoc {B : List (List UInt8)} {k : Nat} (h : k < B.length) : leavesH B k ++ [leafH (B.getD k [])] = leavesH B (k + 1) := by
  unfold leavesH
  rw [List.take_succ_eq_append_getElem h, List.map_append, List.getD_eq_getElem?_getD, List.getElem?_eq_getElem h]; rfl
theorem leavesH_len (B : List (List UInt8)) : (leavesH B B.length).length = B.length := by simp [leavesH]
end Go.Au
