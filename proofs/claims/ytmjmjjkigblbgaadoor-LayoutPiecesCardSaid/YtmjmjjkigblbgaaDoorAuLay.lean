/- Layouts and versions as bytes, in plain words. -/
import Derived.Test.YtmjmjjkigblbgaaDoorAuTake
set_option linter.unusedVariables false
set_option linter.unusedSimpArgs false
set_option maxRecDepth 8192
namespace Go.Au
/-! Rows as numbers. -/
def numOk (L : List (List UInt8)) (M : List Int) (k : Nat) : Prop := ∀ i, i < k → ((L.getD i []).length : Int) = M.getD i 0
instance (L : List (List UInt8)) (M : List Int) (k : Nat) : Decidable (numOk L M k) := by unfold numOk; infer_instance
def numL (L : List (List UInt8)) (k : Nat) : List Int := (List.range k).map fun i => ((be (L.getD i []) : Nat) : Int)
def numA (L : List (List UInt8)) (M : List Int) : List Int := if numOk L M M.length then numL L M.length else []
theorem numL_snoc (L : List (List UInt8)) (k : Nat) : numL L k ++ [((be (L.getD k []) : Nat) : Int)] = numL L (k + 1) := by simp [numL, List.range_succ]
theorem numL_len (L : List (List UInt8)) (k : Nat) : (numL L k).length = k := by simp [numL]
theorem numL_get {L : List (List UInt8)} {k i : Nat} (h : i < k) : (numL L k).getD i 0 = ((be (L.getD i []) : Nat) : Int) := by
  rw [List.getD_eq_getElem?_getD]; simp [numL, h]
theorem numA_yes {L : List (List UInt8)} {M : List Int} (h : numOk L M M.length) : numA L M = numL L M.length := if_pos h
theorem numA_no {L : List (List UInt8)} {M : List Int} (h : ¬ numOk L M M.length) : numA L M = [] := if_neg h
theorem numOk_succ {L : List (List UInt8)} {M : List Int} {k : Nat} (h : numOk L M k) (h1 : ((L.getD k []).length : Int) = M.getD k 0) : numOk L M (k + 1) := by
  intro i hi
  by_cases e : i = k
  · rw [e]; exact h1
  · exact h i (by omega)
def getV (b : List UInt8) : Nat := if b.length ≤ 7 then be b else 0
theorem getV_yes {b : List UInt8} (h : b.length ≤ 7) : getV b = be b := if_pos h
theorem getV_no {b : List UInt8} (h : ¬ b.length ≤ 7) : getV b = 0 := if_neg h

/-! Six rows: four numbers and two arrays. -/
def six (b : List UInt8) (i : Nat) : List UInt8 := (ntAll 6 b).getD i []
theorem ntAll_len {n : Nat} {b : List UInt8} (h : NtAll n b) : (ntAll n b).length = n := by rw [ntAll_yes h, ntRows_len]
theorem ntAll_el (n : Nat) (b : List UInt8) : ∀ x ∈ ntAll n b, x.length ≤ 16384 ∧ x.length ≤ b.length := by
  intro x hx
  unfold ntAll at hx
  split at hx
  · exact ntRows_el b n x hx
  · cases hx
theorem be_w {l : List UInt8} {w : Nat} (h : l.length = w) : be l < 256 ^ w := by rw [← h]; exact be_lt l
/-- A layout stands there. -/
def UebOk (b : List UInt8) : Prop :=
  NtAll 6 b ∧ (six b 0).length = 1 ∧ (six b 1).length = 1 ∧ (six b 2).length = 4 ∧ (six b 3).length = 4 ∧ (six b 4).length = 32 ∧ (six b 5).length = 32 ∧
  1 ≤ be (six b 0) ∧ be (six b 0) ≤ be (six b 1) ∧ be (six b 1) ≤ 16 ∧ 1 ≤ be (six b 2) ∧ be (six b 2) ≤ 1024 ∧ be (six b 3) = 64
instance (b : List UInt8) : Decidable (UebOk b) := by unfold UebOk; infer_instance
def uN (b : List UInt8) (i : Nat) : Int := if UebOk b then ((be (six b i) : Nat) : Int) else 0
def uH (b : List UInt8) (i : Nat) : List UInt8 := if UebOk b then six b i else List.replicate 32 0
theorem uN_yes {b : List UInt8} (h : UebOk b) (i : Nat) : uN b i = ((be (six b i) : Nat) : Int) := if_pos h
theorem uN_no {b : List UInt8} (h : ¬ UebOk b) (i : Nat) : uN b i = 0 := if_neg h
theorem uH_yes {b : List UInt8} (h : UebOk b) (i : Nat) : uH b i = six b i := if_pos h
theorem uH_no {b : List UInt8} (h : ¬ UebOk b) (i : Nat) : uH b i = List.replicate 32 0 := if_neg h
theorem uH4 (b : List UInt8) : (uH b 4).length = 32 := by
  unfold uH; split
  · rename_i h; exact h.2.2.2.2.2.1
  · exact List.length_replicate
theorem uH5 (b : List UInt8) : (uH b 5).length = 32 := by
  unfold uH; split
  · rename_i h; exact h.2.2.2.2.2.2.1
  · exact List.length_replicate
/-- A layout's bytes. -/
def packU (a b c d : Int) (s t : List UInt8) : List UInt8 := nets [Go.Sha.put (max 0 a).toNat 1, Go.Sha.put (max 0 b).toNat 1, Go.Sha.put (max 0 c).toNat 4, Go.Sha.put (max 0 d).toNat 4, s, t]
theorem put_row {l : List UInt8} {w : Nat} (h : l.length = w) : Go.Sha.put (max 0 (((be l : Nat) : Int))).toNat w = l := by
  have e : (max 0 (((be l : Nat) : Int))).toNat = be l := by omega
  rw [e, ← h]; exact put_be l
theorem six_list {b : List UInt8} (h : NtAll 6 b) : ntRows 6 b = [six b 0, six b 1, six b 2, six b 3, six b 4, six b 5] := by
  have key : ∀ l : List (List UInt8), l.length = 6 → l = [l.getD 0 [], l.getD 1 [], l.getD 2 [], l.getD 3 [], l.getD 4 [], l.getD 5 []] := fun l hl => by
    match l, hl with
    | [_, _, _, _, _, _], _ => rfl
  unfold six
  rw [ntAll_yes h]
  exact key _ (ntRows_len _ _)
/-- What was read is written the same. -/
theorem packU_six {b : List UInt8} (h : NtAll 6 b) (h0 : (six b 0).length = 1) (h1 : (six b 1).length = 1) (h2 : (six b 2).length = 4) (h3 : (six b 3).length = 4) :
    packU ((be (six b 0) : Nat) : Int) ((be (six b 1) : Nat) : Int) ((be (six b 2) : Nat) : Int) ((be (six b 3) : Nat) : Int) (six b 4) (six b 5) = b := by
  unfold packU
  rw [put_row h0, put_row h1, put_row h2, put_row h3, ← six_list h, NtAll_nets h]
theorem packU_len (a b c d : Int) {s t : List UInt8} (hs : s.length ≤ 32) (ht : t.length ≤ 32) : (packU a b c d s t).length ≤ 122 := by
  have h := nets_le (l := [Go.Sha.put (max 0 a).toNat 1, Go.Sha.put (max 0 b).toNat 1, Go.Sha.put (max 0 c).toNat 4, Go.Sha.put (max 0 d).toNat 4, s, t]) (by
    intro x hx
    simp only [List.mem_cons, List.not_mem_nil, or_false] at hx
    rcases hx with rfl | rfl | rfl | rfl | rfl | rfl <;> first | (rw [Go.Sha.put_len]; omega) | omega)
  simp only [total, List.map_cons, List.map_nil, List.sum_cons, List.sum_nil, Go.Sha.put_len, List.length_cons, List.length_nil] at h
  unfold packU; omega

/-! A version. -/
def VerOk (b : List UInt8) : Prop :=
  NtAll 6 b ∧ (six b 0).length = 4 ∧ (six b 1).length = 1 ∧ (six b 2).length = 1 ∧ (six b 3).length = 4 ∧ (six b 4).length = 16 ∧ (six b 5).length = 32 ∧
  1 ≤ be (six b 0) ∧ be (six b 0) ≤ 1048576 ∧ 1 ≤ be (six b 1) ∧ be (six b 1) ≤ be (six b 2) ∧ be (six b 2) ≤ 16 ∧ be (six b 3) ≤ 1024
instance (b : List UInt8) : Decidable (VerOk b) := by unfold VerOk; infer_instance
def vN (b : List UInt8) (i : Nat) : Int := if VerOk b then ((be (six b i) : Nat) : Int) else 0
def vS (b : List UInt8) : List UInt8 := if VerOk b then six b 4 else List.replicate 16 0
def vR (b : List UInt8) : List UInt8 := if VerOk b then six b 5 else List.replicate 32 0
theorem vN_yes {b : List UInt8} (h : VerOk b) (i : Nat) : vN b i = ((be (six b i) : Nat) : Int) := if_pos h
theorem vN_no {b : List UInt8} (h : ¬ VerOk b) (i : Nat) : vN b i = 0 := if_neg h
theorem vS_yes {b : List UInt8} (h : VerOk b) : vS b = six b 4 := if_pos h
theorem vS_no {b : List UInt8} (h : ¬ VerOk b) : vS b = List.replicate 16 0 := if_neg h
theorem vR_yes {b : List UInt8} (h : VerOk b) : vR b = six b 5 := if_pos h
theorem vR_no {b : List UInt8} (h : ¬ VerOk b) : vR b = List.replicate 32 0 := if_neg h
theorem vS_len (b : List UInt8) : (vS b).length = 16 := by
  unfold vS; split
  · rename_i h; exact h.2.2.2.2.2.1
  · exact List.length_replicate
theorem vR_len (b : List UInt8) : (vR b).length = 32 := by
  unfold vR; split
  · rename_i h; exact h.2.2.2.2.2.2.1
  · exact List.length_replicate
def packV (a b c d : Int) (s t : List UInt8) : List UInt8 := nets [Go.Sha.put (max 0 a).toNat 4, Go.Sha.put (max 0 b).toNat 1, Go.Sha.put (max 0 c).toNat 1, Go.Sha.put (max 0 d).toNat 4, s, t]
theorem packV_len (a b c d : Int) {s t : List UInt8} (hs : s.length ≤ 32) (ht : t.length ≤ 32) : (packV a b c d s t).length ≤ 122 := by
  have h := nets_le (l := [Go.Sha.put (max 0 a).toNat 4, Go.Sha.put (max 0 b).toNat 1, Go.Sha.put (max 0 c).toNat 1, Go.Sha.put (max 0 d).toNat 4, s, t]) (by
    intro x hx
    simp only [List.mem_cons, List.not_mem_nil, or_false] at hx
    rcases hx with rfl | rfl | rfl | rfl | rfl | rfl <;> first | (rw [Go.Sha.put_len]; omega) | omega)
  simp only [total, List.map_cons, List.map_nil, List.sum_cons, List.sum_nil, Go.Sha.put_len, List.length_cons, List.length_nil] at h
  unfold packV; omega
end Go.Au
