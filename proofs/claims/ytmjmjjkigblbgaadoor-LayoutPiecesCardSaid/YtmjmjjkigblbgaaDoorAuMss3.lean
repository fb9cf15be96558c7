/- Signatures as bytes, in plain words. -/
import Derived.Test.YtmjmjjkigblbgaaDoorAuMss2
set_option linter.unusedVariables false
set_option linter.unusedSimpArgs false
set_option maxRecDepth 8192
namespace Go.Au
/-- Bytes cut into rows of 32. -/
def chunks (b : List UInt8) (k : Nat) : List (List UInt8) := (List.range k).map fun i => (b.drop (32 * i)).take 32
theorem chunks_len (b : List UInt8) (k : Nat) : (chunks b k).length = k := by simp [chunks]
theorem chunks_snoc (b : List UInt8) (k : Nat) : chunks b k ++ [(b.drop (32 * k)).take 32] = chunks b (k + 1) := by simp [chunks, List.range_succ]
theorem chunks_all {b : List UInt8} {k : Nat} (h : 32 * k ≤ b.length) : ∀ x ∈ chunks b k, x.length = 32 := by
  intro x hx
  obtain ⟨i, hi, rfl⟩ := List.mem_map.1 hx
  rw [List.mem_range] at hi
  rw [List.length_take, List.length_drop]; omega
theorem drop_more (b : List UInt8) (k : Nat) : (b.drop (32 * k)).drop 32 = b.drop (32 * (k + 1)) := by rw [List.drop_drop]; congr 1
theorem flatten_len {l : List (List UInt8)} (h : ∀ x ∈ l, x.length = 32) : l.flatten.length = 32 * l.length := by
  induction l with
  | nil => rfl
  | cons a l ih =>
    rw [List.flatten_cons, List.length_append, h a (by simp), ih (fun x hx => h x (by simp [hx])), List.length_cons]; omega
theorem flatten_snoc {l : List (List UInt8)} {k : Nat} (h : k < l.length) : (l.take k).flatten ++ l.getD k [] = (l.take (k + 1)).flatten := by
  rw [← take_snoc (d := []) h, List.flatten_append]; simp
/-- The number that bytes say. -/
def gval (b : List UInt8) : Nat := b.foldl (fun v c => 256 * v + c.toNat) 0
theorem gval_take {l : List UInt8} {k : Nat} (h : k < l.length) : gval (l.take (k + 1)) = 256 * gval (l.take k) + (l.getD k 0).toNat := by
  rw [List.take_succ_eq_append_getElem h]
  simp only [gval, List.foldl_append, List.foldl_cons, List.foldl_nil]
  rw [List.getD_eq_getElem?_getD, List.getElem?_eq_getElem h]; rfl
theorem gval_lt (l : List UInt8) : ∀ k, gval (l.take k) < 256 ^ k
  | 0 => by simp [gval]
  | k + 1 => by
    have ih := gval_lt l k
    rcases Nat.lt_or_ge k l.length with h | h
    · rw [gval_take h, Nat.pow_succ]
      have := (l.getD k 0).toNat_lt
      omega
    · rw [List.take_of_length_le (by omega)]
      rw [List.take_of_length_le (by omega)] at ih
      rw [Nat.pow_succ]; omega
/-- A signature's bytes. -/
def packB (h l : Int) : List UInt8 := Go.Sha.put (max 0 h).toNat 1 ++ Go.Sha.put (max 0 l).toNat 2
def pack (h l : Int) (v p : List (List UInt8)) : List UInt8 := packB h l ++ v.flatten ++ p.flatten
def packT (h l : Int) (v p : List (List UInt8)) : Nat → List UInt8
  | 0 => packB h l
  | 1 => packB h l ++ v.flatten
  | _ + 2 => packB h l ++ v.flatten ++ p.flatten
theorem packB_len (h l : Int) : (packB h l).length = 3 := by rw [packB, List.length_append, Go.Sha.put_len, Go.Sha.put_len]
theorem pack_len {h l : Int} {v p : List (List UInt8)} (hv : ∀ x ∈ v, x.length = 32) (hp : ∀ x ∈ p, x.length = 32) : (pack h l v p).length = 3 + 32 * (v.length + p.length) := by
  rw [pack, List.length_append, List.length_append, packB_len, flatten_len hv, flatten_len hp]; omega
/-- May bytes be a signature? -/
def okU (b : List UInt8) : Prop := 3 ≤ b.length ∧ (b.getD 0 0).toNat ≤ 4 ∧ b.length = 3 + 32 * (67 + (b.getD 0 0).toNat)
end Go.Au
namespace Go.Au
def flatTo (b : List UInt8) (l : List (List UInt8)) : Nat → List UInt8
  | 0 => b
  | j + 1 => flatTo b l j ++ l.getD j []
theorem flatTo_eq (b : List UInt8) (l : List (List UInt8)) : ∀ j, j ≤ l.length → flatTo b l j = b ++ (l.take j).flatten
  | 0, _ => by simp [flatTo]
  | j + 1, h => by rw [flatTo, flatTo_eq b l j (by omega), List.append_assoc, flatten_snoc (by omega)]
theorem flatTo_all (b : List UInt8) (l : List (List UInt8)) : flatTo b l l.length = b ++ l.flatten := by rw [flatTo_eq b l _ (Nat.le_refl _), List.take_length]
theorem flatTo_len {b : List UInt8} {l : List (List UInt8)} (h : ∀ x ∈ l, x.length = 32) {j : Nat} (hj : j ≤ l.length) : (flatTo b l j).length = b.length + 32 * j := by
  rw [flatTo_eq b l j hj, List.length_append, flatten_len (fun x hx => h x (List.mem_of_mem_take hx)), List.length_take]; omega
section
variable {h l : Int} {v p : List (List UInt8)}
theorem packT_bd (hbv : v.length ≤ 100) (hbp : p.length ≤ 100) (hv : ∀ x ∈ v, x.length = 32) (hp : ∀ x ∈ p, x.length = 32) : ∀ k, (packT h l v p k).length ≤ 7000
  | 0 => by show (packB h l).length ≤ _; rw [packB_len]; omega
  | 1 => by show (packB h l ++ v.flatten).length ≤ _; rw [List.length_append, packB_len, flatten_len hv]; omega
  | _ + 2 => by show (packB h l ++ v.flatten ++ p.flatten).length ≤ _; rw [List.length_append, List.length_append, packB_len, flatten_len hv, flatten_len hp]; omega
theorem flatT_bd {b : List UInt8} {q : List (List UInt8)} (hb : b.length ≤ 7000) (hq : q.length ≤ 100) (h32 : ∀ x ∈ q, x.length = 32) {j : Nat} (hj : j ≤ q.length) : (flatTo b q j).length ≤ 20000 := by
  rw [flatTo_len h32 hj]; omega
end
theorem drop_step (b : List UInt8) (k : Nat) : ((b.drop (32 * k)).drop 32).take ((b.drop (32 * k)).length - 32) = b.drop (32 * (k + 1)) := by
  rw [List.take_of_length_le (by rw [List.length_drop]; omega), drop_more]
theorem drop3 (b : List UInt8) : (b.drop 3).take (b.length - 3) = b.drop 3 := List.take_of_length_le (by rw [List.length_drop]; omega)
theorem take3232 (b : List UInt8) : ((b.drop 0).take (32 - 0)).take 32 = b.take 32 := by rw [List.drop_zero, List.take_take]; rfl
end Go.Au
