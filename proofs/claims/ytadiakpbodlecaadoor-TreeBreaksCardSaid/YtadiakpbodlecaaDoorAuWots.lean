/- One-time signatures in plain words: no program here. -/
import Derived.Test.YtadiakpbodlecaaDoorAuSpec
set_option linter.unusedVariables false
set_option linter.unusedSimpArgs false
set_option maxRecDepth 8192
namespace Go.Au

theorem take_snoc {α : Type} {l : List α} {k : Nat} {d : α} (h : k < l.length) : l.take k ++ [l.getD k d] = l.take (k + 1) := by
  rw [List.take_succ_eq_append_getElem h]; simp [h]
theorem range_snoc {α : Type} (f : Nat → α) (k : Nat) : (List.range k).map f ++ [f k] = (List.range (k + 1)).map f := by simp [List.range_succ]
theorem text_le {tag : List UInt8} {l : List (List UInt8)} (ht : tag.length < 1000000) (hl : ∀ b ∈ l, b.length < 1000000) : (text tag l).length ≤ tag.length + 8 + total l + 8 * l.length := by
  have h1 := net_le ht
  have h2 := nets_le hl
  simp only [text, List.length_append]; omega
theorem total_all {k : Nat} : ∀ {l : List (List UInt8)}, (∀ b ∈ l, b.length = k) → total l = l.length * k
  | [], _ => by simp [total]
  | b :: l, h => by
    have := total_all (l := l) (fun x hx => h x (by simp [hx]))
    have h1 := h b (by simp)
    simp only [total, List.map_cons, List.sum_cons, List.length_cons, Nat.succ_mul] at this ⊢
    omega
theorem text_all {tag : List UInt8} {l : List (List UInt8)} {k n : Nat} (ht : tag.length < 100) (hl : ∀ b ∈ l, b.length = k) (hk : k < 1000) (hn : l.length ≤ n) (hb : 108 + n * k + 8 * n < 10000) : (text tag l).length < 10000 := by
  have h1 := text_le (tag := tag) (l := l) (by omega) (fun b hb => by have := hl b hb; omega)
  rw [total_all hl] at h1
  have h2 : l.length * k ≤ n * k := Nat.mul_le_mul_right _ hn
  omega
theorem text1 {tag b : List UInt8} (ht : tag.length < 100) (hb : b.length < 1000) : (text tag [b]).length < 10000 := by
  have h1 := text_le (tag := tag) (l := [b]) (by omega) (fun x hx => by simp at hx; subst hx; omega)
  simp [total] at h1; omega
theorem text2 {tag a b : List UInt8} (ht : tag.length < 100) (ha : a.length < 1000) (hb : b.length < 1000) : (text tag [a, b]).length < 10000 := by
  have h1 := text_le (tag := tag) (l := [a, b]) (by omega) (fun x hx => by simp at hx; rcases hx with rfl | rfl <;> omega)
  simp [total] at h1; omega
theorem text3 {tag a b c : List UInt8} (ht : tag.length < 100) (ha : a.length < 1000) (hb : b.length < 1000) (hc : c.length < 1000) : (text tag [a, b, c]).length < 10000 := by
  have h1 := text_le (tag := tag) (l := [a, b, c]) (by omega) (fun x hx => by simp at hx; rcases hx with rfl | rfl | rfl <;> omega)
  simp [total] at h1; omega

/-! ### chains -/
def stepT (h : List UInt8) : List UInt8 := text [115, 116, 101, 112] [h]
def step (h : List UInt8) : List UInt8 := tagged [115, 116, 101, 112] [h]
theorem step_len (h : List UInt8) : (step h).length = 32 := tagged_len _ _
def steps : Nat → List UInt8 → List UInt8
  | 0, h => h
  | k + 1, h => step (steps k h)
theorem steps_len : ∀ (k : Nat) {h : List UInt8}, h.length = 32 → (steps k h).length = 32
  | 0, _, hh => hh
  | _ + 1, _, _ => step_len _
theorem steps_add (a : Nat) : ∀ (b : Nat) (h : List UInt8), steps b (steps a h) = steps (a + b) h
  | 0, _ => rfl
  | b + 1, h => by rw [steps, steps_add a b h]; rfl
def start (seed : List UInt8) (leaf chain : Int) : List UInt8 := tagged [115, 116, 97, 114, 116] [seed, Go.Sha.put (max 0 leaf).toNat 4, Go.Sha.put (max 0 chain).toNat 4]
theorem start_len (seed : List UInt8) (leaf chain : Int) : (start seed leaf chain).length = 32 := tagged_len _ _

/-! ### digits -/
def nib (l : List UInt8) : List Int := l.flatMap fun c => [((c.toNat / 16 : Nat) : Int), ((c.toNat % 16 : Nat) : Int)]
def chk : List UInt8 → Nat
  | [] => 0
  | c :: l => 30 - c.toNat / 16 - c.toNat % 16 + chk l
def mh (m : List UInt8) : List UInt8 := tagged [109, 115, 103] [m]
theorem mh_len (m : List UInt8) : (mh m).length = 32 := tagged_len _ _
def digits (m : List UInt8) : List Int := nib (mh m) ++ [((chk (mh m) / 256 : Nat) : Int), ((chk (mh m) / 16 % 16 : Nat) : Int), ((chk (mh m) % 16 : Nat) : Int)]
theorem nib_len (l : List UInt8) : (nib l).length = 2 * l.length := by
  induction l with
  | nil => rfl
  | cons c l ih => simp only [nib, List.flatMap_cons, List.length_append, List.length_cons, List.length_nil] at ih ⊢; omega
theorem nib_append (a b : List UInt8) : nib (a ++ b) = nib a ++ nib b := List.flatMap_append
theorem chk_append : ∀ (a b : List UInt8), chk (a ++ b) = chk a + chk b
  | [], b => by simp [chk]
  | c :: a, b => by rw [List.cons_append, chk, chk, chk_append a b]; omega
theorem chk_le : ∀ (l : List UInt8), chk l ≤ 30 * l.length
  | [] => by simp [chk]
  | c :: l => by have := chk_le l; rw [chk, List.length_cons]; omega
theorem nib_take {l : List UInt8} {k : Nat} (h : k < l.length) : nib (l.take k) ++ [(((l.getD k 0).toNat / 16 : Nat) : Int), (((l.getD k 0).toNat % 16 : Nat) : Int)] = nib (l.take (k + 1)) := by
  rw [← take_snoc (d := 0) h, nib_append]; rfl
theorem chk_take {l : List UInt8} {k : Nat} (h : k < l.length) : chk (l.take (k + 1)) = chk (l.take k) + (30 - (l.getD k 0).toNat / 16 - (l.getD k 0).toNat % 16) := by
  rw [← take_snoc (d := 0) h, chk_append]; simp [chk]
theorem chk_take_le (l : List UInt8) (k : Nat) : chk (l.take k) ≤ 30 * k := by
  have := chk_le (l.take k)
  have h2 := List.length_take_le k l
  omega
theorem digits_len (m : List UInt8) : (digits m).length = 67 := by
  simp only [digits, List.length_append, nib_len, mh_len, List.length_cons, List.length_nil]
theorem digits_bd (m : List UInt8) : ∀ d ∈ digits m, 0 ≤ d ∧ d ≤ 15 := by
  intro d hd
  have hc := chk_le (mh m)
  rw [mh_len] at hc
  simp only [digits, List.mem_append, List.mem_cons, List.not_mem_nil, or_false] at hd
  rcases hd with hd | rfl | rfl | rfl
  · simp only [nib, List.mem_flatMap, List.mem_cons, List.not_mem_nil, or_false] at hd
    obtain ⟨c, _, rfl | rfl⟩ := hd
    · have := c.toNat_lt; omega
    · omega
  · omega
  · omega
  · omega
theorem digits_at (m : List UInt8) (k : Nat) (h : k < 67) : 0 ≤ (digits m).getD k 0 ∧ (digits m).getD k 0 ≤ 15 := by
  have hl : k < (digits m).length := by rw [digits_len]; exact h
  refine digits_bd m _ ?_
  rw [List.getD_eq_getElem?_getD, List.getElem?_eq_getElem hl]
  exact List.getElem_mem hl

/-! ### leaves, signatures -/
def pubH (ends : List (List UInt8)) : List UInt8 := tagged [112, 117, 98, 108, 105, 99] ends
theorem pubH_len (ends : List (List UInt8)) : (pubH ends).length = 32 := tagged_len _ _
def trueEnds (seed : List UInt8) (leaf : Int) (k : Nat) : List (List UInt8) := (List.range k).map fun (c : Nat) => steps 15 (start seed leaf (c : Int))
def pub (seed : List UInt8) (leaf : Int) : List UInt8 := pubH (trueEnds seed leaf 67)
theorem pub_len (seed : List UInt8) (leaf : Int) : (pub seed leaf).length = 32 := tagged_len _ _
def sign (seed : List UInt8) (leaf : Int) (m : List UInt8) (k : Nat) : List (List UInt8) := (List.range k).map fun (c : Nat) => steps ((digits m).getD c 0).toNat (start seed leaf (c : Int))
def ends (m : List UInt8) (v : List (List UInt8)) (k : Nat) : List (List UInt8) := (List.range k).map fun (c : Nat) => steps (15 - ((digits m).getD c 0).toNat) (v.getD c [])
theorem trueEnds_snoc (seed : List UInt8) (leaf : Int) (k : Nat) : trueEnds seed leaf k ++ [steps 15 (start seed leaf k)] = trueEnds seed leaf (k + 1) := range_snoc _ _
theorem sign_snoc (seed : List UInt8) (leaf : Int) (m : List UInt8) (k : Nat) : sign seed leaf m k ++ [steps ((digits m).getD k 0).toNat (start seed leaf k)] = sign seed leaf m (k + 1) := range_snoc _ _
theorem ends_snoc (m : List UInt8) (v : List (List UInt8)) (k : Nat) : ends m v k ++ [steps (15 - ((digits m).getD k 0).toNat) (v.getD k [])] = ends m v (k + 1) := range_snoc _ _
theorem trueEnds_len (seed : List UInt8) (leaf : Int) (k : Nat) : (trueEnds seed leaf k).length = k := by simp [trueEnds]
theorem sign_len (seed : List UInt8) (leaf : Int) (m : List UInt8) (k : Nat) : (sign seed leaf m k).length = k := by simp [sign]
theorem ends_len (m : List UInt8) (v : List (List UInt8)) (k : Nat) : (ends m v k).length = k := by simp [ends]
theorem trueEnds_all (seed : List UInt8) (leaf : Int) (k : Nat) : ∀ h ∈ trueEnds seed leaf k, h.length = 32 := by
  intro h hh; obtain ⟨c, _, rfl⟩ := List.mem_map.1 hh; exact steps_len _ (start_len _ _ _)
theorem sign_all (seed : List UInt8) (leaf : Int) (m : List UInt8) (k : Nat) : ∀ h ∈ sign seed leaf m k, h.length = 32 := by
  intro h hh; obtain ⟨c, _, rfl⟩ := List.mem_map.1 hh; exact steps_len _ (start_len _ _ _)
theorem ends_all {m : List UInt8} {v : List (List UInt8)} {k : Nat} (hv : ∀ h ∈ v, h.length = 32) (hk : k ≤ v.length) : ∀ h ∈ ends m v k, h.length = 32 := by
  intro h hh
  obtain ⟨c, hc, rfl⟩ := List.mem_map.1 hh
  have hc' := List.mem_range.1 hc
  refine steps_len _ (hv _ ?_)
  rw [List.getD_eq_getElem?_getD, List.getElem?_eq_getElem (by omega)]
  exact List.getElem_mem _
theorem text_snoc {tag : List UInt8} {l : List (List UInt8)} {k : Nat} (h : k < l.length) : text tag (l.take k) ++ net (l.getD k []) = text tag (l.take (k + 1)) := by
  rw [text, text, List.append_assoc, nets_take h]
theorem text_take_le (tag : List UInt8) (l : List (List UInt8)) (k : Nat) : (text tag (l.take k)).length ≤ (text tag l).length := by
  have := nets_take_le l k
  simp only [text, List.length_append]; omega

/-! ### the checksum -/
def sum15 : List Int → Int
  | [] => 0
  | d :: l => 15 - d + sum15 l
theorem sum15_append : ∀ (a b : List Int), sum15 (a ++ b) = sum15 a + sum15 b
  | [], b => by simp [sum15]
  | d :: a, b => by rw [List.cons_append, sum15, sum15, sum15_append a b]; omega
theorem sum15_take {l : List Int} {k : Nat} (h : k < l.length) : sum15 (l.take (k + 1)) = sum15 (l.take k) + (15 - l.getD k 0) := by
  rw [← take_snoc (d := 0) h, sum15_append]; simp [sum15]
theorem chk_nib : ∀ (l : List UInt8), sum15 (nib l) = (chk l : Int)
  | [] => rfl
  | c :: l => by
    have h := chk_nib l
    have hc := c.toNat_lt
    have e : nib (c :: l) = ((c.toNat / 16 : Nat) : Int) :: ((c.toNat % 16 : Nat) : Int) :: nib l := by simp [nib]
    rw [e, sum15, sum15, h, chk]
    omega
theorem digits_take (m : List UInt8) : (digits m).take 64 = nib (mh m) := by
  have h : (nib (mh m)).length = 64 := by rw [nib_len, mh_len]
  rw [digits, ← h, List.take_left]
theorem digits_hi (m : List UInt8) : (digits m).getD 64 0 = ((chk (mh m) / 256 : Nat) : Int) ∧ (digits m).getD 65 0 = ((chk (mh m) / 16 % 16 : Nat) : Int) ∧ (digits m).getD 66 0 = ((chk (mh m) % 16 : Nat) : Int) := by
  have h : (nib (mh m)).length = 64 := by rw [nib_len, mh_len]
  simp only [digits, List.getD_eq_getElem?_getD]
  refine ⟨?_, ?_, ?_⟩ <;> rw [List.getElem?_append_right (by omega), h] <;> rfl
theorem chk_mh_le (m : List UInt8) : chk (mh m) ≤ 960 := by have := chk_le (mh m); rw [mh_len] at this; omega
theorem checksum (m : List UInt8) : (digits m).getD 64 0 * 256 + (digits m).getD 65 0 * 16 + (digits m).getD 66 0 = sum15 ((digits m).take 64) := by
  obtain ⟨h1, h2, h3⟩ := digits_hi m
  have := chk_mh_le m
  rw [h1, h2, h3, digits_take, chk_nib]
  omega
theorem sum15_bd (m : List UInt8) (k : Nat) (h : k ≤ 67) : 0 ≤ sum15 ((digits m).take k) ∧ sum15 ((digits m).take k) ≤ 15 * k := by
  induction k with
  | zero => simp [sum15]
  | succ k ih =>
    have h1 := ih (by omega)
    have h2 := digits_at m k (by omega)
    rw [sum15_take (by rw [digits_len]; omega)]
    omega
theorem sign_at (seed : List UInt8) (leaf : Int) (m : List UInt8) (k c : Nat) (h : c < k) : (sign seed leaf m k).getD c [] = steps ((digits m).getD c 0).toNat (start seed leaf (c : Int)) := by
  simp [sign, h]
theorem ends_at (m : List UInt8) (v : List (List UInt8)) (k c : Nat) (h : c < k) : (ends m v k).getD c [] = steps (15 - ((digits m).getD c 0).toNat) (v.getD c []) := by
  simp [ends, h]
theorem ends_sign_at (seed : List UInt8) (leaf : Int) (m : List UInt8) (c : Nat) (h : c < 67) : steps (15 - ((digits m).getD c 0).toNat) ((sign seed leaf m 67).getD c []) = steps 15 (start seed leaf (c : Int)) := by
  have hd := digits_at m c h
  rw [sign_at _ _ _ _ _ h, steps_add]
  congr 1
  omega
theorem ends_sign (seed : List UInt8) (leaf : Int) (m : List UInt8) : ends m (sign seed leaf m 67) 67 = trueEnds seed leaf 67 := by
  simp only [ends, trueEnds]
  apply List.map_congr_left
  intro c hc
  exact ends_sign_at seed leaf m c (List.mem_range.1 hc)
theorem sum15_le : ∀ (a b : List Int), a.length = b.length → (∀ i, i < a.length → a.getD i 0 ≤ b.getD i 0) → sum15 b ≤ sum15 a ∧ (sum15 b = sum15 a → a = b)
  | [], [], _, _ => by simp [sum15]
  | x :: a, y :: b, hl, h => by
    have h0 := h 0 (by simp)
    simp at h0
    obtain ⟨h1, h2⟩ := sum15_le a b (by simpa using hl) (fun i hi => by have := h (i + 1) (by simpa using hi); simpa using this)
    refine ⟨by simp only [sum15]; omega, fun e => ?_⟩
    simp only [sum15] at e
    have : x = y := by omega
    subst this
    rw [h2 (by omega)]
  | [], _ :: _, hl, _ => by simp at hl
  | _ :: _, [], hl, _ => by simp at hl
theorem digits_eq (a b : List UInt8) (h : (digits a).take 64 = (digits b).take 64) : digits a = digits b := by
  rw [digits_take, digits_take] at h
  have hc : (chk (mh a) : Int) = chk (mh b) := by rw [← chk_nib, ← chk_nib, h]
  have hc' : chk (mh a) = chk (mh b) := by omega
  rw [digits, digits, h, hc']
/-- Digits that are none above the other's are the other's. -/
theorem digits_le (a b : List UInt8) (h : ∀ i, i < 67 → (digits a).getD i 0 ≤ (digits b).getD i 0) : digits a = digits b := by
  have ca := checksum a
  have cb := checksum b
  have h4 := h 64 (by omega); have h5 := h 65 (by omega); have h6 := h 66 (by omega)
  have hla : ((digits a).take 64).length = 64 := by rw [List.length_take, digits_len]; rfl
  have hlb : ((digits b).take 64).length = 64 := by rw [List.length_take, digits_len]; rfl
  obtain ⟨h1, h2⟩ := sum15_le ((digits a).take 64) ((digits b).take 64) (by omega) (fun i hi => by
    rw [hla] at hi
    have := h i (by omega)
    simp only [List.getD_eq_getElem?_getD, List.getElem?_take, if_pos hi] at this ⊢
    exact this)
  exact digits_eq a b (h2 (by omega))
end Go.Au
