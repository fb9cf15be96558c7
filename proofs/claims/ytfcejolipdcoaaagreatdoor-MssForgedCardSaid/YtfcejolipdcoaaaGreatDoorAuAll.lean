/- General lemmas for walking the code, or plain mathematics. -/
set_option linter.unusedVariables false
set_option linter.unusedSimpArgs false
set_option maxRecDepth 8192
namespace Go.Sha

abbrev Wd := BitVec 32

def rotr (a : Wd) (n : Nat) : Wd := a >>> n ||| a <<< (32 - n)
def s0 (x : Wd) : Wd := rotr x 7 ^^^ rotr x 18 ^^^ x >>> 3
def s1 (x : Wd) : Wd := rotr x 17 ^^^ rotr x 19 ^^^ x >>> 10
def S1 (x : Wd) : Wd := rotr x 6 ^^^ rotr x 11 ^^^ rotr x 25
def S0 (x : Wd) : Wd := rotr x 2 ^^^ rotr x 13 ^^^ rotr x 22

def table : List Wd := [0x428a2f98, 0x71374491, 0xb5c0fbcf, 0xe9b5dba5, 0x3956c25b, 0x59f111f1, 0x923f82a4, 0xab1c5ed5,
  0xd807aa98, 0x12835b01, 0x243185be, 0x550c7dc3, 0x72be5d74, 0x80deb1fe, 0x9bdc06a7, 0xc19bf174,
  0xe49b69c1, 0xefbe4786, 0x0fc19dc6, 0x240ca1cc, 0x2de92c6f, 0x4a7484aa, 0x5cb0a9dc, 0x76f988da,
  0x983e5152, 0xa831c66d, 0xb00327c8, 0xbf597fc7, 0xc6e00bf3, 0xd5a79147, 0x06ca6351, 0x14292967,
  0x27b70a85, 0x2e1b2138, 0x4d2c6dfc, 0x53380d13, 0x650a7354, 0x766a0abb, 0x81c2c92e, 0x92722c85,
  0xa2bfe8a1, 0xa81a664b, 0xc24b8b70, 0xc76c51a3, 0xd192e819, 0xd6990624, 0xf40e3585, 0x106aa070,
  0x19a4c116, 0x1e376c08, 0x2748774c, 0x34b0bcb5, 0x391c0cb3, 0x4ed8aa4a, 0x5b9cca4f, 0x682e6ff3,
  0x748f82ee, 0x78a5636f, 0x84c87814, 0x8cc70208, 0x90befffa, 0xa4506ceb, 0xbef9a3f7, 0xc67178f2]
def begin : List Wd := [0x6a09e667, 0xbb67ae85, 0x3c6ef372, 0xa54ff53a, 0x510e527f, 0x9b05688c, 0x1f83d9ab, 0x5be0cd19]

def wd (b : UInt8) : Wd := b.toBitVec.setWidth 32
def be (l : List UInt8) (i : Nat) : Wd := wd (l.getD (4 * i) 0) <<< 24 ||| wd (l.getD (4 * i + 1) 0) <<< 16 ||| wd (l.getD (4 * i + 2) 0) <<< 8 ||| wd (l.getD (4 * i + 3) 0)

def sched (l : List UInt8) : Nat → List Wd
  | 0 => []
  | i + 1 => let r := sched l i
    r ++ [if i < 16 then be l i else r.getD (i - 16) 0 + s0 (r.getD (i - 15) 0) + r.getD (i - 7) 0 + s1 (r.getD (i - 2) 0)]

theorem sched_len (l : List UInt8) : ∀ i, (sched l i).length = i
  | 0 => rfl
  | i + 1 => by simp [sched, sched_len l i]

theorem sched_get (l : List UInt8) (j : Nat) : ∀ i, j < i → (sched l i).getD j 0 = (sched l (j + 1)).getD j 0
  | 0, h => absurd h (Nat.not_lt_zero _)
  | i + 1, h => by
    by_cases e : j = i
    · subst e; rfl
    · have h1 := sched_get l j i (by omega)
      rw [← h1]
      have hl := sched_len l i
      simp only [sched, List.getD_eq_getElem?_getD]
      rw [List.getElem?_append_left (by omega)]

def rnd (v : List Wd) (k w : Wd) : List Wd :=
  let a := v.getD 0 0; let e := v.getD 4 0
  let t := v.getD 7 0 + S1 e + (e &&& v.getD 5 0 ^^^ ~~~e &&& v.getD 6 0) + k + w
  let m := a &&& v.getD 1 0 ^^^ a &&& v.getD 2 0 ^^^ v.getD 1 0 &&& v.getD 2 0
  [t + S0 a + m, a, v.getD 1 0, v.getD 2 0, v.getD 3 0 + t, e, v.getD 5 0, v.getD 6 0]

def rnds (l : List UInt8) (h : List Wd) : Nat → List Wd
  | 0 => h
  | i + 1 => rnd (rnds l h i) (table.getD i 0) ((sched l 64).getD i 0)

theorem rnds_len (l : List UInt8) (h : List Wd) (hh : h.length = 8) : ∀ i, (rnds l h i).length = 8
  | 0 => hh
  | _ + 1 => rfl

def mix (h : List Wd) (l : List UInt8) : List Wd := List.zipWith (· + ·) h (rnds l h 64)

theorem mix_len (h : List Wd) (l : List UInt8) (hh : h.length = 8) : (mix h l).length = 8 := by simp [mix, hh, rnds_len l h hh]

def chewN : Nat → List Wd → List UInt8 → List Wd
  | 0, h, _ => h
  | k + 1, h, l => chewN k (mix h (l.take 64)) (l.drop 64)
def chew (h : List Wd) (l : List UInt8) : List Wd := chewN (l.length / 64) h l
def rest (l : List UInt8) : List UInt8 := l.drop (64 * (l.length / 64))

theorem rest_len (l : List UInt8) : (rest l).length = l.length % 64 := by simp [rest]; omega

theorem chewN_len : ∀ (k : Nat) (h : List Wd) (l : List UInt8), h.length = 8 → (chewN k h l).length = 8
  | 0, _, _, hh => hh
  | k + 1, _, _, hh => chewN_len k _ _ (mix_len _ _ hh)
theorem chew_len (h : List Wd) (l : List UInt8) (hh : h.length = 8) : (chew h l).length = 8 := chewN_len _ _ _ hh

theorem chew_short {h : List Wd} {l : List UInt8} (hl : l.length < 64) : chew h l = h ∧ rest l = l := by
  have : l.length / 64 = 0 := by omega
  simp [chew, rest, this, chewN]
theorem chew_step {h : List Wd} {l : List UInt8} (hl : 64 ≤ l.length) : chew h l = chew (mix h (l.take 64)) (l.drop 64) ∧ rest l = rest (l.drop 64) := by
  have e : l.length / 64 = (l.drop 64).length / 64 + 1 := by simp; omega
  constructor
  · unfold chew; rw [e, chewN]
  · unfold rest; rw [e, List.drop_drop]; congr 1; simp; omega

theorem chewN_append : ∀ (k : Nat) (h : List Wd) (l m : List UInt8), 64 * k ≤ l.length → chewN k h (l ++ m) = chewN k h l
  | 0, _, _, _, _ => rfl
  | k + 1, h, l, m, hk => by
    simp only [chewN]
    rw [List.take_append_of_le_length (by omega), List.drop_append_of_le_length (by omega)]
    exact chewN_append k _ _ _ (by simp; omega)
theorem chewN_add : ∀ (a b : Nat) (h : List Wd) (l : List UInt8), chewN (a + b) h l = chewN b (chewN a h l) (l.drop (64 * a))
  | 0, b, h, l => by simp [chewN]
  | a + 1, b, h, l => by
    rw [show a + 1 + b = (a + b) + 1 by omega]
    simp only [chewN]
    rw [chewN_add a b, List.drop_drop]
    congr 2; omega

theorem chew_append (h : List Wd) (l m : List UInt8) : chew h (l ++ m) = chew (chew h l) (rest l ++ m) ∧ rest (l ++ m) = rest (rest l ++ m) := by
  have hl := rest_len l
  have e : (l ++ m).length / 64 = l.length / 64 + (rest l ++ m).length / 64 := by simp only [List.length_append, hl]; omega
  have hd : (l ++ m).drop (64 * (l.length / 64)) = rest l ++ m := by unfold rest; rw [List.drop_append_of_le_length (by omega)]
  constructor
  · unfold chew
    rw [e, chewN_add, chewN_append _ _ _ _ (by omega), hd]
  · rw [rest, e]
    show _ = (rest l ++ m).drop (64 * ((rest l ++ m).length / 64))
    rw [← hd, List.drop_drop, hd, Nat.mul_add]

def put (n : Nat) : Nat → List UInt8
  | 0 => []
  | w + 1 => UInt8.ofNat (n / 256 ^ w) :: put n w

theorem put_len (n : Nat) : ∀ w, (put n w).length = w
  | 0 => rfl
  | w + 1 => by simp [put, put_len n w]

def zeros (n : Nat) : Nat := (119 - n % 64) % 64
def pad (n : Nat) : List UInt8 := 0x80 :: List.replicate (zeros n) 0 ++ put (8 * n) 8

def out : List Wd → List UInt8
  | [] => []
  | a :: r => put a.toNat 4 ++ out r
theorem out_append : ∀ a b, out (a ++ b) = out a ++ out b
  | [], _ => rfl
  | x :: a, b => by simp [out, out_append a b]
theorem out_len : ∀ l, (out l).length = 4 * l.length
  | [] => rfl
  | a :: r => by simp [out, put_len, out_len r]; omega

def sha (b : List UInt8) : List UInt8 := out (chew begin (b ++ pad b.length))

theorem begin_len : begin.length = 8 := rfl
theorem sha_len (b : List UInt8) : (sha b).length = 32 := by
  unfold sha; rw [out_len, chew_len _ _ begin_len]

theorem sha_way (m : List UInt8) : sha m = out (chew (chew begin m) (rest m ++ pad m.length)) := by
  unfold sha; rw [(chew_append begin m _).1]

theorem pad_len (n : Nat) : (n + (pad n).length) % 64 = 0 := by simp [pad, put_len, zeros]; omega
theorem end_eq (m : List UInt8) : rest m ++ pad m.length = rest m ++ [0x80] ++ List.replicate (zeros m.length) 0 ++ put (8 * m.length) 8 := by simp [pad]
theorem end_len (m : List UInt8) : (rest m ++ pad m.length).length % 64 = 0 := by
  have := pad_len m.length
  rw [List.length_append, rest_len]
  omega
theorem zeros_le (n : Nat) : zeros n < 64 := by unfold zeros; omega
theorem zeros_end {r j n : Nat} (hr : r = n % 64) (hj : j ≤ zeros n) (h : (r + 1 + j) % 64 = 56) : j = zeros n := by unfold zeros at *; omega
theorem zeros_more {r j n : Nat} (hr : r = n % 64) (hj : j ≤ zeros n) (h : (r + 1 + j) % 64 ≠ 56) : j + 1 ≤ zeros n := by
  have : j ≠ zeros n := fun e => h (by unfold zeros at e; omega)
  omega

end Go.Sha

namespace Go.Au

def digit (n : Nat) : UInt8 := UInt8.ofNat (48 + n)
def decF : Nat → Nat → List UInt8
  | 0, n => [digit (n % 10)]
  | f + 1, n => if n < 10 then [digit n] else decF f (n / 10) ++ [digit (n % 10)]
def dec (n : Nat) : List UInt8 := decF n n

theorem decF_eq : ∀ (f g n : Nat), n ≤ f → n ≤ g → decF f n = decF g n
  | 0, 0, _, _, _ => rfl
  | 0, g + 1, n, h, _ => by have : n = 0 := by omega
                            subst this; rfl
  | f + 1, 0, n, _, h => by have : n = 0 := by omega
                            subst this; rfl
  | f + 1, g + 1, n, h1, h2 => by
    unfold decF
    split
    · rfl
    · rw [decF_eq f g (n / 10) (by omega) (by omega)]
theorem dec_lt {n : Nat} (h : n < 10) : dec n = [digit n] := by
  unfold dec
  cases n with
  | zero => rfl
  | succ n => unfold decF; rw [if_pos h]
theorem dec_ge {n : Nat} (h : ¬ n < 10) : dec n = dec (n / 10) ++ [digit (n % 10)] := by
  unfold dec
  cases n with
  | zero => omega
  | succ n =>
    conv => lhs; unfold decF
    rw [if_neg h, decF_eq n ((n + 1) / 10) ((n + 1) / 10) (by omega) (Nat.le_refl _)]
theorem dec_len_le : ∀ (k n : Nat), n < 10 ^ (k + 1) → (dec n).length ≤ k + 1
  | 0, n, h => by rw [dec_lt (by omega)]; simp
  | k + 1, n, h => by
    by_cases h' : n < 10
    · rw [dec_lt h']; simp
    · rw [dec_ge h', List.length_append]
      have := dec_len_le k (n / 10) (by rw [Nat.div_lt_iff_lt_mul (by omega)]; rw [Nat.pow_succ] at h; exact h)
      simp; omega
theorem dec_digit (n : Nat) : ∀ c ∈ dec n, 48 ≤ c.toNat ∧ c.toNat ≤ 57 := by
  induction n using Nat.strongRecOn with
  | _ n ih =>
    intro c hc
    by_cases h : n < 10
    · rw [dec_lt h] at hc
      simp at hc; subst hc
      simp only [digit, UInt8.toNat_ofNat']; omega
    · rw [dec_ge h, List.mem_append] at hc
      rcases hc with hc | hc
      · exact ih (n / 10) (by omega) c hc
      · simp at hc; subst hc
        simp only [digit, UInt8.toNat_ofNat']; omega

def smalls : List UInt8 := [48, 48, 48, 49, 48, 50, 48, 51, 48, 52, 48, 53, 48, 54, 48, 55, 48, 56, 48, 57, 49, 48, 49, 49, 49, 50, 49, 51, 49, 52, 49, 53, 49, 54, 49, 55, 49, 56, 49, 57, 50, 48, 50, 49, 50, 50, 50, 51, 50, 52, 50, 53, 50, 54, 50, 55, 50, 56, 50, 57, 51, 48, 51, 49, 51, 50, 51, 51, 51, 52, 51, 53, 51, 54, 51, 55, 51, 56, 51, 57, 52, 48, 52, 49, 52, 50, 52, 51, 52, 52, 52, 53, 52, 54, 52, 55, 52, 56, 52, 57, 53, 48, 53, 49, 53, 50, 53, 51, 53, 52, 53, 53, 53, 54, 53, 55, 53, 56, 53, 57, 54, 48, 54, 49, 54, 50, 54, 51, 54, 52, 54, 53, 54, 54, 54, 55, 54, 56, 54, 57, 55, 48, 55, 49, 55, 50, 55, 51, 55, 52, 55, 53, 55, 54, 55, 55, 55, 56, 55, 57, 56, 48, 56, 49, 56, 50, 56, 51, 56, 52, 56, 53, 56, 54, 56, 55, 56, 56, 56, 57, 57, 48, 57, 49, 57, 50, 57, 51, 57, 52, 57, 53, 57, 54, 57, 55, 57, 56, 57, 57]
theorem smalls_at (q : Nat) (h : q < 100) : smalls.getD (2 * q) 0 = digit (q / 10) ∧ smalls.getD (2 * q + 1) 0 = digit (q % 10) := by
  have key : ∀ f : Fin 100, smalls.getD (2 * f.val) 0 = digit (f.val / 10) ∧ smalls.getD (2 * f.val + 1) 0 = digit (f.val % 10) := by decide +kernel
  exact key ⟨q, h⟩
theorem smalls_lo (u : Nat) : smalls.getD (u % 100 * 2 + 1) 0 = digit (u % 10) := by
  have h := (smalls_at (u % 100) (by omega)).2
  rw [show 2 * (u % 100) + 1 = u % 100 * 2 + 1 by omega, show u % 100 % 10 = u % 10 by omega] at h; exact h
theorem smalls_hi (u : Nat) : smalls.getD (u % 100 * 2) 0 = digit (u / 10 % 10) := by
  have h := (smalls_at (u % 100) (by omega)).1
  rw [show 2 * (u % 100) = u % 100 * 2 by omega, show u % 100 / 10 = u / 10 % 10 by omega] at h; exact h
theorem smalls_cut (q : Nat) (h : q < 100) (h' : 10 ≤ q) : (smalls.drop (q * 2)).take (q * 2 + 2 - q * 2) = dec q := by
  have key : ∀ f : Fin 100, 10 ≤ f.val → (smalls.drop (f.val * 2)).take (f.val * 2 + 2 - f.val * 2) = dec f.val := by decide +kernel
  exact key ⟨q, h⟩ h'
def digs : List UInt8 := [48, 49, 50, 51, 52, 53, 54, 55, 56, 57, 97, 98, 99, 100, 101, 102, 103, 104, 105, 106, 107, 108, 109, 110, 111, 112, 113, 114, 115, 116, 117, 118, 119, 120, 121, 122]
theorem digs_cut (q : Nat) (h : q < 10) : (digs.drop q).take (q + 1 - q) = dec q := by
  have key : ∀ f : Fin 10, (digs.drop f.val).take (f.val + 1 - f.val) = dec f.val := by decide +kernel
  exact key ⟨q, h⟩
def len8 : List UInt8 := [0, 1, 2, 2, 3, 3, 3, 3, 4, 4, 4, 4, 4, 4, 4, 4, 5, 5, 5, 5, 5, 5, 5, 5, 5, 5, 5, 5, 5, 5, 5, 5, 6, 6, 6, 6, 6, 6, 6, 6, 6, 6, 6, 6, 6, 6, 6, 6, 6, 6, 6, 6, 6, 6, 6, 6, 6, 6, 6, 6, 6, 6, 6, 6, 7, 7, 7, 7, 7, 7, 7, 7, 7, 7, 7, 7, 7, 7, 7, 7, 7, 7, 7, 7, 7, 7, 7, 7, 7, 7, 7, 7, 7, 7, 7, 7, 7, 7, 7, 7, 7, 7, 7, 7, 7, 7, 7, 7, 7, 7, 7, 7, 7, 7, 7, 7, 7, 7, 7, 7, 7, 7, 7, 7, 7, 7, 7, 7, 8, 8, 8, 8, 8, 8, 8, 8, 8, 8, 8, 8, 8, 8, 8, 8, 8, 8, 8, 8, 8, 8, 8, 8, 8, 8, 8, 8, 8, 8, 8, 8, 8, 8, 8, 8, 8, 8, 8, 8, 8, 8, 8, 8, 8, 8, 8, 8, 8, 8, 8, 8, 8, 8, 8, 8, 8, 8, 8, 8, 8, 8, 8, 8, 8, 8, 8, 8, 8, 8, 8, 8, 8, 8, 8, 8, 8, 8, 8, 8, 8, 8, 8, 8, 8, 8, 8, 8, 8, 8, 8, 8, 8, 8, 8, 8, 8, 8, 8, 8, 8, 8, 8, 8, 8, 8, 8, 8, 8, 8, 8, 8, 8, 8, 8, 8, 8, 8, 8, 8, 8, 8, 8, 8, 8, 8, 8, 8]
def bl (n : Nat) : Nat := if n < 256 then (len8.getD n 0).toNat else 8 + (len8.getD (n / 256) 0).toNat
def digB (n : Nat) : Bool := Nat.ble (bl n * 78913 / 262144 + (if 10 ^ (bl n * 78913 / 262144) ≤ n then 1 else 0)) 4 && Nat.beq (bl n * 78913 / 262144 + (if 10 ^ (bl n * 78913 / 262144) ≤ n then 1 else 0)) (if n < 1000 then 3 else 4)
def allB (p : Nat → Bool) : Nat → Bool
  | 0 => true
  | n + 1 => p n && allB p n
theorem allB_spec {p : Nat → Bool} : ∀ {n : Nat}, allB p n = true → ∀ k, k < n → p k = true
  | 0, _, k, hk => absurd hk (Nat.not_lt_zero _)
  | n + 1, h, k, hk => by
    simp only [allB, Bool.and_eq_true] at h
    by_cases e : k = n
    · subst e; exact h.1
    · exact allB_spec h.2 k (by omega)
theorem digs_nd (n : Nat) (h : 100 ≤ n) (h' : n < 10000) : bl n * 78913 / 262144 + (if 10 ^ (bl n * 78913 / 262144) ≤ n then 1 else 0) = (if n < 1000 then 3 else 4) ∧ bl n ≤ 16 := by
  have key : allB (fun n => Nat.ble n 99 || (digB n && Nat.ble (bl n) 16)) 10000 = true := by decide +kernel
  have h1 := allB_spec key n h'
  simp only [digB, Bool.or_eq_true, Bool.and_eq_true, Nat.ble_eq, Nat.beq_eq] at h1
  omega
theorem smalls_lo4 (u : Nat) : smalls.getD (u % 10000 / 100 * 2 + 1) 0 = digit (u / 100 % 10) := by
  have h := smalls_lo (u / 100)
  rw [show u / 100 % 100 = u % 10000 / 100 by omega] at h; exact h
theorem smalls_hi4 (u : Nat) : smalls.getD (u % 10000 / 100 * 2) 0 = digit (u / 1000 % 10) := by
  have h := smalls_hi (u / 100)
  rw [show u / 100 % 100 = u % 10000 / 100 by omega, Nat.div_div_eq_div_mul] at h; exact h
theorem smalls_lo4' (u : Nat) : smalls.getD (u % 10000 % 100 * 2 + 1) 0 = digit (u % 10) := by
  have h := smalls_lo u
  rw [show u % 100 = u % 10000 % 100 by omega] at h; exact h
theorem smalls_hi4' (u : Nat) : smalls.getD (u % 10000 % 100 * 2) 0 = digit (u / 10 % 10) := by
  have h := smalls_hi u
  rw [show u % 100 = u % 10000 % 100 by omega] at h; exact h
theorem dec3 (n : Nat) (h : 100 ≤ n) (h' : n < 1000) : dec n = [digit (n / 100), digit (n / 10 % 10), digit (n % 10)] := by
  rw [dec_ge (by omega), dec_ge (n := n / 10) (by omega), dec_lt (n := n / 10 / 10) (by omega), Nat.div_div_eq_div_mul]; rfl
theorem dec4 (n : Nat) (h : 1000 ≤ n) (h' : n < 10000) : dec n = [digit (n / 1000), digit (n / 100 % 10), digit (n / 10 % 10), digit (n % 10)] := by
  rw [dec_ge (by omega), dec3 (n / 10) (by omega) (by omega), Nat.div_div_eq_div_mul, Nat.div_div_eq_div_mul]; rfl

def net (b : List UInt8) : List UInt8 := dec b.length ++ [58] ++ b ++ [44]
def nets (l : List (List UInt8)) : List UInt8 := l.flatMap net
def text (tag : List UInt8) (l : List (List UInt8)) : List UInt8 := net tag ++ nets l
def tagged (tag : List UInt8) (l : List (List UInt8)) : List UInt8 := Go.Sha.sha (text tag l)
theorem tagged_len (tag : List UInt8) (l : List (List UInt8)) : (tagged tag l).length = 32 := Go.Sha.sha_len _
theorem net_len (b : List UInt8) : (net b).length = (dec b.length).length + b.length + 2 := by simp [net]; omega
theorem net_le {b : List UInt8} (h : b.length < 1000000) : (net b).length ≤ b.length + 8 := by
  have := dec_len_le 5 b.length (by omega)
  rw [net_len]; omega
theorem nets_nil : nets [] = [] := rfl
theorem nets_snoc (l : List (List UInt8)) (b : List UInt8) : nets (l ++ [b]) = nets l ++ net b := by simp [nets]
theorem nets_cons (l : List (List UInt8)) (b : List UInt8) : nets (b :: l) = net b ++ nets l := by simp [nets]
def total (l : List (List UInt8)) : Nat := (l.map List.length).sum
theorem nets_le : ∀ {l : List (List UInt8)}, (∀ b ∈ l, b.length < 1000000) → (nets l).length ≤ total l + 8 * l.length
  | [], _ => by simp [nets, total]
  | b :: l, h => by
    have h1 := net_le (h b (by simp))
    have h2 := nets_le (l := l) (fun x hx => h x (by simp [hx]))
    rw [nets_cons, List.length_append]
    simp only [total, List.map_cons, List.sum_cons, List.length_cons] at h2 ⊢
    omega
theorem nets_append (l m : List (List UInt8)) : nets (l ++ m) = nets l ++ nets m := by simp [nets]
theorem nets_take {l : List (List UInt8)} {k : Nat} (h : k < l.length) : nets (l.take k) ++ net (l.getD k []) = nets (l.take (k + 1)) := by
  rw [List.take_succ_eq_append_getElem h, nets_snoc]
  simp [h]
theorem nets_take_le (l : List (List UInt8)) (k : Nat) : (nets (l.take k)).length ≤ (nets l).length := by
  conv => rhs; rw [← List.take_append_drop k l, nets_append]
  simp
theorem nets_count : ∀ (l : List (List UInt8)), l.length ≤ (nets l).length
  | [] => by simp
  | b :: l => by
    have := nets_count l
    rw [nets_cons, List.length_append, net_len, List.length_cons]; omega
theorem net_ge (b : List UInt8) : b.length ≤ (net b).length := by rw [net_len]; omega
theorem nets_el {l : List (List UInt8)} {B : Nat} (h : (nets l).length < B) (k : Nat) (hk : k < l.length) : (l.getD k []).length < B := by
  have h1 := nets_take_le l (k + 1)
  rw [← nets_take hk, List.length_append] at h1
  have := net_ge (l.getD k [])
  omega
theorem text_tag (tag : List UInt8) (l : List (List UInt8)) : tag.length ≤ (text tag l).length := by
  have := net_ge tag
  simp only [text, List.length_append]; omega
theorem text_nets (tag : List UInt8) (l : List (List UInt8)) : (nets l).length ≤ (text tag l).length := by
  simp only [text, List.length_append]; omega
end Go.Au

namespace Go.Au

theorem take_snoc {α : Type} {l : List α} {k : Nat} {d : α} (h : k < l.length) : l.take k ++ [l.getD k d] = l.take (k + 1) := by
  rw [List.take_succ_eq_append_getElem h]; simp [h]
theorem range_snoc {α : Type} (f : Nat → α) (k : Nat) : (List.range k).map f ++ [f k] = (List.range (k + 1)).map f := by simp [List.range_succ]
theorem text_le {tag : List UInt8} {l : List (List UInt8)} (ht : tag.length < 1000000) (hl : ∀ b ∈ l, b.length < 1000000) : (text tag l).length ≤ tag.length + 8 + total l + 8 * l.length := by
  have h1 := net_le ht
  have h2 := nets_le hl
  simp only [text, List.length_append]; omega
theorem total_all {k : Nat} : ∀ {l : List (List UInt8)}, (∀ b ∈ l, b.length = k) → total l = l.length * k
  | [], _ => by simp [total]
  | b :: l, h => by
    have := total_all (l := l) (fun x hx => h x (by simp [hx]))
    have h1 := h b (by simp)
    simp only [total, List.map_cons, List.sum_cons, List.length_cons, Nat.succ_mul] at this ⊢
    omega
theorem text_all {tag : List UInt8} {l : List (List UInt8)} {k n : Nat} (ht : tag.length < 100) (hl : ∀ b ∈ l, b.length = k) (hk : k < 1000) (hn : l.length ≤ n) (hb : 108 + n * k + 8 * n < 10000) : (text tag l).length < 10000 := by
  have h1 := text_le (tag := tag) (l := l) (by omega) (fun b hb => by have := hl b hb; omega)
  rw [total_all hl] at h1
  have h2 : l.length * k ≤ n * k := Nat.mul_le_mul_right _ hn
  omega
theorem text1 {tag b : List UInt8} (ht : tag.length < 100) (hb : b.length < 1000) : (text tag [b]).length < 10000 := by
  have h1 := text_le (tag := tag) (l := [b]) (by omega) (fun x hx => by simp at hx; subst hx; omega)
  simp [total] at h1; omega
theorem text2 {tag a b : List UInt8} (ht : tag.length < 100) (ha : a.length < 1000) (hb : b.length < 1000) : (text tag [a, b]).length < 10000 := by
  have h1 := text_le (tag := tag) (l := [a, b]) (by omega) (fun x hx => by simp at hx; rcases hx with rfl | rfl <;> omega)
  simp [total] at h1; omega
theorem text3 {tag a b c : List UInt8} (ht : tag.length < 100) (ha : a.length < 1000) (hb : b.length < 1000) (hc : c.length < 1000) : (text tag [a, b, c]).length < 10000 := by
  have h1 := text_le (tag := tag) (l := [a, b, c]) (by omega) (fun x hx => by simp at hx; rcases hx with rfl | rfl | rfl <;> omega)
  simp [total] at h1; omega

def stepT (h : List UInt8) : List UInt8 := text [115, 116, 101, 112] [h]
def step (h : List UInt8) : List UInt8 := tagged [115, 116, 101, 112] [h]
theorem step_len (h : List UInt8) : (step h).length = 32 := tagged_len _ _
def steps : Nat → List UInt8 → List UInt8
  | 0, h => h
  | k + 1, h => step (steps k h)
theorem steps_len : ∀ (k : Nat) {h : List UInt8}, h.length = 32 → (steps k h).length = 32
  | 0, _, hh => hh
  | _ + 1, _, _ => step_len _
def start (seed : List UInt8) (leaf chain : Int) : List UInt8 := tagged [115, 116, 97, 114, 116] [seed, Go.Sha.put (max 0 leaf).toNat 4, Go.Sha.put (max 0 chain).toNat 4]
theorem start_len (seed : List UInt8) (leaf chain : Int) : (start seed leaf chain).length = 32 := tagged_len _ _

def nib (l : List UInt8) : List Int := l.flatMap fun c => [((c.toNat / 16 : Nat) : Int), ((c.toNat % 16 : Nat) : Int)]
def chk : List UInt8 → Nat
  | [] => 0
  | c :: l => 30 - c.toNat / 16 - c.toNat % 16 + chk l
def mh (m : List UInt8) : List UInt8 := tagged [109, 115, 103] [m]
theorem mh_len (m : List UInt8) : (mh m).length = 32 := tagged_len _ _
def digits (m : List UInt8) : List Int := nib (mh m) ++ [((chk (mh m) / 256 : Nat) : Int), ((chk (mh m) / 16 % 16 : Nat) : Int), ((chk (mh m) % 16 : Nat) : Int)]
theorem nib_len (l : List UInt8) : (nib l).length = 2 * l.length := by
  induction l with
  | nil => rfl
  | cons c l ih => simp only [nib, List.flatMap_cons, List.length_append, List.length_cons, List.length_nil] at ih ⊢; omega
theorem nib_append (a b : List UInt8) : nib (a ++ b) = nib a ++ nib b := List.flatMap_append
theorem chk_append : ∀ (a b : List UInt8), chk (a ++ b) = chk a + chk b
  | [], b => by simp [chk]
  | c :: a, b => by rw [List.cons_append, chk, chk, chk_append a b]; omega
theorem chk_le : ∀ (l : List UInt8), chk l ≤ 30 * l.length
  | [] => by simp [chk]
  | c :: l => by have := chk_le l; rw [chk, List.length_cons]; omega
theorem nib_take {l : List UInt8} {k : Nat} (h : k < l.length) : nib (l.take k) ++ [(((l.getD k 0).toNat / 16 : Nat) : Int), (((l.getD k 0).toNat % 16 : Nat) : Int)] = nib (l.take (k + 1)) := by
  rw [← take_snoc (d := 0) h, nib_append]; rfl
theorem chk_take {l : List UInt8} {k : Nat} (h : k < l.length) : chk (l.take (k + 1)) = chk (l.take k) + (30 - (l.getD k 0).toNat / 16 - (l.getD k 0).toNat % 16) := by
  rw [← take_snoc (d := 0) h, chk_append]; simp [chk]
theorem chk_take_le (l : List UInt8) (k : Nat) : chk (l.take k) ≤ 30 * k := by
  have := chk_le (l.take k)
  have h2 := List.length_take_le k l
  omega
theorem digits_len (m : List UInt8) : (digits m).length = 67 := by
  simp only [digits, List.length_append, nib_len, mh_len, List.length_cons, List.length_nil]
theorem digits_bd (m : List UInt8) : ∀ d ∈ digits m, 0 ≤ d ∧ d ≤ 15 := by
  intro d hd
  have hc := chk_le (mh m)
  rw [mh_len] at hc
  simp only [digits, List.mem_append, List.mem_cons, List.not_mem_nil, or_false] at hd
  rcases hd with hd | rfl | rfl | rfl
  · simp only [nib, List.mem_flatMap, List.mem_cons, List.not_mem_nil, or_false] at hd
    obtain ⟨c, _, rfl | rfl⟩ := hd
    · have := c.toNat_lt; omega
    · omega
  · omega
  · omega
  · omega
theorem digits_at (m : List UInt8) (k : Nat) (h : k < 67) : 0 ≤ (digits m).getD k 0 ∧ (digits m).getD k 0 ≤ 15 := by
  have hl : k < (digits m).length := by rw [digits_len]; exact h
  refine digits_bd m _ ?_
  rw [List.getD_eq_getElem?_getD, List.getElem?_eq_getElem hl]
  exact List.getElem_mem hl

def pubH (ends : List (List UInt8)) : List UInt8 := tagged [112, 117, 98, 108, 105, 99] ends
theorem pubH_len (ends : List (List UInt8)) : (pubH ends).length = 32 := tagged_len _ _
def trueEnds (seed : List UInt8) (leaf : Int) (k : Nat) : List (List UInt8) := (List.range k).map fun (c : Nat) => steps 15 (start seed leaf (c : Int))
def pub (seed : List UInt8) (leaf : Int) : List UInt8 := pubH (trueEnds seed leaf 67)
theorem pub_len (seed : List UInt8) (leaf : Int) : (pub seed leaf).length = 32 := tagged_len _ _
def sign (seed : List UInt8) (leaf : Int) (m : List UInt8) (k : Nat) : List (List UInt8) := (List.range k).map fun (c : Nat) => steps ((digits m).getD c 0).toNat (start seed leaf (c : Int))
def ends (m : List UInt8) (v : List (List UInt8)) (k : Nat) : List (List UInt8) := (List.range k).map fun (c : Nat) => steps (15 - ((digits m).getD c 0).toNat) (v.getD c [])
theorem trueEnds_snoc (seed : List UInt8) (leaf : Int) (k : Nat) : trueEnds seed leaf k ++ [steps 15 (start seed leaf k)] = trueEnds seed leaf (k + 1) := range_snoc _ _
theorem sign_snoc (seed : List UInt8) (leaf : Int) (m : List UInt8) (k : Nat) : sign seed leaf m k ++ [steps ((digits m).getD k 0).toNat (start seed leaf k)] = sign seed leaf m (k + 1) := range_snoc _ _
theorem ends_snoc (m : List UInt8) (v : List (List UInt8)) (k : Nat) : ends m v k ++ [steps (15 - ((digits m).getD k 0).toNat) (v.getD k [])] = ends m v (k + 1) := range_snoc _ _
theorem trueEnds_len (seed : List UInt8) (leaf : Int) (k : Nat) : (trueEnds seed leaf k).length = k := by simp [trueEnds]
theorem sign_len (seed : List UInt8) (leaf : Int) (m : List UInt8) (k : Nat) : (sign seed leaf m k).length = k := by simp [sign]
theorem ends_len (m : List UInt8) (v : List (List UInt8)) (k : Nat) : (ends m v k).length = k := by simp [ends]
theorem trueEnds_all (seed : List UInt8) (leaf : Int) (k : Nat) : ∀ h ∈ trueEnds seed leaf k, h.length = 32 := by
  intro h hh; obtain ⟨c, _, rfl⟩ := List.mem_map.1 hh; exact steps_len _ (start_len _ _ _)
theorem sign_all (seed : List UInt8) (leaf : Int) (m : List UInt8) (k : Nat) : ∀ h ∈ sign seed leaf m k, h.length = 32 := by
  intro h hh; obtain ⟨c, _, rfl⟩ := List.mem_map.1 hh; exact steps_len _ (start_len _ _ _)
theorem ends_all {m : List UInt8} {v : List (List UInt8)} {k : Nat} (hv : ∀ h ∈ v, h.length = 32) (hk : k ≤ v.length) : ∀ h ∈ ends m v k, h.length = 32 := by
  intro h hh
  obtain ⟨c, hc, rfl⟩ := List.mem_map.1 hh
  have hc' := List.mem_range.1 hc
  refine steps_len _ (hv _ ?_)
  rw [List.getD_eq_getElem?_getD, List.getElem?_eq_getElem (by omega)]
  exact List.getElem_mem _
theorem text_snoc {tag : List UInt8} {l : List (List UInt8)} {k : Nat} (h : k < l.length) : text tag (l.take k) ++ net (l.getD k []) = text tag (l.take (k + 1)) := by
  rw [text, text, List.append_assoc, nets_take h]
theorem text_take_le (tag : List UInt8) (l : List (List UInt8)) (k : Nat) : (text tag (l.take k)).length ≤ (text tag l).length := by
  have := nets_take_le l k
  simp only [text, List.length_append]; omega

def sum15 : List Int → Int
  | [] => 0
  | d :: l => 15 - d + sum15 l
theorem chk_nib : ∀ (l : List UInt8), sum15 (nib l) = (chk l : Int)
  | [] => rfl
  | c :: l => by
    have h := chk_nib l
    have hc := c.toNat_lt
    have e : nib (c :: l) = ((c.toNat / 16 : Nat) : Int) :: ((c.toNat % 16 : Nat) : Int) :: nib l := by simp [nib]
    rw [e, sum15, sum15, h, chk]
    omega
theorem digits_take (m : List UInt8) : (digits m).take 64 = nib (mh m) := by
  have h : (nib (mh m)).length = 64 := by rw [nib_len, mh_len]
  rw [digits, ← h, List.take_left]
theorem digits_hi (m : List UInt8) : (digits m).getD 64 0 = ((chk (mh m) / 256 : Nat) : Int) ∧ (digits m).getD 65 0 = ((chk (mh m) / 16 % 16 : Nat) : Int) ∧ (digits m).getD 66 0 = ((chk (mh m) % 16 : Nat) : Int) := by
  have h : (nib (mh m)).length = 64 := by rw [nib_len, mh_len]
  simp only [digits, List.getD_eq_getElem?_getD]
  refine ⟨?_, ?_, ?_⟩ <;> rw [List.getElem?_append_right (by omega), h] <;> rfl
theorem chk_mh_le (m : List UInt8) : chk (mh m) ≤ 960 := by have := chk_le (mh m); rw [mh_len] at this; omega
theorem checksum (m : List UInt8) : (digits m).getD 64 0 * 256 + (digits m).getD 65 0 * 16 + (digits m).getD 66 0 = sum15 ((digits m).take 64) := by
  obtain ⟨h1, h2, h3⟩ := digits_hi m
  have := chk_mh_le m
  rw [h1, h2, h3, digits_take, chk_nib]
  omega
theorem ends_at (m : List UInt8) (v : List (List UInt8)) (k c : Nat) (h : c < k) : (ends m v k).getD c [] = steps (15 - ((digits m).getD c 0).toNat) (v.getD c []) := by
  simp [ends, h]
theorem sum15_le : ∀ (a b : List Int), a.length = b.length → (∀ i, i < a.length → a.getD i 0 ≤ b.getD i 0) → sum15 b ≤ sum15 a ∧ (sum15 b = sum15 a → a = b)
  | [], [], _, _ => by simp [sum15]
  | x :: a, y :: b, hl, h => by
    have h0 := h 0 (by simp)
    simp at h0
    obtain ⟨h1, h2⟩ := sum15_le a b (by simpa using hl) (fun i hi => by have := h (i + 1) (by simpa using hi); simpa using this)
    refine ⟨by simp only [sum15]; omega, fun e => ?_⟩
    simp only [sum15] at e
    have : x = y := by omega
    subst this
    rw [h2 (by omega)]
  | [], _ :: _, hl, _ => by simp at hl
  | _ :: _, [], hl, _ => by simp at hl
theorem digits_eq (a b : List UInt8) (h : (digits a).take 64 = (digits b).take 64) : digits a = digits b := by
  rw [digits_take, digits_take] at h
  have hc : (chk (mh a) : Int) = chk (mh b) := by rw [← chk_nib, ← chk_nib, h]
  have hc' : chk (mh a) = chk (mh b) := by omega
  rw [digits, digits, h, hc']
theorem digits_le (a b : List UInt8) (h : ∀ i, i < 67 → (digits a).getD i 0 ≤ (digits b).getD i 0) : digits a = digits b := by
  have ca := checksum a
  have cb := checksum b
  have h4 := h 64 (by omega); have h5 := h 65 (by omega); have h6 := h 66 (by omega)
  have hla : ((digits a).take 64).length = 64 := by rw [List.length_take, digits_len]; rfl
  have hlb : ((digits b).take 64).length = 64 := by rw [List.length_take, digits_len]; rfl
  obtain ⟨h1, h2⟩ := sum15_le ((digits a).take 64) ((digits b).take 64) (by omega) (fun i hi => by
    rw [hla] at hi
    have := h i (by omega)
    simp only [List.getD_eq_getElem?_getD, List.getElem?_take, if_pos hi] at this ⊢
    exact this)
  exact digits_eq a b (h2 (by omega))
end Go.Au

namespace Go.Au

def leafH (b : List UInt8) : List UInt8 := tagged [108, 101, 97, 102] [b]
def node (a b : List UInt8) : List UInt8 := tagged [110, 111, 100, 101] [a, b]
def padH : List UInt8 := tagged [112, 97, 100] []
theorem node_len (a b : List UInt8) : (node a b).length = 32 := tagged_len _ _
theorem padH_len : padH.length = 32 := tagged_len _ _

def lgF : Nat → Nat → Nat
  | 0, _ => 0
  | f + 1, n => if n ≤ 1 then 0 else lgF f ((n + 1) / 2) + 1
def lg (n : Nat) : Nat := lgF n n
theorem lgF_up : ∀ (f n : Nat), n ≤ f + 1 → n ≤ 2 ^ lgF f n
  | 0, n, h => by simpa [lgF] using h
  | f + 1, n, h => by
    unfold lgF
    split
    · simpa using ‹n ≤ 1›
    · have := lgF_up f ((n + 1) / 2) (by omega)
      rw [Nat.pow_succ]; omega
theorem lgF_lo : ∀ (f n : Nat), n ≤ f + 1 → ∀ j, j < lgF f n → 2 ^ j < n
  | 0, n, _, j, hj => by simp [lgF] at hj
  | f + 1, n, h, j, hj => by
    unfold lgF at hj
    split at hj
    · omega
    · cases j with
      | zero => simp; omega
      | succ j =>
        have := lgF_lo f ((n + 1) / 2) (by omega) j (by omega)
        rw [Nat.pow_succ]; omega
theorem lg_up (n : Nat) : n ≤ 2 ^ lg n := lgF_up n n (by omega)
theorem lg_lo {n j : Nat} (h : j < lg n) : 2 ^ j < n := lgF_lo n n (by omega) j h
theorem lg_of {n k : Nat} (h : n ≤ 2 ^ k) (h' : k ≤ lg n) : k = lg n := by
  rcases Nat.lt_or_ge k (lg n) with h1 | h1
  · have := lg_lo h1; omega
  · omega
theorem lg_gt {n k : Nat} (h : 2 ^ k < n) (h' : k ≤ lg n) : k < lg n := by
  rcases Nat.lt_or_ge k (lg n) with h1 | h1
  · exact h1
  · obtain rfl : k = lg n := by omega
    have := lg_up n; omega
theorem lg_le {n m : Nat} (h : n ≤ 2 ^ m) : lg n ≤ m := by
  rcases Nat.lt_or_ge m (lg n) with h1 | h1
  · have := lg_lo h1; omega
  · exact h1
def padN (n : Nat) : Nat := 2 ^ lg n
theorem padN_le (n : Nat) : n ≤ padN n := lg_up n
theorem padN_lt (n m : Nat) (h : n ≤ 2 ^ m) : padN n ≤ 2 ^ m := Nat.pow_le_pow_right (by omega) (lg_le h)

def upTo (r : List (List UInt8)) (j : Nat) : List (List UInt8) := (List.range j).map fun i => node (r.getD (2 * i) []) (r.getD (2 * i + 1) [])
def up (r : List (List UInt8)) : List (List UInt8) := upTo r (r.length / 2)
theorem upTo_len (r : List (List UInt8)) (j : Nat) : (upTo r j).length = j := by simp [upTo]
theorem up_len (r : List (List UInt8)) : (up r).length = r.length / 2 := upTo_len _ _
theorem upTo_snoc (r : List (List UInt8)) (j : Nat) : upTo r j ++ [node (r.getD (2 * j) []) (r.getD (2 * j + 1) [])] = upTo r (j + 1) := by
  simp [upTo, List.range_succ]
theorem upTo_all (r : List (List UInt8)) (j : Nat) : ∀ h ∈ upTo r j, h.length = 32 := by
  intro h hh; obtain ⟨i, _, rfl⟩ := List.mem_map.1 hh; exact node_len _ _
def ups (r : List (List UInt8)) : Nat → List (List UInt8)
  | 0 => r
  | k + 1 => up (ups r k)
theorem ups_len {r : List (List UInt8)} {m : Nat} (h : r.length = 2 ^ m) : ∀ k, k ≤ m → (ups r k).length = 2 ^ (m - k)
  | 0, _ => h
  | k + 1, hk => by
    rw [ups, up_len, ups_len h k (by omega), show m - k = (m - (k + 1)) + 1 by omega, Nat.pow_succ]; omega
theorem ups_all {r : List (List UInt8)} (h : ∀ b ∈ r, b.length = 32) : ∀ k, ∀ b ∈ ups r k, b.length = 32
  | 0 => h
  | _ + 1 => upTo_all _ _
def padTo (l : List (List UInt8)) : Nat → List (List UInt8)
  | 0 => l
  | k + 1 => padTo l k ++ [padH]
theorem padTo_len (l : List (List UInt8)) : ∀ k, (padTo l k).length = l.length + k
  | 0 => rfl
  | k + 1 => by rw [padTo, List.length_append, padTo_len l k]; rfl
theorem padTo_all {l : List (List UInt8)} (h : ∀ b ∈ l, b.length = 32) : ∀ k, ∀ b ∈ padTo l k, b.length = 32
  | 0 => h
  | k + 1 => by
    intro b hb
    rcases List.mem_append.1 hb with h1 | h1
    · exact padTo_all h k b h1
    · rw [List.mem_singleton.1 h1]; exact padH_len
def rowP (l : List (List UInt8)) : List (List UInt8) := padTo l (padN l.length - l.length)
theorem rowP_len (l : List (List UInt8)) : (rowP l).length = 2 ^ lg l.length := by
  have := padN_le l.length
  rw [rowP, padTo_len]; show _ = padN _; omega
theorem rowP_all {l : List (List UInt8)} (h : ∀ b ∈ l, b.length = 32) : ∀ b ∈ rowP l, b.length = 32 := padTo_all h _
def levels (r : List (List UInt8)) (k : Nat) : List (List (List UInt8)) := (List.range k).map (ups r)
theorem levels_len (r : List (List UInt8)) (k : Nat) : (levels r k).length = k := by simp [levels]
theorem levels_snoc (r : List (List UInt8)) (k : Nat) : levels r k ++ [ups r k] = levels r (k + 1) := by simp [levels, List.range_succ]
theorem levels_at (r : List (List UInt8)) (k : Nat) : (levels r (k + 1)).getD k [] = ups r k := by simp [levels, List.getD_eq_getElem?_getD]
def root (l : List (List UInt8)) : List UInt8 := (ups (rowP l) (lg l.length)).getD 0 []
theorem root_len {l : List (List UInt8)} (h : ∀ b ∈ l, b.length = 32) : (root l).length = 32 := by
  have h1 := ups_len (rowP_len l) (lg l.length) (Nat.le_refl _)
  rw [Nat.sub_self] at h1
  have h2 := ups_all (rowP_all h) (lg l.length)
  unfold root
  rw [List.getD_eq_getElem?_getD, List.getElem?_eq_getElem (by omega)]
  exact h2 _ (List.getElem_mem _)
theorem ups_more {r : List (List UInt8)} {m k : Nat} (h : r.length = 2 ^ m) (hk : k ≤ m) (h1 : 1 < (ups r k).length) : k < m := by
  rcases Nat.lt_or_ge k m with h2 | h2
  · exact h2
  · obtain rfl : k = m := by omega
    rw [ups_len h k (Nat.le_refl _), Nat.sub_self] at h1
    simp at h1
theorem ups_even {r : List (List UInt8)} {m k : Nat} (h : r.length = 2 ^ m) (hk : k < m) : (ups r k).length % 2 = 0 := by
  rw [ups_len h k (by omega), show m - k = (m - k - 1) + 1 by omega, Nat.pow_succ]; omega
theorem ups_done {r : List (List UInt8)} {m k : Nat} (h : r.length = 2 ^ m) (hk : k ≤ m) (h1 : ¬ 1 < (ups r k).length) : k = m := by
  rcases Nat.lt_or_ge k m with h2 | h2
  · rw [ups_len h k hk, show m - k = (m - k - 1) + 1 by omega, Nat.pow_succ] at h1
    have := Nat.pow_pos (n := m - k - 1) (show 0 < 2 by omega)
    omega
  · omega
theorem ups_bd {l : List (List UInt8)} {k : Nat} (h : l.length ≤ 1024) (hk : k ≤ lg l.length) : (ups (rowP l) k).length ≤ 1024 ∧ 0 < (ups (rowP l) k).length := by
  rw [ups_len (rowP_len l) k hk]
  have h1 : lg l.length ≤ 10 := lg_le (by omega)
  exact ⟨(show 2 ^ (lg l.length - k) ≤ 2 ^ 10 from Nat.pow_le_pow_right (by omega) (by omega)), Nat.pow_pos (by omega)⟩
end Go.Au

namespace Go.Au
def sib (i : Nat) : Nat := if i % 2 = 0 then i + 1 else i - 1
theorem sib_lt {i m : Nat} (hm : m % 2 = 0) (h : i < m) : sib i < m := by unfold sib; split <;> omega
def beside (r : List (List UInt8)) (i k : Nat) : List (List UInt8) := (List.range k).map fun j => (ups r j).getD (sib (i / 2 ^ j)) []
theorem beside_len (r : List (List UInt8)) (i k : Nat) : (beside r i k).length = k := by simp [beside]
theorem beside_snoc (r : List (List UInt8)) (i k : Nat) : beside r i k ++ [(ups r k).getD (sib (i / 2 ^ k)) []] = beside r i (k + 1) := by simp [beside, List.range_succ]
theorem range_at {α : Type} (f : Nat → α) (d : α) {k j : Nat} (h : j < k) : ((List.range k).map f).getD j d = f j := by
  rw [List.getD_eq_getElem?_getD, List.getElem?_map, List.getElem?_range h]; rfl
theorem beside_at (r : List (List UInt8)) (i : Nat) {k j : Nat} (h : j < k) : (beside r i k).getD j [] = (ups r j).getD (sib (i / 2 ^ j)) [] := range_at _ _ h
theorem half_lt {i m k : Nat} (h : i < 2 ^ m) (hk : k ≤ m) : i / 2 ^ k < 2 ^ (m - k) := by
  rw [Nat.div_lt_iff_lt_mul (Nat.pow_pos (by omega)), ← Nat.pow_add, Nat.sub_add_cancel hk]; exact h
theorem half_succ (i k : Nat) : i / 2 ^ k / 2 = i / 2 ^ (k + 1) := by rw [Nat.div_div_eq_div_mul, Nat.pow_succ]
theorem getD_len {l : List (List UInt8)} {n : Nat} (h : ∀ b ∈ l, b.length = n) {q : Nat} (hq : q < l.length) : (l.getD q []).length = n := by
  rw [List.getD_eq_getElem?_getD, List.getElem?_eq_getElem hq]; exact h _ (List.getElem_mem _)
theorem beside_all {l : List (List UInt8)} (h : ∀ b ∈ l, b.length = 32) {i : Nat} (hi : i < l.length) {k : Nat} (hk : k ≤ lg l.length) : ∀ b ∈ beside (rowP l) i k, b.length = 32 := by
  intro b hb
  obtain ⟨j, hj, rfl⟩ := List.mem_map.1 hb
  rw [List.mem_range] at hj
  have hlt : i / 2 ^ j < 2 ^ (lg l.length - j) := half_lt (Nat.lt_of_lt_of_le hi (lg_up _)) (by omega)
  refine getD_len (ups_all (rowP_all h) j) ?_
  rw [ups_len (rowP_len l) j (by omega)]
  refine sib_lt ?_ hlt
  rw [show lg l.length - j = (lg l.length - j - 1) + 1 by omega, Nat.pow_succ]; omega

def onW (i : Nat) (x q : List UInt8) : List UInt8 := if i % 2 = 1 then q ++ x else x ++ q
def textN (a b : List UInt8) : List UInt8 := text [110, 111, 100, 101] [a, b]
def textP (xy : List UInt8) : List UInt8 := textN (xy.take 32) (xy.drop 32)
def nodeP (xy : List UInt8) : List UInt8 := node (xy.take 32) (xy.drop 32)
theorem nodeP_sha (xy : List UInt8) : nodeP xy = Go.Sha.sha (textP xy) := rfl
theorem nodeP_len (xy : List UInt8) : (nodeP xy).length = 32 := node_len _ _
theorem nodeP_app {a b : List UInt8} (h : a.length = 32) : nodeP (a ++ b) = node a b := by
  unfold nodeP; rw [List.take_left' h, List.drop_left' h]
theorem textP_app {a b : List UInt8} (h : a.length = 32) : textP (a ++ b) = textN a b := by
  unfold textP; rw [List.take_left' h, List.drop_left' h]
theorem onW_len {i : Nat} {x q : List UInt8} (hx : x.length = 32) (hq : q.length = 32) : (onW i x q).length = 64 := by
  unfold onW; split <;> simp [hx, hq]
theorem onW_inj {i : Nat} {x q y r : List UInt8} (hx : x.length = 32) (hq : q.length = 32) (hy : y.length = 32) (hr : r.length = 32) (h : onW i x q = onW i y r) : x = y ∧ q = r := by
  unfold onW at h
  split at h
  · obtain ⟨a, b⟩ := List.append_inj h (by omega); exact ⟨b, a⟩
  · exact List.append_inj h (by omega)
theorem onW_take (i : Nat) {x q : List UInt8} (hx : x.length = 32) (hq : q.length = 32) : nodeP (onW i x q) = if i % 2 = 1 then node q x else node x q := by
  unfold onW; split
  · exact nodeP_app hq
  · exact nodeP_app hx
def climb (i : Nat) (x : List UInt8) (p : List (List UInt8)) : Nat → List UInt8
  | 0 => x
  | k + 1 => nodeP (onW (i / 2 ^ k) (climb i x p k) (p.getD k []))
theorem climb_len (i : Nat) {x : List UInt8} (hx : x.length = 32) (p : List (List UInt8)) : ∀ k, (climb i x p k).length = 32
  | 0 => hx
  | _ + 1 => nodeP_len _
def ways (i : Nat) (x : List UInt8) (p : List (List UInt8)) (k : Nat) : List (List UInt8) := (List.range k).map fun j => onW (i / 2 ^ j) (climb i x p j) (p.getD j [])
theorem ways_len (i : Nat) (x : List UInt8) (p : List (List UInt8)) (k : Nat) : (ways i x p k).length = k := by simp [ways]
theorem ways_snoc (i : Nat) (x : List UInt8) (p : List (List UInt8)) (k : Nat) : ways i x p k ++ [onW (i / 2 ^ k) (climb i x p k) (p.getD k [])] = ways i x p (k + 1) := by simp [ways, List.range_succ]
theorem ways_at (i : Nat) (x : List UInt8) (p : List (List UInt8)) {k j : Nat} (h : j < k) : (ways i x p k).getD j [] = onW (i / 2 ^ j) (climb i x p j) (p.getD j []) := range_at _ _ h
theorem ways_all (i : Nat) {x : List UInt8} (hx : x.length = 32) {p : List (List UInt8)} (hp : ∀ b ∈ p, b.length = 32) {k : Nat} (hk : k ≤ p.length) : ∀ b ∈ ways i x p k, b.length = 64 := by
  intro b hb
  obtain ⟨j, hj, rfl⟩ := List.mem_map.1 hb
  rw [List.mem_range] at hj
  exact onW_len (climb_len i hx p j) (getD_len hp (by omega))
def okW (n i : Int) (m : Nat) : Bool := decide (0 ≤ i ∧ i < n ∧ n ≤ 256 ∧ m = lg n.toNat)
def climbH (n i : Int) (x : List UInt8) (p : List (List UInt8)) : List UInt8 := if okW n i p.length then climb i.toNat x p p.length else List.replicate 32 0
def waysH (n i : Int) (x : List UInt8) (p : List (List UInt8)) : List (List UInt8) := if okW n i p.length then ways i.toNat x p p.length else []
theorem climbH_len (n i : Int) {x : List UInt8} (hx : x.length = 32) (p : List (List UInt8)) : (climbH n i x p).length = 32 := by
  unfold climbH; split
  · exact climb_len _ hx _ _
  · simp
theorem waysH_all (n i : Int) {x : List UInt8} (hx : x.length = 32) {p : List (List UInt8)} (hp : ∀ b ∈ p, b.length = 32) : ∀ b ∈ waysH n i x p, b.length = 64 := by
  unfold waysH; split
  · exact ways_all _ hx hp (Nat.le_refl _)
  · intro b hb; cases hb
theorem okW_of {n i : Int} {m : Nat} (h : okW n i m = true) : 0 ≤ i ∧ i < n ∧ n ≤ 256 ∧ m = lg n.toNat := of_decide_eq_true h
theorem okW_mk {n i : Int} {m : Nat} (h : 0 ≤ i ∧ i < n ∧ n ≤ 256 ∧ m = lg n.toNat) : okW n i m = true := decide_eq_true h
theorem okW_no {n i : Int} {m : Nat} (h : ¬ (0 ≤ i ∧ i < n ∧ n ≤ 256 ∧ m = lg n.toNat)) : okW n i m = false := decide_eq_false h
theorem climbH_ok {n i : Int} {x : List UInt8} {p : List (List UInt8)} (h : okW n i p.length = true) : climbH n i x p = climb i.toNat x p p.length := by unfold climbH; rw [if_pos h]
theorem climbH_no {n i : Int} {x : List UInt8} {p : List (List UInt8)} (h : okW n i p.length = false) : climbH n i x p = List.replicate 32 0 := by unfold climbH; rw [if_neg (by simp [h])]
theorem waysH_ok {n i : Int} {x : List UInt8} {p : List (List UInt8)} (h : okW n i p.length = true) : waysH n i x p = ways i.toNat x p p.length := by unfold waysH; rw [if_pos h]
theorem waysH_no {n i : Int} {x : List UInt8} {p : List (List UInt8)} (h : okW n i p.length = false) : waysH n i x p = [] := by unfold waysH; rw [if_neg (by simp [h])]

theorem up_at (r : List (List UInt8)) {j : Nat} (h : j < r.length / 2) : (up r).getD j [] = node (r.getD (2 * j) []) (r.getD (2 * j + 1) []) := range_at _ _ h
theorem climb_beside {r : List (List UInt8)} (hr : ∀ b ∈ r, b.length = 32) {m i : Nat} (hl : r.length = 2 ^ m) (hi : i < 2 ^ m) {p : List (List UInt8)} (hp : ∀ j, j < m → p.getD j [] = (ups r j).getD (sib (i / 2 ^ j)) []) : ∀ k, k ≤ m → climb i (r.getD i []) p k = (ups r k).getD (i / 2 ^ k) []
  | 0, _ => by simp [climb, ups]
  | k + 1, hk => by
    have ih := climb_beside hr hl hi hp k (by omega)
    have hu := ups_len hl k (by omega)
    have h2 : 2 ^ (m - k) = 2 * 2 ^ (m - (k + 1)) := by rw [show m - k = (m - (k + 1)) + 1 by omega, Nat.pow_succ]; omega
    have hlt := half_lt hi (show k ≤ m by omega)
    have hs := half_succ i k
    have hall := ups_all hr k
    rw [climb, ih, hp k (by omega), ups]
    generalize hg : i / 2 ^ k = q at *
    have hsl : sib q < 2 ^ (m - k) := sib_lt (by omega) hlt
    rw [onW_take q (getD_len hall (by omega)) (getD_len hall (by omega)), ← hs, up_at _ (by omega)]
    unfold sib
    by_cases e : q % 2 = 1
    · rw [if_pos e, if_neg (by omega), show 2 * (q / 2) = q - 1 by omega, show q - 1 + 1 = q by omega]
    · rw [if_neg e, if_pos (by omega), show 2 * (q / 2) = q by omega]
theorem rowP_at {l : List (List UInt8)} {i : Nat} (h : i < l.length) : (rowP l).getD i [] = l.getD i [] := by
  have : ∀ k, (padTo l k).getD i [] = l.getD i [] := by
    intro k
    induction k with
    | zero => rfl
    | succ k ih =>
      rw [padTo, ← ih, List.getD_eq_getElem?_getD, List.getD_eq_getElem?_getD, List.getElem?_append_left (by rw [padTo_len]; omega)]
  exact this _
theorem climb_root {l : List (List UInt8)} (h : ∀ b ∈ l, b.length = 32) {i : Nat} (hi : i < l.length) : climb i (l.getD i []) (beside (rowP l) i (lg l.length)) (lg l.length) = root l := by
  have h1 := climb_beside (rowP_all h) (rowP_len l) (i := i) (Nat.lt_of_lt_of_le hi (lg_up _)) (p := beside (rowP l) i (lg l.length)) (fun j hj => beside_at _ _ hj) (lg l.length) (Nat.le_refl _)
  rw [rowP_at hi] at h1
  rw [h1, Nat.div_eq_of_lt (Nat.lt_of_lt_of_le hi (lg_up _))]; rfl
theorem okW_beside {l : List (List UInt8)} (hl : l.length ≤ 256) {i : Int} (h0 : 0 ≤ i) (hi : i < l.length) (r : List (List UInt8)) (q : Nat) : okW (l.length : Int) i (beside r q (lg l.length)).length = true :=
  okW_mk ⟨h0, hi, by omega, by rw [beside_len, Int.toNat_natCast]⟩
theorem climbH_root {l : List (List UInt8)} (h : ∀ b ∈ l, b.length = 32) (hl : l.length ≤ 256) {i : Int} (h0 : 0 ≤ i) (hi : i < l.length) : climbH (l.length : Int) i (l.getD i.toNat []) (beside (rowP l) i.toNat (lg l.length)) = root l := by
  rw [climbH_ok (okW_beside hl h0 hi _ _), beside_len]
  exact climb_root h (by omega)

theorem textN_inj {a b c d : List UInt8} (ha : a.length = 32) (hb : b.length = 32) (hc : c.length = 32) (hd : d.length = 32) (h : textN a b = textN c d) : a = c ∧ b = d := by
  unfold textN text at h
  have h1 := List.append_cancel_left h
  simp only [nets_cons, nets_nil, List.append_nil, net, ha, hb, hc, hd, List.append_assoc] at h1
  have h2 := List.append_cancel_left (List.append_cancel_left h1)
  obtain ⟨e1, h3⟩ := List.append_inj h2 (by omega)
  have h4 := List.append_cancel_left (List.append_cancel_left (List.append_cancel_left h3))
  exact ⟨e1, (List.append_inj h4 (by omega)).1⟩
theorem textP_inj {x y : List UInt8} (hx : x.length = 64) (hy : y.length = 64) (h : textP x = textP y) : x = y := by
  obtain ⟨a, b⟩ := textN_inj (by simp; omega) (by simp; omega) (by simp; omega) (by simp; omega) h
  rw [← List.take_append_drop 32 x, ← List.take_append_drop 32 y, a, b]
def lastNe (x y : List (List UInt8)) : Nat → Option Nat
  | 0 => none
  | k + 1 => if x.getD k [] = y.getD k [] then lastNe x y k else some k
theorem lastNe_none {x y : List (List UInt8)} : ∀ {k : Nat}, lastNe x y k = none → ∀ j, j < k → x.getD j [] = y.getD j []
  | 0, _, j, hj => by omega
  | k + 1, h, j, hj => by
    unfold lastNe at h
    split at h
    · rename_i e
      rcases Nat.lt_or_ge j k with h1 | h1
      · exact lastNe_none h j h1
      · obtain rfl : j = k := by omega
        exact e
    · cases h
theorem lastNe_some {x y : List (List UInt8)} : ∀ {k j : Nat}, lastNe x y k = some j → j < k ∧ x.getD j [] ≠ y.getD j [] ∧ ∀ q, j < q → q < k → x.getD q [] = y.getD q []
  | 0, j, h => by cases h
  | k + 1, j, h => by
    unfold lastNe at h
    split at h
    · rename_i e
      obtain ⟨h1, h2, h3⟩ := lastNe_some h
      refine ⟨by omega, h2, fun q a b => ?_⟩
      rcases Nat.lt_or_ge q k with h4 | h4
      · exact h3 q a h4
      · obtain rfl : q = k := by omega
        exact e
    · rename_i e
      obtain rfl := Option.some.inj h
      exact ⟨by omega, e, fun q a b => by omega⟩
def brk (n i : Int) (a b : List UInt8) (p q : List (List UInt8)) : Option (List UInt8 × List UInt8) :=
  if okW n i p.length = true ∧ okW n i q.length = true ∧ climbH n i a p = climbH n i b q then
    (lastNe (waysH n i a p) (waysH n i b q) p.length).map fun k => (textP ((waysH n i a p).getD k []), textP ((waysH n i b q).getD k []))
  else none
theorem waysH_len {n i : Int} {x : List UInt8} {p : List (List UInt8)} (h : okW n i p.length = true) : (waysH n i x p).length = p.length := by rw [waysH_ok h, ways_len]
theorem lastNe_at {x y : List (List UInt8)} {j : Nat} (h : ¬ x.getD j [] = y.getD j []) : lastNe x y (j + 1) = some j := if_neg h
theorem lastNe_eq {x y : List (List UInt8)} {j : Nat} (h : x.getD j [] = y.getD j []) : lastNe x y (j + 1) = lastNe x y j := if_pos h
def brA (o : Option (List UInt8 × List UInt8)) : List UInt8 := match o with | some x => x.1 | none => []
def brB (o : Option (List UInt8 × List UInt8)) : List UInt8 := match o with | some x => x.2 | none => []
theorem ways_top {i : Nat} {a b : List UInt8} (ha : a.length = 32) (hb : b.length = 32) {p q : List (List UInt8)} (hp : ∀ x ∈ p, x.length = 32) (hq : ∀ x ∈ q, x.length = 32) {m : Nat} (hpm : m ≤ p.length) (hqm : m ≤ q.length) (h : climb i a p m = climb i b q m) :
    ∀ d j, j + d = m → (∀ k, j ≤ k → k < m → (ways i a p m).getD k [] = (ways i b q m).getD k []) → climb i a p j = climb i b q j ∧ ∀ k, j ≤ k → k < m → p.getD k [] = q.getD k []
  | 0, j, hj, _ => by
    obtain rfl : j = m := by omega
    exact ⟨h, fun k a b => by omega⟩
  | d + 1, j, hj, he => by
    obtain ⟨_, h2⟩ := ways_top ha hb hp hq hpm hqm h d (j + 1) (by omega) (fun k a b => he k (by omega) b)
    have e := he j (Nat.le_refl _) (by omega)
    rw [ways_at _ _ _ (by omega), ways_at _ _ _ (by omega)] at e
    obtain ⟨e1, e2⟩ := onW_inj (climb_len i ha p j) (getD_len hp (by omega)) (climb_len i hb q j) (getD_len hq (by omega)) e
    refine ⟨e1, fun k x y => ?_⟩
    rcases Nat.lt_or_ge j k with h3 | h3
    · exact h2 k h3 y
    · obtain rfl : k = j := by omega
      exact e2
theorem brk_at {i : Nat} {a b : List UInt8} (ha : a.length = 32) (hb : b.length = 32) {p q : List (List UInt8)} (hp : ∀ x ∈ p, x.length = 32) (hq : ∀ x ∈ q, x.length = 32) {m : Nat} (hpm : m ≤ p.length) (hqm : m ≤ q.length) (h : climb i a p m = climb i b q m)
    {j : Nat} (hj : j < m) (he : ∀ k, j < k → k < m → (ways i a p m).getD k [] = (ways i b q m).getD k []) : Go.Sha.sha (textP ((ways i a p m).getD j [])) = Go.Sha.sha (textP ((ways i b q m).getD j [])) := by
  have h1 := (ways_top ha hb hp hq hpm hqm h (m - (j + 1)) (j + 1) (by omega) (fun k x y => he k (by omega) y)).1
  rw [ways_at _ _ _ hj, ways_at _ _ _ hj, ← nodeP_sha, ← nodeP_sha]
  exact h1
theorem textP_ne {i : Nat} {a b : List UInt8} (ha : a.length = 32) (hb : b.length = 32) {p q : List (List UInt8)} (hp : ∀ x ∈ p, x.length = 32) (hq : ∀ x ∈ q, x.length = 32) {m : Nat} (hpm : m ≤ p.length) (hqm : m ≤ q.length) {j : Nat} (hj : j < m) :
    textP ((ways i a p m).getD j []) = textP ((ways i b q m).getD j []) ↔ (ways i a p m).getD j [] = (ways i b q m).getD j [] := by
  refine ⟨fun h => textP_inj ?_ ?_ h, fun h => by rw [h]⟩
  · exact getD_len (ways_all i ha hp hpm) (by rw [ways_len]; exact hj)
  · exact getD_len (ways_all i hb hq hqm) (by rw [ways_len]; exact hj)
section
variable {n i : Int} {a b : List UInt8} {p q : List (List UInt8)}
theorem brk_some (ha : a.length = 32) (hb : b.length = 32) (hp : ∀ x ∈ p, x.length = 32) (hq : ∀ x ∈ q, x.length = 32) {A B : List UInt8} (h : brk n i a b p q = some (A, B)) : A ≠ B ∧ Go.Sha.sha A = Go.Sha.sha B := by
  unfold brk at h
  split at h
  · rename_i hc
    obtain ⟨h1, h2, h3⟩ := hc
    have e1 := okW_of h1
    have e2 := okW_of h2
    rw [climbH_ok h1, climbH_ok h2] at h3
    have hl : q.length = p.length := by omega
    rw [hl] at h3
    rw [waysH_ok h1, waysH_ok h2, hl] at h
    cases hk : lastNe (ways i.toNat a p p.length) (ways i.toNat b q p.length) p.length with
    | none => rw [hk] at h; cases h
    | some k =>
      rw [hk] at h
      obtain ⟨k1, k2, k3⟩ := lastNe_some hk
      simp only [Option.map_some, Option.some.injEq, Prod.mk.injEq] at h
      obtain ⟨rfl, rfl⟩ := h
      exact ⟨fun e => k2 ((textP_ne ha hb hp hq (Nat.le_refl _) (by omega) k1).1 e), brk_at ha hb hp hq (Nat.le_refl _) (by omega) h3 k1 k3⟩
  · cases h
theorem brk_isSome (ha : a.length = 32) (hb : b.length = 32) (hp : ∀ x ∈ p, x.length = 32) (hq : ∀ x ∈ q, x.length = 32) :
    (brk n i a b p q).isSome = decide (okW n i p.length = true ∧ okW n i q.length = true ∧ climbH n i a p = climbH n i b q ∧ ¬ (a = b ∧ p = q)) := by
  unfold brk
  split
  · rename_i hc
    obtain ⟨h1, h2, h3⟩ := hc
    have e1 := okW_of h1
    have e2 := okW_of h2
    have h3' := h3
    rw [climbH_ok h1, climbH_ok h2] at h3'
    have hl : q.length = p.length := by omega
    rw [hl] at h3'
    have ew : ways i.toNat b q q.length = ways i.toNat b q p.length := by rw [hl]
    rw [waysH_ok h1, waysH_ok h2, ew]
    cases hk : lastNe (ways i.toNat a p p.length) (ways i.toNat b q p.length) p.length with
    | none =>
      have hn := lastNe_none hk
      obtain ⟨t1, t2⟩ := ways_top ha hb hp hq (Nat.le_refl _) (by omega) h3' p.length 0 (by omega) (fun k _ y => hn k y)
      have hpq : p = q := by
        refine List.ext_getElem hl.symm fun k x y => ?_
        have := t2 k (by omega) x
        rwa [List.getD_eq_getElem?_getD, List.getD_eq_getElem?_getD, List.getElem?_eq_getElem x, List.getElem?_eq_getElem y] at this
      symm
      simp only [Option.map_none, Option.isSome_none, decide_eq_false_iff_not]
      intro hh; exact hh.2.2.2 ⟨t1, hpq⟩
    | some k =>
      obtain ⟨k1, k2, k3⟩ := lastNe_some hk
      symm
      simp only [Option.map_some, Option.isSome_some, decide_eq_true_eq]
      refine ⟨h1, h2, h3, fun hh => k2 ?_⟩
      obtain ⟨rfl, rfl⟩ := hh
      rfl
  · rename_i hc
    symm
    simp only [Option.isSome_none, decide_eq_false_iff_not]
    intro hh; exact hc ⟨hh.1, hh.2.1, hh.2.2.1⟩
theorem brk_no1 (h : okW n i p.length = false) : brk n i a b p q = none := by unfold brk; rw [if_neg (by simp [h])]
theorem brk_no2 (h : okW n i q.length = false) : brk n i a b p q = none := by unfold brk; rw [if_neg (by simp [h])]
theorem brk_no3 (h : ¬ climbH n i a p = climbH n i b q) : brk n i a b p q = none := by unfold brk; rw [if_neg (by simp [h])]
theorem brk_eq (h1 : okW n i p.length = true) (h2 : okW n i q.length = true) (h3 : climbH n i a p = climbH n i b q) {o : Option Nat} (h4 : lastNe (waysH n i a p) (waysH n i b q) p.length = o) :
    brk n i a b p q = o.map fun k => (textP ((waysH n i a p).getD k []), textP ((waysH n i b q).getD k [])) := by
  unfold brk; rw [if_pos ⟨h1, h2, h3⟩, h4]
theorem brk_step (ha : a.length = 32) (hb : b.length = 32) (hp : ∀ x ∈ p, x.length = 32) (hq : ∀ x ∈ q, x.length = 32) (h1 : okW n i p.length = true) (h2 : okW n i q.length = true) (h3 : climbH n i a p = climbH n i b q) {j : Nat} (hj : j < p.length)
    (hi : lastNe (waysH n i a p) (waysH n i b q) p.length = lastNe (waysH n i a p) (waysH n i b q) (j + 1))
    (h : (!decide (textP ((waysH n i a p).getD j []) = textP ((waysH n i b q).getD j [])) && decide (Go.Sha.sha (textP ((waysH n i a p).getD j [])) = Go.Sha.sha (textP ((waysH n i b q).getD j [])))) = false) :
    (waysH n i a p).getD j [] = (waysH n i b q).getD j [] := by
  have e1 := okW_of h1
  have e2 := okW_of h2
  have hl : q.length = p.length := by omega
  rw [climbH_ok h1, climbH_ok h2, hl] at h3
  rw [waysH_ok h1, waysH_ok h2, hl] at h hi ⊢
  refine Decidable.byContradiction fun hne => ?_
  rw [lastNe_at hne] at hi
  obtain ⟨_, _, k3⟩ := lastNe_some hi
  have hs := brk_at ha hb hp hq (Nat.le_refl _) (by omega) h3 hj k3
  have ht := fun e => hne ((textP_ne ha hb hp hq (Nat.le_refl _) (by omega) hj).1 e)
  rw [decide_eq_false ht, decide_eq_true hs] at h
  simp at h
theorem brk_same : brk n i a a p p = none := by
  unfold brk; split
  · have : ∀ k, lastNe (waysH n i a p) (waysH n i a p) k = none := fun k => by
      induction k with
      | zero => rfl
      | succ k ih => unfold lastNe; rw [if_pos rfl]; exact ih
    rw [this]; rfl
  · rfl
end
def wtexts (i : Nat) (x : List UInt8) (p : List (List UInt8)) (k : Nat) : List (List UInt8) := (ways i x p k).map textP
theorem wtexts_len (i : Nat) (x : List UInt8) (p : List (List UInt8)) (k : Nat) : (wtexts i x p k).length = k := by rw [wtexts, List.length_map, ways_len]
theorem wtexts_snoc (i : Nat) (x : List UInt8) (p : List (List UInt8)) (k : Nat) : wtexts i x p k ++ [textP (onW (i / 2 ^ k) (climb i x p k) (p.getD k []))] = wtexts i x p (k + 1) := by rw [wtexts, wtexts, ← ways_snoc, List.map_append]; rfl
theorem wtexts_at (i : Nat) (x : List UInt8) (p : List (List UInt8)) {j k : Nat} (h : j < k) : (wtexts i x p k).getD j [] = textP ((ways i x p k).getD j []) := by
  rw [ways_at _ _ _ h, wtexts, ways, List.map_map]; exact range_at _ _ h
end Go.Au
