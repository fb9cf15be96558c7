/- General lemmas for walking the code, or plain mathematics. -/
set_option linter.unusedVariables false
set_option linter.unusedSimpArgs false
set_option maxRecDepth 8192
namespace Go.Sha

abbrev Wd := BitVec 32

def rotr (a : Wd) (n : Nat) : Wd := a >>> n ||| a <<< (32 - n)
def s0 (x : Wd) : Wd := rotr x 7 ^^^ rotr x 18 ^^^ x >>> 3
def s1 (x : Wd) : Wd := rotr x 17 ^^^ rotr x 19 ^^^ x >>> 10
def S1 (x : Wd) : Wd := rotr x 6 ^^^ rotr x 11 ^^^ rotr x 25
def S0 (x : Wd) : Wd := rotr x 2 ^^^ rotr x 13 ^^^ rotr x 22

def table : List Wd := [0x428a2f98, 0x71374491, 0xb5c0fbcf, 0xe9b5dba5, 0x3956c25b, 0x59f111f1, 0x923f82a4, 0xab1c5ed5,
  0xd807aa98, 0x12835b01, 0x243185be, 0x550c7dc3, 0x72be5d74, 0x80deb1fe, 0x9bdc06a7, 0xc19bf174,
  0xe49b69c1, 0xefbe4786, 0x0fc19dc6, 0x240ca1cc, 0x2de92c6f, 0x4a7484aa, 0x5cb0a9dc, 0x76f988da,
  0x983e5152, 0xa831c66d, 0xb00327c8, 0xbf597fc7, 0xc6e00bf3, 0xd5a79147, 0x06ca6351, 0x14292967,
  0x27b70a85, 0x2e1b2138, 0x4d2c6dfc, 0x53380d13, 0x650a7354, 0x766a0abb, 0x81c2c92e, 0x92722c85,
  0xa2bfe8a1, 0xa81a664b, 0xc24b8b70, 0xc76c51a3, 0xd192e819, 0xd6990624, 0xf40e3585, 0x106aa070,
  0x19a4c116, 0x1e376c08, 0x2748774c, 0x34b0bcb5, 0x391c0cb3, 0x4ed8aa4a, 0x5b9cca4f, 0x682e6ff3,
  0x748f82ee, 0x78a5636f, 0x84c87814, 0x8cc70208, 0x90befffa, 0xa4506ceb, 0xbef9a3f7, 0xc67178f2]
def begin : List Wd := [0x6a09e667, 0xbb67ae85, 0x3c6ef372, 0xa54ff53a, 0x510e527f, 0x9b05688c, 0x1f83d9ab, 0x5be0cd19]

def wd (b : UInt8) : Wd := b.toBitVec.setWidth 32
def be (l : List UInt8) (i : Nat) : Wd := wd (l.getD (4 * i) 0) <<< 24 ||| wd (l.getD (4 * i + 1) 0) <<< 16 ||| wd (l.getD (4 * i + 2) 0) <<< 8 ||| wd (l.getD (4 * i + 3) 0)

def sched (l : List UInt8) : Nat → List Wd
  | 0 => []
  | i + 1 => let r := sched l i
    r ++ [if i < 16 then be l i else r.getD (i - 16) 0 + s0 (r.getD (i - 15) 0) + r.getD (i - 7) 0 + s1 (r.getD (i - 2) 0)]

theorem sched_len (l : List UInt8) : ∀ i, (sched l i).length = i
  | 0 => rfl
  | i + 1 => by simp [sched, sched_len l i]

theorem sched_get (l : List UInt8) (j : Nat) : ∀ i, j < i → (sched l i).getD j 0 = (sched l (j + 1)).getD j 0
  | 0, h => absurd h (Nat.not_lt_zero _)
  | i + 1, h => by
    by_cases e : j = i
    · subst e; rfl
    · have h1 := sched_get l j i (by omega)
      rw [← h1]
      have hl := sched_len l i
      simp only [sched, List.getD_eq_getElem?_getD]
      rw [List.getElem?_append_left (by omega)]

def rnd (v : List Wd) (k w : Wd) : List Wd :=
  let a := v.getD 0 0; let e := v.getD 4 0
  let t := v.getD 7 0 + S1 e + (e &&& v.getD 5 0 ^^^ ~~~e &&& v.getD 6 0) + k + w
  let m := a &&& v.getD 1 0 ^^^ a &&& v.getD 2 0 ^^^ v.getD 1 0 &&& v.getD 2 0
  [t + S0 a + m, a, v.getD 1 0, v.getD 2 0, v.getD 3 0 + t, e, v.getD 5 0, v.getD 6 0]

def rnds (l : List UInt8) (h : List Wd) : Nat → List Wd
  | 0 => h
  | i + 1 => rnd (rnds l h i) (table.getD i 0) ((sched l 64).getD i 0)

theorem rnds_len (l : List UInt8) (h : List Wd) (hh : h.length = 8) : ∀ i, (rnds l h i).length = 8
  | 0 => hh
  | _ + 1 => rfl

def mix (h : List Wd) (l : List UInt8) : List Wd := List.zipWith (· + ·) h (rnds l h 64)

theorem mix_len (h : List Wd) (l : List UInt8) (hh : h.length = 8) : (mix h l).length = 8 := by simp [mix, hh, rnds_len l h hh]

def chewN : Nat → List Wd → List UInt8 → List Wd
  | 0, h, _ => h
  | k + 1, h, l => chewN k (mix h (l.take 64)) (l.drop 64)
def chew (h : List Wd) (l : List UInt8) : List Wd := chewN (l.length / 64) h l
def rest (l : List UInt8) : List UInt8 := l.drop (64 * (l.length / 64))

theorem rest_len (l : List UInt8) : (rest l).length = l.length % 64 := by simp [rest]; omega

theorem chewN_len : ∀ (k : Nat) (h : List Wd) (l : List UInt8), h.length = 8 → (chewN k h l).length = 8
  | 0, _, _, hh => hh
  | k + 1, _, _, hh => chewN_len k _ _ (mix_len _ _ hh)
theorem chew_len (h : List Wd) (l : List UInt8) (hh : h.length = 8) : (chew h l).length = 8 := chewN_len _ _ _ hh

theorem chew_short {h : List Wd} {l : List UInt8} (hl : l.length < 64) : chew h l = h ∧ rest l = l := by
  have : l.length / 64 = 0 := by omega
  simp [chew, rest, this, chewN]
theorem chew_step {h : List Wd} {l : List UInt8} (hl : 64 ≤ l.length) : chew h l = chew (mix h (l.take 64)) (l.drop 64) ∧ rest l = rest (l.drop 64) := by
  have e : l.length / 64 = (l.drop 64).length / 64 + 1 := by simp; omega
  constructor
  · unfold chew; rw [e, chewN]
  · unfold rest; rw [e, List.drop_drop]; congr 1; simp; omega

theorem chewN_append : ∀ (k : Nat) (h : List Wd) (l m : List UInt8), 64 * k ≤ l.length → chewN k h (l ++ m) = chewN k h l
  | 0, _, _, _, _ => rfl
  | k + 1, h, l, m, hk => by
    simp only [chewN]
    rw [List.take_append_of_le_length (by omega), List.drop_append_of_le_length (by omega)]
    exact chewN_append k _ _ _ (by simp; omega)
theorem chewN_add : ∀ (a b : Nat) (h : List Wd) (l : List UInt8), chewN (a + b) h l = chewN b (chewN a h l) (l.drop (64 * a))
  | 0, b, h, l => by simp [chewN]
  | a + 1, b, h, l => by
    rw [show a + 1 + b = (a + b) + 1 by omega]
    simp only [chewN]
    rw [chewN_add a b, List.drop_drop]
    congr 2; omega

theorem chew_append (h : List Wd) (l m : List UInt8) : chew h (l ++ m) = chew (chew h l) (rest l ++ m) ∧ rest (l ++ m) = rest (rest l ++ m) := by
  have hl := rest_len l
  have e : (l ++ m).length / 64 = l.length / 64 + (rest l ++ m).length / 64 := by simp only [List.length_append, hl]; omega
  have hd : (l ++ m).drop (64 * (l.length / 64)) = rest l ++ m := by unfold rest; rw [List.drop_append_of_le_length (by omega)]
  constructor
  · unfold chew
    rw [e, chewN_add, chewN_append _ _ _ _ (by omega), hd]
  · rw [rest, e]
    show _ = (rest l ++ m).drop (64 * ((rest l ++ m).length / 64))
    rw [← hd, List.drop_drop, hd, Nat.mul_add]

def put (n : Nat) : Nat → List UInt8
  | 0 => []
  | w + 1 => UInt8.ofNat (n / 256 ^ w) :: put n w

theorem put_len (n : Nat) : ∀ w, (put n w).length = w
  | 0 => rfl
  | w + 1 => by simp [put, put_len n w]

def zeros (n : Nat) : Nat := (119 - n % 64) % 64
def pad (n : Nat) : List UInt8 := 0x80 :: List.replicate (zeros n) 0 ++ put (8 * n) 8

def out : List Wd → List UInt8
  | [] => []
  | a :: r => put a.toNat 4 ++ out r
theorem out_append : ∀ a b, out (a ++ b) = out a ++ out b
  | [], _ => rfl
  | x :: a, b => by simp [out, out_append a b]
theorem out_len : ∀ l, (out l).length = 4 * l.length
  | [] => rfl
  | a :: r => by simp [out, put_len, out_len r]; omega

def sha (b : List UInt8) : List UInt8 := out (chew begin (b ++ pad b.length))

theorem begin_len : begin.length = 8 := rfl
theorem sha_len (b : List UInt8) : (sha b).length = 32 := by
  unfold sha; rw [out_len, chew_len _ _ begin_len]

theorem sha_way (m : List UInt8) : sha m = out (chew (chew begin m) (rest m ++ pad m.length)) := by
  unfold sha; rw [(chew_append begin m _).1]

theorem pad_len (n : Nat) : (n + (pad n).length) % 64 = 0 := by simp [pad, put_len, zeros]; omega
theorem end_eq (m : List UInt8) : rest m ++ pad m.length = rest m ++ [0x80] ++ List.replicate (zeros m.length) 0 ++ put (8 * m.length) 8 := by simp [pad]
theorem end_len (m : List UInt8) : (rest m ++ pad m.length).length % 64 = 0 := by
  have := pad_len m.length
  rw [List.length_append, rest_len]
  omega
theorem zeros_le (n : Nat) : zeros n < 64 := by unfold zeros; omega
theorem zeros_end {r j n : Nat} (hr : r = n % 64) (hj : j ≤ zeros n) (h : (r + 1 + j) % 64 = 56) : j = zeros n := by unfold zeros at *; omega
theorem zeros_more {r j n : Nat} (hr : r = n % 64) (hj : j ≤ zeros n) (h : (r + 1 + j) % 64 ≠ 56) : j + 1 ≤ zeros n := by
  have : j ≠ zeros n := fun e => h (by unfold zeros at e; omega)
  omega

end Go.Sha

namespace Go.Au

def digit (n : Nat) : UInt8 := UInt8.ofNat (48 + n)
def decF : Nat → Nat → List UInt8
  | 0, n => [digit (n % 10)]
  | f + 1, n => if n < 10 then [digit n] else decF f (n / 10) ++ [digit (n % 10)]
def dec (n : Nat) : List UInt8 := decF n n

theorem decF_eq : ∀ (f g n : Nat), n ≤ f → n ≤ g → decF f n = decF g n
  | 0, 0, _, _, _ => rfl
  | 0, g + 1, n, h, _ => by have : n = 0 := by omega
                            subst this; rfl
  | f + 1, 0, n, _, h => by have : n = 0 := by omega
                            subst this; rfl
  | f + 1, g + 1, n, h1, h2 => by
    unfold decF
    split
    · rfl
    · rw [decF_eq f g (n / 10) (by omega) (by omega)]
theorem dec_lt {n : Nat} (h : n < 10) : dec n = [digit n] := by
  unfold dec
  cases n with
  | zero => rfl
  | succ n => unfold decF; rw [if_pos h]
theorem dec_ge {n : Nat} (h : ¬ n < 10) : dec n = dec (n / 10) ++ [digit (n % 10)] := by
  unfold dec
  cases n with
  | zero => omega
  | succ n =>
    conv => lhs; unfold decF
    rw [if_neg h, decF_eq n ((n + 1) / 10) ((n + 1) / 10) (by omega) (Nat.le_refl _)]
theorem dec_len_pos (n : Nat) : 0 < (dec n).length := by
  by_cases h : n < 10
  · rw [dec_lt h]; simp
  · rw [dec_ge h]; simp
theorem dec_len_le : ∀ (k n : Nat), n < 10 ^ (k + 1) → (dec n).length ≤ k + 1
  | 0, n, h => by rw [dec_lt (by omega)]; simp
  | k + 1, n, h => by
    by_cases h' : n < 10
    · rw [dec_lt h']; simp
    · rw [dec_ge h', List.length_append]
      have := dec_len_le k (n / 10) (by rw [Nat.div_lt_iff_lt_mul (by omega)]; rw [Nat.pow_succ] at h; exact h)
      simp; omega
theorem dec_digit (n : Nat) : ∀ c ∈ dec n, 48 ≤ c.toNat ∧ c.toNat ≤ 57 := by
  induction n using Nat.strongRecOn with
  | _ n ih =>
    intro c hc
    by_cases h : n < 10
    · rw [dec_lt h] at hc
      simp at hc; subst hc
      simp only [digit, UInt8.toNat_ofNat']; omega
    · rw [dec_ge h, List.mem_append] at hc
      rcases hc with hc | hc
      · exact ih (n / 10) (by omega) c hc
      · simp at hc; subst hc
        simp only [digit, UInt8.toNat_ofNat']; omega

def smalls : List UInt8 := [48, 48, 48, 49, 48, 50, 48, 51, 48, 52, 48, 53, 48, 54, 48, 55, 48, 56, 48, 57, 49, 48, 49, 49, 49, 50, 49, 51, 49, 52, 49, 53, 49, 54, 49, 55, 49, 56, 49, 57, 50, 48, 50, 49, 50, 50, 50, 51, 50, 52, 50, 53, 50, 54, 50, 55, 50, 56, 50, 57, 51, 48, 51, 49, 51, 50, 51, 51, 51, 52, 51, 53, 51, 54, 51, 55, 51, 56, 51, 57, 52, 48, 52, 49, 52, 50, 52, 51, 52, 52, 52, 53, 52, 54, 52, 55, 52, 56, 52, 57, 53, 48, 53, 49, 53, 50, 53, 51, 53, 52, 53, 53, 53, 54, 53, 55, 53, 56, 53, 57, 54, 48, 54, 49, 54, 50, 54, 51, 54, 52, 54, 53, 54, 54, 54, 55, 54, 56, 54, 57, 55, 48, 55, 49, 55, 50, 55, 51, 55, 52, 55, 53, 55, 54, 55, 55, 55, 56, 55, 57, 56, 48, 56, 49, 56, 50, 56, 51, 56, 52, 56, 53, 56, 54, 56, 55, 56, 56, 56, 57, 57, 48, 57, 49, 57, 50, 57, 51, 57, 52, 57, 53, 57, 54, 57, 55, 57, 56, 57, 57]
theorem smalls_at (q : Nat) (h : q < 100) : smalls.getD (2 * q) 0 = digit (q / 10) ∧ smalls.getD (2 * q + 1) 0 = digit (q % 10) := by
  have key : ∀ f : Fin 100, smalls.getD (2 * f.val) 0 = digit (f.val / 10) ∧ smalls.getD (2 * f.val + 1) 0 = digit (f.val % 10) := by decide +kernel
  exact key ⟨q, h⟩
theorem smalls_lo (u : Nat) : smalls.getD (u % 100 * 2 + 1) 0 = digit (u % 10) := by
  have h := (smalls_at (u % 100) (by omega)).2
  rw [show 2 * (u % 100) + 1 = u % 100 * 2 + 1 by omega, show u % 100 % 10 = u % 10 by omega] at h; exact h
theorem smalls_hi (u : Nat) : smalls.getD (u % 100 * 2) 0 = digit (u / 10 % 10) := by
  have h := (smalls_at (u % 100) (by omega)).1
  rw [show 2 * (u % 100) = u % 100 * 2 by omega, show u % 100 / 10 = u / 10 % 10 by omega] at h; exact h
theorem smalls_cut (q : Nat) (h : q < 100) (h' : 10 ≤ q) : (smalls.drop (q * 2)).take (q * 2 + 2 - q * 2) = dec q := by
  have key : ∀ f : Fin 100, 10 ≤ f.val → (smalls.drop (f.val * 2)).take (f.val * 2 + 2 - f.val * 2) = dec f.val := by decide +kernel
  exact key ⟨q, h⟩ h'
def digs : List UInt8 := [48, 49, 50, 51, 52, 53, 54, 55, 56, 57, 97, 98, 99, 100, 101, 102, 103, 104, 105, 106, 107, 108, 109, 110, 111, 112, 113, 114, 115, 116, 117, 118, 119, 120, 121, 122]
theorem digs_cut (q : Nat) (h : q < 10) : (digs.drop q).take (q + 1 - q) = dec q := by
  have key : ∀ f : Fin 10, (digs.drop f.val).take (f.val + 1 - f.val) = dec f.val := by decide +kernel
  exact key ⟨q, h⟩
def len8 : List UInt8 := [0, 1, 2, 2, 3, 3, 3, 3, 4, 4, 4, 4, 4, 4, 4, 4, 5, 5, 5, 5, 5, 5, 5, 5, 5, 5, 5, 5, 5, 5, 5, 5, 6, 6, 6, 6, 6, 6, 6, 6, 6, 6, 6, 6, 6, 6, 6, 6, 6, 6, 6, 6, 6, 6, 6, 6, 6, 6, 6, 6, 6, 6, 6, 6, 7, 7, 7, 7, 7, 7, 7, 7, 7, 7, 7, 7, 7, 7, 7, 7, 7, 7, 7, 7, 7, 7, 7, 7, 7, 7, 7, 7, 7, 7, 7, 7, 7, 7, 7, 7, 7, 7, 7, 7, 7, 7, 7, 7, 7, 7, 7, 7, 7, 7, 7, 7, 7, 7, 7, 7, 7, 7, 7, 7, 7, 7, 7, 7, 8, 8, 8, 8, 8, 8, 8, 8, 8, 8, 8, 8, 8, 8, 8, 8, 8, 8, 8, 8, 8, 8, 8, 8, 8, 8, 8, 8, 8, 8, 8, 8, 8, 8, 8, 8, 8, 8, 8, 8, 8, 8, 8, 8, 8, 8, 8, 8, 8, 8, 8, 8, 8, 8, 8, 8, 8, 8, 8, 8, 8, 8, 8, 8, 8, 8, 8, 8, 8, 8, 8, 8, 8, 8, 8, 8, 8, 8, 8, 8, 8, 8, 8, 8, 8, 8, 8, 8, 8, 8, 8, 8, 8, 8, 8, 8, 8, 8, 8, 8, 8, 8, 8, 8, 8, 8, 8, 8, 8, 8, 8, 8, 8, 8, 8, 8, 8, 8, 8, 8, 8, 8, 8, 8, 8, 8, 8, 8]
def bl (n : Nat) : Nat := if n < 256 then (len8.getD n 0).toNat else 8 + (len8.getD (n / 256) 0).toNat
def digB (n : Nat) : Bool := Nat.ble (bl n * 78913 / 262144 + (if 10 ^ (bl n * 78913 / 262144) ≤ n then 1 else 0)) 4 && Nat.beq (bl n * 78913 / 262144 + (if 10 ^ (bl n * 78913 / 262144) ≤ n then 1 else 0)) (if n < 1000 then 3 else 4)
def allB (p : Nat → Bool) : Nat → Bool
  | 0 => true
  | n + 1 => p n && allB p n
theorem allB_spec {p : Nat → Bool} : ∀ {n : Nat}, allB p n = true → ∀ k, k < n → p k = true
  | 0, _, k, hk => absurd hk (Nat.not_lt_zero _)
  | n + 1, h, k, hk => by
    simp only [allB, Bool.and_eq_true] at h
    by_cases e : k = n
    · subst e; exact h.1
    · exact allB_spec h.2 k (by omega)
theorem digs_nd (n : Nat) (h : 100 ≤ n) (h' : n < 10000) : bl n * 78913 / 262144 + (if 10 ^ (bl n * 78913 / 262144) ≤ n then 1 else 0) = (if n < 1000 then 3 else 4) ∧ bl n ≤ 16 := by
  have key : allB (fun n => Nat.ble n 99 || (digB n && Nat.ble (bl n) 16)) 10000 = true := by decide +kernel
  have h1 := allB_spec key n h'
  simp only [digB, Bool.or_eq_true, Bool.and_eq_true, Nat.ble_eq, Nat.beq_eq] at h1
  omega
theorem smalls_lo4 (u : Nat) : smalls.getD (u % 10000 / 100 * 2 + 1) 0 = digit (u / 100 % 10) := by
  have h := smalls_lo (u / 100)
  rw [show u / 100 % 100 = u % 10000 / 100 by omega] at h; exact h
theorem smalls_hi4 (u : Nat) : smalls.getD (u % 10000 / 100 * 2) 0 = digit (u / 1000 % 10) := by
  have h := smalls_hi (u / 100)
  rw [show u / 100 % 100 = u % 10000 / 100 by omega, Nat.div_div_eq_div_mul] at h; exact h
theorem smalls_lo4' (u : Nat) : smalls.getD (u % 10000 % 100 * 2 + 1) 0 = digit (u % 10) := by
  have h := smalls_lo u
  rw [show u % 100 = u % 10000 % 100 by omega] at h; exact h
theorem smalls_hi4' (u : Nat) : smalls.getD (u % 10000 % 100 * 2) 0 = digit (u / 10 % 10) := by
  have h := smalls_hi u
  rw [show u % 100 = u % 10000 % 100 by omega] at h; exact h
theorem dec3 (n : Nat) (h : 100 ≤ n) (h' : n < 1000) : dec n = [digit (n / 100), digit (n / 10 % 10), digit (n % 10)] := by
  rw [dec_ge (by omega), dec_ge (n := n / 10) (by omega), dec_lt (n := n / 10 / 10) (by omega), Nat.div_div_eq_div_mul]; rfl
theorem dec4 (n : Nat) (h : 1000 ≤ n) (h' : n < 10000) : dec n = [digit (n / 1000), digit (n / 100 % 10), digit (n / 10 % 10), digit (n % 10)] := by
  rw [dec_ge (by omega), dec3 (n / 10) (by omega) (by omega), Nat.div_div_eq_div_mul, Nat.div_div_eq_div_mul]; rfl

def net (b : List UInt8) : List UInt8 := dec b.length ++ [58] ++ b ++ [44]
def nets (l : List (List UInt8)) : List UInt8 := l.flatMap net
def text (tag : List UInt8) (l : List (List UInt8)) : List UInt8 := net tag ++ nets l
def tagged (tag : List UInt8) (l : List (List UInt8)) : List UInt8 := Go.Sha.sha (text tag l)
theorem tagged_len (tag : List UInt8) (l : List (List UInt8)) : (tagged tag l).length = 32 := Go.Sha.sha_len _
theorem net_len (b : List UInt8) : (net b).length = (dec b.length).length + b.length + 2 := by simp [net]; omega
theorem net_le {b : List UInt8} (h : b.length < 1000000) : (net b).length ≤ b.length + 8 := by
  have := dec_len_le 5 b.length (by omega)
  rw [net_len]; omega
theorem nets_nil : nets [] = [] := rfl
theorem nets_snoc (l : List (List UInt8)) (b : List UInt8) : nets (l ++ [b]) = nets l ++ net b := by simp [nets]
theorem nets_cons (l : List (List UInt8)) (b : List UInt8) : nets (b :: l) = net b ++ nets l := by simp [nets]
def total (l : List (List UInt8)) : Nat := (l.map List.length).sum
theorem nets_le : ∀ {l : List (List UInt8)}, (∀ b ∈ l, b.length < 1000000) → (nets l).length ≤ total l + 8 * l.length
  | [], _ => by simp [nets, total]
  | b :: l, h => by
    have h1 := net_le (h b (by simp))
    have h2 := nets_le (l := l) (fun x hx => h x (by simp [hx]))
    rw [nets_cons, List.length_append]
    simp only [total, List.map_cons, List.sum_cons, List.length_cons] at h2 ⊢
    omega
theorem nets_append (l m : List (List UInt8)) : nets (l ++ m) = nets l ++ nets m := by simp [nets]
theorem nets_take {l : List (List UInt8)} {k : Nat} (h : k < l.length) : nets (l.take k) ++ net (l.getD k []) = nets (l.take (k + 1)) := by
  rw [List.take_succ_eq_append_getElem h, nets_snoc]
  simp [h]
theorem nets_take_le (l : List (List UInt8)) (k : Nat) : (nets (l.take k)).length ≤ (nets l).length := by
  conv => rhs; rw [← List.take_append_drop k l, nets_append]
  simp
theorem nets_count : ∀ (l : List (List UInt8)), l.length ≤ (nets l).length
  | [] => by simp
  | b :: l => by
    have := nets_count l
    rw [nets_cons, List.length_append, net_len, List.length_cons]; omega
theorem net_ge (b : List UInt8) : b.length ≤ (net b).length := by rw [net_len]; omega
theorem nets_el {l : List (List UInt8)} {B : Nat} (h : (nets l).length < B) (k : Nat) (hk : k < l.length) : (l.getD k []).length < B := by
  have h1 := nets_take_le l (k + 1)
  rw [← nets_take hk, List.length_append] at h1
  have := net_ge (l.getD k [])
  omega
theorem text_tag (tag : List UInt8) (l : List (List UInt8)) : tag.length ≤ (text tag l).length := by
  have := net_ge tag
  simp only [text, List.length_append]; omega
theorem text_nets (tag : List UInt8) (l : List (List UInt8)) : (nets l).length ≤ (text tag l).length := by
  simp only [text, List.length_append]; omega
end Go.Au

namespace Go.Au

theorem take_snoc {α : Type} {l : List α} {k : Nat} {d : α} (h : k < l.length) : l.take k ++ [l.getD k d] = l.take (k + 1) := by
  rw [List.take_succ_eq_append_getElem h]; simp [h]
theorem text_le {tag : List UInt8} {l : List (List UInt8)} (ht : tag.length < 1000000) (hl : ∀ b ∈ l, b.length < 1000000) : (text tag l).length ≤ tag.length + 8 + total l + 8 * l.length := by
  have h1 := net_le ht
  have h2 := nets_le hl
  simp only [text, List.length_append]; omega
theorem text1 {tag b : List UInt8} (ht : tag.length < 100) (hb : b.length < 1000) : (text tag [b]).length < 10000 := by
  have h1 := text_le (tag := tag) (l := [b]) (by omega) (fun x hx => by simp at hx; subst hx; omega)
  simp [total] at h1; omega
theorem text2 {tag a b : List UInt8} (ht : tag.length < 100) (ha : a.length < 1000) (hb : b.length < 1000) : (text tag [a, b]).length < 10000 := by
  have h1 := text_le (tag := tag) (l := [a, b]) (by omega) (fun x hx => by simp at hx; rcases hx with rfl | rfl <;> omega)
  simp [total] at h1; omega
def step (h : List UInt8) : List UInt8 := tagged [115, 116, 101, 112] [h]
theorem step_len (h : List UInt8) : (step h).length = 32 := tagged_len _ _
def steps : Nat → List UInt8 → List UInt8
  | 0, h => h
  | k + 1, h => step (steps k h)
def start (seed : List UInt8) (leaf chain : Int) : List UInt8 := tagged [115, 116, 97, 114, 116] [seed, Go.Sha.put (max 0 leaf).toNat 4, Go.Sha.put (max 0 chain).toNat 4]
def nib (l : List UInt8) : List Int := l.flatMap fun c => [((c.toNat / 16 : Nat) : Int), ((c.toNat % 16 : Nat) : Int)]
def chk : List UInt8 → Nat
  | [] => 0
  | c :: l => 30 - c.toNat / 16 - c.toNat % 16 + chk l
def mh (m : List UInt8) : List UInt8 := tagged [109, 115, 103] [m]
def digits (m : List UInt8) : List Int := nib (mh m) ++ [((chk (mh m) / 256 : Nat) : Int), ((chk (mh m) / 16 % 16 : Nat) : Int), ((chk (mh m) % 16 : Nat) : Int)]
end Go.Au

namespace Go.Au

def leafH (b : List UInt8) : List UInt8 := tagged [108, 101, 97, 102] [b]
def node (a b : List UInt8) : List UInt8 := tagged [110, 111, 100, 101] [a, b]
def padH : List UInt8 := tagged [112, 97, 100] []
theorem leafH_len (b : List UInt8) : (leafH b).length = 32 := tagged_len _ _
theorem node_len (a b : List UInt8) : (node a b).length = 32 := tagged_len _ _
theorem padH_len : padH.length = 32 := tagged_len _ _

def lgF : Nat → Nat → Nat
  | 0, _ => 0
  | f + 1, n => if n ≤ 1 then 0 else lgF f ((n + 1) / 2) + 1
def lg (n : Nat) : Nat := lgF n n
theorem lgF_up : ∀ (f n : Nat), n ≤ f + 1 → n ≤ 2 ^ lgF f n
  | 0, n, h => by simpa [lgF] using h
  | f + 1, n, h => by
    unfold lgF
    split
    · simpa using ‹n ≤ 1›
    · have := lgF_up f ((n + 1) / 2) (by omega)
      rw [Nat.pow_succ]; omega
theorem lgF_lo : ∀ (f n : Nat), n ≤ f + 1 → ∀ j, j < lgF f n → 2 ^ j < n
  | 0, n, _, j, hj => by simp [lgF] at hj
  | f + 1, n, h, j, hj => by
    unfold lgF at hj
    split at hj
    · omega
    · cases j with
      | zero => simp; omega
      | succ j =>
        have := lgF_lo f ((n + 1) / 2) (by omega) j (by omega)
        rw [Nat.pow_succ]; omega
theorem lg_up (n : Nat) : n ≤ 2 ^ lg n := lgF_up n n (by omega)
theorem lg_lo {n j : Nat} (h : j < lg n) : 2 ^ j < n := lgF_lo n n (by omega) j h
theorem lg_of {n k : Nat} (h : n ≤ 2 ^ k) (h' : k ≤ lg n) : k = lg n := by
  rcases Nat.lt_or_ge k (lg n) with h1 | h1
  · have := lg_lo h1; omega
  · omega
theorem lg_gt {n k : Nat} (h : 2 ^ k < n) (h' : k ≤ lg n) : k < lg n := by
  rcases Nat.lt_or_ge k (lg n) with h1 | h1
  · exact h1
  · obtain rfl : k = lg n := by omega
    have := lg_up n; omega
theorem lg_le {n m : Nat} (h : n ≤ 2 ^ m) : lg n ≤ m := by
  rcases Nat.lt_or_ge m (lg n) with h1 | h1
  · have := lg_lo h1; omega
  · exact h1
def padN (n : Nat) : Nat := 2 ^ lg n
theorem padN_le (n : Nat) : n ≤ padN n := lg_up n
theorem padN_lt (n m : Nat) (h : n ≤ 2 ^ m) : padN n ≤ 2 ^ m := Nat.pow_le_pow_right (by omega) (lg_le h)

def upTo (r : List (List UInt8)) (j : Nat) : List (List UInt8) := (List.range j).map fun i => node (r.getD (2 * i) []) (r.getD (2 * i + 1) [])
def up (r : List (List UInt8)) : List (List UInt8) := upTo r (r.length / 2)
theorem upTo_len (r : List (List UInt8)) (j : Nat) : (upTo r j).length = j := by simp [upTo]
theorem up_len (r : List (List UInt8)) : (up r).length = r.length / 2 := upTo_len _ _
theorem upTo_snoc (r : List (List UInt8)) (j : Nat) : upTo r j ++ [node (r.getD (2 * j) []) (r.getD (2 * j + 1) [])] = upTo r (j + 1) := by
  simp [upTo, List.range_succ]
theorem upTo_all (r : List (List UInt8)) (j : Nat) : ∀ h ∈ upTo r j, h.length = 32 := by
  intro h hh; obtain ⟨i, _, rfl⟩ := List.mem_map.1 hh; exact node_len _ _
def ups (r : List (List UInt8)) : Nat → List (List UInt8)
  | 0 => r
  | k + 1 => up (ups r k)
theorem ups_len {r : List (List UInt8)} {m : Nat} (h : r.length = 2 ^ m) : ∀ k, k ≤ m → (ups r k).length = 2 ^ (m - k)
  | 0, _ => h
  | k + 1, hk => by
    rw [ups, up_len, ups_len h k (by omega), show m - k = (m - (k + 1)) + 1 by omega, Nat.pow_succ]; omega
theorem ups_all {r : List (List UInt8)} (h : ∀ b ∈ r, b.length = 32) : ∀ k, ∀ b ∈ ups r k, b.length = 32
  | 0 => h
  | _ + 1 => upTo_all _ _
def padTo (l : List (List UInt8)) : Nat → List (List UInt8)
  | 0 => l
  | k + 1 => padTo l k ++ [padH]
theorem padTo_len (l : List (List UInt8)) : ∀ k, (padTo l k).length = l.length + k
  | 0 => rfl
  | k + 1 => by rw [padTo, List.length_append, padTo_len l k]; rfl
theorem padTo_all {l : List (List UInt8)} (h : ∀ b ∈ l, b.length = 32) : ∀ k, ∀ b ∈ padTo l k, b.length = 32
  | 0 => h
  | k + 1 => by
    intro b hb
    rcases List.mem_append.1 hb with h1 | h1
    · exact padTo_all h k b h1
    · rw [List.mem_singleton.1 h1]; exact padH_len
def rowP (l : List (List UInt8)) : List (List UInt8) := padTo l (padN l.length - l.length)
theorem rowP_len (l : List (List UInt8)) : (rowP l).length = 2 ^ lg l.length := by
  have := padN_le l.length
  rw [rowP, padTo_len]; show _ = padN _; omega
theorem rowP_all {l : List (List UInt8)} (h : ∀ b ∈ l, b.length = 32) : ∀ b ∈ rowP l, b.length = 32 := padTo_all h _
def levels (r : List (List UInt8)) (k : Nat) : List (List (List UInt8)) := (List.range k).map (ups r)
theorem levels_len (r : List (List UInt8)) (k : Nat) : (levels r k).length = k := by simp [levels]
theorem levels_snoc (r : List (List UInt8)) (k : Nat) : levels r k ++ [ups r k] = levels r (k + 1) := by simp [levels, List.range_succ]
theorem levels_at (r : List (List UInt8)) (k : Nat) : (levels r (k + 1)).getD k [] = ups r k := by simp [levels, List.getD_eq_getElem?_getD]
def root (l : List (List UInt8)) : List UInt8 := (ups (rowP l) (lg l.length)).getD 0 []
theorem root_len {l : List (List UInt8)} (h : ∀ b ∈ l, b.length = 32) : (root l).length = 32 := by
  have h1 := ups_len (rowP_len l) (lg l.length) (Nat.le_refl _)
  rw [Nat.sub_self] at h1
  have h2 := ups_all (rowP_all h) (lg l.length)
  unfold root
  rw [List.getD_eq_getElem?_getD, List.getElem?_eq_getElem (by omega)]
  exact h2 _ (List.getElem_mem _)
theorem ups_more {r : List (List UInt8)} {m k : Nat} (h : r.length = 2 ^ m) (hk : k ≤ m) (h1 : 1 < (ups r k).length) : k < m := by
  rcases Nat.lt_or_ge k m with h2 | h2
  · exact h2
  · obtain rfl : k = m := by omega
    rw [ups_len h k (Nat.le_refl _), Nat.sub_self] at h1
    simp at h1
theorem ups_even {r : List (List UInt8)} {m k : Nat} (h : r.length = 2 ^ m) (hk : k < m) : (ups r k).length % 2 = 0 := by
  rw [ups_len h k (by omega), show m - k = (m - k - 1) + 1 by omega, Nat.pow_succ]; omega
theorem ups_done {r : List (List UInt8)} {m k : Nat} (h : r.length = 2 ^ m) (hk : k ≤ m) (h1 : ¬ 1 < (ups r k).length) : k = m := by
  rcases Nat.lt_or_ge k m with h2 | h2
  · rw [ups_len h k hk, show m - k = (m - k - 1) + 1 by omega, Nat.pow_succ] at h1
    have := Nat.pow_pos (n := m - k - 1) (show 0 < 2 by omega)
    omega
  · omega
theorem ups_bd {l : List (List UInt8)} {k : Nat} (h : l.length ≤ 1024) (hk : k ≤ lg l.length) : (ups (rowP l) k).length ≤ 1024 ∧ 0 < (ups (rowP l) k).length := by
  rw [ups_len (rowP_len l) k hk]
  have h1 : lg l.length ≤ 10 := lg_le (by omega)
  exact ⟨(show 2 ^ (lg l.length - k) ≤ 2 ^ 10 from Nat.pow_le_pow_right (by omega) (by omega)), Nat.pow_pos (by omega)⟩
end Go.Au

namespace Go.Au
def sib (i : Nat) : Nat := if i % 2 = 0 then i + 1 else i - 1
theorem sib_lt {i m : Nat} (hm : m % 2 = 0) (h : i < m) : sib i < m := by unfold sib; split <;> omega
def beside (r : List (List UInt8)) (i k : Nat) : List (List UInt8) := (List.range k).map fun j => (ups r j).getD (sib (i / 2 ^ j)) []
theorem beside_len (r : List (List UInt8)) (i k : Nat) : (beside r i k).length = k := by simp [beside]
theorem beside_snoc (r : List (List UInt8)) (i k : Nat) : beside r i k ++ [(ups r k).getD (sib (i / 2 ^ k)) []] = beside r i (k + 1) := by simp [beside, List.range_succ]
theorem half_lt {i m k : Nat} (h : i < 2 ^ m) (hk : k ≤ m) : i / 2 ^ k < 2 ^ (m - k) := by
  rw [Nat.div_lt_iff_lt_mul (Nat.pow_pos (by omega)), ← Nat.pow_add, Nat.sub_add_cancel hk]; exact h
theorem half_succ (i k : Nat) : i / 2 ^ k / 2 = i / 2 ^ (k + 1) := by rw [Nat.div_div_eq_div_mul, Nat.pow_succ]
theorem getD_len {l : List (List UInt8)} {n : Nat} (h : ∀ b ∈ l, b.length = n) {q : Nat} (hq : q < l.length) : (l.getD q []).length = n := by
  rw [List.getD_eq_getElem?_getD, List.getElem?_eq_getElem hq]; exact h _ (List.getElem_mem _)
theorem beside_all {l : List (List UInt8)} (h : ∀ b ∈ l, b.length = 32) {i : Nat} (hi : i < l.length) {k : Nat} (hk : k ≤ lg l.length) : ∀ b ∈ beside (rowP l) i k, b.length = 32 := by
  intro b hb
  obtain ⟨j, hj, rfl⟩ := List.mem_map.1 hb
  rw [List.mem_range] at hj
  have hlt : i / 2 ^ j < 2 ^ (lg l.length - j) := half_lt (Nat.lt_of_lt_of_le hi (lg_up _)) (by omega)
  refine getD_len (ups_all (rowP_all h) j) ?_
  rw [ups_len (rowP_len l) j (by omega)]
  refine sib_lt ?_ hlt
  rw [show lg l.length - j = (lg l.length - j - 1) + 1 by omega, Nat.pow_succ]; omega

def onW (i : Nat) (x q : List UInt8) : List UInt8 := if i % 2 = 1 then q ++ x else x ++ q
def nodeP (xy : List UInt8) : List UInt8 := node (xy.take 32) (xy.drop 32)
theorem nodeP_len (xy : List UInt8) : (nodeP xy).length = 32 := node_len _ _
theorem nodeP_app {a b : List UInt8} (h : a.length = 32) : nodeP (a ++ b) = node a b := by
  unfold nodeP; rw [List.take_left' h, List.drop_left' h]
theorem onW_len {i : Nat} {x q : List UInt8} (hx : x.length = 32) (hq : q.length = 32) : (onW i x q).length = 64 := by
  unfold onW; split <;> simp [hx, hq]
def climb (i : Nat) (x : List UInt8) (p : List (List UInt8)) : Nat → List UInt8
  | 0 => x
  | k + 1 => nodeP (onW (i / 2 ^ k) (climb i x p k) (p.getD k []))
theorem climb_len (i : Nat) {x : List UInt8} (hx : x.length = 32) (p : List (List UInt8)) : ∀ k, (climb i x p k).length = 32
  | 0 => hx
  | _ + 1 => nodeP_len _
def ways (i : Nat) (x : List UInt8) (p : List (List UInt8)) (k : Nat) : List (List UInt8) := (List.range k).map fun j => onW (i / 2 ^ j) (climb i x p j) (p.getD j [])
theorem ways_len (i : Nat) (x : List UInt8) (p : List (List UInt8)) (k : Nat) : (ways i x p k).length = k := by simp [ways]
theorem ways_snoc (i : Nat) (x : List UInt8) (p : List (List UInt8)) (k : Nat) : ways i x p k ++ [onW (i / 2 ^ k) (climb i x p k) (p.getD k [])] = ways i x p (k + 1) := by simp [ways, List.range_succ]
def okW (n i : Int) (m : Nat) : Bool := decide (0 ≤ i ∧ i < n ∧ n ≤ 256 ∧ m = lg n.toNat)
def climbH (n i : Int) (x : List UInt8) (p : List (List UInt8)) : List UInt8 := if okW n i p.length then climb i.toNat x p p.length else List.replicate 32 0
def waysH (n i : Int) (x : List UInt8) (p : List (List UInt8)) : List (List UInt8) := if okW n i p.length then ways i.toNat x p p.length else []
theorem climbH_len (n i : Int) {x : List UInt8} (hx : x.length = 32) (p : List (List UInt8)) : (climbH n i x p).length = 32 := by
  unfold climbH; split
  · exact climb_len _ hx _ _
  · simp
theorem okW_mk {n i : Int} {m : Nat} (h : 0 ≤ i ∧ i < n ∧ n ≤ 256 ∧ m = lg n.toNat) : okW n i m = true := decide_eq_true h
theorem okW_no {n i : Int} {m : Nat} (h : ¬ (0 ≤ i ∧ i < n ∧ n ≤ 256 ∧ m = lg n.toNat)) : okW n i m = false := decide_eq_false h
theorem climbH_ok {n i : Int} {x : List UInt8} {p : List (List UInt8)} (h : okW n i p.length = true) : climbH n i x p = climb i.toNat x p p.length := by unfold climbH; rw [if_pos h]
theorem climbH_no {n i : Int} {x : List UInt8} {p : List (List UInt8)} (h : okW n i p.length = false) : climbH n i x p = List.replicate 32 0 := by unfold climbH; rw [if_neg (by simp [h])]
theorem waysH_ok {n i : Int} {x : List UInt8} {p : List (List UInt8)} (h : okW n i p.length = true) : waysH n i x p = ways i.toNat x p p.length := by unfold waysH; rw [if_pos h]
theorem waysH_no {n i : Int} {x : List UInt8} {p : List (List UInt8)} (h : okW n i p.length = false) : waysH n i x p = [] := by unfold waysH; rw [if_neg (by simp [h])]

section
variable {n i : Int} {a b : List UInt8} {p q : List (List UInt8)}
end
end Go.Au
