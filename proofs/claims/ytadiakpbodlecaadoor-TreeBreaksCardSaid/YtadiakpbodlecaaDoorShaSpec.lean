/- SHA-256 in plain words: no program here. -/
set_option linter.unusedVariables false
set_option linter.unusedSimpArgs false
set_option maxRecDepth 8192
namespace Go.Sha

abbrev Wd := BitVec 32

def rotr (a : Wd) (n : Nat) : Wd := a >>> n ||| a <<< (32 - n)
def s0 (x : Wd) : Wd := rotr x 7 ^^^ rotr x 18 ^^^ x >>> 3
def s1 (x : Wd) : Wd := rotr x 17 ^^^ rotr x 19 ^^^ x >>> 10
def S1 (x : Wd) : Wd := rotr x 6 ^^^ rotr x 11 ^^^ rotr x 25
def S0 (x : Wd) : Wd := rotr x 2 ^^^ rotr x 13 ^^^ rotr x 22

def table : List Wd := [0x428a2f98, 0x71374491, 0xb5c0fbcf, 0xe9b5dba5, 0x3956c25b, 0x59f111f1, 0x923f82a4, 0xab1c5ed5,
  0xd807aa98, 0x12835b01, 0x243185be, 0x550c7dc3, 0x72be5d74, 0x80deb1fe, 0x9bdc06a7, 0xc19bf174,
  0xe49b69c1, 0xefbe4786, 0x0fc19dc6, 0x240ca1cc, 0x2de92c6f, 0x4a7484aa, 0x5cb0a9dc, 0x76f988da,
  0x983e5152, 0xa831c66d, 0xb00327c8, 0xbf597fc7, 0xc6e00bf3, 0xd5a79147, 0x06ca6351, 0x14292967,
  0x27b70a85, 0x2e1b2138, 0x4d2c6dfc, 0x53380d13, 0x650a7354, 0x766a0abb, 0x81c2c92e, 0x92722c85,
  0xa2bfe8a1, 0xa81a664b, 0xc24b8b70, 0xc76c51a3, 0xd192e819, 0xd6990624, 0xf40e3585, 0x106aa070,
  0x19a4c116, 0x1e376c08, 0x2748774c, 0x34b0bcb5, 0x391c0cb3, 0x4ed8aa4a, 0x5b9cca4f, 0x682e6ff3,
  0x748f82ee, 0x78a5636f, 0x84c87814, 0x8cc70208, 0x90befffa, 0xa4506ceb, 0xbef9a3f7, 0xc67178f2]
def begin : List Wd := [0x6a09e667, 0xbb67ae85, 0x3c6ef372, 0xa54ff53a, 0x510e527f, 0x9b05688c, 0x1f83d9ab, 0x5be0cd19]

def wd (b : UInt8) : Wd := b.toBitVec.setWidth 32
/-- Four bytes as a word. -/
def be (l : List UInt8) (i : Nat) : Wd := wd (l.getD (4 * i) 0) <<< 24 ||| wd (l.getD (4 * i + 1) 0) <<< 16 ||| wd (l.getD (4 * i + 2) 0) <<< 8 ||| wd (l.getD (4 * i + 3) 0)

/-- The first i words of a block's 64. -/
def sched (l : List UInt8) : Nat → List Wd
  | 0 => []
  | i + 1 => let r := sched l i
    r ++ [if i < 16 then be l i else r.getD (i - 16) 0 + s0 (r.getD (i - 15) 0) + r.getD (i - 7) 0 + s1 (r.getD (i - 2) 0)]

theorem sched_len (l : List UInt8) : ∀ i, (sched l i).length = i
  | 0 => rfl
  | i + 1 => by simp [sched, sched_len l i]

theorem sched_get (l : List UInt8) (j : Nat) : ∀ i, j < i → (sched l i).getD j 0 = (sched l (j + 1)).getD j 0
  | 0, h => absurd h (Nat.not_lt_zero _)
  | i + 1, h => by
    by_cases e : j = i
    · subst e; rfl
    · have h1 := sched_get l j i (by omega)
      rw [← h1]
      have hl := sched_len l i
      simp only [sched, List.getD_eq_getElem?_getD]
      rw [List.getElem?_append_left (by omega)]

/-- One round. -/
def rnd (v : List Wd) (k w : Wd) : List Wd :=
  let a := v.getD 0 0; let e := v.getD 4 0
  let t := v.getD 7 0 + S1 e + (e &&& v.getD 5 0 ^^^ ~~~e &&& v.getD 6 0) + k + w
  let m := a &&& v.getD 1 0 ^^^ a &&& v.getD 2 0 ^^^ v.getD 1 0 &&& v.getD 2 0
  [t + S0 a + m, a, v.getD 1 0, v.getD 2 0, v.getD 3 0 + t, e, v.getD 5 0, v.getD 6 0]

/-- i rounds. -/
def rnds (l : List UInt8) (h : List Wd) : Nat → List Wd
  | 0 => h
  | i + 1 => rnd (rnds l h i) (table.getD i 0) ((sched l 64).getD i 0)

theorem rnds_len (l : List UInt8) (h : List Wd) (hh : h.length = 8) : ∀ i, (rnds l h i).length = 8
  | 0 => hh
  | _ + 1 => rfl

def mix (h : List Wd) (l : List UInt8) : List Wd := List.zipWith (· + ·) h (rnds l h 64)

theorem mix_len (h : List Wd) (l : List UInt8) (hh : h.length = 8) : (mix h l).length = 8 := by simp [mix, hh, rnds_len l h hh]

/-- Whole blocks are eaten. -/
def chewN : Nat → List Wd → List UInt8 → List Wd
  | 0, h, _ => h
  | k + 1, h, l => chewN k (mix h (l.take 64)) (l.drop 64)
def chew (h : List Wd) (l : List UInt8) : List Wd := chewN (l.length / 64) h l
def rest (l : List UInt8) : List UInt8 := l.drop (64 * (l.length / 64))

theorem rest_len (l : List UInt8) : (rest l).length = l.length % 64 := by simp [rest]; omega

theorem chewN_len : ∀ (k : Nat) (h : List Wd) (l : List UInt8), h.length = 8 → (chewN k h l).length = 8
  | 0, _, _, hh => hh
  | k + 1, _, _, hh => chewN_len k _ _ (mix_len _ _ hh)
theorem chew_len (h : List Wd) (l : List UInt8) (hh : h.length = 8) : (chew h l).length = 8 := chewN_len _ _ _ hh

theorem chew_short {h : List Wd} {l : List UInt8} (hl : l.length < 64) : chew h l = h ∧ rest l = l := by
  have : l.length / 64 = 0 := by omega
  simp [chew, rest, this, chewN]
theorem chew_step {h : List Wd} {l : List UInt8} (hl : 64 ≤ l.length) : chew h l = chew (mix h (l.take 64)) (l.drop 64) ∧ rest l = rest (l.drop 64) := by
  have e : l.length / 64 = (l.drop 64).length / 64 + 1 := by simp; omega
  constructor
  · unfold chew; rw [e, chewN]
  · unfold rest; rw [e, List.drop_drop]; congr 1; simp; omega

theorem chewN_append : ∀ (k : Nat) (h : List Wd) (l m : List UInt8), 64 * k ≤ l.length → chewN k h (l ++ m) = chewN k h l
  | 0, _, _, _, _ => rfl
  | k + 1, h, l, m, hk => by
    simp only [chewN]
    rw [List.take_append_of_le_length (by omega), List.drop_append_of_le_length (by omega)]
    exact chewN_append k _ _ _ (by simp; omega)
theorem chewN_add : ∀ (a b : Nat) (h : List Wd) (l : List UInt8), chewN (a + b) h l = chewN b (chewN a h l) (l.drop (64 * a))
  | 0, b, h, l => by simp [chewN]
  | a + 1, b, h, l => by
    rw [show a + 1 + b = (a + b) + 1 by omega]
    simp only [chewN]
    rw [chewN_add a b, List.drop_drop]
    congr 2; omega

/-- In two goes. -/
theorem chew_append (h : List Wd) (l m : List UInt8) : chew h (l ++ m) = chew (chew h l) (rest l ++ m) ∧ rest (l ++ m) = rest (rest l ++ m) := by
  have hl := rest_len l
  have e : (l ++ m).length / 64 = l.length / 64 + (rest l ++ m).length / 64 := by simp only [List.length_append, hl]; omega
  have hd : (l ++ m).drop (64 * (l.length / 64)) = rest l ++ m := by unfold rest; rw [List.drop_append_of_le_length (by omega)]
  constructor
  · unfold chew
    rw [e, chewN_add, chewN_append _ _ _ _ (by omega), hd]
  · rw [rest, e]
    show _ = (rest l ++ m).drop (64 * ((rest l ++ m).length / 64))
    rw [← hd, List.drop_drop, hd, Nat.mul_add]

/-- A number as so many bytes, the greatest first. -/
def put (n : Nat) : Nat → List UInt8
  | 0 => []
  | w + 1 => UInt8.ofNat (n / 256 ^ w) :: put n w

theorem put_len (n : Nat) : ∀ w, (put n w).length = w
  | 0 => rfl
  | w + 1 => by simp [put, put_len n w]

def zeros (n : Nat) : Nat := (119 - n % 64) % 64
def pad (n : Nat) : List UInt8 := 0x80 :: List.replicate (zeros n) 0 ++ put (8 * n) 8

/-- Words as bytes. -/
def out : List Wd → List UInt8
  | [] => []
  | a :: r => put a.toNat 4 ++ out r
theorem out_append : ∀ a b, out (a ++ b) = out a ++ out b
  | [], _ => rfl
  | x :: a, b => by simp [out, out_append a b]
theorem out_len : ∀ l, (out l).length = 4 * l.length
  | [] => rfl
  | a :: r => by simp [out, put_len, out_len r]; omega

def sha (b : List UInt8) : List UInt8 := out (chew begin (b ++ pad b.length))

theorem begin_len : begin.length = 8 := rfl
theorem sha_len (b : List UInt8) : (sha b).length = 32 := by
  unfold sha; rw [out_len, chew_len _ _ begin_len]

/-- On the way: what was eaten, what is left of a block, how many there were. -/
theorem sha_way (m : List UInt8) : sha m = out (chew (chew begin m) (rest m ++ pad m.length)) := by
  unfold sha; rw [(chew_append begin m _).1]

theorem pad_len (n : Nat) : (n + (pad n).length) % 64 = 0 := by simp [pad, put_len, zeros]; omega
theorem zeros_mod (n : Nat) : zeros (n % 64) = zeros n := by simp [zeros]

/-- What is left, and the pad: whole blocks. -/
theorem end_eq (m : List UInt8) : rest m ++ pad m.length = rest m ++ [0x80] ++ List.replicate (zeros m.length) 0 ++ put (8 * m.length) 8 := by simp [pad]
theorem end_len (m : List UInt8) : (rest m ++ pad m.length).length % 64 = 0 := by
  have := pad_len m.length
  rw [List.length_append, rest_len]
  omega
theorem zeros_le (n : Nat) : zeros n < 64 := by unfold zeros; omega
/-- When the zeros end. -/
theorem zeros_end {r j n : Nat} (hr : r = n % 64) (hj : j ≤ zeros n) (h : (r + 1 + j) % 64 = 56) : j = zeros n := by unfold zeros at *; omega
theorem zeros_more {r j n : Nat} (hr : r = n % 64) (hj : j ≤ zeros n) (h : (r + 1 + j) % 64 ≠ 56) : j + 1 ≤ zeros n := by
  have : j ≠ zeros n := fun e => h (by unfold zeros at e; omega)
  omega

end Go.Sha
