/- General lemmas for walking the code, or plain mathematics. -/
set_option linter.unusedVariables false
set_option linter.unusedSimpArgs false
set_option maxRecDepth 8192
namespace Go.Sha

abbrev Wd := BitVec 32

def rotr (a : Wd) (n : Nat) : Wd := a >>> n ||| a <<< (32 - n)
def s0 (x : Wd) : Wd := rotr x 7 ^^^ rotr x 18 ^^^ x >>> 3
def s1 (x : Wd) : Wd := rotr x 17 ^^^ rotr x 19 ^^^ x >>> 10
def S1 (x : Wd) : Wd := rotr x 6 ^^^ rotr x 11 ^^^ rotr x 25
def S0 (x : Wd) : Wd := rotr x 2 ^^^ rotr x 13 ^^^ rotr x 22

def table : List Wd := [0x428a2f98, 0x71374491, 0xb5c0fbcf, 0xe9b5dba5, 0x3956c25b, 0x59f111f1, 0x923f82a4, 0xab1c5ed5,
  0xd807aa98, 0x12835b01, 0x243185be, 0x550c7dc3, 0x72be5d74, 0x80deb1fe, 0x9bdc06a7, 0xc19bf174,
  0xe49b69c1, 0xefbe4786, 0x0fc19dc6, 0x240ca1cc, 0x2de92c6f, 0x4a7484aa, 0x5cb0a9dc, 0x76f988da,
  0x983e5152, 0xa831c66d, 0xb00327c8, 0xbf597fc7, 0xc6e00bf3, 0xd5a79147, 0x06ca6351, 0x14292967,
  0x27b70a85, 0x2e1b2138, 0x4d2c6dfc, 0x53380d13, 0x650a7354, 0x766a0abb, 0x81c2c92e, 0x92722c85,
  0xa2bfe8a1, 0xa81a664b, 0xc24b8b70, 0xc76c51a3, 0xd192e819, 0xd6990624, 0xf40e3585, 0x106aa070,
  0x19a4c116, 0x1e376c08, 0x2748774c, 0x34b0bcb5, 0x391c0cb3, 0x4ed8aa4a, 0x5b9cca4f, 0x682e6ff3,
  0x748f82ee, 0x78a5636f, 0x84c87814, 0x8cc70208, 0x90befffa, 0xa4506ceb, 0xbef9a3f7, 0xc67178f2]
def begin : List Wd := [0x6a09e667, 0xbb67ae85, 0x3c6ef372, 0xa54ff53a, 0x510e527f, 0x9b05688c, 0x1f83d9ab, 0x5be0cd19]

def wd (b : UInt8) : Wd := b.toBitVec.setWidth 32
/-- Four bytes as a word. -/
def be (l : List UInt8) (i : Nat) : Wd := wd (l.getD (4 * i) 0) <<< 24 ||| wd (l.getD (4 * i + 1) 0) <<< 16 ||| wd (l.getD (4 * i + 2) 0) <<< 8 ||| wd (l.getD (4 * i + 3) 0)

/-- The first i words of a block's 64. -/
def sched (l : List UInt8) : Nat → List Wd
  | 0 => []
  | i + 1 => let r := sched l i
    r ++ [if i < 16 then be l i else r.getD (i - 16) 0 + s0 (r.getD (i - 15) 0) + r.getD (i - 7) 0 + s1 (r.getD (i - 2) 0)]

theorem sched_len (l : List UInt8) : ∀ i, (sched l i).length = i
  | 0 => rfl
  | i + 1 => by simp [sched, sched_len l i]

theorem sched_get (l : List UInt8) (j : Nat) : ∀ i, j < i → (sched l i).getD j 0 = (sched l (j + 1)).getD j 0
  | 0, h => absurd h (Nat.not_lt_zero _)
  | i + 1, h => by
    by_cases e : j = i
    · subst e; rfl
    · have h1 := sched_get l j i (by omega)
      rw [← h1]
      have hl := sched_len l i
      simp only [sched, List.getD_eq_getElem?_getD]
      rw [List.getElem?_append_left (by omega)]

/-- One round. -/
def rnd (v : List Wd) (k w : Wd) : List Wd :=
  let a := v.getD 0 0; let e := v.getD 4 0
  let t := v.getD 7 0 + S1 e + (e &&& v.getD 5 0 ^^^ ~~~e &&& v.getD 6 0) + k + w
  let m := a &&& v.getD 1 0 ^^^ a &&& v.getD 2 0 ^^^ v.getD 1 0 &&& v.getD 2 0
  [t + S0 a + m, a, v.getD 1 0, v.getD 2 0, v.getD 3 0 + t, e, v.getD 5 0, v.getD 6 0]

/-- i rounds. -/
def rnds (l : List UInt8) (h : List Wd) : Nat → List Wd
  | 0 => h
  | i + 1 => rnd (rnds l h i) (table.getD i 0) ((sched l 64).getD i 0)

theorem rnds_len (l : List UInt8) (h : List Wd) (hh : h.length = 8) : ∀ i, (rnds l h i).length = 8
  | 0 => hh
  | _ + 1 => rfl

def mix (h : List Wd) (l : List UInt8) : List Wd := List.zipWith (· + ·) h (rnds l h 64)

theorem mix_len (h : List Wd) (l : List UInt8) (hh : h.length = 8) : (mix h l).length = 8 := by simp [mix, hh, rnds_len l h hh]

/-- Whole blocks are eaten. -/
def chewN : Nat → List Wd → List UInt8 → List Wd
  | 0, h, _ => h
  | k + 1, h, l => chewN k (mix h (l.take 64)) (l.drop 64)
def chew (h : List Wd) (l : List UInt8) : List Wd := chewN (l.length / 64) h l
def rest (l : List UInt8) : List UInt8 := l.drop (64 * (l.length / 64))

theorem rest_len (l : List UInt8) : (rest l).length = l.length % 64 := by simp [rest]; omega

theorem chewN_len : ∀ (k : Nat) (h : List Wd) (l : List UInt8), h.length = 8 → (chewN k h l).length = 8
  | 0, _, _, hh => hh
  | k + 1, _, _, hh => chewN_len k _ _ (mix_len _ _ hh)
theorem chew_len (h : List Wd) (l : List UInt8) (hh : h.length = 8) : (chew h l).length = 8 := chewN_len _ _ _ hh

theorem chew_short {h : List Wd} {l : List UInt8} (hl : l.length < 64) : chew h l = h ∧ rest l = l := by
  have : l.length / 64 = 0 := by omega
  simp [chew, rest, this, chewN]
theorem chew_step {h : List Wd} {l : List UInt8} (hl : 64 ≤ l.length) : chew h l = chew (mix h (l.take 64)) (l.drop 64) ∧ rest l = rest (l.drop 64) := by
  have e : l.length / 64 = (l.drop 64).length / 64 + 1 := by simp; omega
  constructor
  · unfold chew; rw [e, chewN]
  · unfold rest; rw [e, List.drop_drop]; congr 1; simp; omega

theorem chewN_append : ∀ (k : Nat) (h : List Wd) (l m : List UInt8), 64 * k ≤ l.length → chewN k h (l ++ m) = chewN k h l
  | 0, _, _, _, _ => rfl
  | k + 1, h, l, m, hk => by
    simp only [chewN]
    rw [List.take_append_of_le_length (by omega), List.drop_append_of_le_length (by omega)]
    exact chewN_append k _ _ _ (by simp; omega)
theorem chewN_add : ∀ (a b : Nat) (h : List Wd) (l : List UInt8), chewN (a + b) h l = chewN b (chewN a h l) (l.drop (64 * a))
  | 0, b, h, l => by simp [chewN]
  | a + 1, b, h, l => by
    rw [show a + 1 + b = (a + b) + 1 by omega]
    simp only [chewN]
    rw [chewN_add a b, List.drop_drop]
    congr 2; omega

/-- In two goes. -/
theorem chew_append (h : List Wd) (l m : List UInt8) : chew h (l ++ m) = chew (chew h l) (rest l ++ m) ∧ rest (l ++ m) = rest (rest l ++ m) := by
  have hl := rest_len l
  have e : (l ++ m).length / 64 = l.length / 64 + (rest l ++ m).length / 64 := by simp only [List.length_append, hl]; omega
  have hd : (l ++ m).drop (64 * (l.length / 64)) = rest l ++ m := by unfold rest; rw [List.drop_append_of_le_length (by omega)]
  constructor
  · unfold chew
    rw [e, chewN_add, chewN_append _ _ _ _ (by omega), hd]
  · rw [rest, e]
    show _ = (rest l ++ m).drop (64 * ((rest l ++ m).length / 64))
    rw [← hd, List.drop_drop, hd, Nat.mul_add]

/-- A number as so many bytes, the greatest first. -/
def put (n : Nat) : Nat → List UInt8
  | 0 => []
  | w + 1 => UInt8.ofNat (n / 256 ^ w) :: put n w

theorem put_len (n : Nat) : ∀ w, (put n w).length = w
  | 0 => rfl
  | w + 1 => by simp [put, put_len n w]

def zeros (n : Nat) : Nat := (119 - n % 64) % 64
def pad (n : Nat) : List UInt8 := 0x80 :: List.replicate (zeros n) 0 ++ put (8 * n) 8

/-- Words as bytes. -/
def out : List Wd → List UInt8
  | [] => []
  | a :: r => put a.toNat 4 ++ out r
theorem out_append : ∀ a b, out (a ++ b) = out a ++ out b
  | [], _ => rfl
  | x :: a, b => by simp [out, out_append a b]
theorem out_len : ∀ l, (out l).length = 4 * l.length
  | [] => rfl
  | a :: r => by simp [out, put_len, out_len r]; omega

def sha (b : List UInt8) : List UInt8 := out (chew begin (b ++ pad b.length))

theorem begin_len : begin.length = 8 := rfl
theorem sha_len (b : List UInt8) : (sha b).length = 32 := by
  unfold sha; rw [out_len, chew_len _ _ begin_len]

/-- On the way: what was eaten, what is left of a block, how many there were. -/
theorem sha_way (m : List UInt8) : sha m = out (chew (chew begin m) (rest m ++ pad m.length)) := by
  unfold sha; rw [(chew_append begin m _).1]

theorem pad_len (n : Nat) : (n + (pad n).length) % 64 = 0 := by simp [pad, put_len, zeros]; omega
/-- What is left, and the pad: whole blocks. -/
theorem end_eq (m : List UInt8) : rest m ++ pad m.length = rest m ++ [0x80] ++ List.replicate (zeros m.length) 0 ++ put (8 * m.length) 8 := by simp [pad]
theorem end_len (m : List UInt8) : (rest m ++ pad m.length).length % 64 = 0 := by
  have := pad_len m.length
  rw [List.length_append, rest_len]
  omega
theorem zeros_le (n : Nat) : zeros n < 64 := by unfold zeros; omega
/-- When the zeros end. -/
theorem zeros_end {r j n : Nat} (hr : r = n % 64) (hj : j ≤ zeros n) (h : (r + 1 + j) % 64 = 56) : j = zeros n := by unfold zeros at *; omega
theorem zeros_more {r j n : Nat} (hr : r = n % 64) (hj : j ≤ zeros n) (h : (r + 1 + j) % 64 ≠ 56) : j + 1 ≤ zeros n := by
  have : j ≠ zeros n := fun e => h (by unfold zeros at e; omega)
  omega

end Go.Sha

namespace Go.Au

def digit (n : Nat) : UInt8 := UInt8.ofNat (48 + n)
/-- Decimal digits (n + 1 of them are enough). -/
def decF : Nat → Nat → List UInt8
  | 0, n => [digit (n % 10)]
  | f + 1, n => if n < 10 then [digit n] else decF f (n / 10) ++ [digit (n % 10)]
def dec (n : Nat) : List UInt8 := decF n n

/-- Go's table of the numbers below a hundred. -/
def smalls : List UInt8 := [48, 48, 48, 49, 48, 50, 48, 51, 48, 52, 48, 53, 48, 54, 48, 55, 48, 56, 48, 57, 49, 48, 49, 49, 49, 50, 49, 51, 49, 52, 49, 53, 49, 54, 49, 55, 49, 56, 49, 57, 50, 48, 50, 49, 50, 50, 50, 51, 50, 52, 50, 53, 50, 54, 50, 55, 50, 56, 50, 57, 51, 48, 51, 49, 51, 50, 51, 51, 51, 52, 51, 53, 51, 54, 51, 55, 51, 56, 51, 57, 52, 48, 52, 49, 52, 50, 52, 51, 52, 52, 52, 53, 52, 54, 52, 55, 52, 56, 52, 57, 53, 48, 53, 49, 53, 50, 53, 51, 53, 52, 53, 53, 53, 54, 53, 55, 53, 56, 53, 57, 54, 48, 54, 49, 54, 50, 54, 51, 54, 52, 54, 53, 54, 54, 54, 55, 54, 56, 54, 57, 55, 48, 55, 49, 55, 50, 55, 51, 55, 52, 55, 53, 55, 54, 55, 55, 55, 56, 55, 57, 56, 48, 56, 49, 56, 50, 56, 51, 56, 52, 56, 53, 56, 54, 56, 55, 56, 56, 56, 57, 57, 48, 57, 49, 57, 50, 57, 51, 57, 52, 57, 53, 57, 54, 57, 55, 57, 56, 57, 57]
def digs : List UInt8 := [48, 49, 50, 51, 52, 53, 54, 55, 56, 57, 97, 98, 99, 100, 101, 102, 103, 104, 105, 106, 107, 108, 109, 110, 111, 112, 113, 114, 115, 116, 117, 118, 119, 120, 121, 122]
/-- Go's table of how many binary digits a byte has. -/
def len8 : List UInt8 := [0, 1, 2, 2, 3, 3, 3, 3, 4, 4, 4, 4, 4, 4, 4, 4, 5, 5, 5, 5, 5, 5, 5, 5, 5, 5, 5, 5, 5, 5, 5, 5, 6, 6, 6, 6, 6, 6, 6, 6, 6, 6, 6, 6, 6, 6, 6, 6, 6, 6, 6, 6, 6, 6, 6, 6, 6, 6, 6, 6, 6, 6, 6, 6, 7, 7, 7, 7, 7, 7, 7, 7, 7, 7, 7, 7, 7, 7, 7, 7, 7, 7, 7, 7, 7, 7, 7, 7, 7, 7, 7, 7, 7, 7, 7, 7, 7, 7, 7, 7, 7, 7, 7, 7, 7, 7, 7, 7, 7, 7, 7, 7, 7, 7, 7, 7, 7, 7, 7, 7, 7, 7, 7, 7, 7, 7, 7, 7, 8, 8, 8, 8, 8, 8, 8, 8, 8, 8, 8, 8, 8, 8, 8, 8, 8, 8, 8, 8, 8, 8, 8, 8, 8, 8, 8, 8, 8, 8, 8, 8, 8, 8, 8, 8, 8, 8, 8, 8, 8, 8, 8, 8, 8, 8, 8, 8, 8, 8, 8, 8, 8, 8, 8, 8, 8, 8, 8, 8, 8, 8, 8, 8, 8, 8, 8, 8, 8, 8, 8, 8, 8, 8, 8, 8, 8, 8, 8, 8, 8, 8, 8, 8, 8, 8, 8, 8, 8, 8, 8, 8, 8, 8, 8, 8, 8, 8, 8, 8, 8, 8, 8, 8, 8, 8, 8, 8, 8, 8, 8, 8, 8, 8, 8, 8, 8, 8, 8, 8, 8, 8, 8, 8, 8, 8, 8, 8]
def bl (n : Nat) : Nat := if n < 256 then (len8.getD n 0).toNat else 8 + (len8.getD (n / 256) 0).toNat
def digB (n : Nat) : Bool := Nat.ble (bl n * 78913 / 262144 + (if 10 ^ (bl n * 78913 / 262144) ≤ n then 1 else 0)) 4 && Nat.beq (bl n * 78913 / 262144 + (if 10 ^ (bl n * 78913 / 262144) ≤ n then 1 else 0)) (if n < 1000 then 3 else 4)
def allB (p : Nat → Bool) : Nat → Bool
  | 0 => true
  | n + 1 => p n && allB p n
/-- A row with its length ahead. -/
def net (b : List UInt8) : List UInt8 := dec b.length ++ [58] ++ b ++ [44]
def nets (l : List (List UInt8)) : List UInt8 := l.flatMap net
def text (tag : List UInt8) (l : List (List UInt8)) : List UInt8 := net tag ++ nets l
def tagged (tag : List UInt8) (l : List (List UInt8)) : List UInt8 := Go.Sha.sha (text tag l)
theorem tagged_len (tag : List UInt8) (l : List (List UInt8)) : (tagged tag l).length = 32 := Go.Sha.sha_len _
def total (l : List (List UInt8)) : Nat := (l.map List.length).sum
end Go.Au

namespace Go.Au

/-! ### chains -/
def stepT (h : List UInt8) : List UInt8 := text [115, 116, 101, 112] [h]
def step (h : List UInt8) : List UInt8 := tagged [115, 116, 101, 112] [h]
def steps : Nat → List UInt8 → List UInt8
  | 0, h => h
  | k + 1, h => step (steps k h)
def start (seed : List UInt8) (leaf chain : Int) : List UInt8 := tagged [115, 116, 97, 114, 116] [seed, Go.Sha.put (max 0 leaf).toNat 4, Go.Sha.put (max 0 chain).toNat 4]
/-! ### digits -/
def nib (l : List UInt8) : List Int := l.flatMap fun c => [((c.toNat / 16 : Nat) : Int), ((c.toNat % 16 : Nat) : Int)]
def chk : List UInt8 → Nat
  | [] => 0
  | c :: l => 30 - c.toNat / 16 - c.toNat % 16 + chk l
def mh (m : List UInt8) : List UInt8 := tagged [109, 115, 103] [m]
theorem mh_len (m : List UInt8) : (mh m).length = 32 := tagged_len _ _
def digits (m : List UInt8) : List Int := nib (mh m) ++ [((chk (mh m) / 256 : Nat) : Int), ((chk (mh m) / 16 % 16 : Nat) : Int), ((chk (mh m) % 16 : Nat) : Int)]
theorem nib_len (l : List UInt8) : (nib l).length = 2 * l.length := by
  induction l with
  | nil => rfl
  | cons c l ih => simp only [nib, List.flatMap_cons, List.length_append, List.length_cons, List.length_nil] at ih ⊢; omega
theorem chk_le : ∀ (l : List UInt8), chk l ≤ 30 * l.length
  | [] => by simp [chk]
  | c :: l => by have := chk_le l; rw [chk, List.length_cons]; omega
/-! ### leaves, signatures -/
def pubH (ends : List (List UInt8)) : List UInt8 := tagged [112, 117, 98, 108, 105, 99] ends
def trueEnds (seed : List UInt8) (leaf : Int) (k : Nat) : List (List UInt8) := (List.range k).map fun (c : Nat) => steps 15 (start seed leaf (c : Int))
def pub (seed : List UInt8) (leaf : Int) : List UInt8 := pubH (trueEnds seed leaf 67)
def sign (seed : List UInt8) (leaf : Int) (m : List UInt8) (k : Nat) : List (List UInt8) := (List.range k).map fun (c : Nat) => steps ((digits m).getD c 0).toNat (start seed leaf (c : Int))
def ends (m : List UInt8) (v : List (List UInt8)) (k : Nat) : List (List UInt8) := (List.range k).map fun (c : Nat) => steps (15 - ((digits m).getD c 0).toNat) (v.getD c [])
/-! ### the checksum -/
def sum15 : List Int → Int
  | [] => 0
  | d :: l => 15 - d + sum15 l
theorem chk_nib : ∀ (l : List UInt8), sum15 (nib l) = (chk l : Int)
  | [] => rfl
  | c :: l => by
    have h := chk_nib l
    have hc := c.toNat_lt
    have e : nib (c :: l) = ((c.toNat / 16 : Nat) : Int) :: ((c.toNat % 16 : Nat) : Int) :: nib l := by simp [nib]
    rw [e, sum15, sum15, h, chk]
    omega
theorem digits_take (m : List UInt8) : (digits m).take 64 = nib (mh m) := by
  have h : (nib (mh m)).length = 64 := by rw [nib_len, mh_len]
  rw [digits, ← h, List.take_left]
theorem digits_hi (m : List UInt8) : (digits m).getD 64 0 = ((chk (mh m) / 256 : Nat) : Int) ∧ (digits m).getD 65 0 = ((chk (mh m) / 16 % 16 : Nat) : Int) ∧ (digits m).getD 66 0 = ((chk (mh m) % 16 : Nat) : Int) := by
  have h : (nib (mh m)).length = 64 := by rw [nib_len, mh_len]
  simp only [digits, List.getD_eq_getElem?_getD]
  refine ⟨?_, ?_, ?_⟩ <;> rw [List.getElem?_append_right (by omega), h] <;> rfl
theorem chk_mh_le (m : List UInt8) : chk (mh m) ≤ 960 := by have := chk_le (mh m); rw [mh_len] at this; omega
theorem checksum (m : List UInt8) : (digits m).getD 64 0 * 256 + (digits m).getD 65 0 * 16 + (digits m).getD 66 0 = sum15 ((digits m).take 64) := by
  obtain ⟨h1, h2, h3⟩ := digits_hi m
  have := chk_mh_le m
  rw [h1, h2, h3, digits_take, chk_nib]
  omega
end Go.Au

namespace Go.Au

def leafH (b : List UInt8) : List UInt8 := tagged [108, 101, 97, 102] [b]
def node (a b : List UInt8) : List UInt8 := tagged [110, 111, 100, 101] [a, b]
def padH : List UInt8 := tagged [112, 97, 100] []
/-- How many halvings lead to one. -/
def lgF : Nat → Nat → Nat
  | 0, _ => 0
  | f + 1, n => if n ≤ 1 then 0 else lgF f ((n + 1) / 2) + 1
def lg (n : Nat) : Nat := lgF n n
/-- The least power of two that is not below. -/
def padN (n : Nat) : Nat := 2 ^ lg n
/-- The first j nodes above a row. -/
def upTo (r : List (List UInt8)) (j : Nat) : List (List UInt8) := (List.range j).map fun i => node (r.getD (2 * i) []) (r.getD (2 * i + 1) [])
def up (r : List (List UInt8)) : List (List UInt8) := upTo r (r.length / 2)
def ups (r : List (List UInt8)) : Nat → List (List UInt8)
  | 0 => r
  | k + 1 => up (ups r k)
/-- A row of leaves, padded. -/
def padTo (l : List (List UInt8)) : Nat → List (List UInt8)
  | 0 => l
  | k + 1 => padTo l k ++ [padH]
def rowP (l : List (List UInt8)) : List (List UInt8) := padTo l (padN l.length - l.length)
def levels (r : List (List UInt8)) (k : Nat) : List (List (List UInt8)) := (List.range k).map (ups r)
def root (l : List (List UInt8)) : List UInt8 := (ups (rowP l) (lg l.length)).getD 0 []
end Go.Au

namespace Go.Au
/-- The neighbour under one node. -/
def sib (i : Nat) : Nat := if i % 2 = 0 then i + 1 else i - 1
/-- The first k hashes beside the way of leaf i above a row r. -/
def beside (r : List (List UInt8)) (i k : Nat) : List (List UInt8) := (List.range k).map fun j => (ups r j).getD (sib (i / 2 ^ j)) []
/-- A node's two hashes: that on the way at place i, and that beside it. -/
def onW (i : Nat) (x q : List UInt8) : List UInt8 := if i % 2 = 1 then q ++ x else x ++ q
def textN (a b : List UInt8) : List UInt8 := text [110, 111, 100, 101] [a, b]
def textP (xy : List UInt8) : List UInt8 := textN (xy.take 32) (xy.drop 32)
def nodeP (xy : List UInt8) : List UInt8 := node (xy.take 32) (xy.drop 32)
/-- What a way of k steps makes. -/
def climb (i : Nat) (x : List UInt8) (p : List (List UInt8)) : Nat → List UInt8
  | 0 => x
  | k + 1 => nodeP (onW (i / 2 ^ k) (climb i x p k) (p.getD k []))
/-- The nodes on a way of k steps. -/
def ways (i : Nat) (x : List UInt8) (p : List (List UInt8)) (k : Nat) : List (List UInt8) := (List.range k).map fun j => onW (i / 2 ^ j) (climb i x p j) (p.getD j [])
/-- Is there a way: of a leaf that there is, in a tree that is not too great, of the tree's height. -/
def okW (n i : Int) (m : Nat) : Bool := decide (0 ≤ i ∧ i < n ∧ n ≤ 256 ∧ m = lg n.toNat)
def climbH (n i : Int) (x : List UInt8) (p : List (List UInt8)) : List UInt8 := if okW n i p.length then climb i.toNat x p p.length else List.replicate 32 0
def waysH (n i : Int) (x : List UInt8) (p : List (List UInt8)) : List (List UInt8) := if okW n i p.length then ways i.toNat x p p.length else []
/-- The last place below k where two rows are unlike. -/
def lastNe (x y : List (List UInt8)) : Nat → Option Nat
  | 0 => none
  | k + 1 => if x.getD k [] = y.getD k [] then lastNe x y k else some k
/-- What the break of two ways is, if there is one. -/
def brk (n i : Int) (a b : List UInt8) (p q : List (List UInt8)) : Option (List UInt8 × List UInt8) :=
  if okW n i p.length = true ∧ okW n i q.length = true ∧ climbH n i a p = climbH n i b q then
    (lastNe (waysH n i a p) (waysH n i b q) p.length).map fun k => (textP ((waysH n i a p).getD k []), textP ((waysH n i b q).getD k []))
  else none
def brA (o : Option (List UInt8 × List UInt8)) : List UInt8 := match o with | some x => x.1 | none => []
def brB (o : Option (List UInt8 × List UInt8)) : List UInt8 := match o with | some x => x.2 | none => []
section
variable {n i : Int} {a b : List UInt8} {p q : List (List UInt8)}
end
/-- The texts of the nodes on a way. -/
def wtexts (i : Nat) (x : List UInt8) (p : List (List UInt8)) (k : Nat) : List (List UInt8) := (ways i x p k).map textP
end Go.Au
