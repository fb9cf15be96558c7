/- General lemmas for walking the code, or plain mathematics. -/
import Derived.Test.YtfcejolipdcoaaaGreatDoorAuAll
set_option linter.unusedVariables false
set_option linter.unusedSimpArgs false
set_option maxRecDepth 8192
namespace Go.Au
def dval (l : List UInt8) : Nat := l.foldl (fun v c => 10 * v + (c.toNat - 48)) 0
theorem dval_snoc (l : List UInt8) (c : UInt8) : dval (l ++ [c]) = 10 * dval l + (c.toNat - 48) := by simp [dval]
theorem digit_nat {n : Nat} (h : n < 10) : (digit n).toNat = 48 + n := by simp only [digit, UInt8.toNat_ofNat']; omega
theorem dval_dec (n : Nat) : dval (dec n) = n := by
  induction n using Nat.strongRecOn with
  | _ n ih =>
    by_cases h : n < 10
    · rw [dec_lt h]; show 10 * 0 + ((digit n).toNat - 48) = n
      rw [digit_nat h]; omega
    · rw [dec_ge h, dval_snoc, ih (n / 10) (by omega), digit_nat (by omega)]; omega
theorem split_digits {a b s t : List UInt8} (ha : ∀ c ∈ a, c ≠ 58) (hb : ∀ c ∈ b, c ≠ 58) (h : a ++ 58 :: s = b ++ 58 :: t) : a = b ∧ s = t := by
  induction a generalizing b with
  | nil =>
    cases b with
    | nil => simpa using h
    | cons c b => simp at h; exact absurd h.1.symm (hb c (by simp))
  | cons c a ih =>
    cases b with
    | nil => simp at h; exact absurd h.1 (ha c (by simp))
    | cons d b =>
      simp only [List.cons_append, List.cons.injEq] at h
      obtain ⟨e1, e2⟩ := ih (fun x hx => ha x (by simp [hx])) (fun x hx => hb x (by simp [hx])) h.2
      exact ⟨by rw [h.1, e1], e2⟩
theorem dec_no58 (n : Nat) : ∀ c ∈ dec n, c ≠ 58 := by
  intro c hc h
  have := dec_digit n c hc
  rw [h] at this
  exact absurd this.2 (by decide)
theorem dec_inj {m n : Nat} (h : dec m = dec n) : m = n := by rw [← dval_dec m, ← dval_dec n, h]
theorem net_eq (a s : List UInt8) : net a ++ s = dec a.length ++ 58 :: (a ++ 44 :: s) := by simp [net]
theorem net_inj {a b s t : List UInt8} (h : net a ++ s = net b ++ t) : a = b ∧ s = t := by
  rw [net_eq, net_eq] at h
  obtain ⟨e1, e2⟩ := split_digits (dec_no58 _) (dec_no58 _) h
  obtain ⟨e3, e4⟩ := List.append_inj e2 (dec_inj e1)
  exact ⟨e3, by simpa using e4⟩
theorem nets_inj : ∀ {l m : List (List UInt8)}, nets l = nets m → l = m
  | [], [], _ => rfl
  | [], b :: m, h => by
    have h1 : (nets (b :: m)).length = 0 := by rw [← h]; rfl
    rw [nets_cons, List.length_append, net_len] at h1; omega
  | a :: l, [], h => by
    have h1 : (nets (a :: l)).length = 0 := by rw [h]; rfl
    rw [nets_cons, List.length_append, net_len] at h1; omega
  | a :: l, b :: m, h => by
    rw [nets_cons, nets_cons] at h
    obtain ⟨e1, e2⟩ := net_inj h
    rw [e1, nets_inj e2]
theorem text_nets' (a : List UInt8) (l : List (List UInt8)) : text a l = nets (a :: l) := by rw [nets_cons]; rfl
theorem text_inj {a b : List UInt8} {l m : List (List UInt8)} (h : text a l = text b m) : a = b ∧ l = m := by
  rw [text_nets', text_nets'] at h
  have := nets_inj h
  simpa using this
section
variable {b r t : List UInt8}
end
end Go.Au

namespace Go.Au
def isDig (c : UInt8) : Bool := Nat.ble 48 c.toNat && Nat.ble c.toNat 57
def lead (b : List UInt8) : List UInt8 := b.takeWhile isDig
def NetOk (b : List UInt8) : Prop :=
  0 < (lead b).length ∧ ((lead b).length = 1 ∨ b.getD 0 0 ≠ 48) ∧ dval (lead b) ≤ 16384 ∧ (lead b).length + dval (lead b) + 2 ≤ b.length ∧ b.getD (lead b).length 0 = 58 ∧ b.getD ((lead b).length + 1 + dval (lead b)) 0 = 44
instance (b : List UInt8) : Decidable (NetOk b) := by unfold NetOk; infer_instance
def tn1 (b : List UInt8) : List UInt8 := if NetOk b then (b.drop ((lead b).length + 1)).take (dval (lead b)) else []
def tn2 (b : List UInt8) : List UInt8 := if NetOk b then b.drop ((lead b).length + dval (lead b) + 2) else []
def ntRest : Nat → List UInt8 → List UInt8
  | 0, b => b
  | k + 1, b => tn2 (ntRest k b)
def ntRows (k : Nat) (b : List UInt8) : List (List UInt8) := (List.range k).map fun i => tn1 (ntRest i b)
def NtOks (k : Nat) (b : List UInt8) : Prop := ∀ i, i < k → NetOk (ntRest i b)
instance (k : Nat) (b : List UInt8) : Decidable (NtOks k b) := by unfold NtOks; infer_instance
def NtAll (k : Nat) (b : List UInt8) : Prop := NtOks k b ∧ ntRest k b = []
instance (k : Nat) (b : List UInt8) : Decidable (NtAll k b) := by unfold NtAll; infer_instance
def ntAll (k : Nat) (b : List UInt8) : List (List UInt8) := if NtAll k b then ntRows k b else []
def be (l : List UInt8) : Nat := l.foldl (fun v c => 256 * v + c.toNat) 0
end Go.Au

namespace Go.Au
def numOk (L : List (List UInt8)) (M : List Int) (k : Nat) : Prop := ∀ i, i < k → ((L.getD i []).length : Int) = M.getD i 0
instance (L : List (List UInt8)) (M : List Int) (k : Nat) : Decidable (numOk L M k) := by unfold numOk; infer_instance
def six (b : List UInt8) (i : Nat) : List UInt8 := (ntAll 6 b).getD i []
def UebOk (b : List UInt8) : Prop :=
  NtAll 6 b ∧ (six b 0).length = 1 ∧ (six b 1).length = 1 ∧ (six b 2).length = 4 ∧ (six b 3).length = 4 ∧ (six b 4).length = 32 ∧ (six b 5).length = 32 ∧
  1 ≤ be (six b 0) ∧ be (six b 0) ≤ be (six b 1) ∧ be (six b 1) ≤ 16 ∧ 1 ≤ be (six b 2) ∧ be (six b 2) ≤ 1024 ∧ be (six b 3) = 64
instance (b : List UInt8) : Decidable (UebOk b) := by unfold UebOk; infer_instance
def uN (b : List UInt8) (i : Nat) : Int := if UebOk b then ((be (six b i) : Nat) : Int) else 0
def uH (b : List UInt8) (i : Nat) : List UInt8 := if UebOk b then six b i else List.replicate 32 0
def VerOk (b : List UInt8) : Prop :=
  NtAll 6 b ∧ (six b 0).length = 4 ∧ (six b 1).length = 1 ∧ (six b 2).length = 1 ∧ (six b 3).length = 4 ∧ (six b 4).length = 16 ∧ (six b 5).length = 32 ∧
  1 ≤ be (six b 0) ∧ be (six b 0) ≤ 1048576 ∧ 1 ≤ be (six b 1) ∧ be (six b 1) ≤ be (six b 2) ∧ be (six b 2) ≤ 16 ∧ be (six b 3) ≤ 1024
instance (b : List UInt8) : Decidable (VerOk b) := by unfold VerOk; infer_instance
end Go.Au

namespace Go.Au
def mayH (h : Int) : Bool := decide (0 ≤ h ∧ h ≤ 4)
def mleavesTo (seed : List UInt8) (k : Nat) : List (List UInt8) := (List.range k).map fun (i : Nat) => pub seed (i : Int)
def mleaves (seed : List UInt8) (h : Nat) : List (List UInt8) := mleavesTo seed (2 ^ h)
theorem mleavesTo_len (seed : List UInt8) (k : Nat) : (mleavesTo seed k).length = k := by simp [mleavesTo]
theorem mleaves_len (seed : List UInt8) (h : Nat) : (mleaves seed h).length = 2 ^ h := mleavesTo_len _ _
theorem mleavesTo_snoc (seed : List UInt8) (k : Nat) : mleavesTo seed k ++ [pub seed ((k : Nat) : Int)] = mleavesTo seed (k + 1) := by simp [mleavesTo, List.range_succ]
theorem mleavesTo_all (seed : List UInt8) (k : Nat) : ∀ b ∈ mleavesTo seed k, b.length = 32 := by
  intro b hb; obtain ⟨j, _, rfl⟩ := List.mem_map.1 hb; exact pub_len _ _
theorem mleaves_all (seed : List UInt8) (h : Nat) : ∀ b ∈ mleaves seed h, b.length = 32 := mleavesTo_all _ _
def printT (h : Int) (r : List UInt8) : List UInt8 := text [112, 114, 105, 110, 116] [Go.Sha.put (max 0 h).toNat 1, r]
def mprint (seed : List UInt8) (h : Int) : List UInt8 := Go.Sha.sha (printT h (root (mleaves seed h.toNat)))
theorem mprint_len (seed : List UInt8) (h : Int) : (mprint seed h).length = 32 := Go.Sha.sha_len _
theorem pow16 {h : Int} (h0 : 0 ≤ h) (h1 : h ≤ 4) : 2 ^ h.toNat ≤ 16 := (show 2 ^ h.toNat ≤ 2 ^ 4 from Nat.pow_le_pow_right (by omega) (by omega))
theorem lg_pow' (m : Nat) : lg (2 ^ m) = m := by
  refine Nat.le_antisymm (lg_le (Nat.le_refl _)) ?_
  exact (Nat.pow_le_pow_iff_right (by omega)).1 (lg_up (2 ^ m))
theorem lg_mleaves (seed : List UInt8) (h : Nat) : lg (mleaves seed h).length = h := by rw [mleaves_len, lg_pow']
structure SigP where
  height : Int
  leaf : Int
  values : List (List UInt8)
  proof : List (List UInt8)
def okS (h l : Int) (v p : List (List UInt8)) : Bool := mayH h && (decide (v.length = 67) && okW ((2 ^ h.toNat : Nat) : Int) l p.length)
def climbS (m : List UInt8) (h l : Int) (v p : List (List UInt8)) : List UInt8 := if mayH h && decide (v.length = 67) then climbH ((2 ^ h.toNat : Nat) : Int) l (pubH (ends m v 67)) p else List.replicate 32 0
theorem climbS_len (m : List UInt8) (h l : Int) (v p : List (List UInt8)) : (climbS m h l v p).length = 32 := by
  unfold climbS; split
  · exact climbH_len _ _ (pubH_len _) _
  · simp
def vrf (fp m : List UInt8) (h l : Int) (v p : List (List UInt8)) : Bool := okS h l v p && decide (Go.Sha.sha (printT h (climbS m h l v p)) = fp)
end Go.Au

namespace Go.Au
def spH (w b h : Int) : Int := if w % 8 = 1 then h + (1 - 2 * (b % 2)) else h
def spL (w b l : Int) : Int := if w % 8 = 2 then l + (1 - 2 * (b % 2)) else l
def turnAt (v : List (List UInt8)) (y c : Nat) (x : UInt8) : List (List UInt8) := v.set y ((v.getD y []).set c ((v.getD y []).getD c 0 ^^^ x))
def spV (w b : Int) (v : List (List UInt8)) : List (List UInt8) :=
  if w % 8 = 3 then turnAt v (b % (v.length : Int)).toNat (b % 32).toNat 1 else if w % 8 = 5 then v.take (v.length - 1) else v
def spP (w b : Int) (p : List (List UInt8)) : List (List UInt8) :=
  if w % 8 = 4 ∧ 0 < p.length then turnAt p (b % (p.length : Int)).toNat 3 8 else if w % 8 = 6 then p ++ [List.replicate 32 0] else p
theorem spV_3 {w b : Int} {v : List (List UInt8)} {y c : Nat} (h : w % 8 = 3) (hy : b % (v.length : Int) = (y : Int)) (hc : b % 32 = (c : Int)) : turnAt v y c 1 = spV w b v := by
  unfold spV; rw [if_pos h, hy, hc, Int.toNat_natCast, Int.toNat_natCast]
theorem spV_5 {w b : Int} {v : List (List UInt8)} (h : w % 8 = 5) : v.take (v.length - 1) = spV w b v := by
  unfold spV; rw [if_neg (by omega), if_pos h]
theorem spV_n {w b : Int} {v : List (List UInt8)} (h : ¬ w % 8 = 3) (h' : ¬ w % 8 = 5) : v = spV w b v := by
  unfold spV; rw [if_neg h, if_neg h']
theorem spP_4 {w b : Int} {p : List (List UInt8)} {y : Nat} (h : w % 8 = 4) (h0 : 0 < p.length) (hy : b % (p.length : Int) = (y : Int)) : turnAt p y 3 8 = spP w b p := by
  unfold spP; rw [if_pos ⟨h, h0⟩, hy, Int.toNat_natCast]
theorem spP_6 {w b : Int} {p : List (List UInt8)} (h : w % 8 = 6) : p ++ [List.replicate 32 0] = spP w b p := by
  unfold spP; rw [if_neg (by omega), if_pos h]
theorem spP_n {w b : Int} {p : List (List UInt8)} (h : ¬ (w % 8 = 4 ∧ 0 < p.length)) (h' : ¬ w % 8 = 6) : p = spP w b p := by
  unfold spP; rw [if_neg h, if_neg h']
section
variable {fp m : List UInt8} {h l : Int} {v p : List (List UInt8)}
theorem okS_may (e : okS h l v p = true) : (0 ≤ h ∧ h ≤ 4) ∧ v.length = 67 ∧ okW ((2 ^ h.toNat : Nat) : Int) l p.length = true := by
  unfold okS mayH at e
  simp only [Bool.and_eq_true, decide_eq_true_eq] at e
  exact e
theorem okS_a (e : ¬ (0 ≤ h ∧ h ≤ 4)) : okS h l v p = false := by unfold okS mayH; rw [decide_eq_false e]; rfl
theorem okS_b (e : ¬ v.length = 67) : okS h l v p = false := by unfold okS; rw [decide_eq_false e]; simp
theorem okS_c (e : 0 ≤ h ∧ h ≤ 4) (e2 : v.length = 67) : okS h l v p = okW ((2 ^ h.toNat : Nat) : Int) l p.length := by unfold okS mayH; rw [decide_eq_true e, decide_eq_true e2]; simp
theorem climbS_a (e : ¬ (0 ≤ h ∧ h ≤ 4)) : climbS m h l v p = List.replicate 32 0 := by unfold climbS mayH; rw [decide_eq_false e]; rfl
theorem climbS_b (e : ¬ v.length = 67) : climbS m h l v p = List.replicate 32 0 := by unfold climbS; rw [decide_eq_false e]; simp
theorem climbS_c (e : 0 ≤ h ∧ h ≤ 4) (e2 : v.length = 67) : climbS m h l v p = climbH ((2 ^ h.toNat : Nat) : Int) l (pubH (ends m v 67)) p := by unfold climbS mayH; rw [decide_eq_true e, decide_eq_true e2]; rfl
theorem vrf_no (e : okS h l v p = false) : vrf fp m h l v p = false := by unfold vrf; rw [e]; rfl
theorem vrf_yes (e : okS h l v p = true) : vrf fp m h l v p = decide (Go.Sha.sha (printT h (climbS m h l v p)) = fp) := by unfold vrf; rw [e]; rfl
end
end Go.Au

namespace Go.Au
def okU (b : List UInt8) : Prop := 3 ≤ b.length ∧ (b.getD 0 0).toNat ≤ 4 ∧ b.length = 3 + 32 * (67 + (b.getD 0 0).toNat)
end Go.Au
namespace Go.Au
section
variable {h l : Int} {v p : List (List UInt8)}
end
end Go.Au

namespace Go.Au
end Go.Au

namespace Go.Au
def row4 (b : List UInt8) (i : Nat) : List UInt8 := tn1 (ntRest i b)
def shK (b : List UInt8) : Nat := ((row4 b 3).getD 0 0).toNat
def ShOk (b : List UInt8) : Prop :=
  b.length ≤ 16384 ∧ NtOks 4 b ∧ (row4 b 0).length = 1 ∧ (row4 b 3).length = 1 ∧ ((row4 b 0).getD 0 0).toNat < 16 ∧ shK b ≤ 16 ∧ (row4 b 2).length % 32 = 0 ∧ NtAll (shK b) (ntRest 4 b)
instance (b : List UInt8) : Decidable (ShOk b) := by unfold ShOk; infer_instance
section
variable {b : List UInt8}
end
def leavesH (B : List (List UInt8)) (k : Nat) : List (List UInt8) := (B.take k).map leafH
end Go.Au

namespace Go.Au
instance (b : List UInt8) : Decidable (okU b) := by unfold okU; infer_instance
section
variable {b : List UInt8}
end
def p5 (b : List UInt8) (i : Nat) : List UInt8 := (ntAll 5 b).getD i []
def PcOk (b : List UInt8) : Prop :=
  NtAll 5 b ∧ b.length ≤ 16384 ∧ (p5 b 0).length = 1 ∧ ((p5 b 0).getD 0 0).toNat < 16 ∧ VerOk (p5 b 1) ∧ okU (p5 b 2) ∧ (p5 b 3).length % 32 = 0
instance (b : List UInt8) : Decidable (PcOk b) := by unfold PcOk; infer_instance
section
variable {b : List UInt8}
end
end Go.Au

namespace Go.Au
def lenV (k z : Int) : Int := if k < 1 then -1 else if z < 1 then 0 else (z - 1) / k + 1
def FileP (kd ck cn cz : Int) (L : List UInt8) : Prop := (kd = 1 ∨ kd = 2) ∧ (1 ≤ ck ∧ ck ≤ cn ∧ cn ≤ 16) ∧ (1 ≤ cz ∧ cz ≤ 1024) ∧ L.length = 0
instance (kd ck cn cz : Int) (L : List UInt8) : Decidable (FileP kd ck cn cz L) := by unfold FileP; infer_instance
def BlkOk (ck cz : Int) (B : List (List UInt8)) (k : Nat) : Prop := ∀ j, j < k → 0 < cz - ((j : Nat) : Int) * 64 ∧ (((B.getD j []).length : Nat) : Int) = lenV ck (min (cz - ((j : Nat) : Int) * 64) 64)
instance (ck cz : Int) (B : List (List UInt8)) (k : Nat) : Decidable (BlkOk ck cz B k) := by unfold BlkOk; infer_instance
def RsOk (kd ck cn cz : Int) (L fp : List UInt8) (sn : Int) (u : List UInt8) (p B : List (List UInt8)) : Prop :=
  (UebOk u ∧ FileP kd ck cn cz L ∧ tagged [117, 101, 98] [u] = fp) ∧ (uN u 0 = ck ∧ uN u 1 = cn ∧ uN u 2 = cz) ∧ (0 ≤ sn ∧ sn < cn) ∧ ((B.length : Nat) : Int) = (cz - 1) / 64 + 1 ∧ BlkOk ck cz B B.length ∧
    (okW (uN u 1) sn p.length && decide (climbH (uN u 1) sn (root (leavesH B B.length)) p = uH u 5)) = true
instance (kd ck cn cz : Int) (L fp : List UInt8) (sn : Int) (u : List UInt8) (p B : List (List UInt8)) : Decidable (RsOk kd ck cn cz L fp sn u p B) := by unfold RsOk; infer_instance
section
variable {fp : List UInt8} {pn va vb vc vd : Int} {vs vr : List UInt8} {sh sl : Int} {X Y Z : List (List UInt8)} {B : List UInt8}
end
end Go.Au

namespace Go.Au
end Go.Au

namespace Go.Au
end Go.Au
