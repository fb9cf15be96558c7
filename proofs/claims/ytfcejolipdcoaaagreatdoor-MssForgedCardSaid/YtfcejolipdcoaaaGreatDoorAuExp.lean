/- How a signature came to be right, in plain words. -/
import Derived.Test.YtfcejolipdcoaaaGreatDoorAuMss6
import Derived.Test.YtfcejolipdcoaaaGreatDoorAuDoor
set_option linter.unusedVariables false
set_option linter.unusedSimpArgs false
set_option maxRecDepth 8192
namespace Go.Au
structure FgP where
  A : List UInt8
  B : List UInt8
  k : Bool
  a : Int
  c : Int
  q : Int
  x : List UInt8
def fgB (A B : List UInt8) : FgP := ⟨A, B, false, 0, 0, 0, List.replicate 32 0⟩
def fgL (a c q : Int) (x : List UInt8) : FgP := ⟨[], [], true, a, c, q, x⟩
def lastF (f g : Nat → List UInt8) : Nat → Option Nat
  | 0 => none
  | k + 1 => if f k = g k then lastF f g k else some k
section
variable {f g : Nat → List UInt8}
theorem lastF_ne {k : Nat} (h : ¬ f k = g k) : lastF f g (k + 1) = some k := if_neg h
theorem lastF_eq {k : Nat} (h : f k = g k) : lastF f g (k + 1) = lastF f g k := if_pos h
theorem lastF_some : ∀ {k j : Nat}, lastF f g k = some j → j < k ∧ ¬ f j = g j ∧ ∀ q, j < q → q < k → f q = g q
  | 0, j, h => by cases h
  | k + 1, j, h => by
    by_cases e : f k = g k
    · rw [lastF_eq e] at h
      obtain ⟨h1, h2, h3⟩ := lastF_some h
      refine ⟨by omega, h2, fun q a b => ?_⟩
      rcases Nat.lt_or_ge q k with h4 | h4
      · exact h3 q a h4
      · obtain rfl : q = k := by omega
        exact e
    · rw [lastF_ne e] at h
      obtain rfl := Option.some.inj h
      exact ⟨by omega, e, fun q a b => by omega⟩
theorem lastF_none : ∀ {k : Nat}, lastF f g k = none → ∀ j, j < k → f j = g j
  | 0, _, j, h => by omega
  | k + 1, h, j, hj => by
    by_cases e : f k = g k
    · rw [lastF_eq e] at h
      rcases Nat.lt_or_ge j k with h4 | h4
      · exact lastF_none h j h4
      · obtain rfl : j = k := by omega
        exact e
    · rw [lastF_ne e] at h; cases h
end
def ownC (seed : List UInt8) (l c : Int) (d i : Nat) : List UInt8 := steps (d + i) (start seed l c)
def stepTo (seed : List UInt8) (l c : Int) (d : Nat) (x : List UInt8) (k : Nat) : FgP :=
  match lastF (ownC seed l c d) (fun i => steps i x) k with
  | some j => fgB (stepT (ownC seed l c d j)) (stepT (steps j x))
  | none => fgL l c d x
def stepF (seed : List UInt8) (l c : Int) (d : Nat) (x : List UInt8) : FgP := stepTo seed l c d x (15 - d)
section
variable {seed x : List UInt8} {l c : Int} {d k : Nat}
theorem stepTo_ne (h : ¬ ownC seed l c d k = steps k x) : stepTo seed l c d x (k + 1) = fgB (stepT (ownC seed l c d k)) (stepT (steps k x)) := by
  unfold stepTo; rw [lastF_ne h]
theorem stepTo_eq (h : ownC seed l c d k = steps k x) : stepTo seed l c d x (k + 1) = stepTo seed l c d x k := by
  unfold stepTo; rw [lastF_eq h]
end
def fch (d e : List Int) : Nat → Nat → Nat
  | 0, c => c
  | f + 1, c => if e.getD c 0 ≤ d.getD c 0 then fch d e f (c + 1) else c
theorem fch_ge (d e : List Int) : ∀ f c, c ≤ fch d e f c ∧ fch d e f c ≤ c + f
  | 0, c => ⟨Nat.le_refl _, Nat.le_refl _⟩
  | f + 1, c => by
    unfold fch; split
    · have := fch_ge d e f (c + 1); omega
    · omega
theorem fch_go {d e : List Int} {c n : Nat} (h : e.getD c 0 ≤ d.getD c 0) (hc : c < n) : fch d e (n - c) c = fch d e (n - (c + 1)) (c + 1) := by
  rw [show n - c = (n - (c + 1)) + 1 by omega, fch, if_pos h]
theorem fch_stop {d e : List Int} {c n : Nat} (h : ¬ e.getD c 0 ≤ d.getD c 0) (hc : c < n) : fch d e (n - c) c = c := by
  rw [show n - c = (n - (c + 1)) + 1 by omega, fch, if_neg h]
theorem fch_end {d e : List Int} : ∀ f c, fch d e f c = c + f → ∀ i, c ≤ i → i < c + f → e.getD i 0 ≤ d.getD i 0
  | 0, c, _, i, h1, h2 => by omega
  | f + 1, c, h, i, h1, h2 => by
    by_cases hc : e.getD c 0 ≤ d.getD c 0
    · rw [fch, if_pos hc] at h
      rcases Nat.lt_or_ge c i with h3 | h3
      · exact fch_end f (c + 1) (by omega) i h3 (by omega)
      · obtain rfl : i = c := by omega
        exact hc
    · rw [fch, if_neg hc] at h; omega
theorem fch_at {d e : List Int} : ∀ f c, fch d e f c < c + f → ¬ e.getD (fch d e f c) 0 ≤ d.getD (fch d e f c) 0
  | 0, c, h => by unfold fch at h; omega
  | f + 1, c, h => by
    by_cases hc : e.getD c 0 ≤ d.getD c 0
    · rw [fch, if_pos hc] at h ⊢; exact fch_at f (c + 1) (by omega)
    · rw [fch, if_neg hc]; exact hc
def chW (W m : List UInt8) : Nat := if W.length = 0 then 0 else fch (digits m) (digits W) 67 0
theorem chW_0 {W m : List UInt8} (h : W.length = 0) : chW W m = 0 := if_pos h
theorem chW_n {W m : List UInt8} (h : ¬ W.length = 0) : chW W m = fch (digits m) (digits W) 67 0 := if_neg h
theorem fch_all {W m : List UInt8} (h : fch (digits m) (digits W) 67 0 = 67) : digits W = digits m :=
  digits_le W m fun i hi => fch_end 67 0 (by omega) i (by omega) (by omega)
theorem fch_none {W m : List UInt8} (h : digits W = digits m) : fch (digits m) (digits W) 67 0 = 67 := by
  have h1 := fch_ge (digits m) (digits W) 67 0
  refine Decidable.byContradiction fun hn => ?_
  have := fch_at (d := digits m) (e := digits W) 67 0 (by omega)
  rw [h] at this; omega
theorem fch_lt {W m : List UInt8} (h : ¬ digits W = digits m) : fch (digits m) (digits W) 67 0 < 67 := by
  have h1 := fch_ge (digits m) (digits W) 67 0
  refine Decidable.byContradiction fun hn => h (fch_all (by omega))
theorem chW_lt {W m : List UInt8} (h : W.length = 0 ∨ ¬ digits W = digits m) : chW W m < 67 := by
  unfold chW; split
  · omega
  · rename_i hn; exact fch_lt (h.resolve_left hn)
def wasAt (L : List (List UInt8)) (l : Int) : List UInt8 := if 0 ≤ l ∧ l < (L.length : Int) then L.getD l.toNat [] else []
theorem wasAt_in {L : List (List UInt8)} {l : Int} (h : 0 ≤ l ∧ l < (L.length : Int)) : wasAt L l = L.getD l.toNat [] := if_pos h
theorem wasAt_out {L : List (List UInt8)} {l : Int} (h : ¬ (0 ≤ l ∧ l < (L.length : Int))) : wasAt L l = [] := if_neg h
def pubT (l : List (List UInt8)) : List UInt8 := text [112, 117, 98, 108, 105, 99] l
def msgT (m : List UInt8) : List UInt8 := text [109, 115, 103] [m]
def ownP (seed : List UInt8) (h l : Int) : List (List UInt8) := beside (rowP (mleaves seed h.toNat)) l.toNat (lg (mleaves seed h.toNat).length)
def brkS (seed m : List UInt8) (h sl : Int) (v p : List (List UInt8)) : Option (List UInt8 × List UInt8) := brk ((2 ^ h.toNat : Nat) : Int) sl (pub seed sl) (pubH (ends m v 67)) (ownP seed h sl) p
def explS (seed W m : List UInt8) (h sh sl : Int) (v p : List (List UInt8)) : FgP :=
  if printT h (root (mleaves seed h.toNat)) = printT sh (climbS m sh sl v p) then
    match brkS seed m h sl v p with
    | some x => fgB x.1 x.2
    | none =>
      if pubT (trueEnds seed sl 67) = pubT (ends m v 67) then
        if 0 < W.length ∧ digits W = digits m then fgB (msgT W) (msgT m)
        else stepF seed sl (chW W m : Nat) ((digits m).getD (chW W m) 0).toNat (v.getD (chW W m) [])
      else fgB (pubT (trueEnds seed sl 67)) (pubT (ends m v 67))
  else fgB (printT h (root (mleaves seed h.toNat))) (printT sh (climbS m sh sl v p))
def expl (seed W m : List UInt8) (h sh sl : Int) (v p : List (List UInt8)) : Option FgP :=
  if vrf (mprint seed h) m sh sl v p = true ∧ ¬ (0 < W.length ∧ W = m) then some (explS seed W m h sh sl v p) else none
def fg0 : FgP := ⟨[], [], false, 0, 0, 0, List.replicate 32 0⟩
def fgO (o : Option FgP) : FgP := match o with | some x => x | none => fg0
section
variable {seed W m : List UInt8} {h sh sl : Int} {v p : List (List UInt8)}
theorem expl_no1 (e : ¬ vrf (mprint seed h) m sh sl v p = true) : expl seed W m h sh sl v p = none := if_neg (fun x => e x.1)
theorem expl_no2 (e : 0 < W.length) (e2 : W = m) : expl seed W m h sh sl v p = none := if_neg (fun x => x.2 ⟨e, e2⟩)
theorem expl_yes (e : vrf (mprint seed h) m sh sl v p = true) (e2 : ¬ (0 < W.length ∧ W = m)) : expl seed W m h sh sl v p = some (explS seed W m h sh sl v p) := if_pos ⟨e, e2⟩
theorem explS_1 (e : ¬ printT h (root (mleaves seed h.toNat)) = printT sh (climbS m sh sl v p)) : explS seed W m h sh sl v p = fgB (printT h (root (mleaves seed h.toNat))) (printT sh (climbS m sh sl v p)) := if_neg e
theorem explS_2 (e : printT h (root (mleaves seed h.toNat)) = printT sh (climbS m sh sl v p)) (e2 : (brkS seed m h sl v p).isSome = true) : explS seed W m h sh sl v p = fgB (brA (brkS seed m h sl v p)) (brB (brkS seed m h sl v p)) := by
  unfold explS; rw [if_pos e]
  cases hb : brkS seed m h sl v p with
  | none => rw [hb] at e2; cases e2
  | some x => rfl
theorem explS_n (e : printT h (root (mleaves seed h.toNat)) = printT sh (climbS m sh sl v p)) (e2 : (brkS seed m h sl v p).isSome = false) : explS seed W m h sh sl v p =
    if pubT (trueEnds seed sl 67) = pubT (ends m v 67) then
      if 0 < W.length ∧ digits W = digits m then fgB (msgT W) (msgT m)
      else stepF seed sl (chW W m : Nat) ((digits m).getD (chW W m) 0).toNat (v.getD (chW W m) [])
    else fgB (pubT (trueEnds seed sl 67)) (pubT (ends m v 67)) := by
  unfold explS; rw [if_pos e]
  cases hb : brkS seed m h sl v p with
  | none => rfl
  | some x => rw [hb] at e2; cases e2
theorem explS_3 (e : printT h (root (mleaves seed h.toNat)) = printT sh (climbS m sh sl v p)) (e2 : (brkS seed m h sl v p).isSome = false) (e3 : ¬ pubT (trueEnds seed sl 67) = pubT (ends m v 67)) : explS seed W m h sh sl v p = fgB (pubT (trueEnds seed sl 67)) (pubT (ends m v 67)) := by
  rw [explS_n e e2, if_neg e3]
theorem explS_4 (e : printT h (root (mleaves seed h.toNat)) = printT sh (climbS m sh sl v p)) (e2 : (brkS seed m h sl v p).isSome = false) (e3 : pubT (trueEnds seed sl 67) = pubT (ends m v 67)) (e4 : 0 < W.length) (e5 : digits W = digits m) : explS seed W m h sh sl v p = fgB (msgT W) (msgT m) := by
  rw [explS_n e e2, if_pos e3, if_pos ⟨e4, e5⟩]
theorem explS_5 (e : printT h (root (mleaves seed h.toNat)) = printT sh (climbS m sh sl v p)) (e2 : (brkS seed m h sl v p).isSome = false) (e3 : pubT (trueEnds seed sl 67) = pubT (ends m v 67)) (e4 : ¬ (0 < W.length ∧ digits W = digits m)) : explS seed W m h sh sl v p = stepF seed sl (chW W m : Nat) ((digits m).getD (chW W m) 0).toNat (v.getD (chW W m) []) := by
  rw [explS_n e e2, if_pos e3, if_neg e4]
theorem printT_inj (h0 : 0 ≤ h ∧ h ≤ 4) (s0 : 0 ≤ sh ∧ sh ≤ 4) {a b : List UInt8} (e : printT h a = printT sh b) : h = sh ∧ a = b := by
  have e1 := (text_inj e).2
  simp only [List.cons.injEq, and_true] at e1
  refine ⟨?_, e1.2⟩
  have e2 := congrArg (fun l => (l.getD 0 0).toNat) e1.1
  have f : ∀ z : Int, 0 ≤ z ∧ z ≤ 4 → ((Go.Sha.put (max 0 z).toNat 1).getD 0 0).toNat = z.toNat := fun z hz => by
    show (UInt8.ofNat ((max 0 z).toNat / 256 ^ 0)).toNat = _
    rw [UInt8.toNat_ofNat']; omega
  simp only [f h h0, f sh s0] at e2
  omega
end
def isB (A B : List UInt8) : Bool := !decide (A = B) && decide (Go.Sha.sha A = Go.Sha.sha B)
theorem isB_mk {A B : List UInt8} (h : ¬ A = B) (h2 : Go.Sha.sha A = Go.Sha.sha B) : isB A B = true := by
  unfold isB; rw [decide_eq_false h, decide_eq_true h2]; rfl
def rngF (h a c q : Int) : Bool := decide ((0 ≤ a ∧ a < ((2 ^ h.toNat : Nat) : Int)) ∧ (0 ≤ c ∧ c < 67) ∧ 0 ≤ q ∧ q ≤ 15)
def holdsF (seed : List UInt8) (h : Int) (L : List (List UInt8)) (f : FgP) : Bool :=
  rngF h f.a f.c f.q && (if f.k then holds seed h L f.a f.c f.q f.x else isB f.A f.B)
end Go.Au
