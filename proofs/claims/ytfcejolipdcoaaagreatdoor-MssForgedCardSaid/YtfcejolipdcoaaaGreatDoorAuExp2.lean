/- An explanation holds, in plain words. -/
import Derived.Test.YtfcejolipdcoaaaGreatDoorAuExp
set_option linter.unusedVariables false
set_option linter.unusedSimpArgs false
set_option maxRecDepth 8192
namespace Go.Au
theorem nib_inj : ∀ {a b : List UInt8}, nib a = nib b → a = b
  | [], [], _ => rfl
  | [], c :: b, h => by simp [nib] at h
  | c :: a, [], h => by simp [nib] at h
  | c :: a, d :: b, h => by
    have e : ∀ (x : UInt8) (l : List UInt8), nib (x :: l) = ((x.toNat / 16 : Nat) : Int) :: ((x.toNat % 16 : Nat) : Int) :: nib l := fun x l => by simp [nib]
    rw [e, e] at h
    simp only [List.cons.injEq] at h
    obtain ⟨h1, h2, h3⟩ := h
    rw [nib_inj h3, show c = d from UInt8.toNat.inj (by omega)]
theorem digits_mh {a b : List UInt8} (h : digits a = digits b) : mh a = mh b := by
  have e := congrArg (List.take 64) h
  rw [digits_take, digits_take] at e
  exact nib_inj e
section
variable {seed W m : List UInt8} {h sl : Int} {v p : List (List UInt8)}
theorem ownP_all (hl : 0 ≤ sl ∧ sl < ((2 ^ h.toNat : Nat) : Int)) : ∀ b ∈ ownP seed h sl, b.length = 32 :=
  beside_all (mleaves_all _ _) (by rw [mleaves_len]; omega) (Nat.le_refl _)
theorem brkS_none (hm : 0 ≤ h ∧ h ≤ 4) (hp : ∀ x ∈ p, x.length = 32) (h67 : v.length = 67) (hk : okW ((2 ^ h.toNat : Nat) : Int) sl p.length = true) (hr : root (mleaves seed h.toNat) = climbS m h sl v p)
    (hn : (brkS seed m h sl v p).isSome = false) : pub seed sl = pubH (ends m v 67) := by
  have hk2 := okW_of hk
  have hl : 0 ≤ sl ∧ sl < ((2 ^ h.toNat : Nat) : Int) := ⟨hk2.1, hk2.2.1⟩
  have p16 := pow16 hm.1 hm.2
  have hO : ∀ b ∈ ownP seed h sl, b.length = 32 := ownP_all hl
  rw [brkS, brk_isSome (pub_len _ _) (pubH_len _) hO hp] at hn
  have hn' := of_decide_eq_false hn
  have ok1 : okW ((2 ^ h.toNat : Nat) : Int) sl (ownP seed h sl).length = true := okW_mk ⟨hk2.1, hk2.2.1, hk2.2.2.1, by rw [ownP, beside_len, mleaves_len, Int.toNat_natCast]⟩
  have hc : climbH ((2 ^ h.toNat : Nat) : Int) sl (pub seed sl) (ownP seed h sl) = climbH ((2 ^ h.toNat : Nat) : Int) sl (pubH (ends m v 67)) p := by
    rw [climbS_c hm h67] at hr
    rw [← hr]
    have e := climbH_root (mleaves_all seed h.toNat) (by rw [mleaves_len]; omega) hl.1 (by rw [mleaves_len]; exact hl.2)
    rw [mleaves_at (by omega), show ((sl.toNat : Nat) : Int) = sl by omega] at e
    rw [mleaves_len] at e
    rw [ownP, mleaves_len]
    exact e
  exact (Decidable.not_not.1 fun hh => hn' ⟨ok1, hk, hc, hh⟩ : pub seed sl = pubH (ends m v 67) ∧ ownP seed h sl = p).1
theorem rng0 : rngF h 0 0 0 = true := decide_eq_true ⟨⟨Int.le_refl _, by have := Nat.pow_pos (n := h.toNat) (show 0 < 2 by omega); omega⟩, by omega, by omega⟩
theorem holds_br {L : List (List UInt8)} {A B : List UInt8} (hne : ¬ A = B) (hs : Go.Sha.sha A = Go.Sha.sha B) : holdsF seed h L (fgB A B) = true := by
  show (rngF h 0 0 0 && isB A B) = true
  rw [rng0, isB_mk hne hs]; rfl
theorem tag_ne {t a b : List UInt8} (h : ¬ a = b) : ¬ text t [a] = text t [b] := fun e => h (by simpa using (text_inj e).2)
theorem step_holds {L : List (List UInt8)} {K d : Nat} {x : List UInt8} (hL : ((L.length : Nat) : Int) = ((2 ^ h.toNat : Nat) : Int)) (hl : 0 ≤ sl ∧ sl < ((2 ^ h.toNat : Nat) : Int)) (hK : K < 67) (hd : d ≤ 15) (he : steps 15 (start seed sl (K : Int)) = steps (15 - d) x)
    (hw : (L.getD sl.toNat []).length = 0 ∨ (d : Int) < (digits (L.getD sl.toNat [])).getD K 0) : holdsF seed h L (stepF seed sl (K : Int) d x) = true := by
  unfold stepF stepTo
  cases hf : lastF (ownC seed sl (K : Int) d) (fun i => steps i x) (15 - d) with
  | some j =>
    obtain ⟨h1, h2, h3⟩ := lastF_some hf
    refine holds_br (tag_ne h2) ?_
    have e : ownC seed sl (K : Int) d (j + 1) = steps (j + 1) x := by
      rcases Nat.lt_or_ge (j + 1) (15 - d) with h4 | h4
      · exact h3 (j + 1) (by omega) h4
      · rw [ownC, show d + (j + 1) = 15 by omega, show j + 1 = 15 - d by omega]; exact he
    exact e
  | none =>
    have h0 : x = steps d (start seed sl (K : Int)) := by
      rcases Nat.lt_or_ge 0 (15 - d) with h4 | h4
      · exact (lastF_none hf 0 h4).symm
      · obtain rfl : d = 15 := by omega
        exact he.symm
    have hr : (0 ≤ sl ∧ sl < ((2 ^ h.toNat : Nat) : Int)) ∧ (0 ≤ (K : Int) ∧ (K : Int) < 67) ∧ 0 ≤ (d : Int) ∧ (d : Int) ≤ 15 := ⟨hl, by omega, by omega⟩
    have hv : x = steps (max (0 : Int) (min (d : Int) 15)).toNat (start seed sl (K : Int)) := by rw [show (max (0 : Int) (min (d : Int) 15)).toNat = d by omega]; exact h0
    show (rngF h sl (K : Int) (d : Int) && holds seed h L sl (K : Int) (d : Int) x) = true
    rw [show rngF h sl (K : Int) (d : Int) = true from decide_eq_true hr]
    rcases hw with hw | hw
    · rw [hd_e hr hv (by omega)]; rfl
    · by_cases h5 : (((L.getD sl.toNat []).length : Nat) : Int) = 0
      · rw [hd_e hr hv h5]; rfl
      · rw [hd_d hr hv h5, decide_eq_true (by rw [Int.toNat_natCast]; exact hw)]; rfl
theorem explS_holds {sh : Int} {L : List (List UInt8)} (hL : ((L.length : Nat) : Int) = ((2 ^ h.toNat : Nat) : Int)) (hm : 0 ≤ h ∧ h ≤ 4) (hp : ∀ x ∈ p, x.length = 32) (hvr : vrf (mprint seed h) m sh sl v p = true) (hW : ¬ (0 < W.length ∧ W = m)) (hWL : W = wasAt L sl) :
    holdsF seed h L (explS seed W m h sh sl v p) = true := by
  have ho : okS sh sl v p = true := by
    cases e : okS sh sl v p with
    | true => rfl
    | false => rw [vrf_no e] at hvr; cases hvr
  rw [vrf_yes ho] at hvr
  have hvr := of_decide_eq_true hvr
  obtain ⟨hs, h67, hk⟩ := okS_may ho
  by_cases e : printT h (root (mleaves seed h.toNat)) = printT sh (climbS m sh sl v p)
  · obtain ⟨rfl, hr⟩ := printT_inj hm hs e
    have hk2 := okW_of hk
    have hl : 0 ≤ sl ∧ sl < ((2 ^ h.toNat : Nat) : Int) := ⟨hk2.1, hk2.2.1⟩
    cases hb : (brkS seed m h sl v p).isSome with
    | true =>
      rw [explS_2 e hb]
      cases hb2 : brkS seed m h sl v p with
      | none => rw [hb2] at hb; cases hb
      | some x =>
        obtain ⟨A, B⟩ := x
        obtain ⟨h1, h2⟩ := brk_some (pub_len _ _) (pubH_len _) (ownP_all hl) hp hb2
        exact holds_br h1 h2
    | false =>
      have hpub := brkS_none hm hp h67 hk hr hb
      by_cases e3 : pubT (trueEnds seed sl 67) = pubT (ends m v 67)
      · have hends : trueEnds seed sl 67 = ends m v 67 := (text_inj e3).2
        by_cases e4 : 0 < W.length ∧ digits W = digits m
        · rw [explS_4 e hb e3 e4.1 e4.2]
          exact holds_br (tag_ne fun x => hW ⟨e4.1, x⟩) (digits_mh e4.2)
        · rw [explS_5 e hb e3 e4]
          have hK : chW W m < 67 := chW_lt (by
            by_cases h0 : W.length = 0
            · exact .inl h0
            · exact .inr fun x => e4 ⟨by omega, x⟩)
          have hd := digits_at m (chW W m) hK
          have hWl : L.getD sl.toNat [] = W := by rw [hWL, wasAt_in ⟨hl.1, by omega⟩]
          refine step_holds hL hl hK (by omega) ?_ ?_
          · have h1 := congrArg (fun l => l.getD (chW W m) []) hends
            have h2 : (trueEnds seed sl 67).getD (chW W m) [] = steps 15 (start seed sl ((chW W m : Nat) : Int)) := range_at _ _ hK
            rw [← h2, ← ends_at m v 67 _ hK]; exact h1
          · rw [hWl]
            by_cases h0 : W.length = 0
            · exact .inl h0
            · refine .inr ?_
              have hlt : fch (digits m) (digits W) 67 0 < 67 := by rw [← chW_n (m := m) h0]; exact hK
              have h3 := fch_at (d := digits m) (e := digits W) 67 0 (by omega)
              rw [chW_n h0] at hd ⊢; omega
      · rw [explS_3 e hb e3]
        exact holds_br e3 hpub
  · rw [explS_1 e]
    exact holds_br e hvr.symm
end
end Go.Au
