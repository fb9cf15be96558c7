/- Bounds of what explains a forged signature; leaks read back; in plain words. -/
import Derived.Test.YtfcejolipdcoaaaGreatDoorAuExp3
set_option linter.unusedVariables false
set_option linter.unusedSimpArgs false
set_option maxRecDepth 8192
namespace Go.Au
theorem holds_inv {seed v : List UInt8} {h a c q : Int} {L : List (List UInt8)} (e : holds seed h L a c q v = true) : v = steps (max (0 : Int) (min q 15)).toNat (start seed a c) ∧ (((L.getD a.toNat []).length : Int) = 0 ∨ q < (digits (L.getD a.toNat [])).getD c.toNat 0) := by
  unfold holds at e
  split at e
  · simpa using e
  · cases e
theorem mst_d {seed M m : List UInt8} {h sh sl : Int} {v p : List (List UInt8)} {n lf : Nat} (e : vrf (mprint seed h) m sh sl v p = true) (hlf : lf < n) (e2 : M = m) (h0 : 0 < M.length) : (expl seed (wasAt ((List.replicate n ([] : List UInt8)).set lf M) sl) m h sh sl v p).isSome = !decide (sl = (lf : Int)) := by
  by_cases hs : sl = (lf : Int)
  · rw [mst_y hlf e2 h0 hs, decide_eq_true hs]; rfl
  · rw [mst_0 e (wasAt_oth hs), decide_eq_false hs]; rfl
theorem wasAt_lt {L : List (List UInt8)} {l : Int} (h : ∀ i, (L.getD i []).length < 1000) : (wasAt L l).length < 1000 := by
  unfold wasAt; split
  · exact h _
  · decide
theorem rep_bd (n : Nat) : ∀ i, ((List.replicate n ([] : List UInt8)).getD i []).length < 1000 := by
  intro i
  rw [List.getD_eq_getElem?_getD, List.getElem?_replicate]; split <;> decide
theorem textP_bd' (d : List UInt8) (h : d.length = 64) : (textP d).length ≤ 100000 := by
  have := text2 (tag := [110, 111, 100, 101]) (a := d.take 32) (b := d.drop 32) (by decide) (by rw [List.length_take]; omega) (by rw [List.length_drop]; omega)
  show (text _ _).length ≤ _
  omega
theorem brk_bd {n i : Int} {a b : List UInt8} {p q : List (List UInt8)} (ha : a.length = 32) (hb : b.length = 32) (hp : ∀ x ∈ p, x.length = 32) (hq : ∀ x ∈ q, x.length = 32) {x : List UInt8 × List UInt8} (h : brk n i a b p q = some x) : x.1.length ≤ 100000 ∧ x.2.length ≤ 100000 := by
  unfold brk at h
  split at h
  · rename_i hc
    obtain ⟨h1, h2, h3⟩ := hc
    have e1 := okW_of h1
    have e2 := okW_of h2
    have l1 := waysH_len (x := a) h1
    have l2 := waysH_len (x := b) h2
    cases hk : lastNe (waysH n i a p) (waysH n i b q) p.length with
    | none => rw [hk] at h; cases h
    | some k =>
      rw [hk] at h
      have k1 := (lastNe_some hk).1
      simp only [Option.map_some, Option.some.injEq] at h
      subst h
      exact ⟨textP_bd' _ (getD_len (waysH_all n i ha hp) (by omega)), textP_bd' _ (getD_len (waysH_all n i hb hq) (by omega))⟩
  · cases h
theorem expl_bd {seed W m : List UInt8} {h sh sl : Int} {v p : List (List UInt8)} (hm : 0 ≤ h ∧ h ≤ 4) (hv : ∀ x ∈ v, x.length = 32) (hp : ∀ x ∈ p, x.length = 32) (hml : m.length < 1000) (hWl : W.length < 1000) :
    (fgO (expl seed W m h sh sl v p)).A.length ≤ 100000 ∧ (fgO (expl seed W m h sh sl v p)).B.length ≤ 100000 := by
  unfold expl; split
  · rename_i e
    have ho : okS sh sl v p = true := by
      cases e2 : okS sh sl v p with
      | true => rfl
      | false => have e1 := e.1; rw [vrf_no e2] at e1; cases e1
    obtain ⟨hs, h67, hk⟩ := okS_may ho
    have hk2 := okW_of hk
    have pt : ∀ (z : Int) (r : List UInt8), r.length = 32 → (printT z r).length ≤ 100000 := fun z r hr => by
      have := text2 (tag := [112, 114, 105, 110, 116]) (a := Go.Sha.put (max 0 z).toNat 1) (b := r) (by decide) (by rw [Go.Sha.put_len]; decide) (by omega)
      show (text _ _).length ≤ _
      omega
    show (explS seed W m h sh sl v p).A.length ≤ 100000 ∧ (explS seed W m h sh sl v p).B.length ≤ 100000
    have hl67 : (ends m v 67).length = 67 := ends_len _ _ _
    unfold explS; split
    · rename_i hpr
      obtain ⟨rfl, _⟩ := printT_inj hm hs hpr
      split
      · rename_i x hx
        exact brk_bd (pub_len _ _) (pubH_len _) (ownP_all ⟨hk2.1, hk2.2.1⟩) hp hx
      · split
        · split
          · have a1 := text1 (tag := [109, 115, 103]) (b := W) (by decide) hWl
            have a2 := text1 (tag := [109, 115, 103]) (b := m) (by decide) hml
            exact ⟨by show (text _ _).length ≤ _; omega, by show (text _ _).length ≤ _; omega⟩
          · rename_i e4
            have hK : chW W m < 67 := chW_lt (by
              by_cases h0 : W.length = 0
              · exact .inl h0
              · exact .inr fun x => e4 ⟨by omega, x⟩)
            unfold stepF stepTo; split
            · rename_i j _
              have a1 := text1 (tag := [115, 116, 101, 112]) (b := ownC seed sl (chW W m : Nat) ((digits m).getD (chW W m) 0).toNat j) (by decide) (by rw [show (ownC seed sl (chW W m : Nat) ((digits m).getD (chW W m) 0).toNat j).length = 32 from steps_len _ (start_len _ _ _)]; decide)
              have a2 := text1 (tag := [115, 116, 101, 112]) (b := steps j (v.getD (chW W m) [])) (by decide) (by rw [steps_len j (getD_len hv (by omega))]; decide)
              exact ⟨by show (text _ _).length ≤ _; omega, by show (text _ _).length ≤ _; omega⟩
            · exact ⟨Nat.zero_le _, Nat.zero_le _⟩
        · have a1 := text_all (tag := [112, 117, 98, 108, 105, 99]) (n := 67) (by decide) (trueEnds_all seed sl 67) (by decide) (by rw [trueEnds_len]; omega) (by decide)
          have a2 := text_all (tag := [112, 117, 98, 108, 105, 99]) (n := 67) (by decide) (ends_all (m := m) (k := 67) hv (by omega)) (by decide) (by omega) (by decide)
          exact ⟨by show (text _ _).length ≤ _; omega, by show (text _ _).length ≤ _; omega⟩
    · exact ⟨pt _ _ (root_len (mleaves_all _ _)), pt _ _ (climbS_len _ _ _ _ _)⟩
  · exact ⟨Nat.zero_le _, Nat.zero_le _⟩
end Go.Au
