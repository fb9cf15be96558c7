/- What explains a forged signature: when there is anything to explain, and that it holds; in plain words. -/
import Derived.Test.YtfcejolipdcoaaaGreatDoorAuExp2
set_option linter.unusedVariables false
set_option linter.unusedSimpArgs false
set_option maxRecDepth 8192
namespace Go.Au
section
variable {seed W M N m : List UInt8} {h sh sl : Int} {v p : List (List UInt8)} {n lf : Nat}
theorem wasAt_rep : wasAt (List.replicate n ([] : List UInt8)) sl = [] := by
  unfold wasAt; split
  · rw [List.getD_eq_getElem?_getD, List.getElem?_replicate]; split <;> rfl
  · rfl
theorem wasAt_same (hlf : lf < n) (e : sl = (lf : Int)) : wasAt ((List.replicate n ([] : List UInt8)).set lf M) sl = M := by
  subst e
  rw [wasAt_in ⟨by omega, by rw [List.length_set, List.length_replicate]; omega⟩, Int.toNat_natCast]
  exact set_get hlf
theorem wasAt_oth (e : ¬ sl = (lf : Int)) : wasAt ((List.replicate n ([] : List UInt8)).set lf M) sl = [] := by
  unfold wasAt; split
  · rename_i hh; exact set_oth (by omega)
  · rfl
theorem mst_v (e : vrf (mprint seed h) m sh sl v p = false) : (expl seed W m h sh sl v p).isSome = false := by
  rw [expl_no1 (by rw [e]; exact fun x => by cases x)]; rfl
theorem mst_0 (e : vrf (mprint seed h) m sh sl v p = true) (e2 : W = []) : (expl seed W m h sh sl v p).isSome = true := by
  rw [expl_yes e (by rw [e2]; exact fun x => absurd x.1 (Nat.lt_irrefl 0))]; rfl
theorem mst_n (e : vrf (mprint seed h) m sh sl v p = true) (hlf : lf < n) (e2 : ¬ M = m) : (expl seed (wasAt ((List.replicate n ([] : List UInt8)).set lf M) sl) m h sh sl v p).isSome = true := by
  by_cases hs : sl = (lf : Int)
  · rw [wasAt_same hlf hs, expl_yes e (fun x => e2 x.2)]; rfl
  · exact mst_0 e (wasAt_oth hs)
theorem mst_y (hlf : lf < n) (e2 : M = m) (h0 : 0 < M.length) (hs : sl = (lf : Int)) : (expl seed (wasAt ((List.replicate n ([] : List UInt8)).set lf M) sl) m h sh sl v p).isSome = false := by
  rw [wasAt_same hlf hs, expl_no2 h0 e2]; rfl
theorem expl_some (e : (expl seed W m h sh sl v p).isSome = true) : vrf (mprint seed h) m sh sl v p = true ∧ ¬ (0 < W.length ∧ W = m) ∧ fgO (expl seed W m h sh sl v p) = explS seed W m h sh sl v p := by
  by_cases hc : vrf (mprint seed h) m sh sl v p = true ∧ ¬ (0 < W.length ∧ W = m)
  · exact ⟨hc.1, hc.2, by rw [expl_yes hc.1 hc.2]; rfl⟩
  · unfold expl at e; rw [if_neg hc] at e; cases e
theorem expl_holds {L : List (List UInt8)} (hL : ((L.length : Nat) : Int) = ((2 ^ h.toNat : Nat) : Int)) (hm : 0 ≤ h ∧ h ≤ 4) (hp : ∀ x ∈ p, x.length = 32) (e : (expl seed (wasAt L sl) m h sh sl v p).isSome = true) : holdsF seed h L (fgO (expl seed (wasAt L sl) m h sh sl v p)) = true := by
  obtain ⟨h1, h2, h3⟩ := expl_some e
  rw [h3]; exact explS_holds hL hm hp h1 h2 rfl
end
def FgP.ok (f : FgP) : Prop := (f.k = true → f.A = [] ∧ f.B = []) ∧ f.x.length = 32
theorem fgB_ok (A B : List UInt8) : (fgB A B).ok := ⟨fun h => (by cases h), List.length_replicate⟩
theorem fgL_ok {a c q : Int} {x : List UInt8} (h : x.length = 32) : (fgL a c q x).ok := ⟨fun _ => ⟨rfl, rfl⟩, h⟩
theorem fg0_ok : fg0.ok := ⟨fun h => (by cases h), List.length_replicate⟩
theorem stepTo_ok {seed : List UInt8} {l c : Int} {d : Nat} {x : List UInt8} (h : x.length = 32) (k : Nat) : (stepTo seed l c d x k).ok := by
  unfold stepTo; split
  · exact fgB_ok _ _
  · exact fgL_ok h
theorem explS_ok {seed W m : List UInt8} {h sh sl : Int} {v p : List (List UInt8)} (hv : ∀ x ∈ v, x.length = 32) (h67 : v.length = 67) : (explS seed W m h sh sl v p).ok := by
  unfold explS; split
  · split
    · exact fgB_ok _ _
    · split
      · split
        · exact fgB_ok _ _
        · rename_i e4
          have hK : chW W m < 67 := chW_lt (by
            by_cases h0 : W.length = 0
            · exact .inl h0
            · exact .inr fun x => e4 ⟨by omega, x⟩)
          exact stepTo_ok (getD_len hv (by omega)) _
      · exact fgB_ok _ _
  · exact fgB_ok _ _
theorem expl_ok {seed W m : List UInt8} {h sh sl : Int} {v p : List (List UInt8)} (hv : ∀ x ∈ v, x.length = 32) : (fgO (expl seed W m h sh sl v p)).ok := by
  unfold expl; split
  · rename_i e
    have ho : okS sh sl v p = true := by
      cases e2 : okS sh sl v p with
      | true => rfl
      | false => have e1 := e.1; rw [vrf_no e2] at e1; cases e1
    exact explS_ok hv (okS_may ho).2.1
  · exact fg0_ok
theorem holdsF_b {seed : List UInt8} {h : Int} {L : List (List UInt8)} {f : FgP} (e : holdsF seed h L f = true) (hk : f.k = false) : rngF h f.a f.c f.q = true ∧ isB f.A f.B = true := by
  unfold holdsF at e; rw [hk] at e; simpa using e
theorem holdsF_l {seed : List UInt8} {h : Int} {L : List (List UInt8)} {f : FgP} (e : holdsF seed h L f = true) (hk : f.k = true) : rngF h f.a f.c f.q = true ∧ holds seed h L f.a f.c f.q f.x = true := by
  unfold holdsF at e; rw [hk] at e; simpa using e
theorem rngF_of {h a c q : Int} (e : rngF h a c q = true) : (0 ≤ a ∧ a < ((2 ^ h.toNat : Nat) : Int)) ∧ (0 ≤ c ∧ c < 67) ∧ 0 ≤ q ∧ q ≤ 15 := of_decide_eq_true e
theorem stepF_some {seed x : List UInt8} {l c : Int} {d j : Nat} (h : lastF (ownC seed l c d) (fun i => steps i x) (15 - d) = some j) : stepF seed l c d x = fgB (stepT (ownC seed l c d j)) (stepT (steps j x)) := by
  unfold stepF stepTo; rw [h]
theorem stepF_none {seed x : List UInt8} {l c : Int} {d : Nat} (h : lastF (ownC seed l c d) (fun i => steps i x) (15 - d) = none) : stepF seed l c d x = fgL l c d x := by
  unfold stepF stepTo; rw [h]
end Go.Au
