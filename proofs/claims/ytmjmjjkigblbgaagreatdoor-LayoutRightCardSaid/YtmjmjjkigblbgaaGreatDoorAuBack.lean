/- What is packed is read as it was; a byte more is none. In plain words. -/
import Derived.Test.YtmjmjjkigblbgaaGreatDoorAuMade
set_option linter.unusedVariables false
set_option linter.unusedSimpArgs false
set_option maxRecDepth 8192
namespace Go.Au
theorem UebOk_pos {b : List UInt8} (h : UebOk b) : 1 ≤ b.length := by
  rcases Nat.eq_zero_or_pos b.length with e | e
  · obtain rfl : b = [] := List.eq_nil_of_length_eq_zero e
    exact absurd (h.1.1 0 (by decide)).1 (by decide)
  · exact e
theorem packS_read {z : Nat} {u : List UInt8} {p B : List (List UInt8)} (hz : z < 16) (hu : u.length ≤ 300) (hp : p.length ≤ 20) (h32 : ∀ x ∈ p, x.length = 32) (hB : B.length ≤ 16) (hx : ∀ x ∈ B, x.length ≤ 100) :
    ShOk (packS (z : Int) u p B) ∧ shN (packS (z : Int) u p B) = (z : Int) ∧ shU (packS (z : Int) u p B) = u ∧ shP (packS (z : Int) u p B) = p ∧ shB (packS (z : Int) u p B) = B := by
  have hl := packS_len (z : Int) hu hp h32 (show B.length ≤ 20 by omega) hx
  have hf : (flatTo [] p p.length).length ≤ 640 := by rw [flatTo_len h32 (Nat.le_refl _)]; simp; omega
  have hf2 : (flatTo [] p p.length).length = 32 * p.length := by rw [flatTo_len h32 (Nat.le_refl _)]; simp
  have e1 : (max (0 : Int) (z : Int)).toNat = z := by omega
  have e2 : (max (0 : Int) ((B.length : Nat) : Int)).toNat = B.length := by omega
  have q := ntRest_nets (l := [Go.Sha.put (max 0 (z : Int)).toNat 1, u, flatTo [] p p.length, Go.Sha.put (max 0 ((B.length : Nat) : Int)).toNat 1]) (nets B) (fun x hx => by
    simp only [List.mem_cons, List.not_mem_nil, or_false] at hx
    rcases hx with rfl | rfl | rfl | rfl <;> first | (rw [Go.Sha.put_len]; omega) | omega)
  obtain ⟨b, hb⟩ : ∃ b, packS (z : Int) u p B = b := ⟨_, rfl⟩
  have hb2 := hb
  unfold packS at hb2
  rw [hb2, e1, e2] at q
  rw [hb] at hl ⊢
  obtain ⟨q1, q2, q3⟩ := q
  have q1 : NtOks 4 b := q1
  have q2 : ntRest 4 b = nets B := q2
  have q3 : ntRows 4 b = [Go.Sha.put z 1, u, flatTo [] p p.length, Go.Sha.put B.length 1] := q3
  have r : ∀ i, i < 4 → row4 b i = [Go.Sha.put z 1, u, flatTo [] p p.length, Go.Sha.put B.length 1].getD i [] := fun i hi => by
    rw [← q3, ntRows_get b hi]; rfl
  have r0 : row4 b 0 = Go.Sha.put z 1 := r 0 (by decide)
  have r1 : row4 b 1 = u := r 1 (by decide)
  have r2 : row4 b 2 = flatTo [] p p.length := r 2 (by decide)
  have r3 : row4 b 3 = Go.Sha.put B.length 1 := r 3 (by decide)
  have l0 : (row4 b 0).length = 1 := by rw [r0]; exact Go.Sha.put_len _ _
  have l3 : (row4 b 3).length = 1 := by rw [r3]; exact Go.Sha.put_len _ _
  have n0 : ((row4 b 0).getD 0 0).toNat = z := by rw [← be_one _ l0, r0, be_put]; omega
  have n3 : shK b = B.length := by unfold shK; rw [← be_one _ l3, r3, be_put]; omega
  have ha := nets_NtAll (l := B) (fun x hx2 => by have := hx x hx2; omega)
  have m2 : (row4 b 2).length % 32 = 0 := by rw [r2, hf2]; omega
  have ok : ShOk b := ⟨by omega, q1, l0, l3, by omega, by omega, m2, by rw [n3, q2]; exact ha.1⟩
  refine ⟨ok, ?_, ?_, ?_, ?_⟩
  · rw [shN_yes ok, n0]
  · rw [shU_yes ok, r1]
  · rw [shP_yes ok, hashN_yes m2, r2, flatTo_all, List.nil_append]
    refine chunks_flatten h32 ?_
    rw [show p.flatten.length = (flatTo [] p p.length).length by rw [flatTo_all, List.nil_append], hf2]
    omega
  · rw [shB_yes ok, n3, q2]; exact ha.2
end Go.Au
namespace Go.F
open Go.Au
section
variable {k n L : Nat} {E : List (List (List UInt8))} {ch : List UInt8}
theorem blk_64 (hk : 1 ≤ k) (hE : EOK k n L E) {p : Nat} (hp : p < n) (hL : 1 ≤ L) : ∀ x ∈ blk E p, x.length ≤ 64 := fun x hx => by
  obtain ⟨j, hj, rfl⟩ := List.getElem_of_mem hx
  have h := (blk_ok hk hL hE hp).2 j hj
  rw [List.getD_eq_getElem?_getD, List.getElem?_eq_getElem hj] at h
  obtain ⟨h1, h2⟩ := h
  have h3 : ((((blk E p)[j]).length : Nat) : Int) = lenV (k : Int) (min ((L : Int) - ((j : Nat) : Int) * 64) 64) := h2
  rw [lenV_pos (by omega) (by omega)] at h3
  have := div_bd (k := (k : Int)) (z := min ((L : Int) - ((j : Nat) : Int) * 64) 64) (by omega) (by omega)
  omega
theorem blk_pos (hL : 1 ≤ L) (hE : EOK k n L E) (i : Nat) : 1 ≤ (blk E i).length := by rw [blk_len, hE.1]; omega
theorem blkE_pos (hk : 1 ≤ k) (hL : 1 ≤ L) (hE : EOK k n L E) {p : Nat} (hp : p < n) : ∀ x ∈ blk E p, 1 ≤ x.length := fun x hx => by
  unfold blk at hx
  obtain ⟨D, hD, rfl⟩ := List.mem_map.1 hx
  obtain ⟨t, ht, rfl⟩ := List.getElem_of_mem hD
  have h := hE.2 t ht
  have h0 := hE.1
  rw [List.getD_eq_getElem?_getD, List.getElem?_eq_getElem ht] at h
  have h2 : (E[t].getD p []).length = _ := (h.row hp).2
  rw [h2]
  unfold qn
  exact Nat.div_pos (by omega) (by omega)
theorem made_read (hk : 1 ≤ k ∧ k ≤ n ∧ n ≤ 5) (hL : 1 ≤ L ∧ L ≤ 200) (hch : ch.length = 32) (hE : EOK k n L E) {p : Nat} (hp : p < n) {u : List UInt8} {P B : List (List UInt8)} (eu : lay k n L E ch = u) (eP : beside (rowP (lvs n E)) p (lg (lvs n E).length) = P) (eB : blk E p = B) :
    (u.length ≤ 200 ∧ P.length ≤ 5 ∧ (∀ x ∈ P, x.length = 32) ∧ B.length ≤ 4 ∧ ∀ x ∈ B, x.length ≤ 64) ∧ ShOk (packS (p : Int) u P B) ∧ shN (packS (p : Int) u P B) = (p : Int) ∧ shU (packS (p : Int) u P B) = u ∧ shP (packS (p : Int) u P B) = P ∧ shB (packS (p : Int) u P B) = B := by
  subst eu eP eB
  have h1 := lay_len (k := k) (n := n) (L := L) (E := E) hch
  have h2 := prf_len (E := E) (n := n) (i := p) (by omega)
  have h3 := blk_no hL.2 hE p
  have h4 := blk_64 hk.1 hE hp hL.1
  have h5 : ∀ x ∈ beside (rowP (lvs n E)) p (lg (lvs n E).length), x.length = 32 := beside_all lvs_all (i := p) (by rw [show (lvs n E).length = n from tab_len]; exact hp) (Nat.le_refl _)
  exact ⟨⟨h1, h2, h5, h3, h4⟩, packS_read (by omega) (by omega) (by omega) h5 (by omega) (fun x hx => by have := h4 x hx; omega)⟩
end
end Go.F
