/- A file's own shares are right; a layout's rows. -/
import Derived.Test.YtmjmjjkigblbgaaGreatDoorFDoor
import Derived.Test.YtmjmjjkigblbgaaGreatDoorAuDoor
set_option linter.unusedVariables false
set_option linter.unusedSimpArgs false
set_option maxRecDepth 8192
namespace Go.F
open Go.Au
section
variable {a b c d : Nat} {s t : List UInt8}
theorem packU_rows (hs : s.length = 32) (ht : t.length = 32) : NtAll 6 (packU a b c d s t) ∧ ntRows 6 (packU a b c d s t) = [Go.Sha.put a 1, Go.Sha.put b 1, Go.Sha.put c 4, Go.Sha.put d 4, s, t] := by
  have e : packU a b c d s t = nets [Go.Sha.put a 1, Go.Sha.put b 1, Go.Sha.put c 4, Go.Sha.put d 4, s, t] := by
    unfold packU
    have h : ∀ x : Nat, (max (0 : Int) ((x : Nat) : Int)).toNat = x := fun x => by omega
    rw [h, h, h, h]
  have h := nets_NtAll (l := [Go.Sha.put a 1, Go.Sha.put b 1, Go.Sha.put c 4, Go.Sha.put d 4, s, t]) (fun x hx => by
    simp only [List.mem_cons, List.not_mem_nil, or_false] at hx
    rcases hx with rfl | rfl | rfl | rfl | rfl | rfl <;> first | (rw [Go.Sha.put_len]; omega) | omega)
  rw [e]; exact h
theorem packU_at (hs : s.length = 32) (ht : t.length = 32) (i : Nat) : six (packU a b c d s t) i = [Go.Sha.put a 1, Go.Sha.put b 1, Go.Sha.put c 4, Go.Sha.put d 4, s, t].getD i [] := by
  obtain ⟨h1, h2⟩ := packU_rows (a := a) (b := b) (c := c) (d := d) hs ht
  unfold six; rw [ntAll_yes h1, h2]
theorem packU_ok (hs : s.length = 32) (ht : t.length = 32) (h1 : 1 ≤ a ∧ a ≤ b ∧ b ≤ 16) (h2 : 1 ≤ c ∧ c ≤ 1024) (h3 : d = 64) : UebOk (packU a b c d s t) ∧ uN (packU a b c d s t) 0 = (a : Int) ∧ uN (packU a b c d s t) 1 = (b : Int) ∧ uN (packU a b c d s t) 2 = (c : Int) ∧ uN (packU a b c d s t) 3 = (d : Int) ∧ uH (packU a b c d s t) 4 = s ∧ uH (packU a b c d s t) 5 = t := by
  have e := packU_at (a := a) (b := b) (c := c) (d := d) hs ht
  have e0 : be (six (packU a b c d s t) 0) = a := by rw [e]; show be (Go.Sha.put a 1) = a; rw [be_put]; omega
  have e1 : be (six (packU a b c d s t) 1) = b := by rw [e]; show be (Go.Sha.put b 1) = b; rw [be_put]; omega
  have e2 : be (six (packU a b c d s t) 2) = c := by rw [e]; show be (Go.Sha.put c 4) = c; rw [be_put]; omega
  have e3 : be (six (packU a b c d s t) 3) = d := by rw [e]; show be (Go.Sha.put d 4) = d; rw [be_put]; omega
  have ok : UebOk (packU a b c d s t) := by
    refine ⟨(packU_rows hs ht).1, ?_, ?_, ?_, ?_, ?_, ?_, by omega, by omega, by omega, by omega, by omega, by omega⟩
    · rw [e]; exact Go.Sha.put_len _ _
    · rw [e]; exact Go.Sha.put_len _ _
    · rw [e]; exact Go.Sha.put_len _ _
    · rw [e]; exact Go.Sha.put_len _ _
    · rw [e]; exact hs
    · rw [e]; exact ht
  refine ⟨ok, ?_, ?_, ?_, ?_, ?_, ?_⟩
  · rw [uN_yes ok, e0]
  · rw [uN_yes ok, e1]
  · rw [uN_yes ok, e2]
  · rw [uN_yes ok, e3]
  · rw [uH_yes ok, e]; rfl
  · rw [uH_yes ok, e]; rfl
end
abbrev lvs (n : Nat) (E : List (List (List UInt8))) : List (List UInt8) := tab n fun p => Go.Au.root (Go.Au.leavesH (blk E p) (blk E p).length)
theorem lvs_all {n : Nat} {E : List (List (List UInt8))} : ∀ x ∈ lvs n E, x.length = 32 := fun x hx => by
  obtain ⟨p, _, rfl⟩ := tab_mem hx
  exact root_len (fun b hb => by
    obtain ⟨y, _, rfl⟩ := List.mem_map.1 hb
    exact leafH_len _)
theorem qn_lenV {k x : Nat} (hk : 1 ≤ k) (hx : 1 ≤ x) : ((qn k x : Nat) : Int) = lenV (k : Int) (x : Int) := by
  rw [lenV_pos (by omega) (by omega)]
  unfold qn
  have e : x + k - 1 = (x - 1) + k := by omega
  rw [e, Nat.add_div_right _ (by omega)]
  have e2 : ((x : Int) - 1) = ((x - 1 : Nat) : Int) := by omega
  rw [e2, ← Int.natCast_ediv]; rfl
theorem blk_at {E : List (List (List UInt8))} {p j : Nat} (hj : j < E.length) : (blk E p).getD j [] = (E.getD j []).getD p [] := by
  unfold blk
  rw [List.getD_eq_getElem?_getD, List.getElem?_map, List.getD_eq_getElem?_getD (l := E), List.getElem?_eq_getElem hj]; rfl
section
variable {k n L : Nat} {E : List (List (List UInt8))} {ch : List UInt8}
abbrev lay (k n L : Nat) (E : List (List (List UInt8))) (ch : List UInt8) : List UInt8 := packU (k : Int) (n : Int) (L : Int) 64 ch (Go.Au.root (lvs n E))
theorem lay_ok (hk : 1 ≤ k ∧ k ≤ n ∧ n ≤ 16) (hL : 1 ≤ L ∧ L ≤ 1024) (hch : ch.length = 32) : UebOk (lay k n L E ch) ∧ uN (lay k n L E ch) 0 = (k : Int) ∧ uN (lay k n L E ch) 1 = (n : Int) ∧ uN (lay k n L E ch) 2 = (L : Int) ∧ uN (lay k n L E ch) 3 = (64 : Int) ∧ uH (lay k n L E ch) 4 = ch ∧ uH (lay k n L E ch) 5 = Go.Au.root (lvs n E) :=
  packU_ok (d := 64) hch (root_len lvs_all) hk hL rfl
theorem blk_ok (hk : 1 ≤ k) (hL : 1 ≤ L) (hE : EOK k n L E) {p : Nat} (hp : p < n) : (((blk E p).length : Nat) : Int) = ((L : Int) - 1) / 64 + 1 ∧ BlkOk (k : Int) (L : Int) (blk E p) (blk E p).length := by
  obtain ⟨h1, h2⟩ := hE
  refine ⟨by rw [blk_len, h1]; omega, fun j hj => ?_⟩
  rw [blk_len] at hj
  have h3 := (MShape.row (h2 j hj) hp).2
  have h4 : 64 * j + 1 ≤ L := by omega
  refine ⟨by omega, ?_⟩
  rw [blk_at hj, h3, qn_lenV hk (by omega)]
  congr 1
  omega
theorem lay_len (hch : ch.length = 32) : (lay k n L E ch).length ≤ 200 := by
  have h := packU_len ((k : Nat) : Int) ((n : Nat) : Int) ((L : Nat) : Int) 64 (s := ch) (t := Go.Au.root (lvs n E)) (by omega) (by rw [root_len lvs_all]; omega)
  exact Nat.le_trans h (by decide)
theorem prf_len {i : Nat} (hn : n ≤ 16) : (beside (rowP (lvs n E)) i (lg (lvs n E).length)).length ≤ 5 := by
  rw [beside_len]
  exact lg_le (m := 5) (by rw [show (lvs n E).length = n from tab_len]; show _ ≤ 32; omega)
theorem blk_no (hL : L ≤ 200) (hE : EOK k n L E) (i : Nat) : (blk E i).length ≤ 4 := by rw [blk_len, hE.1]; omega
end
end Go.F
