/- Pieces as bytes, in plain words. -/
import Derived.Test.YtmjmjjkigblbgaaDoorAuLay2
set_option linter.unusedVariables false
set_option linter.unusedSimpArgs false
set_option maxRecDepth 8192
namespace Go.Au
/-! A signature of bytes. -/
instance (b : List UInt8) : Decidable (okU b) := by unfold okU; infer_instance
def sgH (b : List UInt8) : Int := if okU b then (((b.getD 0 0).toNat : Nat) : Int) else 0
def sgL (b : List UInt8) : Int := if okU b then ((gval ((b.drop 1).take (3 - 1)) : Nat) : Int) else 0
def sgC (b : List UInt8) : List (List UInt8) := if okU b then chunks (b.drop 3) ((b.drop 3).length / 32) else []
def sgV (b : List UInt8) : List (List UInt8) := (sgC b).take 67
def sgP (b : List UInt8) : List (List UInt8) := (sgC b).drop 67
section
variable {b : List UInt8}
theorem sgC_no (h : ¬ okU b) : sgC b = [] := if_neg h
theorem sgC_len (b : List UInt8) : (sgC b).length ≤ 71 := by
  unfold sgC; split
  · rename_i h
    obtain ⟨h1, h2, h3⟩ := h
    rw [chunks_len, List.length_drop]; omega
  · simp
theorem sgV_len (b : List UInt8) : (sgV b).length ≤ 67 := List.length_take_le _ _
theorem sgP_len (b : List UInt8) : (sgP b).length ≤ 4 := by
  have := sgC_len b
  unfold sgP; rw [List.length_drop]; omega
end
/-! Five rows. -/
def p5 (b : List UInt8) (i : Nat) : List UInt8 := (ntAll 5 b).getD i []
/-- A piece stands there. -/
def PcOk (b : List UInt8) : Prop :=
  NtAll 5 b ∧ b.length ≤ 16384 ∧ (p5 b 0).length = 1 ∧ ((p5 b 0).getD 0 0).toNat < 16 ∧ VerOk (p5 b 1) ∧ okU (p5 b 2) ∧ (p5 b 3).length % 32 = 0
instance (b : List UInt8) : Decidable (PcOk b) := by unfold PcOk; infer_instance
def pcN (b : List UInt8) : Int := if PcOk b then ((((p5 b 0).getD 0 0).toNat : Nat) : Int) else 0
def pcA (b : List UInt8) (i : Nat) : Int := if PcOk b then vN (p5 b 1) i else 0
def pcS (b : List UInt8) : List UInt8 := if PcOk b then vS (p5 b 1) else List.replicate 16 0
def pcR (b : List UInt8) : List UInt8 := if PcOk b then vR (p5 b 1) else List.replicate 32 0
def pcH (b : List UInt8) : Int := if PcOk b then sgH (p5 b 2) else 0
def pcL (b : List UInt8) : Int := if PcOk b then sgL (p5 b 2) else 0
def pcV (b : List UInt8) : List (List UInt8) := if PcOk b then sgV (p5 b 2) else []
def pcP (b : List UInt8) : List (List UInt8) := if PcOk b then sgP (p5 b 2) else []
def pcQ (b : List UInt8) : List (List UInt8) := if PcOk b then hashN (p5 b 3) else []
def pcB (b : List UInt8) : List UInt8 := if PcOk b then p5 b 4 else []
section
variable {b : List UInt8}
theorem p5_le (b : List UInt8) (i : Nat) : (p5 b i).length ≤ b.length := by
  unfold p5
  by_cases h : i < (ntAll 5 b).length
  · rw [List.getD_eq_getElem?_getD, List.getElem?_eq_getElem h]
    exact (ntAll_el 5 b _ (List.getElem_mem h)).2
  · rw [List.getD_eq_getElem?_getD, List.getElem?_eq_none (by omega)]; simp
theorem pcS_len (b : List UInt8) : (pcS b).length = 16 := by
  unfold pcS; split
  · exact vS_len _
  · exact List.length_replicate
theorem pcR_len (b : List UInt8) : (pcR b).length = 32 := by
  unfold pcR; split
  · exact vR_len _
  · exact List.length_replicate
theorem pcV_len (b : List UInt8) : (pcV b).length ≤ 67 := by
  unfold pcV; split
  · exact sgV_len _
  · simp
theorem pcP_len (b : List UInt8) : (pcP b).length ≤ 4 := by
  unfold pcP; split
  · exact sgP_len _
  · simp
theorem pcQ_len (b : List UInt8) : (pcQ b).length ≤ b.length := by
  unfold pcQ; split
  · rename_i h
    rw [hashN_yes h.2.2.2.2.2.2, chunks_len]
    have := p5_le b 3; omega
  · simp
theorem pcB_len (b : List UInt8) : (pcB b).length ≤ b.length := by
  unfold pcB; split
  · exact p5_le b 4
  · simp
end
/-- A piece's bytes. -/
def packP (n a b c d : Int) (s t : List UInt8) (h l : Int) (v p q : List (List UInt8)) (x : List UInt8) : List UInt8 :=
  nets [Go.Sha.put (max 0 n).toNat 1, packV a b c d s t, pack h l v p, flatTo [] q q.length, x]
theorem packP_len (n a b c d : Int) {s t : List UInt8} (h l : Int) {v p q : List (List UInt8)} {x : List UInt8} (hs : s.length = 16) (ht : t.length = 32) (hv : v.length ≤ 70) (hp : p.length ≤ 6) (hq : q.length ≤ 6) (hx : x.length ≤ 100)
    (h1 : ∀ x ∈ v, x.length = 32) (h2 : ∀ x ∈ p, x.length = 32) (h3 : ∀ x ∈ q, x.length = 32) : (packP n a b c d s t h l v p q x).length ≤ 3000 ∧ (pack h l v p).length ≤ 2435 ∧ (flatTo [] q q.length).length ≤ 192 ∧ (packV a b c d s t).length ≤ 122 := by
  have e1 := packV_len a b c d (s := s) (t := t) (by omega) (by omega)
  have e2 := pack_len (h := h) (l := l) h1 h2
  have e3 := flatTo_len (b := []) h3 (Nat.le_refl _)
  rw [List.length_nil] at e3
  have e4 := nets_le (l := [Go.Sha.put (max 0 n).toNat 1, packV a b c d s t, pack h l v p, flatTo [] q q.length, x]) (by
    intro y hy
    simp only [List.mem_cons, List.not_mem_nil, or_false] at hy
    rcases hy with rfl | rfl | rfl | rfl | rfl <;> first | (rw [Go.Sha.put_len]; omega) | omega)
  simp only [total, List.map_cons, List.map_nil, List.sum_cons, List.sum_nil, Go.Sha.put_len, List.length_cons, List.length_nil] at e4
  unfold packP
  exact ⟨by omega, by omega, by omega, e1⟩
end Go.Au
