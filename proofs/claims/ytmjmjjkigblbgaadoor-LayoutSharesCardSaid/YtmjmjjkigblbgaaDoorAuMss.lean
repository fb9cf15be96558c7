/- Many signatures under one hash, in plain words. -/
import Derived.Test.YtmjmjjkigblbgaaDoorAuAll
set_option linter.unusedVariables false
set_option linter.unusedSimpArgs false
set_option maxRecDepth 8192
namespace Go.Au
def mayH (h : Int) : Bool := decide (0 ≤ h ∧ h ≤ 4)
def mleavesTo (seed : List UInt8) (k : Nat) : List (List UInt8) := (List.range k).map fun (i : Nat) => pub seed (i : Int)
def mleaves (seed : List UInt8) (h : Nat) : List (List UInt8) := mleavesTo seed (2 ^ h)
theorem mleavesTo_len (seed : List UInt8) (k : Nat) : (mleavesTo seed k).length = k := by simp [mleavesTo]
theorem mleaves_len (seed : List UInt8) (h : Nat) : (mleaves seed h).length = 2 ^ h := mleavesTo_len _ _
theorem mleavesTo_snoc (seed : List UInt8) (k : Nat) : mleavesTo seed k ++ [pub seed ((k : Nat) : Int)] = mleavesTo seed (k + 1) := by simp [mleavesTo, List.range_succ]
theorem mleavesTo_all (seed : List UInt8) (k : Nat) : ∀ b ∈ mleavesTo seed k, b.length = 32 := by
  intro b hb; obtain ⟨j, _, rfl⟩ := List.mem_map.1 hb; exact pub_len _ _
theorem mleaves_all (seed : List UInt8) (h : Nat) : ∀ b ∈ mleaves seed h, b.length = 32 := mleavesTo_all _ _
/-- What a print is the hash of. -/
def printT (h : Int) (r : List UInt8) : List UInt8 := text [112, 114, 105, 110, 116] [Go.Sha.put (max 0 h).toNat 1, r]
def mprint (seed : List UInt8) (h : Int) : List UInt8 := Go.Sha.sha (printT h (root (mleaves seed h.toNat)))
theorem mprint_len (seed : List UInt8) (h : Int) : (mprint seed h).length = 32 := Go.Sha.sha_len _
theorem pow16 {h : Int} (h0 : 0 ≤ h) (h1 : h ≤ 4) : 2 ^ h.toNat ≤ 16 := (show 2 ^ h.toNat ≤ 2 ^ 4 from Nat.pow_le_pow_right (by omega) (by omega))
theorem lg_pow' (m : Nat) : lg (2 ^ m) = m := by
  refine Nat.le_antisymm (lg_le (Nat.le_refl _)) ?_
  exact (Nat.pow_le_pow_iff_right (by omega)).1 (lg_up (2 ^ m))
theorem lg_mleaves (seed : List UInt8) (h : Nat) : lg (mleaves seed h).length = h := by rw [mleaves_len, lg_pow']
/-- A signature. -/
structure SigP where
  height : Int
  leaf : Int
  values : List (List UInt8)
  proof : List (List UInt8)
/-- The root that a signature makes, where it makes one. -/
def okS (h l : Int) (v p : List (List UInt8)) : Bool := mayH h && (decide (v.length = 67) && okW ((2 ^ h.toNat : Nat) : Int) l p.length)
def climbS (m : List UInt8) (h l : Int) (v p : List (List UInt8)) : List UInt8 := if mayH h && decide (v.length = 67) then climbH ((2 ^ h.toNat : Nat) : Int) l (pubH (ends m v 67)) p else List.replicate 32 0
theorem climbS_len (m : List UInt8) (h l : Int) (v p : List (List UInt8)) : (climbS m h l v p).length = 32 := by
  unfold climbS; split
  · exact climbH_len _ _ (pubH_len _) _
  · simp
/-- Is a signature right? -/
def vrf (fp m : List UInt8) (h l : Int) (v p : List (List UInt8)) : Bool := okS h l v p && decide (Go.Sha.sha (printT h (climbS m h l v p)) = fp)
end Go.Au
