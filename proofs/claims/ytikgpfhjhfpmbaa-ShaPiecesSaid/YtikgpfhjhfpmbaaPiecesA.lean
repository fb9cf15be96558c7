/- A hash on its way, and lent bytes, among the things of a call's own. -/
import Derived.Test.YtikgpfhjhfpmbaaShaE
import Derived.Test.YtikgpfhjhfpmbaaSpoil
import Derived.Test.YtikgpfhjhfpmbaaFRest
set_option linter.unusedVariables false
set_option linter.unusedSimpArgs false
set_option maxRecDepth 8192
namespace Go.Proofs.Ytikgpfhjhfpmbaa
open Go Go.F Go.RowKit

def fromB (B : Nat) (G : Hp) : Hp := fun k => if B ≤ k then G k else none
theorem fromB_mono {B : Nat} {G G' : Hp} (h : G.le G') : (fromB B G).le (fromB B G') := fun k o e => by
  unfold fromB at *
  split at e
  · rename_i hk; rw [if_pos hk]; exact h k o e
  · cases e
theorem fromB_hn {B : Nat} {G : Hp} {w : World} (h : G.le (hw w)) : (fromB B G).le (hn w B) := fun k o e => by
  unfold fromB at e
  unfold hn
  split at e
  · rename_i hk; rw [if_pos hk]; exact h k o e
  · cases e
theorem Rd_empty {h h' : Hp} {v : Value} (r : Rd h v 0 1 []) : Rd h' v 0 1 [] := by
  obtain ⟨h1, a, c, hv, hc, h2, _⟩ := r
  exact ⟨h1, a, c, hv, hc, h2, fun _ _ h => absurd h (Nat.lt_irrefl _)⟩
/-- The cells of a hash to which m was written. -/
def sC (m : List UInt8) (lv : Value) : Array Value := shaC (Go.Sha.chew Go.Sha.begin m) lv m.length
/-- What is left of a block stands still, behind the hash. -/
def Lf (G : Hp) (sb : Nat) (lv : Value) (m : List UInt8) : Prop := ∃ B, sb < B ∧ Rd (fromB B G) lv (Go.Sha.rest m).length 1 ((Go.Sha.rest m).map bV)
theorem Lf.mono {G G' : Hp} {sb : Nat} {lv : Value} {m : List UInt8} (h : Lf G sb lv m) (hl : G.le G') : Lf G' sb lv m := by
  obtain ⟨B, h1, h2⟩ := h
  exact ⟨B, h1, h2.mono (fromB_mono hl)⟩
section
variable {W w w' : World} {H G : Hp} {its : List F.Item}
theorem shaAt_of (S : St W H G its w) (i : Nat) {sb : Nat} {m : List UInt8} {lv : Value} (hi : its[i]? = some (.blk sb (sC m lv) 51)) (l : Lf G sb lv m) : ∃ B, ShaAt w sb B m := by
  obtain ⟨B, h1, h2⟩ := l
  exact ⟨B, h1, lv, S.blk i hi, h2.mono (fromB_hn S.le)⟩
theorem St_ext2 (S : St W H G its w') (B0 : Nat) (h1 : ∀ k o, G k = some o → k < B0) (h2 : ∀ (i : Nat) (x : F.Item), its[i]? = some x → ∀ b, x.spot = some b → b < B0) (hW : W.heap.size ≤ B0) : G.le (F.ext G B0 w') ∧ St W H (F.ext G B0 w') its w' := by
  have hle : G.le (F.ext G B0 w') := fun k o e => by
    have := h1 k o e
    unfold F.ext; rw [if_neg (by omega)]; exact e
  refine ⟨hle, S.below, fun k o e => ?_, S.sup.trans hle, fun k o e hk => ?_, S.ok, fun i x h b hb => ?_, S.apart⟩
  · unfold F.ext at e
    split at e
    · exact e
    · exact S.le k o e
  · unfold F.ext at e
    rw [if_neg (by omega)] at e
    exact S.old k o e hk
  · have := h2 i x h b hb
    unfold F.ext; rw [if_neg (by omega)]
    exact S.free i x h b hb
/-- A thing of its own is lost. -/
theorem St_lose (S : St W H G its w) (j : Nat) {it : F.Item} (hj : its[j]? = some it) (hg : w.grownBy w' it.spot) : St W H G (its.eraseIdx j) w' := by
  have D := S.drop j
  have key : ∀ (q : Nat) (x : F.Item), (its.eraseIdx j)[q]? = some x → ∃ q', its[q']? = some x ∧ q' ≠ j := fun q x h => by
    rw [getElem?_erase] at h
    split at h
    · exact ⟨q, h, by omega⟩
    · exact ⟨q + 1, h, by omega⟩
  refine ⟨S.below.step hg (fun g e => (F.Item.lt (S.ok j it hj) g e).1), fun k o e => ?_, D.sup, D.old, fun q x h => ?_, D.free, D.apart⟩
  · have h1 := S.le k o e
    exact (hg.block k (S.lt e) (fun e' => by rw [S.free j it hj k e'.symm] at e; cases e)).trans h1
  · obtain ⟨q', h', hne⟩ := key q x h
    exact F.Item.kept hg (S.ok q' x h') (fun b hb e => S.apart q' j x it h' hj hne b hb e.symm)

theorem newS (S : St W H G its w) : Calls Try.prog 9 #[] w fun e w' => ∃ sb lv, e = .returned (.pointer (some ⟨sb, 0, none⟩)) ∧ St W H G (.blk sb (sC [] lv) 51 :: its) w' ∧ Lf G sb lv [] := by
  refine (new_ok w).mono fun e w' ⟨sb, he, h1, h2, hs, hB⟩ => ?_
  obtain ⟨_, lv, hc, hr⟩ := hs
  refine ⟨sb, lv, he, (S.call hB).cons _ ⟨hc, Nat.le_trans S.below.size h1⟩ (fun b hb => ?_), sb + 1, Nat.lt_succ_self _, Rd_empty hr⟩
  cases hb
  exact ⟨S.none_of h1, fun i y hy e => by have := (F.Item.lt (S.ok i y hy) _ e).2; omega⟩
theorem sumS (S : St W H G its w) (i : Nat) {sb : Nat} {m : List UInt8} {lv : Value} (hi : its[i]? = some (.blk sb (sC m lv) 51)) (l : Lf G sb lv m) (hl : m.length ≤ 1000000000) :
    Calls Try.prog 12 #[.pointer (some ⟨sb, 0, none⟩)] w fun e w' => e = .returned (hV (Go.Sha.sha m)) ∧ Below w.heap.size w w' := by
  obtain ⟨B, h⟩ := shaAt_of S i hi l
  exact sumM_ok m sb B w h hl
theorem writeS (S : St W H G its w) (i : Nat) {sb : Nat} {m b : List UInt8} {lv v : Value} (hi : its[i]? = some (.blk sb (sC m lv) 51)) (l : Lf G sb lv m) (hv : Rd (hx w sb) v b.length 1 (b.map bV)) (hl : m.length + b.length ≤ 1000000000) :
    Calls Try.prog 11 #[.pointer (some ⟨sb, 0, none⟩), v] w fun e w' => ∃ lv' G', e = .returned (.int .i64 (((m ++ b).length : Nat) : Int)) ∧ G.le G' ∧ St W H G' (its.set i (.blk sb (sC (m ++ b) lv') 51)) w' ∧ Lf G' sb lv' (m ++ b) := by
  obtain ⟨B, h⟩ := shaAt_of S i hi l
  refine (write_ok m b sb B v w h hv hl).mono fun e w' ⟨he, hs, hg⟩ => ?_
  obtain ⟨h0, lv', hc, hr⟩ := hs
  have S1 : St W H G (its.set i (.blk sb (sC (m ++ b) lv') 51)) w' := S.set i hi hg ⟨hc, (S.ok i _ hi).2⟩ (fun b hb => .inl hb)
  have hlt : i < its.length := (List.getElem?_eq_some_iff.1 hi).1
  obtain ⟨h1, h2⟩ := St_ext2 S1 w.heap.size (fun k o e => S.lt e) (fun j x hj b hb => by
    rw [List.getElem?_set] at hj
    by_cases e : i = j
    · subst e
      rw [if_pos rfl, if_pos hlt] at hj
      cases hj; cases hb
      exact h0
    · rw [if_neg e] at hj
      exact (F.Item.lt (S.ok j x hj) b hb).2) S.below.size
  refine ⟨lv', _, he, h1, h2, w.heap.size, h0, hr.mono fun k o e => ?_⟩
  unfold hn at e
  unfold fromB F.ext
  split at e
  · rename_i hk; rw [if_pos hk, if_pos hk]; exact e
  · cases e
/-- Bytes in a block of its own, told as what a hash reads. -/
theorem rdx_of (S : St W H G its w) (i j : Nat) {sb g C : Nat} {c : Array Value} {t t' : TypeId} {b : List UInt8} (hi : its[i]? = some (.blk sb c t)) (hj : its[j]? = some (.blk g ((b ++ List.replicate (C - b.length) (0 : UInt8)).map bV).toArray t')) (hij : i ≠ j) (hC : b.length ≤ C) :
    Rd (hx w sb) (.slice (some ⟨g, 0, none⟩) b.length C) b.length 1 (b.map bV) := by
  have hne : g ≠ sb := fun e => S.apart i j _ _ hi hj hij sb rfl (by rw [← e]; rfl)
  have hc := S.blk j hj
  refine ⟨by simp, _, C, rfl, hC, (fun e => by cases e), fun ad e _ => ?_⟩
  cases e
  refine ⟨rfl, fun q u hu => ?_⟩
  unfold hcell hx
  rw [if_neg hne, hc]
  show ((b ++ List.replicate (C - b.length) (0 : UInt8)).map bV).toArray[0 + q]? = some u
  rw [List.map_append, List.getElem?_toArray, Nat.zero_add, List.getElem?_append_left (by have := (List.getElem?_eq_some_iff.1 hu).1; exact this)]
  exact hu
theorem spoilS (S : St W H G its w) (j : Nat) {g l : Nat} {L : List UInt8} (hj : its[j]? = some (.blk g (L.map bV).toArray 5)) (hL : 0 < L.length) (hl : L.length ≤ 9223372036854775807) :
    Calls Try.prog 19 #[.slice (some ⟨g, 0, none⟩) l L.length] w fun e w' => (∃ v, e = .returned v) ∧ St W H G (its.eraseIdx j) w' :=
  (spoil_ok L g l w (S.blk j hj) hL hl).mono fun _ _ ⟨h1, h2⟩ => ⟨h1, St_lose S j hj h2⟩
theorem copyS (S : St W H G its w) {b : List UInt8} {v : Value} (hv : Rd G v b.length 1 (b.map bV)) (h0 : 0 < b.length) (hl : b.length ≤ 1000000000) :
    Calls Try.prog 18 #[v] w fun e w' => ∃ g C, e = .returned (.slice (some ⟨g, 0, none⟩) b.length C) ∧ b.length ≤ C ∧ C ≤ maxLen ∧ St W H G (.blk g ((b ++ List.replicate (C - b.length) (0 : UInt8)).map bV).toArray 5 :: its) w' := by
  refine (copyN_ok b v w (hv.mono S.le) h0 hl).mono fun e w' ⟨g, C, he, h1, h2, h3, h4, hB⟩ => ?_
  refine ⟨g, C, he, h1, h2, (S.call hB).cons _ ⟨h4, Nat.le_trans S.below.size h3⟩ (fun b hb => ?_)⟩
  cases hb
  exact ⟨S.none_of h3, fun i y hy e => by have := (F.Item.lt (S.ok i y hy) _ e).2; omega⟩
end
/-- The first k rows, cut, one behind the other. -/
def joinTo (l : List (List UInt8)) : Nat → List UInt8
  | 0 => []
  | k + 1 => joinTo l k ++ (l.getD k []).take 150
theorem joinTo_len (l : List (List UInt8)) : ∀ k, (joinTo l k).length ≤ 150 * k
  | 0 => Nat.le_refl _
  | k + 1 => by
    have h1 := joinTo_len l k
    have h2 : ((l.getD k []).take 150).length ≤ 150 := List.length_take_le _ _
    rw [joinTo, List.length_append, Nat.mul_succ]; omega
end Go.Proofs.Ytikgpfhjhfpmbaa
