/- The helps of the statements: Spoil. -/
import Derived.Test.YtikgpfhjhfpmbaaKeepA
import Derived.Test.YtikgpfhjhfpmbaaFRest
set_option linter.unusedVariables false
set_option linter.unusedSimpArgs false
set_option maxRecDepth 8192
namespace Go.Proofs.Ytikgpfhjhfpmbaa
open Go Go.F Go.RowKit

theorem spoil_byte (a : UInt8) : ∃ y : UInt8, bits .xor .u8 (a.toNat : Int) 119 = (y.toNat : Int) := by
  have key : ∀ q : Fin 256, ∃ y : Fin 256, bits .xor .u8 (q.val : Int) 119 = (y.val : Int) := by decide +kernel
  obtain ⟨y, hy⟩ := key ⟨a.toNat, a.toNat_lt⟩
  exact ⟨UInt8.ofNat y.val, by rw [UInt8.toNat_ofNat', Nat.mod_eq_of_lt y.isLt]; exact hy⟩

set_option maxHeartbeats 1000000 in
theorem spoil_ok (L : List UInt8) (g l : Nat) (w : World) (hg : w.heap[g]? = some (.cells (L.map bV).toArray 5 (0, 0))) (hL : 0 < L.length) (hl : L.length ≤ 9223372036854775807) :
    Calls Try.prog 19 #[.slice (some ⟨g, 0, none⟩) l L.length] w fun e w' => (∃ v, e = .returned v) ∧ w.grownBy w' (some g) := by
  refine enter1 _ Try.func19 rfl Try.ntmps19 Try.results19 rfl ?_
  repeat (first | refine W_seq ?_ | refine W_region ?_ | refine W_draw rfl (by kernel_rfl) ?_ | refine W_block ?_ | refine W_exit ?_ | refine W_skip ?_ | refine W_ret ?_ | refine T_nil ?_ | refine T_ari rfl rfl rfl rfl (by omega) ?_ | refine T_pev rfl rfl rfl rfl ?_ | refine T_reslice L.length rfl rfl rfl rfl rfl rfl rfl rfl rfl (Nat.le_refl _) hL ?_)
  refine W_loop (fun M ρ w' => ∃ (i : Nat) (X : List UInt8), M = L.length - i ∧ i ≤ L.length ∧ X.length = L.length ∧ ρ = [(2, .slice (some ⟨g, 0, none⟩) L.length L.length), (9, .int .i64 (L.length : Int)), (10, .int .i64 (i : Int))] ∧ w'.heap[g]? = some (.cells (X.map bV).toArray 5 (0, 0)) ∧ w.grownBy w' (some g))
    (L.length - 0) [(2, .slice (some ⟨g, 0, none⟩) L.length L.length), (9, .int .i64 (L.length : Int)), (10, .int .i64 (0 : Int))] ⟨rfl, rfl, rfl, trivial⟩ ⟨0, L, rfl, by omega, rfl, rfl, hg, gb_refl _ _⟩ ?_
  rintro M ρ w1 ⟨i, X, rfl, hi, hX, rfl, hc, hG⟩
  repeat (first | refine W_seq ?_ | refine W_region ?_ | refine W_draw rfl (by kernel_rfl) ?_ | refine W_block ?_ | refine W_exit ?_ | refine W_skip ?_ | refine W_ret ?_ | refine T_nil ?_ | refine T_ari rfl rfl rfl rfl (by omega) ?_ | refine T_pev rfl rfl rfl rfl ?_)
  refine W_cond_dec rfl (fun h => ?_) (fun h => ?_)
  · have hiX : i < X.length := by omega
    obtain ⟨y, hy⟩ := spoil_byte X[i]
    have y1 : w1.cell? ⟨g, 0 + (i : Int).toNat, none⟩ = some (bV X[i]) := by
      refine cell_of_hcell ?_
      rw [hcell_blk hc, Int.toNat_natCast, Nat.zero_add, List.getElem?_toArray, List.getElem?_map, List.getElem?_eq_getElem hiX]; rfl
    repeat (first | refine W_seq ?_ | refine W_region ?_ | refine W_draw rfl (by kernel_rfl) ?_ | refine W_block ?_ | refine W_exit ?_ | refine W_skip ?_ | refine W_ret ?_ | refine T_nil ?_ | refine T_ari rfl rfl rfl rfl (by omega) ?_ | refine T_idx1 rfl rfl rfl rfl rfl rfl rfl rfl rfl (by omega) ?_ | refine T_idxA1 rfl rfl rfl rfl rfl rfl rfl rfl rfl (by omega) ?_ | refine T_pev rfl rfl rfl rfl ?_ | refine T_load rfl rfl rfl rfl rfl rfl rfl y1 ?_)
    refine T_store1 (v := bV y) i (fun _ => trivial) rfl rfl (congrArg (fun z => some (Value.int .u8 z)) hy) rfl rfl rfl rfl rfl rfl rfl hc (by omega) (by simp; omega) fun w2 hc2 hg2 _ => ?_
    have e : (X.map bV).toArray.setIfInBounds i (bV y) = ((X.set i y).map bV).toArray := by rw [List.setIfInBounds_toArray, List.map_set]
    rw [e] at hc2
    replace hG := gb_trans hG hg2 (by simp)
    repeat (first | refine W_seq ?_ | refine W_region ?_ | refine W_draw rfl (by kernel_rfl) ?_ | refine W_block ?_ | refine W_exit ?_ | refine W_skip ?_ | refine W_ret ?_ | refine T_nil ?_ | refine T_ari rfl rfl rfl rfl (by omega) ?_ | refine T_pev rfl rfl rfl rfl ?_)
    exact ⟨L.length - (i + 1), [(2, .slice (some ⟨g, 0, none⟩) L.length L.length), (9, .int .i64 (L.length : Int)), (10, .int .i64 ((i + 1 : Nat) : Int))], by omega, ⟨rfl, rfl, rfl, trivial⟩, i + 1, X.set i y, rfl, by omega, by simp [hX], rfl, hc2, hG⟩
  · repeat (first | refine W_seq ?_ | refine W_region ?_ | refine W_draw rfl (by kernel_rfl) ?_ | refine W_block ?_ | refine W_exit ?_ | refine W_skip ?_ | refine W_ret ?_ | refine T_nil ?_ | refine T_ari rfl rfl rfl rfl (by omega) ?_ | refine T_pev rfl rfl rfl rfl ?_)
    exact ⟨_, rfl, ⟨_, rfl⟩, hG⟩

/-- Copy of what is not empty, its whole block told. -/
theorem copyN_ok (b : List UInt8) (v : Value) (w : World) (hv : Rd (hw w) v b.length 1 (b.map bV)) (h0 : 0 < b.length) (hl : b.length ≤ 1000000000) :
    Calls Try.prog 18 #[v] w fun e w' => ∃ g C, e = .returned (.slice (some ⟨g, 0, none⟩) b.length C) ∧ b.length ≤ C ∧ C ≤ maxLen ∧ w.heap.size ≤ g ∧ w'.heap[g]? = some (.cells ((b ++ List.replicate (C - b.length) (0 : UInt8)).map bV).toArray 5 (0, 0)) ∧ Below w.heap.size w w' := by
  obtain ⟨va, vc, rfl, _⟩ := hv.shape
  refine enter1 _ Try.func18 rfl Try.ntmps18 Try.results18 rfl ?_
  repeat (first | refine W_seq ?_ | refine W_region ?_ | refine W_draw rfl (by kernel_rfl) ?_ | refine W_block ?_ | refine W_exit ?_ | refine W_skip ?_ | refine W_ret ?_ | refine T_nil ?_ | refine T_ari rfl rfl rfl rfl (by omega) ?_ | refine T_pev rfl rfl rfl rfl ?_)
  refine T_appendN (fun _ => trivial) rfl rfl rfl rfl rfl rfl rfl rfl rfl rfl rfl rfl hv h0 (by unfold maxLen; omega) (by show _ * 1 ≤ _; omega) fun g C w2 hg h1 h2 hc hg2 => ?_
  repeat (first | refine W_seq ?_ | refine W_region ?_ | refine W_draw rfl (by kernel_rfl) ?_ | refine W_block ?_ | refine W_exit ?_ | refine W_skip ?_ | refine W_ret ?_ | refine T_nil ?_ | refine T_ari rfl rfl rfl rfl (by omega) ?_ | refine T_pev rfl rfl rfl rfl ?_)
  exact ⟨_, ⟨_, _, rfl, rfl, rfl⟩, g, C, rfl, h1, h2, by omega, by rw [hc]; simp, below_of_grown hg2⟩

end Go.Proofs.Ytikgpfhjhfpmbaa
