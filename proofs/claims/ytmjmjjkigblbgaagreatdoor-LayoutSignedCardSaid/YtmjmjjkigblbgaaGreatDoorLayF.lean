/- Shares: leaves, comparisons, the statement. -/
import Derived.Test.YtmjmjjkigblbgaaGreatDoorLayE
set_option linter.unusedVariables false
set_option linter.unusedSimpArgs false
set_option maxRecDepth 8192
namespace Go.Proofs.YtmjmjjkigblbgaaGreatDoor
open Go Go.F Go.RowKit

theorem el_lt {l : List (List UInt8)} {n : Nat} (h : ∀ x ∈ l, x.length < n) {k : Nat} (hk : k < l.length) : (l.getD k []).length < n := by
 rw [List.getD_eq_getElem?_getD, List.getElem?_eq_getElem hk]; exact h _ (List.getElem_mem _)
theorem leavesH_all (B : List (List UInt8)) (k : Nat) : ∀ x ∈ Go.Au.leavesH B k, x.length = 32 := by
 intro x hx
 obtain ⟨y, _, rfl⟩ := List.mem_map.1 hx
 exact Go.Au.leafH_len _
theorem leavesR_ok {H : Hp} {w : World} (hH : H.le (hw w)) {B : List (List UInt8)} {aa0 : Option Addr} {nn0 cc0 : Nat} (hv : RdL H (.slice aa0 nn0 cc0) B) (hB : B.length ≤ 100) (hx : ∀ x ∈ B, x.length < 1000) :
  Calls Tryz.prog 78 #[.slice aa0 nn0 cc0] w fun e w' => ∃ a c, B.length ≤ c ∧ e = .returned (.slice a B.length c) ∧ rowZ w' w.heap.size 27 32 (.slice a B.length c) B.length (hcells (Go.Au.leavesH B B.length)) ∧ Below w.heap.size w w' := by
 obtain rfl : nn0 = B.length := hv.len
 refine enter1 _ Tryz.func78 rfl Tryz.ntmps78 Tryz.results78 rfl ?_
 have S0 := St.start w hH
 refine Wr ?_
 refine Pv ?_
 refine T_nil ?_
 refine Wr ?_
 refine Pv ?_
 refine T_nil ?_
 refine W_seq ?_
 refine Wr ?_
 iterate 3 refine Pv ?_
 refine T_nil ?_
 refine W_block ?_
 have S1 := S0.nilRow 27 32
 refine W_loop (fun M ρ w' => ∃ (k : Nat) (a4 : Option Addr) (c5 : Nat) (G2 : Hp), M = B.length - k ∧ k ≤ B.length ∧ ρ = [(0, .slice aa0 B.length cc0), (3, .slice a4 k c5), (6, .int .i64 ((B.length : Nat) : Int)), (7, .int .i64 (k : Int))] ∧ H.le G2 ∧ St w H G2 [.row 27 32 (.slice a4 k c5) k (hcells (Go.Au.leavesH B k))] w' ∧ (∀ y ∈ Go.Au.leavesH B k, y.length = 32) ∧ k ≤ c5)
  (B.length - 0) [(0, .slice aa0 B.length cc0), (3, .slice none 0 0), (6, .int .i64 ((B.length : Nat) : Int)), (7, .int .i64 ((0 : Nat) : Int))] ⟨rfl, rfl, (congrArg (fun z => some (Value.int .i64 z)) (by omega)), (congrArg (fun z => some (Value.int .i64 z)) (by omega)), trivial⟩ ⟨0, none, 0, H, rfl, (by omega), rfl, Hp.le.refl _, S1, (fun _ h => by cases h), (Nat.le_refl _)⟩ ?_
 rintro M ρ w8 ⟨k, a4, c5, G2, rfl, hp10, rfl, hl3, S9, hh7, hc6⟩
 refine Wr ?_
 refine Pv ?_
 refine T_nil ?_
 refine W_seq ?_
 refine W_cond_dec rfl (fun h11 => ?_) (fun h11 => ?_)
 ·refine W_skip ?_
  refine W_seq ?_
  refine W_block ?_
  refine Wr ?_
  iterate 2 refine Pv ?_
  refine T_nil ?_
  refine W_region ?_
  iterate 3 refine Pv ?_
  obtain ⟨hs15, r16, r17⟩ := (hv.mono hl3)
  refine T_idxR k r16 rfl rfl rfl rfl rfl rfl rfl rfl rfl (by omega) (by omega) fun b12 o13 hc14 => ?_
  obtain ⟨a20, c21, hc23, hv19, r22⟩ := r17.at k (by omega)
  have hc24 := hc14 0 (.slice a20 (B.getD k []).length c21) (by simpa using hv19)
  simp only [Nat.add_zero] at hc24
  refine T_loadG S9 hc24 rfl rfl rfl rfl rfl rfl rfl ?_
  have hel := el_lt hx (k := k) (by omega)
  refine Cs g_aumbry_aumbryref07_Leaf ((leafR_ok S9.le r22 (by omega)).mono ?_)
  rintro e w26 ⟨rfl, hB25⟩
  have S27 := S9.call hB25
  refine ⟨_, rfl, trivial, ?_⟩
  refine T_litS (hcells [Go.Au.leafH (B.getD k [])]) rfl rfl rfl rfl rfl rfl rfl rfl rfl rfl rfl rfl rfl (one_h (Go.Au.leafH_len _)) (by simp [hcells, hV, Value.cells]) fun a28 w29 hB30 ho31 => ?_
  have S32 := S27.own hB30 ho31
  refine ⟨trivial, ?_⟩
  have hD33 : (Go.Au.leavesH B k ++ [Go.Au.leafH (B.getD k [])]) = Go.Au.leavesH B (k + 1) := (Go.Au.leavesH_snoc (by omega))
  refine T_appendS 1 (k + 1) (hcells (Go.Au.leavesH B (k + 1))) S32 (fun _ _ => trivial) rfl rfl rfl rfl rfl rfl rfl rfl rfl rfl rfl rfl rfl rfl (S32.rd 0 rfl) (one_hcells _) (by first | rfl | (simp; done) | (simp; omega) | omega) (by rw [← hD33]; simp [hcells_append, hcells]) (by unfold maxLen; omega) (by show _ * 32 ≤ _; omega) fun a34 c35 w36 hc37 S38 => ?_
  have hh39 : ∀ y ∈ Go.Au.leavesH B (k + 1), y.length = 32 := by rw [← hD33]; exact (all_app hh7 (all_h1 (Go.Au.leafH_len _)))
  refine Pv ?_
  refine T_nil ?_
  refine W_region ?_
  refine Ar ?_
  refine Pv ?_
  refine T_nil ?_
  have S40 := S38.drop 0
  exact ⟨B.length - (k + 1), [(0, .slice aa0 B.length cc0), (3, .slice a34 (k + 1) c35), (6, .int .i64 ((B.length : Nat) : Int)), (7, .int .i64 ((k + 1 : Nat) : Int))], by omega, ⟨rfl, rfl, (congrArg (fun z => some (Value.int .i64 z)) (by omega)), (congrArg (fun z => some (Value.int .i64 z)) (by omega)), trivial⟩, k + 1, a34, c35, G2, rfl, (by omega), rfl, hl3, S40, hh39, hc37⟩
 refine W_exit ?_
 refine Wr ?_
 iterate 2 refine Pv ?_
 refine T_nil ?_
 refine W_ret ?_
 refine ⟨_, ⟨_, _, rfl, rfl, rfl⟩, ?_⟩
 obtain rfl : k = B.length := by omega
 exact ⟨_, _, hc6, rfl, S9.row 0 rfl, S9.below⟩


end Go.Proofs.YtmjmjjkigblbgaaGreatDoor
