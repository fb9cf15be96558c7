/- Shares: leaves, comparisons, the statement. -/
import Derived.Test.YtmjmjjkigblbgaaGreatDoorLaw14
import Derived.Test.YtmjmjjkigblbgaaGreatDoorTreeB
import Derived.Test.YtmjmjjkigblbgaaGreatDoorAuDoor
import Derived.Test.YtmjmjjkigblbgaaGreatDoorFDoor
set_option linter.unusedVariables false
set_option linter.unusedSimpArgs false
set_option maxRecDepth 8192
namespace Go.Proofs.YtmjmjjkigblbgaaGreatDoor
open Go Go.F Go.RowKit
open Go.Au

theorem el_lt {l : List (List UInt8)} {n : Nat} (h : ∀ x ∈ l, x.length < n) {k : Nat} (hk : k < l.length) : (l.getD k []).length < n := by
 rw [List.getD_eq_getElem?_getD, List.getElem?_eq_getElem hk]; exact h _ (List.getElem_mem _)
theorem leavesH_all (B : List (List UInt8)) (k : Nat) : ∀ x ∈ leavesH B k, x.length = 32 := by
 intro x hx
 obtain ⟨y, _, rfl⟩ := List.mem_map.1 hx
 exact leafH_len _
theorem leavesR_ok {H : Hp} {w : World} (hH : H.le (hw w)) {B : List (List UInt8)} {aa0 : Option Addr} {nn0 cc0 : Nat} (hv : RdL H (.slice aa0 nn0 cc0) B) (hB : B.length ≤ 100) (hx : ∀ x ∈ B, x.length < 1000) :
  Calls Tryz.prog 78 #[.slice aa0 nn0 cc0] w fun e w' => ∃ a c, B.length ≤ c ∧ e = .returned (.slice a B.length c) ∧ rowZ w' w.heap.size 27 32 (.slice a B.length c) B.length (hcells (leavesH B B.length)) ∧ Below w.heap.size w w' := by
 obtain rfl : nn0 = B.length := hv.len
 refine enter1 _ Tryz.func78 rfl Tryz.ntmps78 Tryz.results78 rfl ?_
 have S0 := St.start w hH
 refine Wr (Pv (Nr ?_))
 refine Pv (T_nil (W_seq (Wr ?_)))
 iterate 3 refine Pv ?_
 refine T_nil (W_block ?_)
 have S1 := S0.nilRow 27 32
 refine W_loop (fun M ρ w' => ∃ (k : Nat) (a4 : Option Addr) (c5 : Nat) (G2 : Hp), M = B.length - k ∧ k ≤ B.length ∧ ρ = [(0, .slice aa0 B.length cc0), (3, .slice a4 k c5), (6, .int .i64 ((B.length : Nat) : Int)), (7, .int .i64 (k : Int))] ∧ H.le G2 ∧ St w H G2 [.row 27 32 (.slice a4 k c5) k (hcells (leavesH B k))] w' ∧ (∀ y ∈ leavesH B k, y.length = 32) ∧ k ≤ c5)
  (B.length - 0) [(0, .slice aa0 B.length cc0), (3, .slice none 0 0), (6, .int .i64 ((B.length : Nat) : Int)), (7, .int .i64 ((0 : Nat) : Int))] ⟨rfl, rfl, ciI, ciI, trivial⟩ ⟨0, none, 0, H, rfl, (by omega), rfl, Hp.le.refl _, S1, (fun _ h => by cases h), (Nat.le_refl _)⟩ ?_
 rintro M ρ w8 ⟨k, a4, c5, G2, rfl, hp10, rfl, hl3, S9, hh7, hc6⟩
 refine Wr (Pv (T_nil (W_seq ?_)))
 refine Aa (fun h11 => ?_) (fun h11 => ?_)
 ·refine W_skip (W_seq (W_block (Wr ?_)))
  iterate 2 refine Pv ?_
  refine T_nil (W_region ?_)
  iterate 3 refine Pv ?_
  obtain ⟨hs15, r16, r17⟩ := (hv.mono hl3)
  refine Ag k r16 fun b12 o13 hc14 => ?_
  obtain ⟨a20, c21, hc23, hv19, r22⟩ := r17.at k (by omega)
  have hc24 := hc14 0 (.slice a20 (B.getD k []).length c21) (by simpa using hv19)
  simp only [Nat.add_zero] at hc24
  refine Ac S9 hc24 ?_
  have hel := el_lt hx (k := k) (by omega)
  refine Cs g_aumbry_aumbryref07_Leaf ((leafR_ok S9.le r22 (by omega)).mono ?_)
  rintro e w26 ⟨rfl, hB25⟩
  have S27 := S9.call hB25
  refine ⟨_, rfl, trivial, ?_⟩
  refine T_litS (hcells [leafH (B.getD k [])]) rfl rfl rfl rfl rfl rfl rfl rfl rfl rfl rfl rfl rfl (one_h (leafH_len _)) (by simp [hcells, hV, Value.cells]) fun a28 w29 hB30 ho31 => ?_
  have S32 := S27.own hB30 ho31
  refine ⟨trivial, ?_⟩
  have hD33 : (leavesH B k ++ [leafH (B.getD k [])]) = leavesH B (k + 1) := (leavesH_snoc (by omega))
  refine Af (h1 := by exact one_hcells _) (hn' := by first | rfl | (simp; done) | (simp; omega) | omega) (hx' := by rw [← hD33]; simp [hcells_append, hcells]) (hbytes := by show _ * 32 ≤ _; omega) 1 (k + 1) (hcells (leavesH B (k + 1))) S32 (S32.rd 0 rfl) fun a34 c35 w36 hc37 S38 => ?_
  have hh39 : ∀ y ∈ leavesH B (k + 1), y.length = 32 := by rw [← hD33]; exact (all_app hh7 (all_h1 (leafH_len _)))
  refine Pv (T_nil (W_region ?_))
  refine Ar ?_
  refine Pv (T_nil ?_)
  have S40 := S38.drop 0
  exact ⟨B.length - (k + 1), [(0, .slice aa0 B.length cc0), (3, .slice a34 (k + 1) c35), (6, .int .i64 ((B.length : Nat) : Int)), (7, .int .i64 ((k + 1 : Nat) : Int))], by omega, ⟨rfl, rfl, ciI, ciI, trivial⟩, k + 1, a34, c35, G2, rfl, (by omega), rfl, hl3, S40, hh39, hc37⟩
 refine W_exit (Wr ?_)
 iterate 2 refine Pv ?_
 refine T_nil (W_ret ?_)
 refine ⟨_, ⟨_, _, rfl, rfl, rfl⟩, ?_⟩
 obtain rfl : k = B.length := by omega
 exact ⟨_, _, hc6, rfl, S9.row 0 rfl, S9.below⟩


theorem shareLeaf_ok {H : Hp} {w : World} (hH : H.le (hw w)) (hT : Tabs H) (sn : Int) {u : List UInt8} {p B : List (List UInt8)} {a1 a2 a3 : Option Addr} {n1 n2 n3 c1 c2 c3 : Nat} (h1 : Rd H (.slice a1 n1 c1) n1 1 (u.map bV)) (h2 : RdH H (.slice a2 n2 c2) 32 p) (h3 : RdL H (.slice a3 n3 c3) B) (hB : B.length ≤ 100) (HX1 : ∀ x ∈ B, x.length < 1000) :
  Calls Tryz.prog 29 #[.agg #[.int .i64 sn, .slice a1 n1 c1, .slice a2 n2 c2, .slice a3 n3 c3]] w fun e w' => e = .returned (hV (Go.Au.root (leavesH B B.length))) ∧ Below w.heap.size w w' := by
 obtain rfl : n1 = u.length := h1.lenB
 obtain rfl : n2 = p.length := h2.len
 obtain rfl : n3 = B.length := h3.len
 refine enter1 _ Tryz.func29 rfl Tryz.ntmps29 Tryz.results29 rfl ?_
 have S0 := St.start w hH
 refine Wr (Al S0 fun b1 w2 S3 => ?_)
 refine Ad S3 fun b4 w5 S6 => (Nr ?_)
 refine Pv (T_nil (W_seq (Wr ?_)))
 refine Fl 3 ?_
 refine Am 1 3 S6 rfl ?_
 iterate 2 refine Pv ?_
 refine T_nil (W_block ?_)
 have S7 := S6.nilRow 27 32
 refine W_loop (fun M ρ w' => ∃ (k : Nat) (a10 : Option Addr) (c11 : Nat) (G8 : Hp), M = B.length - k ∧ k ≤ B.length ∧ ρ = [(2, .pointer (some ⟨b4, 0, none⟩)), (3, .slice a10 k c11), (7, .slice a3 B.length c3), (8, .int .i64 ((B.length : Nat) : Int)), (9, .int .i64 (k : Int))] ∧ H.le G8 ∧ St w H G8 [.row 27 32 (.slice a10 k c11) k (hcells (leavesH B k)), .blk b4 (hV (List.replicate 32 0) : Value).cells 27, .blk b1 (.agg #[.int .i64 sn, .slice a1 u.length c1, .slice a2 p.length c2, .slice a3 B.length c3] : Value).cells 37] w' ∧ (∀ y ∈ leavesH B k, y.length = 32) ∧ k ≤ c11)
  (B.length - 0) [(2, .pointer (some ⟨b4, 0, none⟩)), (3, .slice none 0 0), (7, .slice a3 B.length c3), (8, .int .i64 ((B.length : Nat) : Int)), (9, .int .i64 ((0 : Nat) : Int))] ⟨rfl, rfl, rfl, ciI, ciI, trivial⟩ ⟨0, none, 0, H, rfl, (by omega), rfl, Hp.le.refl _, S7, (fun _ h => by cases h), (Nat.le_refl _)⟩ ?_
 rintro M ρ w14 ⟨k, a10, c11, G8, rfl, hp16, rfl, hl9, S15, hh13, hc12⟩
 refine Wr (Pv (T_nil (W_seq ?_)))
 refine Aa (fun h17 => ?_) (fun h17 => ?_)
 ·refine W_skip (W_seq (W_block (Wr ?_)))
  obtain ⟨hs21, r22, r23⟩ := (h3.mono hl9)
  refine Ag k r22 fun b18 o19 hc20 => ?_
  obtain ⟨a26, c27, hc29, hv25, r28⟩ := r23.at k (by omega)
  have hc30 := hc20 0 (.slice a26 (B.getD k []).length c27) (by simpa using hv25)
  simp only [Nat.add_zero] at hc30
  refine Ac S15 hc30 ?_
  refine Pv (T_nil (W_region ?_))
  iterate 2 refine Pv ?_
  have hel := el_lt HX1 (k := k) (by omega)
  refine Cs g_aumbry_tree_Leaf ((leaf_ok S15.le (hT.mono hl9) r28 (by omega)).mono ?_)
  rintro e w32 ⟨rfl, hB31⟩
  have S33 := S15.call hB31
  refine ⟨_, rfl, trivial, ?_⟩
  refine T_litS (hcells [leafH (B.getD k [])]) rfl rfl rfl rfl rfl rfl rfl rfl rfl rfl rfl rfl rfl (one_h (leafH_len _)) (by simp [hcells, hV, Value.cells]) fun a34 w35 hB36 ho37 => ?_
  have S38 := S33.own hB36 ho37
  refine ⟨trivial, ?_⟩
  have hD39 : (leavesH B k ++ [leafH (B.getD k [])]) = leavesH B (k + 1) := (leavesH_snoc (by omega))
  refine Af (h1 := by exact one_hcells _) (hn' := by first | rfl | (simp; done) | (simp; omega) | omega) (hx' := by rw [← hD39]; simp [hcells_append, hcells]) (hbytes := by show _ * 32 ≤ _; omega) 1 (k + 1) (hcells (leavesH B (k + 1))) S38 (S38.rd 0 rfl) fun a40 c41 w42 hc43 S44 => ?_
  have hh45 : ∀ y ∈ leavesH B (k + 1), y.length = 32 := by rw [← hD39]; exact (all_app hh13 (all_h1 (leafH_len _)))
  refine Pv (T_nil (W_region ?_))
  refine Ar ?_
  refine Pv (T_nil ?_)
  have S46 := S44.drop 0
  exact ⟨B.length - (k + 1), [(2, .pointer (some ⟨b4, 0, none⟩)), (3, .slice a40 (k + 1) c41), (7, .slice a3 B.length c3), (8, .int .i64 ((B.length : Nat) : Int)), (9, .int .i64 ((k + 1 : Nat) : Int))], by omega, ⟨rfl, rfl, rfl, ciI, ciI, trivial⟩, k + 1, a40, c41, G8, rfl, (by omega), rfl, hl9, S46, hh45, hc43⟩
 refine W_exit (Wr ?_)
 have hll : (leavesH B k).length ≤ 100 := by rw [show k = B.length by omega, leavesH_len]; omega
 refine Pv ?_
 obtain ⟨G48, hl49, S47, r50⟩ := S15.stillRow 0 rfl
 have r51 := RdH.mk hh13 (by decide) r50
 refine Cs g_aumbry_tree_Root ((root_ok S47.le (hT.mono (hl9.trans hl49)) r51 (by omega)).mono ?_)
 rintro e w53 ⟨rfl, hB52⟩
 have S54 := S47.call hB52
 refine ⟨_, rfl, trivial, ?_⟩
 refine T_re (v' := hV (Go.Au.root (leavesH B B.length))) (congrArg (fun q => hV (Go.Au.root (leavesH B q))) (show k = B.length by omega)) ?_
 refine Ah (hl := by exact hVs (root_len (leavesH_all _ _))) (hl2 := by exact hVs (root_len (leavesH_all _ _))) (h1 := by exact one_hA _) 0 S54 fun w55 S56 => (T_nil (W_ret ?_))
 refine ⟨_, ⟨_, _, _, rfl, rfl, run_loadVarA rfl rfl (hVs (root_len (leavesH_all _ _))) (S56.cells 0 rfl), rfl⟩, ?_⟩
 exact ⟨rfl, S56.below⟩


theorem shareLeafR_ok {H : Hp} {w : World} (hH : H.le (hw w)) (sn : Int) {u : List UInt8} {p B : List (List UInt8)} {a1 a2 a3 : Option Addr} {n1 n2 n3 c1 c2 c3 : Nat} (h1 : Rd H (.slice a1 n1 c1) n1 1 (u.map bV)) (h2 : RdH H (.slice a2 n2 c2) 32 p) (h3 : RdL H (.slice a3 n3 c3) B) (hB : B.length ≤ 100) (HX1 : ∀ x ∈ B, x.length < 1000) :
  Calls Tryz.prog 37 #[.agg #[.int .i64 sn, .slice a1 n1 c1, .slice a2 n2 c2, .slice a3 n3 c3]] w fun e w' => e = .returned (hV (Go.Au.root (leavesH B B.length))) ∧ Below w.heap.size w w' := by
 obtain rfl : n1 = u.length := h1.lenB
 obtain rfl : n2 = p.length := h2.len
 obtain rfl : n3 = B.length := h3.len
 have hll : (leavesH B B.length).length ≤ 100 := by rw [leavesH_len]; omega
 refine enter1 _ Tryz.func37 rfl Tryz.ntmps37 Tryz.results37 rfl ?_
 have S0 := St.start w hH
 refine Wr (Al S0 fun b1 w2 S3 => ?_)
 refine Ad S3 fun b4 w5 S6 => (Nr ?_)
 refine Fl 3 ?_
 refine Am 1 3 S6 rfl ?_
 refine Cs g_aumbry_aumbryref13_leaves ((leavesR_ok S6.le h3 (by omega) HX1).mono ?_)
 rintro e w12 ⟨a7, c8, hc9, rfl, ho10, hB11⟩
 have S13 := S6.own hB11 ho10
 refine ⟨_, rfl, trivial, ?_⟩
 obtain ⟨G15, hl16, S14, r17⟩ := S13.stillRow 0 rfl
 have r18 := RdH.mk (leavesH_all _ _) (by decide) r17
 refine Cs g_aumbry_aumbryref07_Root ((rootR_ok S14.le r18 (by omega)).mono ?_)
 rintro e w20 ⟨rfl, hB19⟩
 have S21 := S14.call hB19
 refine ⟨_, rfl, trivial, ?_⟩
 refine Ah (hl := by exact hVs (root_len r18.1)) (hl2 := by exact hVs (root_len r18.1)) (h1 := by exact one_hA _) 0 S21 fun w22 S23 => (T_nil (W_ret ?_))
 refine ⟨_, ⟨_, _, _, rfl, rfl, run_loadVarA rfl rfl (hVs (root_len r18.1)) (S23.cells 0 rfl), rfl⟩, ?_⟩
 exact ⟨rfl, S23.below⟩






end Go.Proofs.YtmjmjjkigblbgaaGreatDoor
